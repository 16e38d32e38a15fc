/- Contracts of the functions on bounds. -/
import Derived.Test.YtfbkbpoabajgdaaPure
import Derived.Deep.RegionHeld3
import Derived.Deep.RegionLaw
import Derived.Deep.DeepCutAuto
namespace Go.Proofs.Ytfbkbpoabajgdaa
open Go.RowKit
set_option maxHeartbeats 4000000
set_option linter.unusedSimpArgs false
set_option linter.unusedVariables false
def gOk (lo hi d l : Int) : Bool := Clk.vB lo hi && Clk.inB d 0 100000 && Clk.inB l 0 1073741824
theorem gOk_of {lo hi d l : Int} (h1 : Clk.vB lo hi = true) (h2 : Clk.inB d 0 100000 = true) (h3 : (!Clk.inB l 0 1073741824) = false) : gOk lo hi d l = true := by simp_all [gOk]
def GLo (lo hi d l : Int) : Int := if gOk lo hi d l then Clk.rLo lo hi d l else 0
def GHi (lo hi d l : Int) : Int := if gOk lo hi d l then Clk.rHi hi d l else 0
def GE (lo hi d l : Int) : Int := if gOk lo hi d l then Clk.rE hi d l else 2
set_option maxRecDepth 100000 in
theorem Grow_any (lo hi d l : Int) (w : World) :
    Calls Try.prog 13 #[.agg #[.int .i64 lo, .int .i64 hi], .int .i64 d, .int .i64 l] w fun e w' => e = .returned (.tuple #[.agg #[.int .i64 (GLo lo hi d l), .int .i64 (GHi lo hi d l)], .int .i64 (GE lo hi d l)]) ∧ Below w.heap.size w w' := by
  by_cases h : gOk lo hi d l
  · have e1 := Lib.hid (show GLo lo hi d l = Clk.rLo lo hi d l by rw [GLo, if_pos h])
    have e2 := Lib.hid (show GHi lo hi d l = Clk.rHi hi d l by rw [GHi, if_pos h])
    have e3 := Lib.hid (show GE lo hi d l = Clk.rE hi d l by rw [GE, if_pos h])
    simp only [gOk, Bool.and_eq_true, Clk.inB_iff, Clk.vB_iff] at h
    obtain ⟨⟨⟨hv1, hv2, hv3⟩, hd0, hd1⟩, hl0, hl1⟩ := h
    have V := Lib.hid (show ∀ W : World, Calls Try.prog 33 #[.agg #[.int .i64 lo, .int .i64 hi]] W fun e w' => e = .returned (.bool true) ∧ Below W.heap.size W w' from fun W => (valid_any lo hi W).mono fun e w' ⟨h1, h2⟩ => ⟨by rw [h1, Clk.vB_iff.2 ⟨hv1, hv2, hv3⟩], h2⟩)
    go_enter Try.func13, Try.ntmps13
    go_wp2_with fail
    refine (V.out _).mono ?_
    rintro e w1 ⟨rfl, hb⟩
    obtain ⟨hc, hf⟩ := bcell hb; have hz : w.heap.size + 1 < w1.heap.size := (by have := hb.size; simp at this; omega)
    go_wp2_with (first | (go_at_call 27; refine (within_yes _ _ _ _ (by omega)).mono ?_; rintro e w' ⟨rfl, rfl⟩) | (go_at_call 34; refine (grow_any lo hi d l _ hv1 hv2 hv3 hd0 hd1 hl0 (by omega)).mono ?_; rintro e w2 ⟨rfl, hb2⟩; obtain ⟨hc2, hf2⟩ := bcell hb2; have hz2 := hb2.size))
    refine bodyPost_ret (v := .tuple #[.agg #[.int .i64 (Clk.rLo lo hi d l), .int .i64 (Clk.rHi hi d l)], .int .i64 (Clk.rE hi d l)]) ?_ rfl ⟨ret_bb e1.out.symm e2.out.symm e3.out.symm, ?_⟩
    · simp [results, Try.results13, go_sem, hc2, hc, hz]
    · exact (by repeat (first | (with_reducible exact Below.refl _ _) | (with_reducible refine Below.drew ?_) | (with_reducible refine below_drewN ?_ _) | ((with_reducible refine Below.alloc ?_ ?_ _); rotate_left; (first | omega | (simp <;> omega)); rotate_right) | ((with_reducible refine Below.setCell ?_ ?_ _); rotate_left; (first | omega | (simp <;> omega)); rotate_right) | (with_reducible assumption) | (refine Below.trans ?_ (Below.mono (by assumption) ?_); rotate_left; (first | omega | (simp <;> omega)); rotate_right)))
  · have e1 := Lib.hid (show GLo lo hi d l = 0 by rw [GLo, if_neg h])
    have e2 := Lib.hid (show GHi lo hi d l = 0 by rw [GHi, if_neg h])
    have e3 := Lib.hid (show GE lo hi d l = 2 by rw [GE, if_neg h])
    have H := Lib.hid h
    clear h
    go_enter Try.func13, Try.ntmps13
    go_wp2_with fail
    refine (valid_any _ _ _).mono ?_
    rintro e w1 ⟨rfl, hb⟩
    obtain ⟨hc, hf⟩ := bcell hb; have hz : w.heap.size + 1 < w1.heap.size := (by have := hb.size; simp at this; omega)
    go_wp2_with (first | (go_at_call 27; refine (within_any _ _ _ _).mono ?_; rintro e w' ⟨rfl, rfl⟩) | (go_at_call 34; exfalso; exact absurd (by simp_all [gOk]) H.out))
    all_goals
      refine bodyPost_ret (v := .tuple #[.agg #[.int .i64 0, .int .i64 0], .int .i64 2]) ?_ rfl ⟨ret_bb e1.out.symm e2.out.symm e3.out.symm, ?_⟩
      · simp [results, Try.results13, go_sem, hc, hz]
      · exact (by repeat (first | (with_reducible exact Below.refl _ _) | (with_reducible refine Below.drew ?_) | (with_reducible refine below_drewN ?_ _) | ((with_reducible refine Below.alloc ?_ ?_ _); rotate_left; (first | omega | (simp <;> omega)); rotate_right) | ((with_reducible refine Below.setCell ?_ ?_ _); rotate_left; (first | omega | (simp <;> omega)); rotate_right) | (with_reducible assumption) | (refine Below.trans ?_ (Below.mono (by assumption) ?_); rotate_left; (first | omega | (simp <;> omega)); rotate_right)))

set_option maxRecDepth 100000 in
theorem rGrow_any (lo hi d l : Int) (w : World) :
    Calls Try.prog 14 #[.agg #[.int .i64 lo, .int .i64 hi], .int .i64 d, .int .i64 l] w fun e w' => e = .returned (.tuple #[.agg #[.int .i64 (GLo lo hi d l), .int .i64 (GHi lo hi d l)], .int .i64 (GE lo hi d l)]) ∧ Below w.heap.size w w' := by
  by_cases h : gOk lo hi d l
  · have e1 := Lib.hid (show GLo lo hi d l = Clk.rLo lo hi d l by rw [GLo, if_pos h])
    have e2 := Lib.hid (show GHi lo hi d l = Clk.rHi hi d l by rw [GHi, if_pos h])
    have e3 := Lib.hid (show GE lo hi d l = Clk.rE hi d l by rw [GE, if_pos h])
    simp only [gOk, Bool.and_eq_true, Clk.inB_iff, Clk.vB_iff] at h
    obtain ⟨⟨⟨hv1, hv2, hv3⟩, hd0, hd1⟩, hl0, hl1⟩ := h
    have V := Lib.hid (show ∀ W : World, Calls Try.prog 35 #[.agg #[.int .i64 lo, .int .i64 hi]] W fun e w' => e = .returned (.bool true) ∧ Below W.heap.size W w' from fun W => (rvalid_any lo hi W).mono fun e w' ⟨h1, h2⟩ => ⟨by rw [h1, Clk.vB_iff.2 ⟨hv1, hv2, hv3⟩], h2⟩)
    have a2 := Clk.hi_ge l d hl0 hd0 hd1
    have E4 := Lib.hid (Clk.grow_hi l d hd0 hd1)
    have E5 := Lib.hid (show (-(l + 1) * 1000000) / (1000000 - d) = - (((l+1)*1000000 + (1000000 - d) - 1) / (1000000 - d)) by rw [← E4.out]; omega)
    have a4 : -(2 * l + 3) ≤ (-(l + 1) * 1000000) / (1000000 - d) ∧ (-(l + 1) * 1000000) / (1000000 - d) ≤ - (l + 1) := by rw [E5.out]; omega
    have c1 := Lib.hid (show hi - (-(l + 1) * 1000000) / (1000000 - d) ≤ 1073741824 → Clk.rLo lo hi d l = Clk.gLo lo d l ∧ Clk.rHi hi d l = hi - (-(l + 1) * 1000000) / (1000000 - d) ∧ Clk.rE hi d l = 0 by
      rw [E5.out]; intro h; have h' : Clk.gHi hi d l ≤ 1073741824 := by simp only [Clk.gHi, Clk.vp]; omega
      exact ⟨by rw [Clk.rLo, if_pos h'], by rw [Clk.rHi, if_pos h']; simp only [Clk.gHi, Clk.vp]; omega, by rw [Clk.rE, if_pos h']⟩)
    have c2 := Lib.hid (show 1073741824 < hi - (-(l + 1) * 1000000) / (1000000 - d) → Clk.rLo lo hi d l = 0 ∧ Clk.rHi hi d l = 0 ∧ Clk.rE hi d l = 3 by
      rw [E5.out]; intro h; have h' : ¬ Clk.gHi hi d l ≤ 1073741824 := by simp only [Clk.gHi, Clk.vp]; omega
      exact ⟨by rw [Clk.rLo, if_neg h'], by rw [Clk.rHi, if_neg h'], by rw [Clk.rE, if_neg h']⟩)
    by_cases hl : 0 < l
    · have a1 := Clk.lo_le l d hl hd0 hd1
      have c3 := Lib.hid (show Clk.gLo lo d l = lo + (l - 1) * 1000000 / (1000000 + d) by rw [Clk.gLo, if_pos (by omega)]; rfl)
      go_enter Try.func14, Try.ntmps14
      go_wp2_with fail
      refine (V.out _).mono ?_
      rintro e w1 ⟨rfl, hb⟩
      have ca0_0 := (bcell hb).1 (w.heap.size) 0 (by first | omega | (simp; done) | (simp; omega)); have fa0_0 := (bcell hb).2 (w.heap.size) 0 (by first | omega | (simp; done) | (simp; omega)); have ca0_1 := (bcell hb).1 (w.heap.size) 1 (by first | omega | (simp; done) | (simp; omega)); have fa0_1 := (bcell hb).2 (w.heap.size) 1 (by first | omega | (simp; done) | (simp; omega)); have ca1_0 := (bcell hb).1 (w.heap.size + 1) 0 (by first | omega | (simp; done) | (simp; omega)); have fa1_0 := (bcell hb).2 (w.heap.size + 1) 0 (by first | omega | (simp; done) | (simp; omega)); have ca1_1 := (bcell hb).1 (w.heap.size + 1) 1 (by first | omega | (simp; done) | (simp; omega)); have fa1_1 := (bcell hb).2 (w.heap.size + 1) 1 (by first | omega | (simp; done) | (simp; omega)); try simp [go_sem] at ca0_0 fa0_0 ca0_1 fa0_1 ca1_0 fa1_0 ca1_1 fa1_1
      have hz : w.heap.size + 1 < w1.heap.size := by have := hb.size; simp at this; omega
      go_wp2_with (first | (go_at_call 28; refine (to_yes _ _ _ _ (by omega)).mono ?_; rintro e w' ⟨rfl, rfl⟩))
      go_region
      go_wp2_with fail
      have k1 := IntWalk.i64_in (l + 1) (by omega)
      have k2 := IntWalk.i64_in (-(l + 1)) (by omega)
      have k3 := IntWalk.i64_in (-(l + 1) * 1000000) (by omega)
      have k4 := IntWalk.i64_in (1000000 - d) (by omega)
      have k5 := IntWalk.i64_in (hi - (-(l + 1) * 1000000) / (1000000 - d)) (by omega)
      go_region_law (first | (go_simp; go_at_call 29; refine (down_any _ _ _ (by clear k1 k2 k3 k4 k5; omega) (by clear k1 k2 k3 k4 k5; omega)).mono ?_; rintro e w' ⟨rfl, rfl⟩))
      all_goals clear k1 k2 k3 k4 k5
      go_wp2_with fail
      all_goals first | (obtain ⟨d1, d2, d3⟩ := c1.out (by omega); refine bodyPost_ret (v := .tuple #[.agg #[.int .i64 (lo + (l - 1) * 1000000 / (1000000 + d)), .int .i64 (hi - (-(l + 1) * 1000000) / (1000000 - d))], .int .i64 0]) ?_ rfl ⟨ret_bb (c3.out.symm.trans (d1.symm.trans e1.out.symm)) (d2.symm.trans e2.out.symm) (d3.symm.trans e3.out.symm), ?_⟩; (· simp [results, Try.results14, go_sem, ca0_0, ca0_1, ca1_0, ca1_1, hz]); (· exact (by repeat (first | (with_reducible exact Below.refl _ _) | (with_reducible refine Below.drew ?_) | (with_reducible refine below_drewN ?_ _) | ((with_reducible refine Below.alloc ?_ ?_ _); rotate_left; (first | omega | (simp <;> omega)); rotate_right) | ((with_reducible refine Below.setCell ?_ ?_ _); rotate_left; (first | omega | (simp <;> omega)); rotate_right) | (with_reducible assumption) | (refine Below.trans ?_ (Below.mono (by assumption) ?_); rotate_left; (first | omega | (simp <;> omega)); rotate_right))))) | (obtain ⟨d1, d2, d3⟩ := c2.out (by omega); refine bodyPost_ret (v := .tuple #[.agg #[.int .i64 0, .int .i64 0], .int .i64 3]) ?_ rfl ⟨ret_bb (d1.symm.trans e1.out.symm) (d2.symm.trans e2.out.symm) (d3.symm.trans e3.out.symm), ?_⟩; (· simp [results, Try.results14, go_sem, ca0_0, ca0_1, ca1_0, ca1_1, hz]); (· exact (by repeat (first | (with_reducible exact Below.refl _ _) | (with_reducible refine Below.drew ?_) | (with_reducible refine below_drewN ?_ _) | ((with_reducible refine Below.alloc ?_ ?_ _); rotate_left; (first | omega | (simp <;> omega)); rotate_right) | ((with_reducible refine Below.setCell ?_ ?_ _); rotate_left; (first | omega | (simp <;> omega)); rotate_right) | (with_reducible assumption) | (refine Below.trans ?_ (Below.mono (by assumption) ?_); rotate_left; (first | omega | (simp <;> omega)); rotate_right)))))
    · have c3 := Lib.hid (show Clk.gLo lo d l = lo by rw [Clk.gLo, if_neg (by omega)])
      go_enter Try.func14, Try.ntmps14
      go_wp2_with fail
      refine (V.out _).mono ?_
      rintro e w1 ⟨rfl, hb⟩
      have ca0_0 := (bcell hb).1 (w.heap.size) 0 (by first | omega | (simp; done) | (simp; omega)); have fa0_0 := (bcell hb).2 (w.heap.size) 0 (by first | omega | (simp; done) | (simp; omega)); have ca0_1 := (bcell hb).1 (w.heap.size) 1 (by first | omega | (simp; done) | (simp; omega)); have fa0_1 := (bcell hb).2 (w.heap.size) 1 (by first | omega | (simp; done) | (simp; omega)); have ca1_0 := (bcell hb).1 (w.heap.size + 1) 0 (by first | omega | (simp; done) | (simp; omega)); have fa1_0 := (bcell hb).2 (w.heap.size + 1) 0 (by first | omega | (simp; done) | (simp; omega)); have ca1_1 := (bcell hb).1 (w.heap.size + 1) 1 (by first | omega | (simp; done) | (simp; omega)); have fa1_1 := (bcell hb).2 (w.heap.size + 1) 1 (by first | omega | (simp; done) | (simp; omega)); try simp [go_sem] at ca0_0 fa0_0 ca0_1 fa0_1 ca1_0 fa1_0 ca1_1 fa1_1
      have hz : w.heap.size + 1 < w1.heap.size := by have := hb.size; simp at this; omega
      go_wp2_with (first | (go_at_call 28; refine (to_yes _ _ _ _ (by omega)).mono ?_; rintro e w' ⟨rfl, rfl⟩))
      have k1 := IntWalk.i64_in (l + 1) (by omega)
      have k2 := IntWalk.i64_in (-(l + 1)) (by omega)
      have k3 := IntWalk.i64_in (-(l + 1) * 1000000) (by omega)
      have k4 := IntWalk.i64_in (1000000 - d) (by omega)
      have k5 := IntWalk.i64_in (hi - (-(l + 1) * 1000000) / (1000000 - d)) (by omega)
      go_region_law (first | (go_simp; go_at_call 29; refine (down_any _ _ _ (by clear k1 k2 k3 k4 k5; omega) (by clear k1 k2 k3 k4 k5; omega)).mono ?_; rintro e w' ⟨rfl, rfl⟩))
      all_goals clear k1 k2 k3 k4 k5
      go_wp2_with fail
      all_goals first | (obtain ⟨d1, d2, d3⟩ := c1.out (by omega); refine bodyPost_ret (v := .tuple #[.agg #[.int .i64 (lo), .int .i64 (hi - (-(l + 1) * 1000000) / (1000000 - d))], .int .i64 0]) ?_ rfl ⟨ret_bb (c3.out.symm.trans (d1.symm.trans e1.out.symm)) (d2.symm.trans e2.out.symm) (d3.symm.trans e3.out.symm), ?_⟩; (· simp [results, Try.results14, go_sem, ca0_0, ca0_1, ca1_0, ca1_1, hz]); (· exact (by repeat (first | (with_reducible exact Below.refl _ _) | (with_reducible refine Below.drew ?_) | (with_reducible refine below_drewN ?_ _) | ((with_reducible refine Below.alloc ?_ ?_ _); rotate_left; (first | omega | (simp <;> omega)); rotate_right) | ((with_reducible refine Below.setCell ?_ ?_ _); rotate_left; (first | omega | (simp <;> omega)); rotate_right) | (with_reducible assumption) | (refine Below.trans ?_ (Below.mono (by assumption) ?_); rotate_left; (first | omega | (simp <;> omega)); rotate_right))))) | (obtain ⟨d1, d2, d3⟩ := c2.out (by omega); refine bodyPost_ret (v := .tuple #[.agg #[.int .i64 0, .int .i64 0], .int .i64 3]) ?_ rfl ⟨ret_bb (d1.symm.trans e1.out.symm) (d2.symm.trans e2.out.symm) (d3.symm.trans e3.out.symm), ?_⟩; (· simp [results, Try.results14, go_sem, ca0_0, ca0_1, ca1_0, ca1_1, hz]); (· exact (by repeat (first | (with_reducible exact Below.refl _ _) | (with_reducible refine Below.drew ?_) | (with_reducible refine below_drewN ?_ _) | ((with_reducible refine Below.alloc ?_ ?_ _); rotate_left; (first | omega | (simp <;> omega)); rotate_right) | ((with_reducible refine Below.setCell ?_ ?_ _); rotate_left; (first | omega | (simp <;> omega)); rotate_right) | (with_reducible assumption) | (refine Below.trans ?_ (Below.mono (by assumption) ?_); rotate_left; (first | omega | (simp <;> omega)); rotate_right)))))
  · have e1 := Lib.hid (show GLo lo hi d l = 0 by rw [GLo, if_neg h])
    have e2 := Lib.hid (show GHi lo hi d l = 0 by rw [GHi, if_neg h])
    have e3 := Lib.hid (show GE lo hi d l = 2 by rw [GE, if_neg h])
    have H := Lib.hid h
    clear h
    go_enter Try.func14, Try.ntmps14
    go_wp2_with fail
    refine (rvalid_any _ _ _).mono ?_
    rintro e w1 ⟨rfl, hb⟩
    obtain ⟨hc, hf⟩ := bcell hb; have hz : w.heap.size + 1 < w1.heap.size := (by have := hb.size; simp at this; omega)
    have a : True := trivial
    go_wp2_with (first | (go_at_call 28; refine (to_any _ _ _ _).mono ?_; rintro e w' ⟨rfl, rfl⟩))
    all_goals first | (refine bodyPost_ret (v := .tuple #[.agg #[.int .i64 0, .int .i64 0], .int .i64 2]) ?_ rfl ⟨ret_bb e1.out.symm e2.out.symm e3.out.symm, ?_⟩; (· simp [results, Try.results14, go_sem, hc, hz]); (· exact (by repeat (first | (with_reducible exact Below.refl _ _) | (with_reducible refine Below.drew ?_) | (with_reducible refine below_drewN ?_ _) | ((with_reducible refine Below.alloc ?_ ?_ _); rotate_left; (first | omega | (simp <;> omega)); rotate_right) | ((with_reducible refine Below.setCell ?_ ?_ _); rotate_left; (first | omega | (simp <;> omega)); rotate_right) | (with_reducible assumption) | (refine Below.trans ?_ (Below.mono (by assumption) ?_); rotate_left; (first | omega | (simp <;> omega)); rotate_right))))) | skip
    all_goals (exfalso; exact absurd (gOk_of ‹_› ‹_› ‹_›) H.out)
end Go.Proofs.Ytfbkbpoabajgdaa

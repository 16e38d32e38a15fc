/- Contracts of the functions on bounds. -/
import Derived.Test.YtjidchaejicjaaaCkA
import Derived.Deep.RegionHeld3
import Derived.Deep.RegionLaw
import Derived.Deep.DeepCutAuto
import Derived.Deep.LoopGhost
namespace Go.Proofs.Ytjidchaejicjaaa.Ck
open Go.RowKit
set_option maxHeartbeats 4000000
set_option linter.unusedSimpArgs false
set_option linter.unusedVariables false
def gOk (lo hi d l : Int) : Bool := Clk.vB lo hi && Clk.inB d 0 100000 && Clk.inB l 0 1073741824
theorem gOk_of {lo hi d l : Int} (h1 : Clk.vB lo hi = true) (h2 : Clk.inB d 0 100000 = true) (h3 : (!Clk.inB l 0 1073741824) = false) : gOk lo hi d l = true := by simp_all [gOk]
def GLo (lo hi d l : Int) : Int := if gOk lo hi d l then Clk.rLo lo hi d l else 0
def GHi (lo hi d l : Int) : Int := if gOk lo hi d l then Clk.rHi hi d l else 0
def GE (lo hi d l : Int) : Int := if gOk lo hi d l then Clk.rE hi d l else 2
set_option maxRecDepth 100000 in
theorem rGrow_any (lo hi d l : Int) (w : World) :
    Calls Try.prog 81 #[.agg #[.int .i64 lo, .int .i64 hi], .int .i64 d, .int .i64 l] w fun e w' => e = .returned (.tuple #[.agg #[.int .i64 (GLo lo hi d l), .int .i64 (GHi lo hi d l)], .int .i64 (GE lo hi d l)]) ∧ Below w.heap.size w w' := by
  by_cases h : gOk lo hi d l
  · have e1 := Lib.hid (show GLo lo hi d l = Clk.rLo lo hi d l by rw [GLo, if_pos h])
    have e2 := Lib.hid (show GHi lo hi d l = Clk.rHi hi d l by rw [GHi, if_pos h])
    have e3 := Lib.hid (show GE lo hi d l = Clk.rE hi d l by rw [GE, if_pos h])
    simp only [gOk, Bool.and_eq_true, Clk.inB_iff, Clk.vB_iff] at h
    obtain ⟨⟨⟨hv1, hv2, hv3⟩, hd0, hd1⟩, hl0, hl1⟩ := h
    have V := Lib.hid (show ∀ W : World, Calls Try.prog 88 #[.agg #[.int .i64 lo, .int .i64 hi]] W fun e w' => e = .returned (.bool true) ∧ Below W.heap.size W w' from fun W => (rvalid_any lo hi W).mono fun e w' ⟨h1, h2⟩ => ⟨by rw [h1, Clk.vB_iff.2 ⟨hv1, hv2, hv3⟩], h2⟩)
    have a2 := Clk.hi_ge l d hl0 hd0 hd1
    have E4 := Lib.hid (Clk.grow_hi l d hd0 hd1)
    have E5 := Lib.hid (show (-(l + 1) * 1000000) / (1000000 - d) = - (((l+1)*1000000 + (1000000 - d) - 1) / (1000000 - d)) by rw [← E4.out]; omega)
    have a4 : -(2 * l + 3) ≤ (-(l + 1) * 1000000) / (1000000 - d) ∧ (-(l + 1) * 1000000) / (1000000 - d) ≤ - (l + 1) := by rw [E5.out]; omega
    have c1 := Lib.hid (show hi - (-(l + 1) * 1000000) / (1000000 - d) ≤ 1073741824 → Clk.rLo lo hi d l = Clk.gLo lo d l ∧ Clk.rHi hi d l = hi - (-(l + 1) * 1000000) / (1000000 - d) ∧ Clk.rE hi d l = 0 by
      rw [E5.out]; intro h; have h' : Clk.gHi hi d l ≤ 1073741824 := by simp only [Clk.gHi, Clk.vp]; omega
      exact ⟨by rw [Clk.rLo, if_pos h'], by rw [Clk.rHi, if_pos h']; simp only [Clk.gHi, Clk.vp]; omega, by rw [Clk.rE, if_pos h']⟩)
    have c2 := Lib.hid (show 1073741824 < hi - (-(l + 1) * 1000000) / (1000000 - d) → Clk.rLo lo hi d l = 0 ∧ Clk.rHi hi d l = 0 ∧ Clk.rE hi d l = 3 by
      rw [E5.out]; intro h; have h' : ¬ Clk.gHi hi d l ≤ 1073741824 := by simp only [Clk.gHi, Clk.vp]; omega
      exact ⟨by rw [Clk.rLo, if_neg h'], by rw [Clk.rHi, if_neg h'], by rw [Clk.rE, if_neg h']⟩)
    by_cases hl : 0 < l
    · have a1 := Clk.lo_le l d hl hd0 hd1
      have c3 := Lib.hid (show Clk.gLo lo d l = lo + (l - 1) * 1000000 / (1000000 + d) by rw [Clk.gLo, if_pos (by omega)]; rfl)
      go_enter Try.func81, Try.ntmps81
      go_wp2_with fail
      refine (V.out _).mono ?_
      rintro e w1 ⟨rfl, hb⟩
      have ca0_0 := (bcell hb).1 (w.heap.size) 0 (by first | omega | (simp; done) | (simp; omega)); have fa0_0 := (bcell hb).2 (w.heap.size) 0 (by first | omega | (simp; done) | (simp; omega)); have ca0_1 := (bcell hb).1 (w.heap.size) 1 (by first | omega | (simp; done) | (simp; omega)); have fa0_1 := (bcell hb).2 (w.heap.size) 1 (by first | omega | (simp; done) | (simp; omega)); have ca1_0 := (bcell hb).1 (w.heap.size + 1) 0 (by first | omega | (simp; done) | (simp; omega)); have fa1_0 := (bcell hb).2 (w.heap.size + 1) 0 (by first | omega | (simp; done) | (simp; omega)); have ca1_1 := (bcell hb).1 (w.heap.size + 1) 1 (by first | omega | (simp; done) | (simp; omega)); have fa1_1 := (bcell hb).2 (w.heap.size + 1) 1 (by first | omega | (simp; done) | (simp; omega)); try simp [go_sem] at ca0_0 fa0_0 ca0_1 fa0_1 ca1_0 fa1_0 ca1_1 fa1_1
      have hz : w.heap.size + 1 < w1.heap.size := by have := hb.size; simp at this; omega
      go_wp2_with (first | (go_at_call 73; refine (to_yes _ _ _ _ (by omega)).mono ?_; rintro e w' ⟨rfl, rfl⟩))
      go_region
      go_wp2_with fail
      have k1 := IntWalk.i64_in (l + 1) (by omega)
      have k2 := IntWalk.i64_in (-(l + 1)) (by omega)
      have k3 := IntWalk.i64_in (-(l + 1) * 1000000) (by omega)
      have k4 := IntWalk.i64_in (1000000 - d) (by omega)
      have k5 := IntWalk.i64_in (hi - (-(l + 1) * 1000000) / (1000000 - d)) (by omega)
      go_region_law (first | (go_simp; go_at_call 89; refine (down_any _ _ _ (by clear k1 k2 k3 k4 k5; omega) (by clear k1 k2 k3 k4 k5; omega)).mono ?_; rintro e w' ⟨rfl, rfl⟩))
      all_goals clear k1 k2 k3 k4 k5
      go_wp2_with fail
      all_goals first | (obtain ⟨d1, d2, d3⟩ := c1.out (by omega); refine bodyPost_ret (v := .tuple #[.agg #[.int .i64 (lo + (l - 1) * 1000000 / (1000000 + d)), .int .i64 (hi - (-(l + 1) * 1000000) / (1000000 - d))], .int .i64 0]) ?_ rfl ⟨ret_bb (c3.out.symm.trans (d1.symm.trans e1.out.symm)) (d2.symm.trans e2.out.symm) (d3.symm.trans e3.out.symm), ?_⟩; (· simp [results, Try.results81, go_sem, ca0_0, ca0_1, ca1_0, ca1_1, hz]); (· exact (by repeat (first | (with_reducible exact Below.refl _ _) | (with_reducible refine Below.drew ?_) | (with_reducible refine below_drewN ?_ _) | ((with_reducible refine Below.alloc ?_ ?_ _); rotate_left; (first | omega | (simp <;> omega)); rotate_right) | ((with_reducible refine Below.setCell ?_ ?_ _); rotate_left; (first | omega | (simp <;> omega)); rotate_right) | (with_reducible assumption) | (refine Below.trans ?_ (Below.mono (by assumption) ?_); rotate_left; (first | omega | (simp <;> omega)); rotate_right))))) | (obtain ⟨d1, d2, d3⟩ := c2.out (by omega); refine bodyPost_ret (v := .tuple #[.agg #[.int .i64 0, .int .i64 0], .int .i64 3]) ?_ rfl ⟨ret_bb (d1.symm.trans e1.out.symm) (d2.symm.trans e2.out.symm) (d3.symm.trans e3.out.symm), ?_⟩; (· simp [results, Try.results81, go_sem, ca0_0, ca0_1, ca1_0, ca1_1, hz]); (· exact (by repeat (first | (with_reducible exact Below.refl _ _) | (with_reducible refine Below.drew ?_) | (with_reducible refine below_drewN ?_ _) | ((with_reducible refine Below.alloc ?_ ?_ _); rotate_left; (first | omega | (simp <;> omega)); rotate_right) | ((with_reducible refine Below.setCell ?_ ?_ _); rotate_left; (first | omega | (simp <;> omega)); rotate_right) | (with_reducible assumption) | (refine Below.trans ?_ (Below.mono (by assumption) ?_); rotate_left; (first | omega | (simp <;> omega)); rotate_right)))))
    · have c3 := Lib.hid (show Clk.gLo lo d l = lo by rw [Clk.gLo, if_neg (by omega)])
      go_enter Try.func81, Try.ntmps81
      go_wp2_with fail
      refine (V.out _).mono ?_
      rintro e w1 ⟨rfl, hb⟩
      have ca0_0 := (bcell hb).1 (w.heap.size) 0 (by first | omega | (simp; done) | (simp; omega)); have fa0_0 := (bcell hb).2 (w.heap.size) 0 (by first | omega | (simp; done) | (simp; omega)); have ca0_1 := (bcell hb).1 (w.heap.size) 1 (by first | omega | (simp; done) | (simp; omega)); have fa0_1 := (bcell hb).2 (w.heap.size) 1 (by first | omega | (simp; done) | (simp; omega)); have ca1_0 := (bcell hb).1 (w.heap.size + 1) 0 (by first | omega | (simp; done) | (simp; omega)); have fa1_0 := (bcell hb).2 (w.heap.size + 1) 0 (by first | omega | (simp; done) | (simp; omega)); have ca1_1 := (bcell hb).1 (w.heap.size + 1) 1 (by first | omega | (simp; done) | (simp; omega)); have fa1_1 := (bcell hb).2 (w.heap.size + 1) 1 (by first | omega | (simp; done) | (simp; omega)); try simp [go_sem] at ca0_0 fa0_0 ca0_1 fa0_1 ca1_0 fa1_0 ca1_1 fa1_1
      have hz : w.heap.size + 1 < w1.heap.size := by have := hb.size; simp at this; omega
      go_wp2_with (first | (go_at_call 73; refine (to_yes _ _ _ _ (by omega)).mono ?_; rintro e w' ⟨rfl, rfl⟩))
      have k1 := IntWalk.i64_in (l + 1) (by omega)
      have k2 := IntWalk.i64_in (-(l + 1)) (by omega)
      have k3 := IntWalk.i64_in (-(l + 1) * 1000000) (by omega)
      have k4 := IntWalk.i64_in (1000000 - d) (by omega)
      have k5 := IntWalk.i64_in (hi - (-(l + 1) * 1000000) / (1000000 - d)) (by omega)
      go_region_law (first | (go_simp; go_at_call 89; refine (down_any _ _ _ (by clear k1 k2 k3 k4 k5; omega) (by clear k1 k2 k3 k4 k5; omega)).mono ?_; rintro e w' ⟨rfl, rfl⟩))
      all_goals clear k1 k2 k3 k4 k5
      go_wp2_with fail
      all_goals first | (obtain ⟨d1, d2, d3⟩ := c1.out (by omega); refine bodyPost_ret (v := .tuple #[.agg #[.int .i64 (lo), .int .i64 (hi - (-(l + 1) * 1000000) / (1000000 - d))], .int .i64 0]) ?_ rfl ⟨ret_bb (c3.out.symm.trans (d1.symm.trans e1.out.symm)) (d2.symm.trans e2.out.symm) (d3.symm.trans e3.out.symm), ?_⟩; (· simp [results, Try.results81, go_sem, ca0_0, ca0_1, ca1_0, ca1_1, hz]); (· exact (by repeat (first | (with_reducible exact Below.refl _ _) | (with_reducible refine Below.drew ?_) | (with_reducible refine below_drewN ?_ _) | ((with_reducible refine Below.alloc ?_ ?_ _); rotate_left; (first | omega | (simp <;> omega)); rotate_right) | ((with_reducible refine Below.setCell ?_ ?_ _); rotate_left; (first | omega | (simp <;> omega)); rotate_right) | (with_reducible assumption) | (refine Below.trans ?_ (Below.mono (by assumption) ?_); rotate_left; (first | omega | (simp <;> omega)); rotate_right))))) | (obtain ⟨d1, d2, d3⟩ := c2.out (by omega); refine bodyPost_ret (v := .tuple #[.agg #[.int .i64 0, .int .i64 0], .int .i64 3]) ?_ rfl ⟨ret_bb (d1.symm.trans e1.out.symm) (d2.symm.trans e2.out.symm) (d3.symm.trans e3.out.symm), ?_⟩; (· simp [results, Try.results81, go_sem, ca0_0, ca0_1, ca1_0, ca1_1, hz]); (· exact (by repeat (first | (with_reducible exact Below.refl _ _) | (with_reducible refine Below.drew ?_) | (with_reducible refine below_drewN ?_ _) | ((with_reducible refine Below.alloc ?_ ?_ _); rotate_left; (first | omega | (simp <;> omega)); rotate_right) | ((with_reducible refine Below.setCell ?_ ?_ _); rotate_left; (first | omega | (simp <;> omega)); rotate_right) | (with_reducible assumption) | (refine Below.trans ?_ (Below.mono (by assumption) ?_); rotate_left; (first | omega | (simp <;> omega)); rotate_right)))))
  · have e1 := Lib.hid (show GLo lo hi d l = 0 by rw [GLo, if_neg h])
    have e2 := Lib.hid (show GHi lo hi d l = 0 by rw [GHi, if_neg h])
    have e3 := Lib.hid (show GE lo hi d l = 2 by rw [GE, if_neg h])
    have H := Lib.hid h
    clear h
    go_enter Try.func81, Try.ntmps81
    go_wp2_with fail
    refine (rvalid_any _ _ _).mono ?_
    rintro e w1 ⟨rfl, hb⟩
    obtain ⟨hc, hf⟩ := bcell hb; have hz : w.heap.size + 1 < w1.heap.size := (by have := hb.size; simp at this; omega)
    have a : True := trivial
    go_wp2_with (first | (go_at_call 73; refine (to_any _ _ _ _).mono ?_; rintro e w' ⟨rfl, rfl⟩))
    all_goals first | (refine bodyPost_ret (v := .tuple #[.agg #[.int .i64 0, .int .i64 0], .int .i64 2]) ?_ rfl ⟨ret_bb e1.out.symm e2.out.symm e3.out.symm, ?_⟩; (· simp [results, Try.results81, go_sem, hc, hz]); (· exact (by repeat (first | (with_reducible exact Below.refl _ _) | (with_reducible refine Below.drew ?_) | (with_reducible refine below_drewN ?_ _) | ((with_reducible refine Below.alloc ?_ ?_ _); rotate_left; (first | omega | (simp <;> omega)); rotate_right) | ((with_reducible refine Below.setCell ?_ ?_ _); rotate_left; (first | omega | (simp <;> omega)); rotate_right) | (with_reducible assumption) | (refine Below.trans ?_ (Below.mono (by assumption) ?_); rotate_left; (first | omega | (simp <;> omega)); rotate_right))))) | skip
    all_goals (exfalso; exact absurd (gOk_of ‹_› ‹_› ‹_›) H.out)
end Go.Proofs.Ytjidchaejicjaaa.Ck
/- Where bounds meet; the reference's grow and New; 'is'. -/
namespace Go.Proofs.Ytjidchaejicjaaa.Ck
open Go.RowKit
set_option maxHeartbeats 4000000
set_option linter.unusedSimpArgs false
set_option linter.unusedVariables false
set_option maxRecDepth 100000
def mOk (al ah bl bh : Int) : Bool := Clk.vB al ah && Clk.vB bl bh
def mE (al ah bl bh : Int) : Int := if mOk al ah bl bh then if min ah bh < max al bl then 10 else 0 else 2
def mLo (al ah bl bh : Int) : Int := if mE al ah bl bh = 0 then max al bl else 0
def mHi (al ah bl bh : Int) : Int := if mE al ah bl bh = 0 then min ah bh else 0
theorem mx_if (a b : Int) : (if a < b then b else a) = max a b := by split <;> omega
theorem mn_if (a b : Int) : (if b < a then b else a) = min a b := by split <;> omega
theorem m_bad {al ah bl bh : Int} (h : mOk al ah bl bh = false) : mLo al ah bl bh = 0 ∧ mHi al ah bl bh = 0 ∧ mE al ah bl bh = 2 := by simp [mLo, mHi, mE, h]
theorem m_check {al ah bl bh : Int} (h : mOk al ah bl bh = true) (v : min ah bh < max al bl) : mLo al ah bl bh = 0 ∧ mHi al ah bl bh = 0 ∧ mE al ah bl bh = 10 := by simp [mLo, mHi, mE, h, v]
theorem m_ok {al ah bl bh : Int} (h : mOk al ah bl bh = true) (v : max al bl ≤ min ah bh) : mLo al ah bl bh = max al bl ∧ mHi al ah bl bh = min ah bh ∧ mE al ah bl bh = 0 := by
  have : ¬ min ah bh < max al bl := by omega
  simp only [mLo, mHi, mE, h, if_neg this, if_true]; simp
theorem rMeet_any (al ah bl bh : Int) (w : World) :
    Calls Try.prog 86 #[.agg #[.int .i64 al, .int .i64 ah], .agg #[.int .i64 bl, .int .i64 bh]] w fun e w' => e = .returned (.tuple #[.agg #[.int .i64 (mLo al ah bl bh), .int .i64 (mHi al ah bl bh)], .int .i64 (mE al ah bl bh)]) ∧ Below w.heap.size w w' := by
  cases h1 : Clk.vB al ah with
  | false =>
    obtain ⟨e1, e2, e3⟩ := m_bad (al := al) (ah := ah) (bl := bl) (bh := bh) (by simp [mOk, h1])
    have E1 := Lib.hid e1; have E2 := Lib.hid e2; have E3 := Lib.hid e3
    clear e1 e2 e3
    have V := Lib.hid (fun W : World => h1 ▸ rvalid_any al ah W)
    clear h1
    go_enter Try.func86, Try.ntmps86
    go_wp2_with fail
    refine (V.out _).mono ?_
    rintro e w1 ⟨rfl, hb⟩
    have hz := hb.size; simp at hz
    have ca0_0 := (bcell hb).1 (w.heap.size) 0 (by first | omega | (simp; done) | (simp; omega)); have fa0_0 := (bcell hb).2 (w.heap.size) 0 (by first | omega | (simp; done) | (simp; omega)); have ca0_1 := (bcell hb).1 (w.heap.size) 1 (by first | omega | (simp; done) | (simp; omega)); have fa0_1 := (bcell hb).2 (w.heap.size) 1 (by first | omega | (simp; done) | (simp; omega)); have ca1_0 := (bcell hb).1 (w.heap.size + 1) 0 (by first | omega | (simp; done) | (simp; omega)); have fa1_0 := (bcell hb).2 (w.heap.size + 1) 0 (by first | omega | (simp; done) | (simp; omega)); have ca1_1 := (bcell hb).1 (w.heap.size + 1) 1 (by first | omega | (simp; done) | (simp; omega)); have fa1_1 := (bcell hb).2 (w.heap.size + 1) 1 (by first | omega | (simp; done) | (simp; omega)); have ca2_0 := (bcell hb).1 (w.heap.size + 2) 0 (by first | omega | (simp; done) | (simp; omega)); have fa2_0 := (bcell hb).2 (w.heap.size + 2) 0 (by first | omega | (simp; done) | (simp; omega)); have ca2_1 := (bcell hb).1 (w.heap.size + 2) 1 (by first | omega | (simp; done) | (simp; omega)); have fa2_1 := (bcell hb).2 (w.heap.size + 2) 1 (by first | omega | (simp; done) | (simp; omega)); try simp [go_sem] at ca0_0 fa0_0 ca0_1 fa0_1 ca1_0 fa1_0 ca1_1 fa1_1 ca2_0 fa2_0 ca2_1 fa2_1
    go_wp2_with fail
    refine bodyPost_ret (v := .tuple #[.agg #[.int .i64 0, .int .i64 0], .int .i64 2]) ?_ rfl ⟨ret_bb E1.out.symm E2.out.symm E3.out.symm, (by repeat (first | (with_reducible exact Below.refl _ _) | (with_reducible refine Below.drew ?_) | (with_reducible refine below_drewN ?_ _) | ((with_reducible refine Below.alloc ?_ ?_ _); rotate_left; (first | omega | (simp <;> omega)); rotate_right) | ((with_reducible refine Below.setCell ?_ ?_ _); rotate_left; (first | omega | (simp <;> omega)); rotate_right) | (with_reducible assumption) | (refine Below.trans ?_ (Below.mono (by assumption) ?_); rotate_left; (first | omega | (simp <;> omega)); rotate_right)))⟩
    simp [results, Try.results86, go_sem, *]
  | true =>
    have V := Lib.hid (fun W : World => h1 ▸ rvalid_any al ah W)
    cases h2 : Clk.vB bl bh with
    | false =>
      obtain ⟨e1, e2, e3⟩ := m_bad (al := al) (ah := ah) (bl := bl) (bh := bh) (by simp [mOk, h2])
      have E1 := Lib.hid e1; have E2 := Lib.hid e2; have E3 := Lib.hid e3
      clear e1 e2 e3
      have V2 := Lib.hid (fun W : World => h2 ▸ rvalid_any bl bh W)
      clear h1 h2
      go_enter Try.func86, Try.ntmps86
      go_wp2_with fail
      refine (V.out _).mono ?_
      rintro e w1 ⟨rfl, hb⟩
      have hz := hb.size; simp at hz
      have ca0_0 := (bcell hb).1 (w.heap.size) 0 (by first | omega | (simp; done) | (simp; omega)); have fa0_0 := (bcell hb).2 (w.heap.size) 0 (by first | omega | (simp; done) | (simp; omega)); have ca0_1 := (bcell hb).1 (w.heap.size) 1 (by first | omega | (simp; done) | (simp; omega)); have fa0_1 := (bcell hb).2 (w.heap.size) 1 (by first | omega | (simp; done) | (simp; omega)); have ca1_0 := (bcell hb).1 (w.heap.size + 1) 0 (by first | omega | (simp; done) | (simp; omega)); have fa1_0 := (bcell hb).2 (w.heap.size + 1) 0 (by first | omega | (simp; done) | (simp; omega)); have ca1_1 := (bcell hb).1 (w.heap.size + 1) 1 (by first | omega | (simp; done) | (simp; omega)); have fa1_1 := (bcell hb).2 (w.heap.size + 1) 1 (by first | omega | (simp; done) | (simp; omega)); have ca2_0 := (bcell hb).1 (w.heap.size + 2) 0 (by first | omega | (simp; done) | (simp; omega)); have fa2_0 := (bcell hb).2 (w.heap.size + 2) 0 (by first | omega | (simp; done) | (simp; omega)); have ca2_1 := (bcell hb).1 (w.heap.size + 2) 1 (by first | omega | (simp; done) | (simp; omega)); have fa2_1 := (bcell hb).2 (w.heap.size + 2) 1 (by first | omega | (simp; done) | (simp; omega)); try simp [go_sem] at ca0_0 fa0_0 ca0_1 fa0_1 ca1_0 fa1_0 ca1_1 fa1_1 ca2_0 fa2_0 ca2_1 fa2_1
      go_wp2_with fail
      refine (V2.out _).mono ?_
      rintro e w2 ⟨rfl, hb2⟩
      have hz2 := hb2.size; try simp at hz2
      have cb0_0 := (bcell hb2).1 (w.heap.size) 0 (by first | omega | (simp; done) | (simp; omega)); have fb0_0 := (bcell hb2).2 (w.heap.size) 0 (by first | omega | (simp; done) | (simp; omega)); have cb0_1 := (bcell hb2).1 (w.heap.size) 1 (by first | omega | (simp; done) | (simp; omega)); have fb0_1 := (bcell hb2).2 (w.heap.size) 1 (by first | omega | (simp; done) | (simp; omega)); have cb1_0 := (bcell hb2).1 (w.heap.size + 1) 0 (by first | omega | (simp; done) | (simp; omega)); have fb1_0 := (bcell hb2).2 (w.heap.size + 1) 0 (by first | omega | (simp; done) | (simp; omega)); have cb1_1 := (bcell hb2).1 (w.heap.size + 1) 1 (by first | omega | (simp; done) | (simp; omega)); have fb1_1 := (bcell hb2).2 (w.heap.size + 1) 1 (by first | omega | (simp; done) | (simp; omega)); have cb2_0 := (bcell hb2).1 (w.heap.size + 2) 0 (by first | omega | (simp; done) | (simp; omega)); have fb2_0 := (bcell hb2).2 (w.heap.size + 2) 0 (by first | omega | (simp; done) | (simp; omega)); have cb2_1 := (bcell hb2).1 (w.heap.size + 2) 1 (by first | omega | (simp; done) | (simp; omega)); have fb2_1 := (bcell hb2).2 (w.heap.size + 2) 1 (by first | omega | (simp; done) | (simp; omega)); try simp [go_sem] at cb0_0 fb0_0 cb0_1 fb0_1 cb1_0 fb1_0 cb1_1 fb1_1 cb2_0 fb2_0 cb2_1 fb2_1
      go_wp2_with fail
      refine bodyPost_ret (v := .tuple #[.agg #[.int .i64 0, .int .i64 0], .int .i64 2]) ?_ rfl ⟨ret_bb E1.out.symm E2.out.symm E3.out.symm, (by repeat (first | (with_reducible exact Below.refl _ _) | (with_reducible refine Below.drew ?_) | (with_reducible refine below_drewN ?_ _) | ((with_reducible refine Below.alloc ?_ ?_ _); rotate_left; (first | omega | (simp <;> omega)); rotate_right) | ((with_reducible refine Below.setCell ?_ ?_ _); rotate_left; (first | omega | (simp <;> omega)); rotate_right) | (with_reducible assumption) | (refine Below.trans ?_ (Below.mono (by assumption) ?_); rotate_left; (first | omega | (simp <;> omega)); rotate_right)))⟩
      simp [results, Try.results86, go_sem, *]
    | true =>
      have V2 := Lib.hid (fun W : World => h2 ▸ rvalid_any bl bh W)
      have C1 := Lib.hid (m_check (al := al) (ah := ah) (bl := bl) (bh := bh) (by simp [mOk, h1, h2]))
      have C2 := Lib.hid (m_ok (al := al) (ah := ah) (bl := bl) (bh := bh) (by simp [mOk, h1, h2]))
      clear h1 h2
      rcases Int.lt_or_le al bl with n1 | n1 <;> rcases Int.lt_or_le bh ah with n2 | n2 <;> rcases Int.lt_or_le (min ah bh) (max al bl) with hv | hv
      all_goals
        go_enter Try.func86, Try.ntmps86
        go_wp2_with fail
        refine (V.out _).mono ?_
        rintro e w1 ⟨rfl, hb⟩
        have hz := hb.size; simp at hz
        have ca0_0 := (bcell hb).1 (w.heap.size) 0 (by first | omega | (simp; done) | (simp; omega)); have fa0_0 := (bcell hb).2 (w.heap.size) 0 (by first | omega | (simp; done) | (simp; omega)); have ca0_1 := (bcell hb).1 (w.heap.size) 1 (by first | omega | (simp; done) | (simp; omega)); have fa0_1 := (bcell hb).2 (w.heap.size) 1 (by first | omega | (simp; done) | (simp; omega)); have ca1_0 := (bcell hb).1 (w.heap.size + 1) 0 (by first | omega | (simp; done) | (simp; omega)); have fa1_0 := (bcell hb).2 (w.heap.size + 1) 0 (by first | omega | (simp; done) | (simp; omega)); have ca1_1 := (bcell hb).1 (w.heap.size + 1) 1 (by first | omega | (simp; done) | (simp; omega)); have fa1_1 := (bcell hb).2 (w.heap.size + 1) 1 (by first | omega | (simp; done) | (simp; omega)); have ca2_0 := (bcell hb).1 (w.heap.size + 2) 0 (by first | omega | (simp; done) | (simp; omega)); have fa2_0 := (bcell hb).2 (w.heap.size + 2) 0 (by first | omega | (simp; done) | (simp; omega)); have ca2_1 := (bcell hb).1 (w.heap.size + 2) 1 (by first | omega | (simp; done) | (simp; omega)); have fa2_1 := (bcell hb).2 (w.heap.size + 2) 1 (by first | omega | (simp; done) | (simp; omega)); try simp [go_sem] at ca0_0 fa0_0 ca0_1 fa0_1 ca1_0 fa1_0 ca1_1 fa1_1 ca2_0 fa2_0 ca2_1 fa2_1
        go_wp2_with fail
        refine (V2.out _).mono ?_
        rintro e w2 ⟨rfl, hb2⟩
        have hz2 := hb2.size; try simp at hz2
        have cb0_0 := (bcell hb2).1 (w.heap.size) 0 (by first | omega | (simp; done) | (simp; omega)); have fb0_0 := (bcell hb2).2 (w.heap.size) 0 (by first | omega | (simp; done) | (simp; omega)); have cb0_1 := (bcell hb2).1 (w.heap.size) 1 (by first | omega | (simp; done) | (simp; omega)); have fb0_1 := (bcell hb2).2 (w.heap.size) 1 (by first | omega | (simp; done) | (simp; omega)); have cb1_0 := (bcell hb2).1 (w.heap.size + 1) 0 (by first | omega | (simp; done) | (simp; omega)); have fb1_0 := (bcell hb2).2 (w.heap.size + 1) 0 (by first | omega | (simp; done) | (simp; omega)); have cb1_1 := (bcell hb2).1 (w.heap.size + 1) 1 (by first | omega | (simp; done) | (simp; omega)); have fb1_1 := (bcell hb2).2 (w.heap.size + 1) 1 (by first | omega | (simp; done) | (simp; omega)); have cb2_0 := (bcell hb2).1 (w.heap.size + 2) 0 (by first | omega | (simp; done) | (simp; omega)); have fb2_0 := (bcell hb2).2 (w.heap.size + 2) 0 (by first | omega | (simp; done) | (simp; omega)); have cb2_1 := (bcell hb2).1 (w.heap.size + 2) 1 (by first | omega | (simp; done) | (simp; omega)); have fb2_1 := (bcell hb2).2 (w.heap.size + 2) 1 (by first | omega | (simp; done) | (simp; omega)); try simp [go_sem] at cb0_0 fb0_0 cb0_1 fb0_1 cb1_0 fb1_0 cb1_1 fb1_1 cb2_0 fb2_0 cb2_1 fb2_1
        have hz30 : w.heap.size < w2.heap.size := by omega
        have hz31 : w.heap.size + 1 < w2.heap.size := by omega
        have hz32 : w.heap.size + 1 + 1 < w2.heap.size := by omega
        go_wp2_with fail
        first | (obtain ⟨d1, d2, d3⟩ := C1.out hv; refine bodyPost_ret (v := .tuple #[.agg #[.int .i64 0, .int .i64 0], .int .i64 10]) ?_ rfl ⟨ret_bb d1.symm d2.symm d3.symm, (by repeat (first | (with_reducible exact Below.refl _ _) | (with_reducible refine Below.drew ?_) | (with_reducible refine below_drewN ?_ _) | ((with_reducible refine Below.alloc ?_ ?_ _); rotate_left; (first | omega | (simp <;> omega)); rotate_right) | ((with_reducible refine Below.setCell ?_ ?_ _); rotate_left; (first | omega | (simp <;> omega)); rotate_right) | (with_reducible assumption) | (refine Below.trans ?_ (Below.mono (by assumption) ?_); rotate_left; (first | omega | (simp <;> omega)); rotate_right)))⟩; (simp [results, Try.results86, go_sem, *] <;> fail)) | (obtain ⟨d1, d2, d3⟩ := C2.out hv; refine bodyPost_ret (v := .tuple #[.agg #[.int .i64 al, .int .i64 ah], .int .i64 0]) ?_ rfl ⟨ret_bb (Eq.trans ?_ d1.symm) (Eq.trans ?_ d2.symm) d3.symm, (by repeat (first | (with_reducible exact Below.refl _ _) | (with_reducible refine Below.drew ?_) | (with_reducible refine below_drewN ?_ _) | ((with_reducible refine Below.alloc ?_ ?_ _); rotate_left; (first | omega | (simp <;> omega)); rotate_right) | ((with_reducible refine Below.setCell ?_ ?_ _); rotate_left; (first | omega | (simp <;> omega)); rotate_right) | (with_reducible assumption) | (refine Below.trans ?_ (Below.mono (by assumption) ?_); rotate_left; (first | omega | (simp <;> omega)); rotate_right)))⟩ <;> first | omega | (simp [results, Try.results86, go_sem, *] <;> fail)) | (obtain ⟨d1, d2, d3⟩ := C2.out hv; refine bodyPost_ret (v := .tuple #[.agg #[.int .i64 al, .int .i64 bh], .int .i64 0]) ?_ rfl ⟨ret_bb (Eq.trans ?_ d1.symm) (Eq.trans ?_ d2.symm) d3.symm, (by repeat (first | (with_reducible exact Below.refl _ _) | (with_reducible refine Below.drew ?_) | (with_reducible refine below_drewN ?_ _) | ((with_reducible refine Below.alloc ?_ ?_ _); rotate_left; (first | omega | (simp <;> omega)); rotate_right) | ((with_reducible refine Below.setCell ?_ ?_ _); rotate_left; (first | omega | (simp <;> omega)); rotate_right) | (with_reducible assumption) | (refine Below.trans ?_ (Below.mono (by assumption) ?_); rotate_left; (first | omega | (simp <;> omega)); rotate_right)))⟩ <;> first | omega | (simp [results, Try.results86, go_sem, *] <;> fail)) | (obtain ⟨d1, d2, d3⟩ := C2.out hv; refine bodyPost_ret (v := .tuple #[.agg #[.int .i64 bl, .int .i64 ah], .int .i64 0]) ?_ rfl ⟨ret_bb (Eq.trans ?_ d1.symm) (Eq.trans ?_ d2.symm) d3.symm, (by repeat (first | (with_reducible exact Below.refl _ _) | (with_reducible refine Below.drew ?_) | (with_reducible refine below_drewN ?_ _) | ((with_reducible refine Below.alloc ?_ ?_ _); rotate_left; (first | omega | (simp <;> omega)); rotate_right) | ((with_reducible refine Below.setCell ?_ ?_ _); rotate_left; (first | omega | (simp <;> omega)); rotate_right) | (with_reducible assumption) | (refine Below.trans ?_ (Below.mono (by assumption) ?_); rotate_left; (first | omega | (simp <;> omega)); rotate_right)))⟩ <;> first | omega | (simp [results, Try.results86, go_sem, *] <;> fail)) | (obtain ⟨d1, d2, d3⟩ := C2.out hv; refine bodyPost_ret (v := .tuple #[.agg #[.int .i64 bl, .int .i64 bh], .int .i64 0]) ?_ rfl ⟨ret_bb (Eq.trans ?_ d1.symm) (Eq.trans ?_ d2.symm) d3.symm, (by repeat (first | (with_reducible exact Below.refl _ _) | (with_reducible refine Below.drew ?_) | (with_reducible refine below_drewN ?_ _) | ((with_reducible refine Below.alloc ?_ ?_ _); rotate_left; (first | omega | (simp <;> omega)); rotate_right) | ((with_reducible refine Below.setCell ?_ ?_ _); rotate_left; (first | omega | (simp <;> omega)); rotate_right) | (with_reducible assumption) | (refine Below.trans ?_ (Below.mono (by assumption) ?_); rotate_left; (first | omega | (simp <;> omega)); rotate_right)))⟩ <;> first | omega | (simp [results, Try.results86, go_sem, *] <;> fail))
theorem rgrow_any (lo hi d l : Int) (w : World) :
    Calls Try.prog 69 #[.agg #[.int .i64 lo, .int .i64 hi], .int .i64 d, .int .i64 l] w fun e w' => e = .returned (.tuple #[.agg #[.int .i64 (if 1073741824 < l then 0 else GLo lo hi d l), .int .i64 (if 1073741824 < l then 0 else GHi lo hi d l)], .int .i64 (if 1073741824 < l then 3 else GE lo hi d l)]) ∧ Below w.heap.size w w' := by
  by_cases h : 1073741824 < l
  · rw [if_pos h, if_pos h, if_pos h]
    go_enter Try.func69, Try.ntmps69
    go_wp2_with fail
    refine bodyPost_ret (v := .tuple #[.agg #[.int .i64 0, .int .i64 0], .int .i64 3]) ?_ rfl ⟨rfl, (by repeat (first | (with_reducible exact Below.refl _ _) | (with_reducible refine Below.drew ?_) | (with_reducible refine below_drewN ?_ _) | ((with_reducible refine Below.alloc ?_ ?_ _); rotate_left; (first | omega | (simp <;> omega)); rotate_right) | ((with_reducible refine Below.setCell ?_ ?_ _); rotate_left; (first | omega | (simp <;> omega)); rotate_right) | (with_reducible assumption) | (refine Below.trans ?_ (Below.mono (by assumption) ?_); rotate_left; (first | omega | (simp <;> omega)); rotate_right)))⟩
    simp [results, Try.results69, go_sem]
  · rw [if_neg h, if_neg h, if_neg h]
    go_enter Try.func69, Try.ntmps69
    go_wp2_with fail
    refine (rGrow_any _ _ _ _ _).mono ?_
    rintro e w1 ⟨rfl, hb⟩
    have hz := hb.size; simp at hz
    have ca0_0 := (bcell hb).1 (w.heap.size) 0 (by first | omega | (simp; done) | (simp; omega)); have fa0_0 := (bcell hb).2 (w.heap.size) 0 (by first | omega | (simp; done) | (simp; omega)); have ca0_1 := (bcell hb).1 (w.heap.size) 1 (by first | omega | (simp; done) | (simp; omega)); have fa0_1 := (bcell hb).2 (w.heap.size) 1 (by first | omega | (simp; done) | (simp; omega)); have ca1_0 := (bcell hb).1 (w.heap.size + 1) 0 (by first | omega | (simp; done) | (simp; omega)); have fa1_0 := (bcell hb).2 (w.heap.size + 1) 0 (by first | omega | (simp; done) | (simp; omega)); have ca1_1 := (bcell hb).1 (w.heap.size + 1) 1 (by first | omega | (simp; done) | (simp; omega)); have fa1_1 := (bcell hb).2 (w.heap.size + 1) 1 (by first | omega | (simp; done) | (simp; omega)); try simp [go_sem] at ca0_0 fa0_0 ca0_1 fa0_1 ca1_0 fa1_0 ca1_1 fa1_1
    go_wp2_with fail
    refine bodyPost_ret (v := .tuple #[.agg #[.int .i64 (GLo lo hi d l), .int .i64 (GHi lo hi d l)], .int .i64 (GE lo hi d l)]) ?_ rfl ⟨rfl, (by repeat (first | (with_reducible exact Below.refl _ _) | (with_reducible refine Below.drew ?_) | (with_reducible refine below_drewN ?_ _) | ((with_reducible refine Below.alloc ?_ ?_ _); rotate_left; (first | omega | (simp <;> omega)); rotate_right) | ((with_reducible refine Below.setCell ?_ ?_ _); rotate_left; (first | omega | (simp <;> omega)); rotate_right) | (with_reducible assumption) | (refine Below.trans ?_ (Below.mono (by assumption) ?_); rotate_left; (first | omega | (simp <;> omega)); rotate_right)))⟩
    simp [results, Try.results69, go_sem, *]
theorem rNew_no (d : Int) (w : World) (h : ¬ (0 ≤ d ∧ d ≤ 100000)) :
    Calls Try.prog 62 #[.int .i64 d] w fun e w' => e = .returned (.tuple #[.agg #[.int .i64 0, .int .i64 0, .bool false, .int .i64 0, .int .i64 0], .int .i64 2]) ∧ Below w.heap.size w w' := by
  have H := Lib.hid (Clk.inB_no.2 h)
  go_enter Try.func62, Try.ntmps62
  go_wp2_with (go_at_call 73; refine (to_any _ _ _ _).mono ?_; rintro e w' ⟨rfl, rfl⟩; rw [H.out])
  refine bodyPost_ret (v := .tuple #[.agg #[.int .i64 0, .int .i64 0, .bool false, .int .i64 0, .int .i64 0], .int .i64 2]) ?_ rfl ⟨rfl, (by repeat (first | (with_reducible exact Below.refl _ _) | (with_reducible refine Below.drew ?_) | (with_reducible refine below_drewN ?_ _) | ((with_reducible refine Below.alloc ?_ ?_ _); rotate_left; (first | omega | (simp <;> omega)); rotate_right) | ((with_reducible refine Below.setCell ?_ ?_ _); rotate_left; (first | omega | (simp <;> omega)); rotate_right) | (with_reducible assumption) | (refine Below.trans ?_ (Below.mono (by assumption) ?_); rotate_left; (first | omega | (simp <;> omega)); rotate_right)))⟩
  simp [results, Try.results62, go_sem]
theorem rNew_yes (d : Int) (w : World) (h : 0 ≤ d ∧ d ≤ 100000) :
    Calls Try.prog 62 #[.int .i64 d] w fun e w' => e = .returned (.tuple #[.agg #[.int .i64 d, .int .i64 0, .bool false, .int .i64 0, .int .i64 0], .int .i64 0]) ∧ Below w.heap.size w w' := by
  go_enter Try.func62, Try.ntmps62
  go_wp2_with (go_at_call 73; refine (to_yes _ _ _ _ h).mono ?_; rintro e w' ⟨rfl, rfl⟩)
  refine bodyPost_ret (v := .tuple #[.agg #[.int .i64 d, .int .i64 0, .bool false, .int .i64 0, .int .i64 0], .int .i64 0]) ?_ rfl ⟨rfl, (by repeat (first | (with_reducible exact Below.refl _ _) | (with_reducible refine Below.drew ?_) | (with_reducible refine below_drewN ?_ _) | ((with_reducible refine Below.alloc ?_ ?_ _); rotate_left; (first | omega | (simp <;> omega)); rotate_right) | ((with_reducible refine Below.setCell ?_ ?_ _); rotate_left; (first | omega | (simp <;> omega)); rotate_right) | (with_reducible assumption) | (refine Below.trans ?_ (Below.mono (by assumption) ?_); rotate_left; (first | omega | (simp <;> omega)); rotate_right)))⟩
  simp [results, Try.results62, go_sem]
end Go.Proofs.Ytjidchaejicjaaa.Ck
/- The reference's clock: Exchange, At, low, Sure. -/
namespace Go.Proofs.Ytjidchaejicjaaa.Ck
open Go.RowKit
set_option maxHeartbeats 4000000
set_option linter.unusedSimpArgs false
set_option linter.unusedVariables false
set_option maxRecDepth 100000
theorem exch_any (a g k h : Int) (w : World) :
    Calls Try.prog 85 #[.agg #[.int .i64 a, .int .i64 g, .int .i64 k, .int .i64 h]] w fun e w' => e = .returned (.bool (Clk.xOk a g k h)) ∧ Below w.heap.size w w' := by
  have x' : (a < -1073741824) ∨ (-1073741824 ≤ a ∧ h < a) ∨ (-1073741824 ≤ a ∧ a ≤ h ∧ 1073741824 < h) ∨ (-1073741824 ≤ a ∧ a ≤ h ∧ h ≤ 1073741824 ∧ g < 0) ∨ (-1073741824 ≤ a ∧ a ≤ h ∧ h ≤ 1073741824 ∧ 0 ≤ g ∧ k < g) ∨ (-1073741824 ≤ a ∧ a ≤ h ∧ h ≤ 1073741824 ∧ 0 ≤ g ∧ g ≤ k) := by omega
  rcases x' with x | ⟨x1, x2⟩ | ⟨x1, x2, x3⟩ | ⟨x1, x2, x3, x4⟩ | ⟨x1, x2, x3, x4, x5⟩ | ⟨x1, x2, x3, x4, x5⟩
  all_goals
    go_enter Try.func85, Try.ntmps85
    go_wp2_with fail
    go_ret
    exact ⟨ret_bool (by simp [Clk.xOk]; omega), (by repeat (first | (with_reducible exact Below.refl _ _) | (with_reducible refine Below.drew ?_) | (with_reducible refine below_drewN ?_ _) | ((with_reducible refine Below.alloc ?_ ?_ _); rotate_left; (first | omega | (simp <;> omega)); rotate_right) | ((with_reducible refine Below.setCell ?_ ?_ _); rotate_left; (first | omega | (simp <;> omega)); rotate_right) | (with_reducible assumption) | (refine Below.trans ?_ (Below.mono (by assumption) ?_); rotate_left; (first | omega | (simp <;> omega)); rotate_right)))⟩
theorem rat_none (d r lo hi x : Int) (w : World) :
    Calls Try.prog 48 #[.agg #[.int .i64 d, .int .i64 r, .bool false, .int .i64 lo, .int .i64 hi], .int .i64 x] w fun e w' => e = .returned (.tuple #[.agg #[.int .i64 0, .int .i64 0], .int .i64 9]) ∧ Below w.heap.size w w' := by
  go_enter Try.func48, Try.ntmps48
  go_wp2_with fail
  refine bodyPost_ret (v := .tuple #[.agg #[.int .i64 0, .int .i64 0], .int .i64 9]) ?_ rfl ⟨rfl, (by repeat (first | (with_reducible exact Below.refl _ _) | (with_reducible refine Below.drew ?_) | (with_reducible refine below_drewN ?_ _) | ((with_reducible refine Below.alloc ?_ ?_ _); rotate_left; (first | omega | (simp <;> omega)); rotate_right) | ((with_reducible refine Below.setCell ?_ ?_ _); rotate_left; (first | omega | (simp <;> omega)); rotate_right) | (with_reducible assumption) | (refine Below.trans ?_ (Below.mono (by assumption) ?_); rotate_left; (first | omega | (simp <;> omega)); rotate_right)))⟩
  simp [results, Try.results48, go_sem]
theorem rat_range (d r lo hi x : Int) (w : World) (h : ¬ (r ≤ x ∧ x ≤ 1073741824)) :
    Calls Try.prog 48 #[.agg #[.int .i64 d, .int .i64 r, .bool true, .int .i64 lo, .int .i64 hi], .int .i64 x] w fun e w' => e = .returned (.tuple #[.agg #[.int .i64 0, .int .i64 0], .int .i64 3]) ∧ Below w.heap.size w w' := by
  have h' : x < r ∨ (r ≤ x ∧ 1073741824 < x) := by omega
  clear h
  rcases h' with h | ⟨h, h2⟩
  all_goals
    go_enter Try.func48, Try.ntmps48
    go_wp2_with fail
    refine bodyPost_ret (v := .tuple #[.agg #[.int .i64 0, .int .i64 0], .int .i64 3]) ?_ rfl ⟨rfl, (by repeat (first | (with_reducible exact Below.refl _ _) | (with_reducible refine Below.drew ?_) | (with_reducible refine below_drewN ?_ _) | ((with_reducible refine Below.alloc ?_ ?_ _); rotate_left; (first | omega | (simp <;> omega)); rotate_right) | ((with_reducible refine Below.setCell ?_ ?_ _); rotate_left; (first | omega | (simp <;> omega)); rotate_right) | (with_reducible assumption) | (refine Below.trans ?_ (Below.mono (by assumption) ?_); rotate_left; (first | omega | (simp <;> omega)); rotate_right)))⟩
    simp [results, Try.results48, go_sem]
theorem rg_eq {lo hi d l : Int} (l0 : 0 ≤ lo) (l1 : lo ≤ hi) (l2 : hi ≤ 1073741824) (d0 : 0 ≤ d) (d1 : d ≤ 100000) (y0 : 0 ≤ l) :
    (if 1073741824 < l then 0 else GLo lo hi d l) = Clk.rLo lo hi d l ∧ (if 1073741824 < l then 0 else GHi lo hi d l) = Clk.rHi hi d l ∧ (if 1073741824 < l then 3 else GE lo hi d l) = Clk.rE hi d l := by
  by_cases h : 1073741824 < l
  · have := Clk.vp_ge d l y0 d0 d1
    have g : ¬ Clk.gHi hi d l ≤ 1073741824 := by unfold Clk.gHi; omega
    simp [h, Clk.rLo, Clk.rHi, Clk.rE, g]
  · have g : gOk lo hi d l = true := by simp [gOk, Clk.vB_iff, Clk.inB_iff]; omega
    simp [h, GLo, GHi, GE, g]
theorem rat_yes (d r lo hi x : Int) (w : World) (c : Clk.CInv d r lo hi) (l0 : 0 ≤ lo) (h : r ≤ x ∧ x ≤ 1073741824) :
    Calls Try.prog 48 #[.agg #[.int .i64 d, .int .i64 r, .bool true, .int .i64 lo, .int .i64 hi], .int .i64 x] w fun e w' => e = .returned (.tuple #[.agg #[.int .i64 (Clk.rLo lo hi d (x - r)), .int .i64 (Clk.rHi hi d (x - r))], .int .i64 (Clk.rE hi d (x - r))]) ∧ Below w.heap.size w w' := by
  obtain ⟨c1, c2, c3, c4, c5, c6, c7⟩ := c
  obtain ⟨e1, e2, e3⟩ := rg_eq (lo := lo) (hi := hi) (d := d) (l := x - r) l0 c6 c7 c1 c2 (by omega)
  have R := Lib.hid (fun W : World => rgrow_any lo hi d (x - r) W)
  rw [e1, e2, e3] at R
  clear e1 e2 e3
  go_enter Try.func48, Try.ntmps48
  go_wp2_with fail
  refine (R.out _).mono ?_
  rintro e w1 ⟨rfl, hb⟩
  have hz := hb.size; simp at hz
  have ca0_0 := (bcell hb).1 (w.heap.size) 0 (by first | omega | (simp; done) | (simp; omega)); have fa0_0 := (bcell hb).2 (w.heap.size) 0 (by first | omega | (simp; done) | (simp; omega)); have ca0_1 := (bcell hb).1 (w.heap.size) 1 (by first | omega | (simp; done) | (simp; omega)); have fa0_1 := (bcell hb).2 (w.heap.size) 1 (by first | omega | (simp; done) | (simp; omega)); have ca0_2 := (bcell hb).1 (w.heap.size) 2 (by first | omega | (simp; done) | (simp; omega)); have fa0_2 := (bcell hb).2 (w.heap.size) 2 (by first | omega | (simp; done) | (simp; omega)); have ca0_3 := (bcell hb).1 (w.heap.size) 3 (by first | omega | (simp; done) | (simp; omega)); have fa0_3 := (bcell hb).2 (w.heap.size) 3 (by first | omega | (simp; done) | (simp; omega)); have ca0_4 := (bcell hb).1 (w.heap.size) 4 (by first | omega | (simp; done) | (simp; omega)); have fa0_4 := (bcell hb).2 (w.heap.size) 4 (by first | omega | (simp; done) | (simp; omega)); have ca1_0 := (bcell hb).1 (w.heap.size + 1) 0 (by first | omega | (simp; done) | (simp; omega)); have fa1_0 := (bcell hb).2 (w.heap.size + 1) 0 (by first | omega | (simp; done) | (simp; omega)); have ca1_1 := (bcell hb).1 (w.heap.size + 1) 1 (by first | omega | (simp; done) | (simp; omega)); have fa1_1 := (bcell hb).2 (w.heap.size + 1) 1 (by first | omega | (simp; done) | (simp; omega)); try simp [go_sem] at ca0_0 fa0_0 ca0_1 fa0_1 ca0_2 fa0_2 ca0_3 fa0_3 ca0_4 fa0_4 ca1_0 fa1_0 ca1_1 fa1_1
  go_wp2_with fail
  refine bodyPost_ret (v := .tuple #[.agg #[.int .i64 (Clk.rLo lo hi d (x - r)), .int .i64 (Clk.rHi hi d (x - r))], .int .i64 (Clk.rE hi d (x - r))]) ?_ rfl ⟨rfl, (by repeat (first | (with_reducible exact Below.refl _ _) | (with_reducible refine Below.drew ?_) | (with_reducible refine below_drewN ?_ _) | ((with_reducible refine Below.alloc ?_ ?_ _); rotate_left; (first | omega | (simp <;> omega)); rotate_right) | ((with_reducible refine Below.setCell ?_ ?_ _); rotate_left; (first | omega | (simp <;> omega)); rotate_right) | (with_reducible assumption) | (refine Below.trans ?_ (Below.mono (by assumption) ?_); rotate_left; (first | omega | (simp <;> omega)); rotate_right)))⟩
  simp [results, Try.results48, go_sem, *]
theorem rat_any (d r : Int) (s : Bool) (lo hi x : Int) (w : World) (c : Clk.CInv d r lo hi) (l0 : s = true → 0 ≤ lo) :
    Calls Try.prog 48 #[.agg #[.int .i64 d, .int .i64 r, .bool s, .int .i64 lo, .int .i64 hi], .int .i64 x] w fun e w' => e = .returned (.tuple #[.agg #[.int .i64 (aLo d r s lo hi x), .int .i64 (aHi d r s hi x)], .int .i64 (aE d r s hi x)]) ∧ Below w.heap.size w w' := by
  cases s with
  | false =>
    refine (rat_none d r lo hi x w).mono ?_
    rintro e w' ⟨rfl, hb⟩
    exact ⟨by simp [aLo, aHi, aE, aOk], hb⟩
  | true =>
    by_cases h : r ≤ x ∧ x ≤ 1073741824
    · refine (rat_yes d r lo hi x w c (l0 rfl) h).mono ?_
      rintro e w' ⟨rfl, hb⟩
      exact ⟨by simp [aLo, aHi, aE, aOk, Clk.inB_iff.2 h], hb⟩
    · refine (rat_range d r lo hi x w h).mono ?_
      rintro e w' ⟨rfl, hb⟩
      exact ⟨by simp [aLo, aHi, aE, aOk, Clk.inB_no.2 h], hb⟩
end Go.Proofs.Ytjidchaejicjaaa.Ck
/- The reference's Add. -/
namespace Go.Proofs.Ytjidchaejicjaaa.Ck
open Go.RowKit
set_option maxHeartbeats 4000000
set_option linter.unusedSimpArgs false
set_option linter.unusedVariables false
set_option maxRecDepth 100000
def RPost (w : World) (d r : Int) (s : Bool) (lo hi a g k h : Int) (e : Ending) (w' : World) : Prop :=
  e = .returned (.tuple #[.agg #[.int .i64 d, .int .i64 (Clk.addR d r s lo hi a g k h), .bool (Clk.addS d r s lo hi a g k h), .int .i64 (Clk.addLo d r s lo hi a g k h), .int .i64 (Clk.addHi d r s lo hi a g k h)], .int .i64 (Clk.addE d r s lo hi a g k h)]) ∧ Below w.heap.size w w'
theorem rpost_err {w w' : World} {d r : Int} {s : Bool} {lo hi a g k h n : Int} (hE : Clk.addE d r s lo hi a g k h = n) (hn : n ≠ 0) (hb : Below w.heap.size w w') : RPost w d r s lo hi a g k h (.returned (.tuple #[.agg #[.int .i64 d, .int .i64 r, .bool s, .int .i64 lo, .int .i64 hi], .int .i64 n])) w' := by
  have : ¬ Clk.addE d r s lo hi a g k h = 0 := by omega
  exact ⟨by rw [Clk.addR, Clk.addS, Clk.addLo, Clk.addHi, if_neg this, if_neg this, if_neg this, if_neg this, hE], hb⟩
theorem rpost_ok {w w' : World} {d r : Int} {s : Bool} {lo hi a g k h x y : Int} (hE : Clk.addE d r s lo hi a g k h = 0) (h1 : Clk.nLo d r s lo hi k h = x) (h2 : Clk.nHi d r s hi a g h = y) (hb : Below w.heap.size w w') : RPost w d r s lo hi a g k h (.returned (.tuple #[.agg #[.int .i64 d, .int .i64 h, .bool true, .int .i64 x, .int .i64 y], .int .i64 0])) w' :=
  ⟨by rw [Clk.addR, Clk.addS, Clk.addLo, Clk.addHi, if_pos hE, if_pos hE, if_pos hE, if_pos hE, h1, h2, hE], hb⟩
theorem meet_first {k H : Int} (k0 : 0 ≤ k) (v : k ≤ H) (hH : H ≤ 1073741824) : mLo (-1073741824) 1073741824 k H = k ∧ mHi (-1073741824) 1073741824 k H = H ∧ mE (-1073741824) 1073741824 k H = 0 := by
  have h : mOk (-1073741824) 1073741824 k H = true := by simp [mOk, Clk.vB_iff]; omega
  obtain ⟨e1, e2, e3⟩ := m_ok h (by omega)
  exact ⟨by rw [e1]; omega, by rw [e2]; omega, e3⟩
theorem radd_bad (d r : Int) (s : Bool) (lo hi a g k h : Int) (w : World) (x : Clk.xOk a g k h = false) :
    Calls Try.prog 78 #[.agg #[.int .i64 d, .int .i64 r, .bool s, .int .i64 lo, .int .i64 hi], .agg #[.int .i64 a, .int .i64 g, .int .i64 k, .int .i64 h]] w fun e w' => RPost w d r s lo hi a g k h e w' := by
  have E := Lib.hid (Clk.addE_bad (d := d) (r := r) (s := s) (lo := lo) (hi := hi) x)
  have V := Lib.hid (fun W : World => x ▸ exch_any a g k h W)
  clear x
  go_enter Try.func78, Try.ntmps78
  go_wp2_with fail
  refine (V.out _).mono ?_
  rintro e w1 ⟨rfl, hb⟩
  have hz := hb.size; simp at hz
  have hC1 := blk_below (q := w.heap.size) (by repeat (first | (with_reducible assumption) | ((with_reducible apply blk_far); rotate_left; (first | omega | (simp <;> omega)); rotate_right) | (with_reducible apply blk_drew) | (with_reducible apply blk_drewN) | (with_reducible exact heap_new _ _) | ((with_reducible apply heap_new'); (first | rfl | (simp <;> fail))) | (with_reducible apply blk_alloc))) hb (by first | omega | (simp; done) | (simp; omega)); have hX1 := blk_below (q := w.heap.size + 1) (by repeat (first | (with_reducible assumption) | ((with_reducible apply blk_far); rotate_left; (first | omega | (simp <;> omega)); rotate_right) | (with_reducible apply blk_drew) | (with_reducible apply blk_drewN) | (with_reducible exact heap_new _ _) | ((with_reducible apply heap_new'); (first | rfl | (simp <;> fail))) | (with_reducible apply blk_alloc))) hb (by first | omega | (simp; done) | (simp; omega)); have hR1 := blk_below (q := w.heap.size + 1 + 1) (by repeat (first | (with_reducible assumption) | ((with_reducible apply blk_far); rotate_left; (first | omega | (simp <;> omega)); rotate_right) | (with_reducible apply blk_drew) | (with_reducible apply blk_drewN) | (with_reducible exact heap_new _ _) | ((with_reducible apply heap_new'); (first | rfl | (simp <;> fail))) | (with_reducible apply blk_alloc))) hb (by first | omega | (simp; done) | (simp; omega))
  have cC_0 := blk_cell hC1 0 rfl; have fC_0 := blk_free hC1 0; have cC_1 := blk_cell hC1 1 rfl; have fC_1 := blk_free hC1 1; have cC_2 := blk_cell hC1 2 rfl; have fC_2 := blk_free hC1 2; have cC_3 := blk_cell hC1 3 rfl; have fC_3 := blk_free hC1 3; have cC_4 := blk_cell hC1 4 rfl; have fC_4 := blk_free hC1 4; have lC := lt_of_block hC1
  have cX_0 := blk_cell hX1 0 rfl; have fX_0 := blk_free hX1 0; have cX_1 := blk_cell hX1 1 rfl; have fX_1 := blk_free hX1 1; have cX_2 := blk_cell hX1 2 rfl; have fX_2 := blk_free hX1 2; have cX_3 := blk_cell hX1 3 rfl; have fX_3 := blk_free hX1 3; have lX := lt_of_block hX1
  have cR_0 := blk_cell hR1 0 rfl; have fR_0 := blk_free hR1 0; have cR_1 := blk_cell hR1 1 rfl; have fR_1 := blk_free hR1 1; have cR_2 := blk_cell hR1 2 rfl; have fR_2 := blk_free hR1 2; have cR_3 := blk_cell hR1 3 rfl; have fR_3 := blk_free hR1 3; have cR_4 := blk_cell hR1 4 rfl; have fR_4 := blk_free hR1 4; have lR := lt_of_block hR1
  go_wp2_with fail
  refine bodyPost_ret (v := .tuple #[.agg #[.int .i64 d, .int .i64 r, .bool s, .int .i64 lo, .int .i64 hi], .int .i64 2]) ?_ rfl (rpost_err E.out (by decide) (by repeat (first | (with_reducible exact Below.refl _ _) | (with_reducible refine Below.drew ?_) | (with_reducible refine below_drewN ?_ _) | ((with_reducible refine Below.alloc ?_ ?_ _); rotate_left; (first | omega | (simp <;> omega)); rotate_right) | ((with_reducible refine Below.setCell ?_ ?_ _); rotate_left; (first | omega | (simp <;> omega)); rotate_right) | (with_reducible assumption) | (refine Below.trans ?_ (Below.mono (by assumption) ?_); rotate_left; (first | omega | (simp <;> omega)); rotate_right))))
  simp [results, Try.results78, go_sem, *]
theorem radd_early (d r lo hi a g k h : Int) (w : World) (x : Clk.xOk a g k h = true) (y : h < r) :
    Calls Try.prog 78 #[.agg #[.int .i64 d, .int .i64 r, .bool true, .int .i64 lo, .int .i64 hi], .agg #[.int .i64 a, .int .i64 g, .int .i64 k, .int .i64 h]] w fun e w' => RPost w d r true lo hi a g k h e w' := by
  have E := Lib.hid (Clk.addE_early (d := d) (r := r) (lo := lo) (hi := hi) x y)
  have V := Lib.hid (fun W : World => x ▸ exch_any a g k h W)
  clear x
  go_enter Try.func78, Try.ntmps78
  go_wp2_with fail
  refine (V.out _).mono ?_
  rintro e w1 ⟨rfl, hb⟩
  have hz := hb.size; simp at hz
  have hC1 := blk_below (q := w.heap.size) (by repeat (first | (with_reducible assumption) | ((with_reducible apply blk_far); rotate_left; (first | omega | (simp <;> omega)); rotate_right) | (with_reducible apply blk_drew) | (with_reducible apply blk_drewN) | (with_reducible exact heap_new _ _) | ((with_reducible apply heap_new'); (first | rfl | (simp <;> fail))) | (with_reducible apply blk_alloc))) hb (by first | omega | (simp; done) | (simp; omega)); have hX1 := blk_below (q := w.heap.size + 1) (by repeat (first | (with_reducible assumption) | ((with_reducible apply blk_far); rotate_left; (first | omega | (simp <;> omega)); rotate_right) | (with_reducible apply blk_drew) | (with_reducible apply blk_drewN) | (with_reducible exact heap_new _ _) | ((with_reducible apply heap_new'); (first | rfl | (simp <;> fail))) | (with_reducible apply blk_alloc))) hb (by first | omega | (simp; done) | (simp; omega)); have hR1 := blk_below (q := w.heap.size + 1 + 1) (by repeat (first | (with_reducible assumption) | ((with_reducible apply blk_far); rotate_left; (first | omega | (simp <;> omega)); rotate_right) | (with_reducible apply blk_drew) | (with_reducible apply blk_drewN) | (with_reducible exact heap_new _ _) | ((with_reducible apply heap_new'); (first | rfl | (simp <;> fail))) | (with_reducible apply blk_alloc))) hb (by first | omega | (simp; done) | (simp; omega))
  have cC_0 := blk_cell hC1 0 rfl; have fC_0 := blk_free hC1 0; have cC_1 := blk_cell hC1 1 rfl; have fC_1 := blk_free hC1 1; have cC_2 := blk_cell hC1 2 rfl; have fC_2 := blk_free hC1 2; have cC_3 := blk_cell hC1 3 rfl; have fC_3 := blk_free hC1 3; have cC_4 := blk_cell hC1 4 rfl; have fC_4 := blk_free hC1 4; have lC := lt_of_block hC1
  have cX_0 := blk_cell hX1 0 rfl; have fX_0 := blk_free hX1 0; have cX_1 := blk_cell hX1 1 rfl; have fX_1 := blk_free hX1 1; have cX_2 := blk_cell hX1 2 rfl; have fX_2 := blk_free hX1 2; have cX_3 := blk_cell hX1 3 rfl; have fX_3 := blk_free hX1 3; have lX := lt_of_block hX1
  have cR_0 := blk_cell hR1 0 rfl; have fR_0 := blk_free hR1 0; have cR_1 := blk_cell hR1 1 rfl; have fR_1 := blk_free hR1 1; have cR_2 := blk_cell hR1 2 rfl; have fR_2 := blk_free hR1 2; have cR_3 := blk_cell hR1 3 rfl; have fR_3 := blk_free hR1 3; have cR_4 := blk_cell hR1 4 rfl; have fR_4 := blk_free hR1 4; have lR := lt_of_block hR1
  go_wp2_with fail
  refine bodyPost_ret (v := .tuple #[.agg #[.int .i64 d, .int .i64 r, .bool true, .int .i64 lo, .int .i64 hi], .int .i64 3]) ?_ rfl (rpost_err E.out (by decide) (by repeat (first | (with_reducible exact Below.refl _ _) | (with_reducible refine Below.drew ?_) | (with_reducible refine below_drewN ?_ _) | ((with_reducible refine Below.alloc ?_ ?_ _); rotate_left; (first | omega | (simp <;> omega)); rotate_right) | ((with_reducible refine Below.setCell ?_ ?_ _); rotate_left; (first | omega | (simp <;> omega)); rotate_right) | (with_reducible assumption) | (refine Below.trans ?_ (Below.mono (by assumption) ?_); rotate_left; (first | omega | (simp <;> omega)); rotate_right))))
  simp [results, Try.results78, go_sem, *]
theorem radd_first (d r lo hi a g k h : Int) (w : World) (x : Clk.xOk a g k h = true) (h0 : 0 ≤ d) (h1 : d ≤ 100000) :
    Calls Try.prog 78 #[.agg #[.int .i64 d, .int .i64 r, .bool false, .int .i64 lo, .int .i64 hi], .agg #[.int .i64 a, .int .i64 g, .int .i64 k, .int .i64 h]] w fun e w' => RPost w d r false lo hi a g k h e w' := by
  have V := Lib.hid (fun W : World => x ▸ exch_any a g k h W)
  have X := Lib.hid x
  obtain ⟨x1, x2, x3, x4, x5, x6⟩ := Clk.xOk_iff.1 x
  clear x
  obtain ⟨e1, e2, e3⟩ := rg_eq (lo := g) (hi := g) (d := d) (l := h - a) x4 (by omega) (by omega) h0 h1 (by omega)
  have R := Lib.hid (fun W : World => rgrow_any g g d (h - a) W)
  rw [e1, e2, e3] at R
  clear e1 e2 e3
  go_enter Try.func78, Try.ntmps78
  go_wp2_with fail
  refine (V.out _).mono ?_
  rintro e w1 ⟨rfl, hb⟩
  have hz := hb.size; simp at hz
  have hC1 := blk_below (q := w.heap.size) (by repeat (first | (with_reducible assumption) | ((with_reducible apply blk_far); rotate_left; (first | omega | (simp <;> omega)); rotate_right) | (with_reducible apply blk_drew) | (with_reducible apply blk_drewN) | (with_reducible exact heap_new _ _) | ((with_reducible apply heap_new'); (first | rfl | (simp <;> fail))) | (with_reducible apply blk_alloc))) hb (by first | omega | (simp; done) | (simp; omega)); have hX1 := blk_below (q := w.heap.size + 1) (by repeat (first | (with_reducible assumption) | ((with_reducible apply blk_far); rotate_left; (first | omega | (simp <;> omega)); rotate_right) | (with_reducible apply blk_drew) | (with_reducible apply blk_drewN) | (with_reducible exact heap_new _ _) | ((with_reducible apply heap_new'); (first | rfl | (simp <;> fail))) | (with_reducible apply blk_alloc))) hb (by first | omega | (simp; done) | (simp; omega)); have hR1 := blk_below (q := w.heap.size + 1 + 1) (by repeat (first | (with_reducible assumption) | ((with_reducible apply blk_far); rotate_left; (first | omega | (simp <;> omega)); rotate_right) | (with_reducible apply blk_drew) | (with_reducible apply blk_drewN) | (with_reducible exact heap_new _ _) | ((with_reducible apply heap_new'); (first | rfl | (simp <;> fail))) | (with_reducible apply blk_alloc))) hb (by first | omega | (simp; done) | (simp; omega))
  have cC_0 := blk_cell hC1 0 rfl; have fC_0 := blk_free hC1 0; have cC_1 := blk_cell hC1 1 rfl; have fC_1 := blk_free hC1 1; have cC_2 := blk_cell hC1 2 rfl; have fC_2 := blk_free hC1 2; have cC_3 := blk_cell hC1 3 rfl; have fC_3 := blk_free hC1 3; have cC_4 := blk_cell hC1 4 rfl; have fC_4 := blk_free hC1 4; have lC := lt_of_block hC1
  have cX_0 := blk_cell hX1 0 rfl; have fX_0 := blk_free hX1 0; have cX_1 := blk_cell hX1 1 rfl; have fX_1 := blk_free hX1 1; have cX_2 := blk_cell hX1 2 rfl; have fX_2 := blk_free hX1 2; have cX_3 := blk_cell hX1 3 rfl; have fX_3 := blk_free hX1 3; have lX := lt_of_block hX1
  have cR_0 := blk_cell hR1 0 rfl; have fR_0 := blk_free hR1 0; have cR_1 := blk_cell hR1 1 rfl; have fR_1 := blk_free hR1 1; have cR_2 := blk_cell hR1 2 rfl; have fR_2 := blk_free hR1 2; have cR_3 := blk_cell hR1 3 rfl; have fR_3 := blk_free hR1 3; have cR_4 := blk_cell hR1 4 rfl; have fR_4 := blk_free hR1 4; have lR := lt_of_block hR1
  go_wp2_with fail
  refine (R.out _).mono ?_
  rintro e w2 ⟨rfl, hb2⟩
  have hz2 := hb2.size; try simp at hz2
  have hC2 := blk_below (q := w.heap.size) (by repeat (first | (with_reducible assumption) | ((with_reducible apply blk_far); rotate_left; (first | omega | (simp <;> omega)); rotate_right) | (with_reducible apply blk_drew) | (with_reducible apply blk_drewN) | (with_reducible exact heap_new _ _) | ((with_reducible apply heap_new'); (first | rfl | (simp <;> fail))) | (with_reducible apply blk_alloc))) hb2 (by first | omega | (simp; done) | (simp; omega))
  have hX2 := blk_below (q := w.heap.size + 1) (by repeat (first | (with_reducible assumption) | ((with_reducible apply blk_far); rotate_left; (first | omega | (simp <;> omega)); rotate_right) | (with_reducible apply blk_drew) | (with_reducible apply blk_drewN) | (with_reducible exact heap_new _ _) | ((with_reducible apply heap_new'); (first | rfl | (simp <;> fail))) | (with_reducible apply blk_alloc))) hb2 (by first | omega | (simp; done) | (simp; omega))
  have hR2 := blk_below (q := w.heap.size + 1 + 1) (by repeat (first | (with_reducible assumption) | ((with_reducible apply blk_far); rotate_left; (first | omega | (simp <;> omega)); rotate_right) | (with_reducible apply blk_drew) | (with_reducible apply blk_drewN) | (with_reducible exact heap_new _ _) | ((with_reducible apply heap_new'); (first | rfl | (simp <;> fail))) | (with_reducible apply blk_alloc))) hb2 (by first | omega | (simp; done) | (simp; omega))
  have hN2 := blk_below (q := w1.heap.size) (by repeat (first | (with_reducible assumption) | ((with_reducible apply blk_far); rotate_left; (first | omega | (simp <;> omega)); rotate_right) | (with_reducible apply blk_drew) | (with_reducible apply blk_drewN) | (with_reducible exact heap_new _ _) | ((with_reducible apply heap_new'); (first | rfl | (simp <;> fail))) | (with_reducible apply blk_alloc))) hb2 (by first | omega | (simp; done) | (simp; omega))
  have cC2_0 := blk_cell hC2 0 rfl; have fC2_0 := blk_free hC2 0; have cC2_1 := blk_cell hC2 1 rfl; have fC2_1 := blk_free hC2 1; have cC2_2 := blk_cell hC2 2 rfl; have fC2_2 := blk_free hC2 2; have cC2_3 := blk_cell hC2 3 rfl; have fC2_3 := blk_free hC2 3; have cC2_4 := blk_cell hC2 4 rfl; have fC2_4 := blk_free hC2 4; have lC2 := lt_of_block hC2
  have cX2_0 := blk_cell hX2 0 rfl; have fX2_0 := blk_free hX2 0; have cX2_1 := blk_cell hX2 1 rfl; have fX2_1 := blk_free hX2 1; have cX2_2 := blk_cell hX2 2 rfl; have fX2_2 := blk_free hX2 2; have cX2_3 := blk_cell hX2 3 rfl; have fX2_3 := blk_free hX2 3; have lX2 := lt_of_block hX2
  have cR2_0 := blk_cell hR2 0 rfl; have fR2_0 := blk_free hR2 0; have cR2_1 := blk_cell hR2 1 rfl; have fR2_1 := blk_free hR2 1; have cR2_2 := blk_cell hR2 2 rfl; have fR2_2 := blk_free hR2 2; have cR2_3 := blk_cell hR2 3 rfl; have fR2_3 := blk_free hR2 3; have cR2_4 := blk_cell hR2 4 rfl; have fR2_4 := blk_free hR2 4; have lR2 := lt_of_block hR2
  have cN2_0 := blk_cell hN2 0 rfl; have fN2_0 := blk_free hN2 0; have cN2_1 := blk_cell hN2 1 rfl; have fN2_1 := blk_free hN2 1; have lN2 := lt_of_block hN2
  go_wp2_with fail
  · obtain ⟨e1, e2⟩ := Clk.first_said (d := d) (r := r) (lo := lo) (hi := hi) (a := a) (g := g) (k := k) (h := h) X.out (by with_reducible assumption)
    refine bodyPost_ret (v := .tuple #[.agg #[.int .i64 d, .int .i64 r, .bool false, .int .i64 lo, .int .i64 hi], .int .i64 (Clk.rE g d (h - a))]) ?_ rfl (rpost_err e1 e2 (by repeat (first | (with_reducible exact Below.refl _ _) | (with_reducible refine Below.drew ?_) | (with_reducible refine below_drewN ?_ _) | ((with_reducible refine Below.alloc ?_ ?_ _); rotate_left; (first | omega | (simp <;> omega)); rotate_right) | ((with_reducible refine Below.setCell ?_ ?_ _); rotate_left; (first | omega | (simp <;> omega)); rotate_right) | (with_reducible assumption) | (refine Below.trans ?_ (Below.mono (by assumption) ?_); rotate_left; (first | omega | (simp <;> omega)); rotate_right))))
    simp [results, Try.results78, go_sem, *]
  · have e1 := Clk.first_check (d := d) (r := r) (lo := lo) (hi := hi) (a := a) (g := g) (k := k) (h := h) X.out (by with_reducible assumption) (by with_reducible assumption)
    refine bodyPost_ret (v := .tuple #[.agg #[.int .i64 d, .int .i64 r, .bool false, .int .i64 lo, .int .i64 hi], .int .i64 10]) ?_ rfl (rpost_err e1 (by decide) (by repeat (first | (with_reducible exact Below.refl _ _) | (with_reducible refine Below.drew ?_) | (with_reducible refine below_drewN ?_ _) | ((with_reducible refine Below.alloc ?_ ?_ _); rotate_left; (first | omega | (simp <;> omega)); rotate_right) | ((with_reducible refine Below.setCell ?_ ?_ _); rotate_left; (first | omega | (simp <;> omega)); rotate_right) | (with_reducible assumption) | (refine Below.trans ?_ (Below.mono (by assumption) ?_); rotate_left; (first | omega | (simp <;> omega)); rotate_right))))
    simp [results, Try.results78, go_sem, *]
  · have z : (Clk.rE g d (h - a) != 0) = false := by with_reducible assumption
    have v : k ≤ Clk.rHi g d (h - a) := by with_reducible assumption
    have E1 := Lib.hid (Clk.first_ok (d := d) (r := r) (lo := lo) (hi := hi) (a := a) (g := g) (k := k) (h := h) X.out z v)
    have z' : Clk.rE g d (h - a) = 0 := by simpa using z
    obtain ⟨_, _, o, _, _⟩ := Clk.r_ok (lo := g) z' (by omega) (by omega) (by omega) h0 h1
    obtain ⟨m1, m2, m3⟩ := meet_first (k := k) (H := Clk.rHi g d (h - a)) (by omega) v o
    have MM := Lib.hid (fun W : World => rMeet_any (-1073741824) 1073741824 k (Clk.rHi g d (h - a)) W)
    rw [m1, m2, m3] at MM
    clear m1 m2 m3 z'
    refine (MM.out _).mono ?_
    rintro e w3 ⟨rfl, hb3⟩
    have hz3 := hb3.size; simp at hz3
    have hC3 := blk_below (q := w.heap.size) (by repeat (first | (with_reducible assumption) | ((with_reducible apply blk_far); rotate_left; (first | omega | (simp <;> omega)); rotate_right) | (with_reducible apply blk_drew) | (with_reducible apply blk_drewN) | (with_reducible exact heap_new _ _) | ((with_reducible apply heap_new'); (first | rfl | (simp <;> fail))) | (with_reducible apply blk_alloc))) hb3 (by first | omega | (simp; done) | (simp; omega))
    have hX3 := blk_below (q := w.heap.size + 1) (by repeat (first | (with_reducible assumption) | ((with_reducible apply blk_far); rotate_left; (first | omega | (simp <;> omega)); rotate_right) | (with_reducible apply blk_drew) | (with_reducible apply blk_drewN) | (with_reducible exact heap_new _ _) | ((with_reducible apply heap_new'); (first | rfl | (simp <;> fail))) | (with_reducible apply blk_alloc))) hb3 (by first | omega | (simp; done) | (simp; omega))
    have hR3 := blk_below (q := w.heap.size + 1 + 1) (by repeat (first | (with_reducible assumption) | ((with_reducible apply blk_far); rotate_left; (first | omega | (simp <;> omega)); rotate_right) | (with_reducible apply blk_drew) | (with_reducible apply blk_drewN) | (with_reducible exact heap_new _ _) | ((with_reducible apply heap_new'); (first | rfl | (simp <;> fail))) | (with_reducible apply blk_alloc))) hb3 (by first | omega | (simp; done) | (simp; omega))
    have hy1 : w.heap.size < w3.heap.size := by omega
    have hy2 : w.heap.size + 1 < w3.heap.size := by omega
    have hy3 : w.heap.size + 1 + 1 < w3.heap.size := by omega
    have cC3_0 := blk_cell hC3 0 rfl; have fC3_0 := blk_free hC3 0; have cC3_1 := blk_cell hC3 1 rfl; have fC3_1 := blk_free hC3 1; have cC3_2 := blk_cell hC3 2 rfl; have fC3_2 := blk_free hC3 2; have cC3_3 := blk_cell hC3 3 rfl; have fC3_3 := blk_free hC3 3; have cC3_4 := blk_cell hC3 4 rfl; have fC3_4 := blk_free hC3 4; have lC3 := lt_of_block hC3
    have cX3_0 := blk_cell hX3 0 rfl; have fX3_0 := blk_free hX3 0; have cX3_1 := blk_cell hX3 1 rfl; have fX3_1 := blk_free hX3 1; have cX3_2 := blk_cell hX3 2 rfl; have fX3_2 := blk_free hX3 2; have cX3_3 := blk_cell hX3 3 rfl; have fX3_3 := blk_free hX3 3; have lX3 := lt_of_block hX3
    have cR3_0 := blk_cell hR3 0 rfl; have fR3_0 := blk_free hR3 0; have cR3_1 := blk_cell hR3 1 rfl; have fR3_1 := blk_free hR3 1; have cR3_2 := blk_cell hR3 2 rfl; have fR3_2 := blk_free hR3 2; have cR3_3 := blk_cell hR3 3 rfl; have fR3_3 := blk_free hR3 3; have cR3_4 := blk_cell hR3 4 rfl; have fR3_4 := blk_free hR3 4; have lR3 := lt_of_block hR3
    go_wp2_with fail
    refine bodyPost_ret (v := .tuple #[.agg #[.int .i64 d, .int .i64 h, .bool true, .int .i64 k, .int .i64 (Clk.rHi g d (h - a))], .int .i64 0]) ?_ rfl (rpost_ok E1.out rfl rfl (by repeat (first | (with_reducible exact Below.refl _ _) | (with_reducible refine Below.drew ?_) | (with_reducible refine below_drewN ?_ _) | ((with_reducible refine Below.alloc ?_ ?_ _); rotate_left; (first | omega | (simp <;> omega)); rotate_right) | ((with_reducible refine Below.setCell ?_ ?_ _); rotate_left; (first | omega | (simp <;> omega)); rotate_right) | (with_reducible assumption) | (refine Below.trans ?_ (Below.mono (by assumption) ?_); rotate_left; (first | omega | (simp <;> omega)); rotate_right))))
    simp [results, Try.results78, go_sem, *]
theorem meet_next {A B k H : Int} (l0 : 0 ≤ A) (l1 : A ≤ B) (l2 : B ≤ 1073741824) (k0 : 0 ≤ k) (v : k ≤ H) (hH : H ≤ 1073741824) :
    (min B H < max A k → mLo A B k H = 0 ∧ mHi A B k H = 0 ∧ mE A B k H = 10) ∧ (max A k ≤ min B H → mLo A B k H = max A k ∧ mHi A B k H = min B H ∧ mE A B k H = 0) := by
  have h : mOk A B k H = true := by simp [mOk, Clk.vB_iff]; omega
  exact ⟨m_check h, m_ok h⟩
theorem radd_next (d r lo hi a g k h : Int) (w : World) (x : Clk.xOk a g k h = true) (c : Clk.CInv d r lo hi) (l0 : 0 ≤ lo) (y : r ≤ h) :
    Calls Try.prog 78 #[.agg #[.int .i64 d, .int .i64 r, .bool true, .int .i64 lo, .int .i64 hi], .agg #[.int .i64 a, .int .i64 g, .int .i64 k, .int .i64 h]] w fun e w' => RPost w d r true lo hi a g k h e w' := by
  obtain ⟨h0, h1, r0, r1, _, l1, l2⟩ := c
  have V := Lib.hid (fun W : World => x ▸ exch_any a g k h W)
  have X := Lib.hid x
  obtain ⟨x1, x2, x3, x4, x5, x6⟩ := Clk.xOk_iff.1 x
  clear x
  obtain ⟨e1, e2, e3⟩ := rg_eq (lo := g) (hi := g) (d := d) (l := h - a) x4 (by omega) (by omega) h0 h1 (by omega)
  have R := Lib.hid (fun W : World => rgrow_any g g d (h - a) W)
  rw [e1, e2, e3] at R
  clear e1 e2 e3
  obtain ⟨e1, e2, e3⟩ := rg_eq (lo := lo) (hi := hi) (d := d) (l := h - r) l0 l1 l2 h0 h1 (by omega)
  have RN := Lib.hid (fun W : World => rgrow_any lo hi d (h - r) W)
  rw [e1, e2, e3] at RN
  clear e1 e2 e3
  go_enter Try.func78, Try.ntmps78
  go_wp2_with fail
  refine (V.out _).mono ?_
  rintro e w1 ⟨rfl, hb⟩
  have hz := hb.size; simp at hz
  have hC1 := blk_below (q := w.heap.size) (by repeat (first | (with_reducible assumption) | ((with_reducible apply blk_far); rotate_left; (first | omega | (simp <;> omega)); rotate_right) | (with_reducible apply blk_drew) | (with_reducible apply blk_drewN) | (with_reducible exact heap_new _ _) | ((with_reducible apply heap_new'); (first | rfl | (simp <;> fail))) | (with_reducible apply blk_alloc))) hb (by first | omega | (simp; done) | (simp; omega)); have hX1 := blk_below (q := w.heap.size + 1) (by repeat (first | (with_reducible assumption) | ((with_reducible apply blk_far); rotate_left; (first | omega | (simp <;> omega)); rotate_right) | (with_reducible apply blk_drew) | (with_reducible apply blk_drewN) | (with_reducible exact heap_new _ _) | ((with_reducible apply heap_new'); (first | rfl | (simp <;> fail))) | (with_reducible apply blk_alloc))) hb (by first | omega | (simp; done) | (simp; omega)); have hR1 := blk_below (q := w.heap.size + 1 + 1) (by repeat (first | (with_reducible assumption) | ((with_reducible apply blk_far); rotate_left; (first | omega | (simp <;> omega)); rotate_right) | (with_reducible apply blk_drew) | (with_reducible apply blk_drewN) | (with_reducible exact heap_new _ _) | ((with_reducible apply heap_new'); (first | rfl | (simp <;> fail))) | (with_reducible apply blk_alloc))) hb (by first | omega | (simp; done) | (simp; omega))
  have cC_0 := blk_cell hC1 0 rfl; have fC_0 := blk_free hC1 0; have cC_1 := blk_cell hC1 1 rfl; have fC_1 := blk_free hC1 1; have cC_2 := blk_cell hC1 2 rfl; have fC_2 := blk_free hC1 2; have cC_3 := blk_cell hC1 3 rfl; have fC_3 := blk_free hC1 3; have cC_4 := blk_cell hC1 4 rfl; have fC_4 := blk_free hC1 4; have lC := lt_of_block hC1
  have cX_0 := blk_cell hX1 0 rfl; have fX_0 := blk_free hX1 0; have cX_1 := blk_cell hX1 1 rfl; have fX_1 := blk_free hX1 1; have cX_2 := blk_cell hX1 2 rfl; have fX_2 := blk_free hX1 2; have cX_3 := blk_cell hX1 3 rfl; have fX_3 := blk_free hX1 3; have lX := lt_of_block hX1
  have cR_0 := blk_cell hR1 0 rfl; have fR_0 := blk_free hR1 0; have cR_1 := blk_cell hR1 1 rfl; have fR_1 := blk_free hR1 1; have cR_2 := blk_cell hR1 2 rfl; have fR_2 := blk_free hR1 2; have cR_3 := blk_cell hR1 3 rfl; have fR_3 := blk_free hR1 3; have cR_4 := blk_cell hR1 4 rfl; have fR_4 := blk_free hR1 4; have lR := lt_of_block hR1
  go_wp2_with fail
  refine (RN.out _).mono ?_
  rintro e w4 ⟨rfl, hb4⟩
  have hz4 := hb4.size; try simp at hz4
  have hC4 := blk_below (q := w.heap.size) (by repeat (first | (with_reducible assumption) | ((with_reducible apply blk_far); rotate_left; (first | omega | (simp <;> omega)); rotate_right) | (with_reducible apply blk_drew) | (with_reducible apply blk_drewN) | (with_reducible exact heap_new _ _) | ((with_reducible apply heap_new'); (first | rfl | (simp <;> fail))) | (with_reducible apply blk_alloc))) hb4 (by first | omega | (simp; done) | (simp; omega))
  have hX4 := blk_below (q := w.heap.size + 1) (by repeat (first | (with_reducible assumption) | ((with_reducible apply blk_far); rotate_left; (first | omega | (simp <;> omega)); rotate_right) | (with_reducible apply blk_drew) | (with_reducible apply blk_drewN) | (with_reducible exact heap_new _ _) | ((with_reducible apply heap_new'); (first | rfl | (simp <;> fail))) | (with_reducible apply blk_alloc))) hb4 (by first | omega | (simp; done) | (simp; omega))
  have hR4 := blk_below (q := w.heap.size + 1 + 1) (by repeat (first | (with_reducible assumption) | ((with_reducible apply blk_far); rotate_left; (first | omega | (simp <;> omega)); rotate_right) | (with_reducible apply blk_drew) | (with_reducible apply blk_drewN) | (with_reducible exact heap_new _ _) | ((with_reducible apply heap_new'); (first | rfl | (simp <;> fail))) | (with_reducible apply blk_alloc))) hb4 (by first | omega | (simp; done) | (simp; omega))
  have hN4 := blk_below (q := w1.heap.size) (by repeat (first | (with_reducible assumption) | ((with_reducible apply blk_far); rotate_left; (first | omega | (simp <;> omega)); rotate_right) | (with_reducible apply blk_drew) | (with_reducible apply blk_drewN) | (with_reducible exact heap_new _ _) | ((with_reducible apply heap_new'); (first | rfl | (simp <;> fail))) | (with_reducible apply blk_alloc))) hb4 (by first | omega | (simp; done) | (simp; omega))
  have hv1 : w.heap.size < w4.heap.size := by omega
  have hv2 : w.heap.size + 1 < w4.heap.size := by omega
  have hv3 : w.heap.size + 1 + 1 < w4.heap.size := by omega
  have cC4_0 := blk_cell hC4 0 rfl; have fC4_0 := blk_free hC4 0; have cC4_1 := blk_cell hC4 1 rfl; have fC4_1 := blk_free hC4 1; have cC4_2 := blk_cell hC4 2 rfl; have fC4_2 := blk_free hC4 2; have cC4_3 := blk_cell hC4 3 rfl; have fC4_3 := blk_free hC4 3; have cC4_4 := blk_cell hC4 4 rfl; have fC4_4 := blk_free hC4 4; have lC4 := lt_of_block hC4
  have cX4_0 := blk_cell hX4 0 rfl; have fX4_0 := blk_free hX4 0; have cX4_1 := blk_cell hX4 1 rfl; have fX4_1 := blk_free hX4 1; have cX4_2 := blk_cell hX4 2 rfl; have fX4_2 := blk_free hX4 2; have cX4_3 := blk_cell hX4 3 rfl; have fX4_3 := blk_free hX4 3; have lX4 := lt_of_block hX4
  have cR4_0 := blk_cell hR4 0 rfl; have fR4_0 := blk_free hR4 0; have cR4_1 := blk_cell hR4 1 rfl; have fR4_1 := blk_free hR4 1; have cR4_2 := blk_cell hR4 2 rfl; have fR4_2 := blk_free hR4 2; have cR4_3 := blk_cell hR4 3 rfl; have fR4_3 := blk_free hR4 3; have cR4_4 := blk_cell hR4 4 rfl; have fR4_4 := blk_free hR4 4; have lR4 := lt_of_block hR4
  have cN4_0 := blk_cell hN4 0 rfl; have fN4_0 := blk_free hN4 0; have cN4_1 := blk_cell hN4 1 rfl; have fN4_1 := blk_free hN4 1; have lN4 := lt_of_block hN4
  go_wp2_with fail
  · obtain ⟨e1, e2⟩ := Clk.next_old (d := d) (r := r) (lo := lo) (hi := hi) (a := a) (g := g) (k := k) (h := h) X.out y (by with_reducible assumption)
    refine bodyPost_ret (v := .tuple #[.agg #[.int .i64 d, .int .i64 r, .bool true, .int .i64 lo, .int .i64 hi], .int .i64 (Clk.rE hi d (h - r))]) ?_ rfl (rpost_err e1 e2 (by repeat (first | (with_reducible exact Below.refl _ _) | (with_reducible refine Below.drew ?_) | (with_reducible refine below_drewN ?_ _) | ((with_reducible refine Below.alloc ?_ ?_ _); rotate_left; (first | omega | (simp <;> omega)); rotate_right) | ((with_reducible refine Below.setCell ?_ ?_ _); rotate_left; (first | omega | (simp <;> omega)); rotate_right) | (with_reducible assumption) | (refine Below.trans ?_ (Below.mono (by assumption) ?_); rotate_left; (first | omega | (simp <;> omega)); rotate_right))))
    simp [results, Try.results78, go_sem, *]
  have u : (Clk.rE hi d (h - r) != 0) = false := by with_reducible assumption
  have u' : Clk.rE hi d (h - r) = 0 := by simpa using u
  obtain ⟨o1, o2, o3, o4, o5⟩ := Clk.r_ok (lo := lo) u' (by omega) (by omega) (by omega) h0 h1
  have U := Lib.hid u
  clear u'
  refine (R.out _).mono ?_
  rintro e w2 ⟨rfl, hb2⟩
  have hz2 := hb2.size; try simp at hz2
  have hC2 := blk_below (q := w.heap.size) (by repeat (first | (with_reducible assumption) | ((with_reducible apply blk_far); rotate_left; (first | omega | (simp <;> omega)); rotate_right) | (with_reducible apply blk_drew) | (with_reducible apply blk_drewN) | (with_reducible exact heap_new _ _) | ((with_reducible apply heap_new'); (first | rfl | (simp <;> fail))) | (with_reducible apply blk_alloc))) hb2 (by first | omega | (simp; done) | (simp; omega))
  have hX2 := blk_below (q := w.heap.size + 1) (by repeat (first | (with_reducible assumption) | ((with_reducible apply blk_far); rotate_left; (first | omega | (simp <;> omega)); rotate_right) | (with_reducible apply blk_drew) | (with_reducible apply blk_drewN) | (with_reducible exact heap_new _ _) | ((with_reducible apply heap_new'); (first | rfl | (simp <;> fail))) | (with_reducible apply blk_alloc))) hb2 (by first | omega | (simp; done) | (simp; omega))
  have hR2 := blk_below (q := w.heap.size + 1 + 1) (by repeat (first | (with_reducible assumption) | ((with_reducible apply blk_far); rotate_left; (first | omega | (simp <;> omega)); rotate_right) | (with_reducible apply blk_drew) | (with_reducible apply blk_drewN) | (with_reducible exact heap_new _ _) | ((with_reducible apply heap_new'); (first | rfl | (simp <;> fail))) | (with_reducible apply blk_alloc))) hb2 (by first | omega | (simp; done) | (simp; omega))
  have hN2 := blk_below (q := w1.heap.size) (x := .cells #[.int .i64 (Clk.rLo lo hi d (h - r)), .int .i64 (Clk.rHi hi d (h - r))] 47 (0, 0)) (by apply Eq.trans; (repeat (first | (with_reducible assumption) | (with_reducible apply blk_set) | ((with_reducible apply blk_far); rotate_left; (first | omega | (simp <;> omega)); rotate_right) | (with_reducible apply blk_drew) | (with_reducible apply blk_drewN) | ((with_reducible apply heap_new'); (first | rfl | (simp <;> fail))) | (with_reducible apply blk_alloc))); (first | with_reducible rfl | (simp <;> fail) | rfl)) hb2 (by first | omega | (simp; done) | (simp; omega))
  have ht1 : w.heap.size < w2.heap.size := by omega
  have ht2 : w.heap.size + 1 < w2.heap.size := by omega
  have ht3 : w.heap.size + 1 + 1 < w2.heap.size := by omega
  have ht4 : w1.heap.size < w2.heap.size := by omega
  have cC2_0 := blk_cell hC2 0 rfl; have fC2_0 := blk_free hC2 0; have cC2_1 := blk_cell hC2 1 rfl; have fC2_1 := blk_free hC2 1; have cC2_2 := blk_cell hC2 2 rfl; have fC2_2 := blk_free hC2 2; have cC2_3 := blk_cell hC2 3 rfl; have fC2_3 := blk_free hC2 3; have cC2_4 := blk_cell hC2 4 rfl; have fC2_4 := blk_free hC2 4; have lC2 := lt_of_block hC2
  have cX2_0 := blk_cell hX2 0 rfl; have fX2_0 := blk_free hX2 0; have cX2_1 := blk_cell hX2 1 rfl; have fX2_1 := blk_free hX2 1; have cX2_2 := blk_cell hX2 2 rfl; have fX2_2 := blk_free hX2 2; have cX2_3 := blk_cell hX2 3 rfl; have fX2_3 := blk_free hX2 3; have lX2 := lt_of_block hX2
  have cR2_0 := blk_cell hR2 0 rfl; have fR2_0 := blk_free hR2 0; have cR2_1 := blk_cell hR2 1 rfl; have fR2_1 := blk_free hR2 1; have cR2_2 := blk_cell hR2 2 rfl; have fR2_2 := blk_free hR2 2; have cR2_3 := blk_cell hR2 3 rfl; have fR2_3 := blk_free hR2 3; have cR2_4 := blk_cell hR2 4 rfl; have fR2_4 := blk_free hR2 4; have lR2 := lt_of_block hR2
  have cN2_0 := blk_cell hN2 0 rfl; have fN2_0 := blk_free hN2 0; have cN2_1 := blk_cell hN2 1 rfl; have fN2_1 := blk_free hN2 1; have lN2 := lt_of_block hN2
  go_wp2_with fail
  · obtain ⟨e1, e2⟩ := Clk.next_said (d := d) (r := r) (lo := lo) (hi := hi) (a := a) (g := g) (k := k) (h := h) X.out y U.out (by with_reducible assumption)
    refine bodyPost_ret (v := .tuple #[.agg #[.int .i64 d, .int .i64 r, .bool true, .int .i64 lo, .int .i64 hi], .int .i64 (Clk.rE g d (h - a))]) ?_ rfl (rpost_err e1 e2 (by repeat (first | (with_reducible exact Below.refl _ _) | (with_reducible refine Below.drew ?_) | (with_reducible refine below_drewN ?_ _) | ((with_reducible refine Below.alloc ?_ ?_ _); rotate_left; (first | omega | (simp <;> omega)); rotate_right) | ((with_reducible refine Below.setCell ?_ ?_ _); rotate_left; (first | omega | (simp <;> omega)); rotate_right) | (with_reducible assumption) | (refine Below.trans ?_ (Below.mono (by assumption) ?_); rotate_left; (first | omega | (simp <;> omega)); rotate_right))))
    simp [results, Try.results78, go_sem, *]
  · have v : Clk.rHi g d (h - a) < k := by with_reducible assumption
    have e1 := Clk.next_check (d := d) (r := r) (lo := lo) (hi := hi) (a := a) (g := g) (k := k) (h := h) X.out y U.out (by with_reducible assumption) (by omega)
    refine bodyPost_ret (v := .tuple #[.agg #[.int .i64 d, .int .i64 r, .bool true, .int .i64 lo, .int .i64 hi], .int .i64 10]) ?_ rfl (rpost_err e1 (by decide) (by repeat (first | (with_reducible exact Below.refl _ _) | (with_reducible refine Below.drew ?_) | (with_reducible refine below_drewN ?_ _) | ((with_reducible refine Below.alloc ?_ ?_ _); rotate_left; (first | omega | (simp <;> omega)); rotate_right) | ((with_reducible refine Below.setCell ?_ ?_ _); rotate_left; (first | omega | (simp <;> omega)); rotate_right) | (with_reducible assumption) | (refine Below.trans ?_ (Below.mono (by assumption) ?_); rotate_left; (first | omega | (simp <;> omega)); rotate_right))))
    simp [results, Try.results78, go_sem, *]
  · have z : (Clk.rE g d (h - a) != 0) = false := by with_reducible assumption
    have v : k ≤ Clk.rHi g d (h - a) := by with_reducible assumption
    have z' : Clk.rE g d (h - a) = 0 := by simpa using z
    obtain ⟨_, _, oo, _, _⟩ := Clk.r_ok (lo := g) z' (by omega) (by omega) (by omega) h0 h1
    obtain ⟨n1, n2⟩ := meet_next (A := Clk.rLo lo hi d (h - r)) (B := Clk.rHi hi d (h - r)) (k := k) (H := Clk.rHi g d (h - a)) (by omega) o2 o3 (by omega) v oo
    clear z'
    rcases Int.lt_or_le (min (Clk.rHi hi d (h - r)) (Clk.rHi g d (h - a))) (max (Clk.rLo lo hi d (h - r)) k) with hv | hv
    · have E1 := Lib.hid (Clk.next_check (d := d) (r := r) (lo := lo) (hi := hi) (a := a) (g := g) (k := k) (h := h) X.out y U.out z hv)
      obtain ⟨m1, m2, m3⟩ := n1 hv
      have MM := Lib.hid (fun W : World => rMeet_any (Clk.rLo lo hi d (h - r)) (Clk.rHi hi d (h - r)) k (Clk.rHi g d (h - a)) W)
      rw [m1, m2, m3] at MM
      clear m1 m2 m3 n1 n2
      refine (MM.out _).mono ?_
      rintro e w3 ⟨rfl, hb3⟩
      have hz3 := hb3.size; simp at hz3
      have hC3 := blk_below (q := w.heap.size) (by repeat (first | (with_reducible assumption) | ((with_reducible apply blk_far); rotate_left; (first | omega | (simp <;> omega)); rotate_right) | (with_reducible apply blk_drew) | (with_reducible apply blk_drewN) | (with_reducible exact heap_new _ _) | ((with_reducible apply heap_new'); (first | rfl | (simp <;> fail))) | (with_reducible apply blk_alloc))) hb3 (by first | omega | (simp; done) | (simp; omega))
      have hX3 := blk_below (q := w.heap.size + 1) (by repeat (first | (with_reducible assumption) | ((with_reducible apply blk_far); rotate_left; (first | omega | (simp <;> omega)); rotate_right) | (with_reducible apply blk_drew) | (with_reducible apply blk_drewN) | (with_reducible exact heap_new _ _) | ((with_reducible apply heap_new'); (first | rfl | (simp <;> fail))) | (with_reducible apply blk_alloc))) hb3 (by first | omega | (simp; done) | (simp; omega))
      have hR3 := blk_below (q := w.heap.size + 1 + 1) (by repeat (first | (with_reducible assumption) | ((with_reducible apply blk_far); rotate_left; (first | omega | (simp <;> omega)); rotate_right) | (with_reducible apply blk_drew) | (with_reducible apply blk_drewN) | (with_reducible exact heap_new _ _) | ((with_reducible apply heap_new'); (first | rfl | (simp <;> fail))) | (with_reducible apply blk_alloc))) hb3 (by first | omega | (simp; done) | (simp; omega))
      have hy1 : w.heap.size < w3.heap.size := by omega
      have hy2 : w.heap.size + 1 < w3.heap.size := by omega
      have hy3 : w.heap.size + 1 + 1 < w3.heap.size := by omega
      have cC3_0 := blk_cell hC3 0 rfl; have fC3_0 := blk_free hC3 0; have cC3_1 := blk_cell hC3 1 rfl; have fC3_1 := blk_free hC3 1; have cC3_2 := blk_cell hC3 2 rfl; have fC3_2 := blk_free hC3 2; have cC3_3 := blk_cell hC3 3 rfl; have fC3_3 := blk_free hC3 3; have cC3_4 := blk_cell hC3 4 rfl; have fC3_4 := blk_free hC3 4; have lC3 := lt_of_block hC3
      have cX3_0 := blk_cell hX3 0 rfl; have fX3_0 := blk_free hX3 0; have cX3_1 := blk_cell hX3 1 rfl; have fX3_1 := blk_free hX3 1; have cX3_2 := blk_cell hX3 2 rfl; have fX3_2 := blk_free hX3 2; have cX3_3 := blk_cell hX3 3 rfl; have fX3_3 := blk_free hX3 3; have lX3 := lt_of_block hX3
      have cR3_0 := blk_cell hR3 0 rfl; have fR3_0 := blk_free hR3 0; have cR3_1 := blk_cell hR3 1 rfl; have fR3_1 := blk_free hR3 1; have cR3_2 := blk_cell hR3 2 rfl; have fR3_2 := blk_free hR3 2; have cR3_3 := blk_cell hR3 3 rfl; have fR3_3 := blk_free hR3 3; have cR3_4 := blk_cell hR3 4 rfl; have fR3_4 := blk_free hR3 4; have lR3 := lt_of_block hR3
      go_wp2_with fail
      refine bodyPost_ret (v := .tuple #[.agg #[.int .i64 d, .int .i64 r, .bool true, .int .i64 lo, .int .i64 hi], .int .i64 10]) ?_ rfl (rpost_err E1.out (by decide) (by repeat (first | (with_reducible exact Below.refl _ _) | (with_reducible refine Below.drew ?_) | (with_reducible refine below_drewN ?_ _) | ((with_reducible refine Below.alloc ?_ ?_ _); rotate_left; (first | omega | (simp <;> omega)); rotate_right) | ((with_reducible refine Below.setCell ?_ ?_ _); rotate_left; (first | omega | (simp <;> omega)); rotate_right) | (with_reducible assumption) | (refine Below.trans ?_ (Below.mono (by assumption) ?_); rotate_left; (first | omega | (simp <;> omega)); rotate_right))))
      simp [results, Try.results78, go_sem, *]
    · have E1 := Lib.hid (Clk.next_ok (d := d) (r := r) (lo := lo) (hi := hi) (a := a) (g := g) (k := k) (h := h) X.out y U.out z hv)
      have e4 := Lib.hid (show Clk.nLo d r true lo hi k h = max (Clk.rLo lo hi d (h - r)) k by rw [Clk.nLo, if_pos rfl])
      have e5 := Lib.hid (show Clk.nHi d r true hi a g h = min (Clk.rHi hi d (h - r)) (Clk.rHi g d (h - a)) by rw [Clk.nHi, if_pos rfl])
      obtain ⟨m1, m2, m3⟩ := n2 hv
      have MM := Lib.hid (fun W : World => rMeet_any (Clk.rLo lo hi d (h - r)) (Clk.rHi hi d (h - r)) k (Clk.rHi g d (h - a)) W)
      rw [m1, m2, m3] at MM
      clear m1 m2 m3 n1 n2
      generalize max (Clk.rLo lo hi d (h - r)) k = mx at MM e4
      generalize min (Clk.rHi hi d (h - r)) (Clk.rHi g d (h - a)) = mn at MM e5
      refine (MM.out _).mono ?_
      rintro e w3 ⟨rfl, hb3⟩
      have hz3 := hb3.size; simp at hz3
      have hC3 := blk_below (q := w.heap.size) (by repeat (first | (with_reducible assumption) | ((with_reducible apply blk_far); rotate_left; (first | omega | (simp <;> omega)); rotate_right) | (with_reducible apply blk_drew) | (with_reducible apply blk_drewN) | (with_reducible exact heap_new _ _) | ((with_reducible apply heap_new'); (first | rfl | (simp <;> fail))) | (with_reducible apply blk_alloc))) hb3 (by first | omega | (simp; done) | (simp; omega))
      have hX3 := blk_below (q := w.heap.size + 1) (by repeat (first | (with_reducible assumption) | ((with_reducible apply blk_far); rotate_left; (first | omega | (simp <;> omega)); rotate_right) | (with_reducible apply blk_drew) | (with_reducible apply blk_drewN) | (with_reducible exact heap_new _ _) | ((with_reducible apply heap_new'); (first | rfl | (simp <;> fail))) | (with_reducible apply blk_alloc))) hb3 (by first | omega | (simp; done) | (simp; omega))
      have hR3 := blk_below (q := w.heap.size + 1 + 1) (by repeat (first | (with_reducible assumption) | ((with_reducible apply blk_far); rotate_left; (first | omega | (simp <;> omega)); rotate_right) | (with_reducible apply blk_drew) | (with_reducible apply blk_drewN) | (with_reducible exact heap_new _ _) | ((with_reducible apply heap_new'); (first | rfl | (simp <;> fail))) | (with_reducible apply blk_alloc))) hb3 (by first | omega | (simp; done) | (simp; omega))
      have hy1 : w.heap.size < w3.heap.size := by omega
      have hy2 : w.heap.size + 1 < w3.heap.size := by omega
      have hy3 : w.heap.size + 1 + 1 < w3.heap.size := by omega
      have cC3_0 := blk_cell hC3 0 rfl; have fC3_0 := blk_free hC3 0; have cC3_1 := blk_cell hC3 1 rfl; have fC3_1 := blk_free hC3 1; have cC3_2 := blk_cell hC3 2 rfl; have fC3_2 := blk_free hC3 2; have cC3_3 := blk_cell hC3 3 rfl; have fC3_3 := blk_free hC3 3; have cC3_4 := blk_cell hC3 4 rfl; have fC3_4 := blk_free hC3 4; have lC3 := lt_of_block hC3
      have cX3_0 := blk_cell hX3 0 rfl; have fX3_0 := blk_free hX3 0; have cX3_1 := blk_cell hX3 1 rfl; have fX3_1 := blk_free hX3 1; have cX3_2 := blk_cell hX3 2 rfl; have fX3_2 := blk_free hX3 2; have cX3_3 := blk_cell hX3 3 rfl; have fX3_3 := blk_free hX3 3; have lX3 := lt_of_block hX3
      have cR3_0 := blk_cell hR3 0 rfl; have fR3_0 := blk_free hR3 0; have cR3_1 := blk_cell hR3 1 rfl; have fR3_1 := blk_free hR3 1; have cR3_2 := blk_cell hR3 2 rfl; have fR3_2 := blk_free hR3 2; have cR3_3 := blk_cell hR3 3 rfl; have fR3_3 := blk_free hR3 3; have cR3_4 := blk_cell hR3 4 rfl; have fR3_4 := blk_free hR3 4; have lR3 := lt_of_block hR3
      go_wp2_with fail
      refine bodyPost_ret (v := .tuple #[.agg #[.int .i64 d, .int .i64 h, .bool true, .int .i64 mx, .int .i64 mn], .int .i64 0]) ?_ rfl (rpost_ok E1.out e4.out e5.out (by repeat (first | (with_reducible exact Below.refl _ _) | (with_reducible refine Below.drew ?_) | (with_reducible refine below_drewN ?_ _) | ((with_reducible refine Below.alloc ?_ ?_ _); rotate_left; (first | omega | (simp <;> omega)); rotate_right) | ((with_reducible refine Below.setCell ?_ ?_ _); rotate_left; (first | omega | (simp <;> omega)); rotate_right) | (with_reducible assumption) | (refine Below.trans ?_ (Below.mono (by assumption) ?_); rotate_left; (first | omega | (simp <;> omega)); rotate_right))))
      simp [results, Try.results78, go_sem, *]
theorem radd_any (d r : Int) (s : Bool) (lo hi a g k h : Int) (w : World) (c : Clk.CInv d r lo hi) (l0 : s = true → 0 ≤ lo) :
    Calls Try.prog 78 #[.agg #[.int .i64 d, .int .i64 r, .bool s, .int .i64 lo, .int .i64 hi], .agg #[.int .i64 a, .int .i64 g, .int .i64 k, .int .i64 h]] w fun e w' => RPost w d r s lo hi a g k h e w' := by
  cases x : Clk.xOk a g k h with
  | false => exact radd_bad d r s lo hi a g k h w x
  | true =>
    cases s with
    | false => exact radd_first d r lo hi a g k h w x c.1 c.2.1
    | true =>
      by_cases y : h < r
      · exact radd_early d r lo hi a g k h w x y
      · exact radd_next d r lo hi a g k h w x c (l0 rfl) (by omega)
end Go.Proofs.Ytjidchaejicjaaa.Ck

/- Contracts of the functions on plain numbers and bounds. -/
import Derived.Test.YtfbkbpoabajgdaaRows
import Derived.Test.YtfbkbpoabajgdaaPlain
import Derived.WalkKit
import Derived.WalkSpells
import Derived.WalkLawsBesides
import Derived.Deep.QuietTactic
import Derived.BigQuiet
import Derived.BigRegion
import Derived.Lib.Hide
import Derived.IntWalk
import Derived.KernelRfl
namespace Go.Proofs.Ytfbkbpoabajgdaa
open Go.RowKit
set_option maxHeartbeats 4000000
theorem ret_bool {a b : Bool} (h : a = b) : Ending.returned (.bool a) = .returned (.bool b) := by rw [h]
theorem ret_int {k : IntKind} {a b : Int} (h : a = b) : Ending.returned (.int k a) = .returned (.int k b) := by rw [h]
theorem ret_ii {k j : IntKind} {a b c d : Int} (h : a = b) (g : c = d) : Ending.returned (.tuple #[.int k a, .int j c]) = .returned (.tuple #[.int k b, .int j d]) := by rw [h, g]
theorem ret_bb {k j l : IntKind} {a b c d e f : Int} (h : a = b) (g : c = d) (i : e = f) : Ending.returned (.tuple #[.agg #[.int k a, .int j c], .int l e]) = .returned (.tuple #[.agg #[.int k b, .int j d], .int l f]) := by rw [h, g, i]
theorem bcell {W w1 : World} (hb : Below W.heap.size W w1) : (∀ b o, b < W.heap.size → w1.cell? ⟨b, o, none⟩ = W.cell? ⟨b, o, none⟩) ∧ (∀ b o, b < W.heap.size → w1.frozen? ⟨b, o, none⟩ = W.frozen? ⟨b, o, none⟩) :=
  ⟨fun b o h => hb.cell (p := ⟨b, o, none⟩) h, fun b o h => hb.frozen (p := ⟨b, o, none⟩) h⟩
theorem within_any (n a b : Int) (w : World) :
    Calls Try.prog 27 #[.int .i64 n, .int .i64 a, .int .i64 b] w fun e w' => e = .returned (.bool (Clk.inB n a b)) ∧ w = w' := by
  by_cases h : a ≤ n
  all_goals
    go_enter Try.func27, Try.ntmps27
    go_wp2_with fail
    go_ret
    exact ⟨ret_bool (by simp [Clk.inB, h]; try omega), rfl⟩
theorem within_yes (n a b : Int) (w : World) (h : a ≤ n ∧ n ≤ b) :
    Calls Try.prog 27 #[.int .i64 n, .int .i64 a, .int .i64 b] w fun e w' => e = .returned (.bool true) ∧ w = w' :=
  (within_any n a b w).mono fun e w' ⟨h1, h2⟩ => ⟨by rw [h1, Clk.inB_iff.2 h], h2⟩
theorem to_any (n a b : Int) (w : World) :
    Calls Try.prog 28 #[.int .i64 n, .int .i64 a, .int .i64 b] w fun e w' => e = .returned (.bool (Clk.inB n a b)) ∧ w = w' := by
  by_cases h : a ≤ n
  all_goals
    go_enter Try.func28, Try.ntmps28
    go_wp2_with fail
    go_ret
    exact ⟨ret_bool (by simp [Clk.inB, h]; try omega), rfl⟩
theorem to_yes (n a b : Int) (w : World) (h : a ≤ n ∧ n ≤ b) :
    Calls Try.prog 28 #[.int .i64 n, .int .i64 a, .int .i64 b] w fun e w' => e = .returned (.bool true) ∧ w = w' :=
  (to_any n a b w).mono fun e w' ⟨h1, h2⟩ => ⟨by rw [h1, Clk.inB_iff.2 h], h2⟩
theorem down_any (a b : Int) (w : World) (h : 0 < b) (ha : -9000000000000000000 ≤ a ∧ a ≤ 9000000000000000000) :
    Calls Try.prog 29 #[.int .i64 a, .int .i64 b] w fun e w' => e = .returned (.int .i64 (a / b)) ∧ w = w' := by
  have H := Lib.hid (Clk.tdiv_down a b h)
  have q1 : -9000000000000000000 ≤ a.tdiv b ∧ a.tdiv b ≤ 9000000000000000000 := by
    have := Int.natAbs_tdiv_le_natAbs a b
    omega
  go_enter Try.func29, Try.ntmps29
  go_wp2_with fail
  all_goals go_ret
  · exact ⟨ret_int (by rw [← H.out, if_pos (by assumption)]), rfl⟩
  · exact ⟨ret_int (by rw [← H.out, if_neg (by omega)]), rfl⟩
/-- what a clock shows, and the error -/
def lV (o r t : Int) : Int := if Clk.inB o (-3600000) 3600000 && Clk.inB r (-100000) 100000 && Clk.inB t 0 3600000 then o + t * (1000000 + r) / 1000000 else 0
def lE (o r t : Int) : Int := if Clk.inB o (-3600000) 3600000 && Clk.inB r (-100000) 100000 && Clk.inB t 0 3600000 then 0 else 2
theorem local_any (o r t : Int) (w : World) :
    Calls Try.prog 10 #[.int .i64 o, .int .i64 r, .int .i64 t] w fun e w' => e = .returned (.tuple #[.int .i64 (lV o r t), .int .i64 (lE o r t)]) ∧ w = w' := by
  by_cases h : Clk.inB o (-3600000) 3600000 && Clk.inB r (-100000) 100000 && Clk.inB t 0 3600000
  · have e1 := Lib.hid (show lV o r t = o + t * (1000000 + r) / 1000000 by rw [lV, if_pos h])
    have e2 := Lib.hid (show lE o r t = 0 by rw [lE, if_pos h])
    simp only [Bool.and_eq_true, Clk.inB_iff] at h
    obtain ⟨⟨ho, hr⟩, ht⟩ := h
    have h1 : 0 ≤ t * (1000000 + r) := Int.mul_nonneg (by omega) (by omega)
    have h2 : t * (1000000 + r) ≤ 3600000 * 1100000 := Int.mul_le_mul (by omega) (by omega) (by omega) (by omega)
    go_enter Try.func10, Try.ntmps10
    go_wp2_with (go_at_call 27; refine (within_yes _ _ _ _ (by omega)).mono ?_; rintro e w' ⟨rfl, rfl⟩)
    go_ret2
    exact ⟨ret_ii e1.out.symm e2.out.symm, rfl⟩
  · have e1 := Lib.hid (show lV o r t = 0 by rw [lV, if_neg h])
    have e2 := Lib.hid (show lE o r t = 2 by rw [lE, if_neg h])
    have H := Lib.hid h
    clear h
    go_enter Try.func10, Try.ntmps10
    go_wp2_with (go_at_call 27; refine (within_any _ _ _ _).mono ?_; rintro e w' ⟨rfl, rfl⟩)
    all_goals first | (go_ret2; exact ⟨ret_ii e1.out.symm e2.out.symm, rfl⟩) | (exact absurd (by simp_all) H.out)
theorem rlocal_any (o r t : Int) (w : World) :
    Calls Try.prog 11 #[.int .i64 o, .int .i64 r, .int .i64 t] w fun e w' => e = .returned (.tuple #[.int .i64 (lV o r t), .int .i64 (lE o r t)]) ∧ w = w' := by
  by_cases h : Clk.inB o (-3600000) 3600000 && Clk.inB r (-100000) 100000 && Clk.inB t 0 3600000
  · have e1 := Lib.hid (show lV o r t = o + t * (1000000 + r) / 1000000 by rw [lV, if_pos h])
    have e2 := Lib.hid (show lE o r t = 0 by rw [lE, if_pos h])
    simp only [Bool.and_eq_true, Clk.inB_iff] at h
    obtain ⟨⟨ho, hr⟩, ht⟩ := h
    have h1 : -360000000000 ≤ t * r := by
      have : t * -100000 ≤ t * r := Int.mul_le_mul_of_nonneg_left hr.1 ht.1
      omega
    have h2 : t * r ≤ 360000000000 := by
      have : t * r ≤ t * 100000 := Int.mul_le_mul_of_nonneg_left hr.2 ht.1
      omega
    have e3 := Lib.hid (show o + t + t * r / 1000000 = o + t * (1000000 + r) / 1000000 by rw [Int.mul_add]; omega)
    go_enter Try.func11, Try.ntmps11
    go_wp2_with (first | (go_at_call 28; refine (to_yes _ _ _ _ (by omega)).mono ?_; rintro e w' ⟨rfl, rfl⟩) | (go_at_call 29; refine (down_any _ _ _ (by omega) (by omega)).mono ?_; rintro e w' ⟨rfl, rfl⟩))
    go_ret2
    exact ⟨ret_ii (e3.out.trans e1.out.symm) e2.out.symm, rfl⟩
  · have e1 := Lib.hid (show lV o r t = 0 by rw [lV, if_neg h])
    have e2 := Lib.hid (show lE o r t = 2 by rw [lE, if_neg h])
    have H := Lib.hid h
    clear h
    go_enter Try.func11, Try.ntmps11
    go_wp2_with (go_at_call 28; refine (to_any _ _ _ _).mono ?_; rintro e w' ⟨rfl, rfl⟩)
    all_goals first | (go_ret2; exact ⟨ret_ii e1.out.symm e2.out.symm, rfl⟩) | (exact absurd (by simp_all) H.out)
theorem valid_any (a b : Int) (w : World) :
    Calls Try.prog 33 #[.agg #[.int .i64 a, .int .i64 b]] w fun e w' => e = .returned (.bool (Clk.vB a b)) ∧ Below w.heap.size w w' := by
  by_cases h : -1073741824 ≤ a
  all_goals by_cases h2 : a ≤ b
  all_goals
    go_enter Try.func33, Try.ntmps33
    go_wp2_with fail
    go_ret
    exact ⟨ret_bool (by simp [Clk.vB, h, h2]; try omega), (by repeat (first | (with_reducible exact Below.refl _ _) | (with_reducible refine Below.drew ?_) | (with_reducible refine below_drewN ?_ _) | ((with_reducible refine Below.alloc ?_ ?_ _); rotate_left; (first | omega | (simp <;> omega)); rotate_right) | ((with_reducible refine Below.setCell ?_ ?_ _); rotate_left; (first | omega | (simp <;> omega)); rotate_right) | (with_reducible assumption) | (refine Below.trans ?_ (Below.mono (by assumption) ?_); rotate_left; (first | omega | (simp <;> omega)); rotate_right)))⟩
theorem rvalid_any (a b : Int) (w : World) :
    Calls Try.prog 35 #[.agg #[.int .i64 a, .int .i64 b]] w fun e w' => e = .returned (.bool (Clk.vB a b)) ∧ Below w.heap.size w w' := by
  by_cases h : -1073741824 ≤ a
  all_goals by_cases h2 : a ≤ b
  all_goals
    go_enter Try.func35, Try.ntmps35
    go_wp2_with fail
    go_ret
    exact ⟨ret_bool (by simp [Clk.vB, h, h2]; try omega), (by repeat (first | (with_reducible exact Below.refl _ _) | (with_reducible refine Below.drew ?_) | (with_reducible refine below_drewN ?_ _) | ((with_reducible refine Below.alloc ?_ ?_ _); rotate_left; (first | omega | (simp <;> omega)); rotate_right) | ((with_reducible refine Below.setCell ?_ ?_ _); rotate_left; (first | omega | (simp <;> omega)); rotate_right) | (with_reducible assumption) | (refine Below.trans ?_ (Below.mono (by assumption) ?_); rotate_left; (first | omega | (simp <;> omega)); rotate_right)))⟩
set_option maxRecDepth 100000 in
theorem grow_any (lo hi d l : Int) (w : World) (h1 : -1073741824 ≤ lo) (h2 : lo ≤ hi) (h3 : hi ≤ 1073741824) (hd0 : 0 ≤ d) (hd1 : d ≤ 100000) (hl0 : 0 ≤ l) (hl1 : l ≤ 2147483648) :
    Calls Try.prog 34 #[.agg #[.int .i64 lo, .int .i64 hi], .int .i64 d, .int .i64 l] w fun e w' => e = .returned (.tuple #[.agg #[.int .i64 (Clk.rLo lo hi d l), .int .i64 (Clk.rHi hi d l)], .int .i64 (Clk.rE hi d l)]) ∧ Below w.heap.size w w' := by
  have a2 := Clk.hi_ge l d hl0 hd0 hd1
  by_cases hl : 1 ≤ l
  · have a1 := Clk.lo_le l d hl hd0 hd1
    have c1 := Lib.hid (show Clk.gHi hi d l ≤ 1073741824 → Clk.rLo lo hi d l = lo + (l - 1) * 1000000 / (1000000 + d) ∧ Clk.rHi hi d l = hi + ((l+1)*1000000 + (1000000 - d) - 1) / (1000000 - d) ∧ Clk.rE hi d l = 0 from fun h => ⟨by rw [Clk.rLo, if_pos h, Clk.gLo, if_pos hl]; rfl, by rw [Clk.rHi, if_pos h]; rfl, by rw [Clk.rE, if_pos h]⟩)
    have c2 := Lib.hid (show ¬ Clk.gHi hi d l ≤ 1073741824 → Clk.rLo lo hi d l = 0 ∧ Clk.rHi hi d l = 0 ∧ Clk.rE hi d l = 3 from fun h => ⟨by rw [Clk.rLo, if_neg h], by rw [Clk.rHi, if_neg h], by rw [Clk.rE, if_neg h]⟩)
    go_enter Try.func34, Try.ntmps34
    go_wp2_with fail
    go_region
    all_goals go_wp2_with fail
    all_goals go_region
    all_goals go_wp2_with fail
    · obtain ⟨d1, d2, d3⟩ := c2.out (by simp only [Clk.gHi, Clk.vp]; omega)
      refine bodyPost_ret (v := .tuple #[.agg #[.int .i64 0, .int .i64 0], .int .i64 3]) (by simp [results, Try.results34, go_sem]) rfl ⟨ret_bb d1.symm d2.symm d3.symm, (by repeat (first | (with_reducible exact Below.refl _ _) | (with_reducible refine Below.drew ?_) | (with_reducible refine below_drewN ?_ _) | ((with_reducible refine Below.alloc ?_ ?_ _); rotate_left; (first | omega | (simp <;> omega)); rotate_right) | ((with_reducible refine Below.setCell ?_ ?_ _); rotate_left; (first | omega | (simp <;> omega)); rotate_right) | (with_reducible assumption) | (refine Below.trans ?_ (Below.mono (by assumption) ?_); rotate_left; (first | omega | (simp <;> omega)); rotate_right)))⟩
    · obtain ⟨d1, d2, d3⟩ := c1.out (by simp only [Clk.gHi, Clk.vp]; omega)
      refine bodyPost_ret (v := .tuple #[.agg #[.int .i64 (lo + (l - 1) * 1000000 / (1000000 + d)), .int .i64 (hi + ((l+1)*1000000 + (1000000 - d) - 1) / (1000000 - d))], .int .i64 0]) (by simp [results, Try.results34, go_sem]) rfl ⟨ret_bb d1.symm d2.symm d3.symm, (by repeat (first | (with_reducible exact Below.refl _ _) | (with_reducible refine Below.drew ?_) | (with_reducible refine below_drewN ?_ _) | ((with_reducible refine Below.alloc ?_ ?_ _); rotate_left; (first | omega | (simp <;> omega)); rotate_right) | ((with_reducible refine Below.setCell ?_ ?_ _); rotate_left; (first | omega | (simp <;> omega)); rotate_right) | (with_reducible assumption) | (refine Below.trans ?_ (Below.mono (by assumption) ?_); rotate_left; (first | omega | (simp <;> omega)); rotate_right)))⟩
  · obtain rfl : l = 0 := by omega
    have c1 := Lib.hid (show Clk.gHi hi d 0 ≤ 1073741824 → Clk.rLo lo hi d 0 = lo ∧ Clk.rHi hi d 0 = hi + ((0+1)*1000000 + (1000000 - d) - 1) / (1000000 - d) ∧ Clk.rE hi d 0 = 0 from fun h => ⟨by rw [Clk.rLo, if_pos h, Clk.gLo, if_neg hl], by rw [Clk.rHi, if_pos h]; rfl, by rw [Clk.rE, if_pos h]⟩)
    have c2 := Lib.hid (show ¬ Clk.gHi hi d 0 ≤ 1073741824 → Clk.rLo lo hi d 0 = 0 ∧ Clk.rHi hi d 0 = 0 ∧ Clk.rE hi d 0 = 3 from fun h => ⟨by rw [Clk.rLo, if_neg h], by rw [Clk.rHi, if_neg h], by rw [Clk.rE, if_neg h]⟩)
    simp only [Int.zero_add, Int.one_mul] at a2 c1
    go_enter Try.func34, Try.ntmps34
    go_wp2_with fail
    go_region
    all_goals go_wp2_with fail
    all_goals go_region
    all_goals go_wp2_with fail
    · obtain ⟨d1, d2, d3⟩ := c2.out (by simp only [Clk.gHi, Clk.vp, Int.zero_add, Int.one_mul]; omega)
      refine bodyPost_ret (v := .tuple #[.agg #[.int .i64 0, .int .i64 0], .int .i64 3]) (by simp [results, Try.results34, go_sem]) rfl ⟨ret_bb d1.symm d2.symm d3.symm, (by repeat (first | (with_reducible exact Below.refl _ _) | (with_reducible refine Below.drew ?_) | (with_reducible refine below_drewN ?_ _) | ((with_reducible refine Below.alloc ?_ ?_ _); rotate_left; (first | omega | (simp <;> omega)); rotate_right) | ((with_reducible refine Below.setCell ?_ ?_ _); rotate_left; (first | omega | (simp <;> omega)); rotate_right) | (with_reducible assumption) | (refine Below.trans ?_ (Below.mono (by assumption) ?_); rotate_left; (first | omega | (simp <;> omega)); rotate_right)))⟩
    · obtain ⟨d1, d2, d3⟩ := c1.out (by simp only [Clk.gHi, Clk.vp, Int.zero_add, Int.one_mul]; omega)
      refine bodyPost_ret (v := .tuple #[.agg #[.int .i64 lo, .int .i64 (hi + (1000000 + (1000000 - d) - 1) / (1000000 - d))], .int .i64 0]) (by simp [results, Try.results34, go_sem]) rfl ⟨ret_bb d1.symm d2.symm d3.symm, (by repeat (first | (with_reducible exact Below.refl _ _) | (with_reducible refine Below.drew ?_) | (with_reducible refine below_drewN ?_ _) | ((with_reducible refine Below.alloc ?_ ?_ _); rotate_left; (first | omega | (simp <;> omega)); rotate_right) | ((with_reducible refine Below.setCell ?_ ?_ _); rotate_left; (first | omega | (simp <;> omega)); rotate_right) | (with_reducible assumption) | (refine Below.trans ?_ (Below.mono (by assumption) ?_); rotate_left; (first | omega | (simp <;> omega)); rotate_right)))⟩
end Go.Proofs.Ytfbkbpoabajgdaa

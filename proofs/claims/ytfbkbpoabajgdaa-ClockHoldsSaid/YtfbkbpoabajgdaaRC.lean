/- The reference's clock: Exchange, At, low, Sure. -/
import Derived.Test.YtfbkbpoabajgdaaMeet
import Derived.Test.YtfbkbpoabajgdaaAt
import Derived.Deep.LoopGhost
namespace Go.Proofs.Ytfbkbpoabajgdaa
open Go.RowKit
set_option maxHeartbeats 4000000
set_option linter.unusedSimpArgs false
set_option linter.unusedVariables false
set_option maxRecDepth 100000
theorem exch_any (a g k h : Int) (w : World) :
    Calls Try.prog 37 #[.agg #[.int .i64 a, .int .i64 g, .int .i64 k, .int .i64 h]] w fun e w' => e = .returned (.bool (Clk.xOk a g k h)) ∧ Below w.heap.size w w' := by
  have x' : (a < -1073741824) ∨ (-1073741824 ≤ a ∧ h < a) ∨ (-1073741824 ≤ a ∧ a ≤ h ∧ 1073741824 < h) ∨ (-1073741824 ≤ a ∧ a ≤ h ∧ h ≤ 1073741824 ∧ g < 0) ∨ (-1073741824 ≤ a ∧ a ≤ h ∧ h ≤ 1073741824 ∧ 0 ≤ g ∧ k < g) ∨ (-1073741824 ≤ a ∧ a ≤ h ∧ h ≤ 1073741824 ∧ 0 ≤ g ∧ g ≤ k) := by omega
  rcases x' with x | ⟨x1, x2⟩ | ⟨x1, x2, x3⟩ | ⟨x1, x2, x3, x4⟩ | ⟨x1, x2, x3, x4, x5⟩ | ⟨x1, x2, x3, x4, x5⟩
  all_goals
    go_enter Try.func37, Try.ntmps37
    go_wp2_with fail
    go_ret
    exact ⟨ret_bool (by simp [Clk.xOk]; omega), (by repeat (first | (with_reducible exact Below.refl _ _) | (with_reducible refine Below.drew ?_) | (with_reducible refine below_drewN ?_ _) | ((with_reducible refine Below.alloc ?_ ?_ _); rotate_left; (first | omega | (simp <;> omega)); rotate_right) | ((with_reducible refine Below.setCell ?_ ?_ _); rotate_left; (first | omega | (simp <;> omega)); rotate_right) | (with_reducible assumption) | (refine Below.trans ?_ (Below.mono (by assumption) ?_); rotate_left; (first | omega | (simp <;> omega)); rotate_right)))⟩
theorem rat_none (d r lo hi x : Int) (w : World) :
    Calls Try.prog 36 #[.agg #[.int .i64 d, .int .i64 r, .bool false, .int .i64 lo, .int .i64 hi], .int .i64 x] w fun e w' => e = .returned (.tuple #[.agg #[.int .i64 0, .int .i64 0], .int .i64 9]) ∧ Below w.heap.size w w' := by
  go_enter Try.func36, Try.ntmps36
  go_wp2_with fail
  refine bodyPost_ret (v := .tuple #[.agg #[.int .i64 0, .int .i64 0], .int .i64 9]) ?_ rfl ⟨rfl, (by repeat (first | (with_reducible exact Below.refl _ _) | (with_reducible refine Below.drew ?_) | (with_reducible refine below_drewN ?_ _) | ((with_reducible refine Below.alloc ?_ ?_ _); rotate_left; (first | omega | (simp <;> omega)); rotate_right) | ((with_reducible refine Below.setCell ?_ ?_ _); rotate_left; (first | omega | (simp <;> omega)); rotate_right) | (with_reducible assumption) | (refine Below.trans ?_ (Below.mono (by assumption) ?_); rotate_left; (first | omega | (simp <;> omega)); rotate_right)))⟩
  simp [results, Try.results36, go_sem]
theorem rat_range (d r lo hi x : Int) (w : World) (h : ¬ (r ≤ x ∧ x ≤ 1073741824)) :
    Calls Try.prog 36 #[.agg #[.int .i64 d, .int .i64 r, .bool true, .int .i64 lo, .int .i64 hi], .int .i64 x] w fun e w' => e = .returned (.tuple #[.agg #[.int .i64 0, .int .i64 0], .int .i64 3]) ∧ Below w.heap.size w w' := by
  have h' : x < r ∨ (r ≤ x ∧ 1073741824 < x) := by omega
  clear h
  rcases h' with h | ⟨h, h2⟩
  all_goals
    go_enter Try.func36, Try.ntmps36
    go_wp2_with fail
    refine bodyPost_ret (v := .tuple #[.agg #[.int .i64 0, .int .i64 0], .int .i64 3]) ?_ rfl ⟨rfl, (by repeat (first | (with_reducible exact Below.refl _ _) | (with_reducible refine Below.drew ?_) | (with_reducible refine below_drewN ?_ _) | ((with_reducible refine Below.alloc ?_ ?_ _); rotate_left; (first | omega | (simp <;> omega)); rotate_right) | ((with_reducible refine Below.setCell ?_ ?_ _); rotate_left; (first | omega | (simp <;> omega)); rotate_right) | (with_reducible assumption) | (refine Below.trans ?_ (Below.mono (by assumption) ?_); rotate_left; (first | omega | (simp <;> omega)); rotate_right)))⟩
    simp [results, Try.results36, go_sem]
theorem rg_eq {lo hi d l : Int} (l0 : 0 ≤ lo) (l1 : lo ≤ hi) (l2 : hi ≤ 1073741824) (d0 : 0 ≤ d) (d1 : d ≤ 100000) (y0 : 0 ≤ l) :
    (if 1073741824 < l then 0 else GLo lo hi d l) = Clk.rLo lo hi d l ∧ (if 1073741824 < l then 0 else GHi lo hi d l) = Clk.rHi hi d l ∧ (if 1073741824 < l then 3 else GE lo hi d l) = Clk.rE hi d l := by
  by_cases h : 1073741824 < l
  · have := Clk.vp_ge d l y0 d0 d1
    have g : ¬ Clk.gHi hi d l ≤ 1073741824 := by unfold Clk.gHi; omega
    simp [h, Clk.rLo, Clk.rHi, Clk.rE, g]
  · have g : gOk lo hi d l = true := by simp [gOk, Clk.vB_iff, Clk.inB_iff]; omega
    simp [h, GLo, GHi, GE, g]
theorem rat_yes (d r lo hi x : Int) (w : World) (c : Clk.CInv d r lo hi) (l0 : 0 ≤ lo) (h : r ≤ x ∧ x ≤ 1073741824) :
    Calls Try.prog 36 #[.agg #[.int .i64 d, .int .i64 r, .bool true, .int .i64 lo, .int .i64 hi], .int .i64 x] w fun e w' => e = .returned (.tuple #[.agg #[.int .i64 (Clk.rLo lo hi d (x - r)), .int .i64 (Clk.rHi hi d (x - r))], .int .i64 (Clk.rE hi d (x - r))]) ∧ Below w.heap.size w w' := by
  obtain ⟨c1, c2, c3, c4, c5, c6, c7⟩ := c
  obtain ⟨e1, e2, e3⟩ := rg_eq (lo := lo) (hi := hi) (d := d) (l := x - r) l0 c6 c7 c1 c2 (by omega)
  have R := Lib.hid (fun W : World => rgrow_any lo hi d (x - r) W)
  rw [e1, e2, e3] at R
  clear e1 e2 e3
  go_enter Try.func36, Try.ntmps36
  go_wp2_with fail
  refine (R.out _).mono ?_
  rintro e w1 ⟨rfl, hb⟩
  have hz := hb.size; simp at hz
  have ca0_0 := (bcell hb).1 (w.heap.size) 0 (by first | omega | (simp; done) | (simp; omega)); have fa0_0 := (bcell hb).2 (w.heap.size) 0 (by first | omega | (simp; done) | (simp; omega)); have ca0_1 := (bcell hb).1 (w.heap.size) 1 (by first | omega | (simp; done) | (simp; omega)); have fa0_1 := (bcell hb).2 (w.heap.size) 1 (by first | omega | (simp; done) | (simp; omega)); have ca0_2 := (bcell hb).1 (w.heap.size) 2 (by first | omega | (simp; done) | (simp; omega)); have fa0_2 := (bcell hb).2 (w.heap.size) 2 (by first | omega | (simp; done) | (simp; omega)); have ca0_3 := (bcell hb).1 (w.heap.size) 3 (by first | omega | (simp; done) | (simp; omega)); have fa0_3 := (bcell hb).2 (w.heap.size) 3 (by first | omega | (simp; done) | (simp; omega)); have ca0_4 := (bcell hb).1 (w.heap.size) 4 (by first | omega | (simp; done) | (simp; omega)); have fa0_4 := (bcell hb).2 (w.heap.size) 4 (by first | omega | (simp; done) | (simp; omega)); have ca1_0 := (bcell hb).1 (w.heap.size + 1) 0 (by first | omega | (simp; done) | (simp; omega)); have fa1_0 := (bcell hb).2 (w.heap.size + 1) 0 (by first | omega | (simp; done) | (simp; omega)); have ca1_1 := (bcell hb).1 (w.heap.size + 1) 1 (by first | omega | (simp; done) | (simp; omega)); have fa1_1 := (bcell hb).2 (w.heap.size + 1) 1 (by first | omega | (simp; done) | (simp; omega)); try simp [go_sem] at ca0_0 fa0_0 ca0_1 fa0_1 ca0_2 fa0_2 ca0_3 fa0_3 ca0_4 fa0_4 ca1_0 fa1_0 ca1_1 fa1_1
  go_wp2_with fail
  refine bodyPost_ret (v := .tuple #[.agg #[.int .i64 (Clk.rLo lo hi d (x - r)), .int .i64 (Clk.rHi hi d (x - r))], .int .i64 (Clk.rE hi d (x - r))]) ?_ rfl ⟨rfl, (by repeat (first | (with_reducible exact Below.refl _ _) | (with_reducible refine Below.drew ?_) | (with_reducible refine below_drewN ?_ _) | ((with_reducible refine Below.alloc ?_ ?_ _); rotate_left; (first | omega | (simp <;> omega)); rotate_right) | ((with_reducible refine Below.setCell ?_ ?_ _); rotate_left; (first | omega | (simp <;> omega)); rotate_right) | (with_reducible assumption) | (refine Below.trans ?_ (Below.mono (by assumption) ?_); rotate_left; (first | omega | (simp <;> omega)); rotate_right)))⟩
  simp [results, Try.results36, go_sem, *]
theorem rat_any (d r : Int) (s : Bool) (lo hi x : Int) (w : World) (c : Clk.CInv d r lo hi) (l0 : s = true → 0 ≤ lo) :
    Calls Try.prog 36 #[.agg #[.int .i64 d, .int .i64 r, .bool s, .int .i64 lo, .int .i64 hi], .int .i64 x] w fun e w' => e = .returned (.tuple #[.agg #[.int .i64 (aLo d r s lo hi x), .int .i64 (aHi d r s hi x)], .int .i64 (aE d r s hi x)]) ∧ Below w.heap.size w w' := by
  cases s with
  | false =>
    refine (rat_none d r lo hi x w).mono ?_
    rintro e w' ⟨rfl, hb⟩
    exact ⟨by simp [aLo, aHi, aE, aOk], hb⟩
  | true =>
    by_cases h : r ≤ x ∧ x ≤ 1073741824
    · refine (rat_yes d r lo hi x w c (l0 rfl) h).mono ?_
      rintro e w' ⟨rfl, hb⟩
      exact ⟨by simp [aLo, aHi, aE, aOk, Clk.inB_iff.2 h], hb⟩
    · refine (rat_range d r lo hi x w h).mono ?_
      rintro e w' ⟨rfl, hb⟩
      exact ⟨by simp [aLo, aHi, aE, aOk, Clk.inB_no.2 h], hb⟩
end Go.Proofs.Ytfbkbpoabajgdaa

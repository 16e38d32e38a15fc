/- Adding an exchange to a clock: one case. -/
import Derived.Test.YtfbkbpoabajgdaaAddA
namespace Go.Proofs.Ytfbkbpoabajgdaa
open Go.RowKit
set_option maxHeartbeats 4000000
set_option linter.unusedSimpArgs false
set_option linter.unusedVariables false
set_option maxRecDepth 100000
theorem add_bad (b : Nat) (d r : Int) (s : Bool) (lo hi a g k h : Int) (w : World) (hk : IsClk w b d r true s lo hi) (x : ¬ (-1073741824 ≤ a ∧ a ≤ h ∧ h ≤ 1073741824 ∧ 0 ≤ g ∧ g ≤ k ∧ k ≤ 3600000)) :
    Calls Try.prog 21 #[.pointer (some ⟨b, 0, none⟩), .agg #[.int .i64 a, .int .i64 g, .int .i64 k, .int .i64 h]] w fun e w' => AddPost w b d r s lo hi a g k h e w' := by
  have X := Clk.addE_bad (d := d) (r := r) (s := s) (lo := lo) (hi := hi) (show Clk.xOk a g k h = false from by have := (not_congr (Clk.xOk_iff (a := a) (g := g) (k := k) (h := h))).2 x; simpa using this)
  have X := Lib.hid X
  obtain ⟨q0, q1, q2, q3, q4, q5⟩ := clk_cells hk; obtain ⟨z0, z1, z2, z3, z4, z5⟩ := clk_free hk; have hlt := clk_lt hk
  have x' : (a < -1073741824) ∨ (-1073741824 ≤ a ∧ h < a) ∨ (-1073741824 ≤ a ∧ a ≤ h ∧ 1073741824 < h) ∨ (-1073741824 ≤ a ∧ a ≤ h ∧ h ≤ 1073741824 ∧ g < 0) ∨ (-1073741824 ≤ a ∧ a ≤ h ∧ h ≤ 1073741824 ∧ 0 ≤ g ∧ k < g) ∨ (-1073741824 ≤ a ∧ a ≤ h ∧ h ≤ 1073741824 ∧ 0 ≤ g ∧ g ≤ k ∧ 3600000 < k) := by omega
  clear x
  rcases x' with x | ⟨x1, x2⟩ | ⟨x1, x2, x3⟩ | ⟨x1, x2, x3, x4⟩ | ⟨x1, x2, x3, x4, x5⟩ | ⟨x1, x2, x3, x4, x5, x6⟩
  all_goals
    go_enter Try.func21, Try.ntmps21
    go_wp2_with (first | (go_at_call 39; refine (none_made b d r s lo hi _ (by repeat (first | (with_reducible assumption) | (with_reducible refine clk_alloc ?_ _) | (with_reducible refine clk_drew ?_) | (with_reducible refine clk_drewN ?_ _) | ((with_reducible refine clk_far ?_ ?_ _); rotate_left; (first | omega | (simp <;> omega)); rotate_right)))).mono ?_; rintro e w' ⟨rfl, rfl⟩))
    go_ret
    exact post_err X.out (by decide) (by repeat (first | (with_reducible assumption) | (with_reducible refine clk_alloc ?_ _) | (with_reducible refine clk_drew ?_) | (with_reducible refine clk_drewN ?_ _) | ((with_reducible refine clk_far ?_ ?_ _); rotate_left; (first | omega | (simp <;> omega)); rotate_right))) (by repeat (first | (with_reducible refine only_drew ?_) | (with_reducible refine only_alloc ?_ _) | ((with_reducible refine only_setCell ?_ ?_ _); rotate_left; (first | (left; rfl) | (right; simp; omega)); rotate_right) | (with_reducible assumption) | (refine only_of_below ?_ _; with_reducible assumption) | (with_reducible refine only_drewN ?_ _) | (with_reducible exact only_of_below (Below.refl _ _) _)))
end Go.Proofs.Ytfbkbpoabajgdaa

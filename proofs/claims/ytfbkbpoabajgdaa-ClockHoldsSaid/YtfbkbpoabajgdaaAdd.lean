/- Adding an exchange to a clock, whatever it is. -/
import Derived.Test.YtfbkbpoabajgdaaAddB
import Derived.Test.YtfbkbpoabajgdaaAddC
import Derived.Test.YtfbkbpoabajgdaaAddD
import Derived.Test.YtfbkbpoabajgdaaAddE
namespace Go.Proofs.Ytfbkbpoabajgdaa
open Go.RowKit
set_option maxRecDepth 100000
set_option maxHeartbeats 4000000
set_option linter.unusedSimpArgs false
set_option linter.unusedVariables false
theorem add_any (b : Nat) (d r : Int) (s : Bool) (lo hi a g k h : Int) (w : World) (hk : IsClk w b d r true s lo hi) (c : Clk.CInv d r lo hi) :
    Calls Try.prog 21 #[.pointer (some ⟨b, 0, none⟩), .agg #[.int .i64 a, .int .i64 g, .int .i64 k, .int .i64 h]] w fun e w' => AddPost w b d r s lo hi a g k h e w' := by
  by_cases x : (-1073741824 ≤ a ∧ a ≤ h ∧ h ≤ 1073741824 ∧ 0 ≤ g ∧ g ≤ k ∧ k ≤ 3600000)
  · obtain ⟨x1, x2, x3, x4, x5, x6⟩ := x
    cases s with
    | false => exact add_first b d r lo hi a g k h w hk c.1 c.2.1 x1 x2 x3 x4 x5 x6
    | true =>
      by_cases y : h < r
      · exact add_early b d r lo hi a g k h w hk c.1 c.2.1 x1 x2 x3 x4 x5 x6 y
      · exact add_next b d r lo hi a g k h w hk c x1 x2 x3 x4 x5 x6 (by omega)
  · exact add_bad b d r s lo hi a g k h w hk x
theorem add_nil (a g k h : Int) (w : World) :
    Calls Try.prog 21 #[.pointer none, .agg #[.int .i64 a, .int .i64 g, .int .i64 k, .int .i64 h]] w fun e w' => e = .returned (.int .i64 1) ∧ Below w.heap.size w w' := by
  go_enter Try.func21, Try.ntmps21
  go_wp2_with (first | (go_at_call 39; refine (none_nil _).mono ?_; rintro e w' ⟨rfl, rfl⟩))
  go_ret
  exact ⟨rfl, (by repeat (first | (with_reducible exact Below.refl _ _) | (with_reducible refine Below.drew ?_) | (with_reducible refine below_drewN ?_ _) | ((with_reducible refine Below.alloc ?_ ?_ _); rotate_left; (first | omega | (simp <;> omega)); rotate_right) | ((with_reducible refine Below.setCell ?_ ?_ _); rotate_left; (first | omega | (simp <;> omega)); rotate_right) | (with_reducible assumption) | (refine Below.trans ?_ (Below.mono (by assumption) ?_); rotate_left; (first | omega | (simp <;> omega)); rotate_right)))⟩
theorem add_zero (b : Nat) (d r : Int) (s : Bool) (lo hi a g k h : Int) (w : World) (hk : IsClk w b d r false s lo hi) :
    Calls Try.prog 21 #[.pointer (some ⟨b, 0, none⟩), .agg #[.int .i64 a, .int .i64 g, .int .i64 k, .int .i64 h]] w fun e w' => e = .returned (.int .i64 1) ∧ Below w.heap.size w w' := by
  go_enter Try.func21, Try.ntmps21
  go_wp2_with (first | (go_at_call 39; refine (none_zero b d r s lo hi _ (by repeat (first | (with_reducible assumption) | (with_reducible refine clk_alloc ?_ _) | (with_reducible refine clk_drew ?_) | (with_reducible refine clk_drewN ?_ _) | ((with_reducible refine clk_far ?_ ?_ _); rotate_left; (first | omega | (simp <;> omega)); rotate_right)))).mono ?_; rintro e w' ⟨rfl, rfl⟩))
  go_ret
  exact ⟨rfl, (by repeat (first | (with_reducible exact Below.refl _ _) | (with_reducible refine Below.drew ?_) | (with_reducible refine below_drewN ?_ _) | ((with_reducible refine Below.alloc ?_ ?_ _); rotate_left; (first | omega | (simp <;> omega)); rotate_right) | ((with_reducible refine Below.setCell ?_ ?_ _); rotate_left; (first | omega | (simp <;> omega)); rotate_right) | (with_reducible assumption) | (refine Below.trans ?_ (Below.mono (by assumption) ?_); rotate_left; (first | omega | (simp <;> omega)); rotate_right)))⟩
end Go.Proofs.Ytfbkbpoabajgdaa

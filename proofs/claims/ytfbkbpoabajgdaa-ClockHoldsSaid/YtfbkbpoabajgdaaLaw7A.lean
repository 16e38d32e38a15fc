/- The theorem of stage 33: where nothing is asked. -/
import Derived.Test.YtfbkbpoabajgdaaBase
import Derived.Test.YtfbkbpoabajgdaaShow
import Derived.Test.YtfbkbpoabajgdaaHoldsC
namespace Go.Proofs.Ytfbkbpoabajgdaa.lawHolds
open Go.ChangeShapes Go.WideShapes Go.ChangeAt Go.RowKit Go.Joins
set_option linter.unusedVariables false
set_option linter.unusedSimpArgs false
set_option maxHeartbeats 4000000
set_option maxRecDepth 100000
/-- min and max of Go, by names that the walk leaves as they are -/
def mn (x y : Int) : Int := if y < x then y else x
def mx (x y : Int) : Int := if x < y then y else x
theorem run_mn {P : Program} {w : World} (ts : Array TypeId) (t : TypeId) (k k' : IntKind) (x y : Int) : (Builtin.min_ ts t #[.int k x, .int k' y]).run P w = .ok (.int k (mn x y)) w := by
  simp [Builtin.min_, Builtin.min2, mn]
theorem run_mx {P : Program} {w : World} (ts : Array TypeId) (t : TypeId) (k k' : IntKind) (x y : Int) : (Builtin.max_ ts t #[.int k x, .int k' y]).run P w = .ok (.int k (mx x y)) w := by
  simp [Builtin.max_, Builtin.max2, mx]
attribute [local go_sem high] run_mn run_mx
theorem mn4 {a b c d : Int} (h : 0 ≤ a ∧ 0 ≤ b ∧ 0 ≤ c ∧ 0 ≤ d) : 0 ≤ mn (mn a b) (mn c d) := by
  unfold mn
  repeat' split
  all_goals omega
theorem mx4 {a b c d : Int} (h : a ≤ 100000 ∧ b ≤ 100000 ∧ c ≤ 100000 ∧ d ≤ 100000) : mx (mx a b) (mx c d) ≤ 100000 := by
  unfold mx
  repeat' split
  all_goals omega
theorem bad4 {a b c d : Int} (h : ¬ ((0 ≤ a ∧ 0 ≤ b ∧ 0 ≤ c ∧ 0 ≤ d) ∧ (a ≤ 100000 ∧ b ≤ 100000 ∧ c ≤ 100000 ∧ d ≤ 100000))) : mn (mn a b) (mn c d) < 0 ∨ (0 ≤ mn (mn a b) (mn c d) ∧ 100000 < mx (mx a b) (mx c d)) := by
  by_cases q : 0 ≤ a ∧ 0 ≤ b ∧ 0 ≤ c ∧ 0 ≤ d
  · refine .inr ⟨mn4 q, ?_⟩
    unfold mx; repeat' split
    all_goals omega
  · left
    unfold mn; repeat' split
    all_goals omega
/-- a round's start: the clock, and what is known -/
def St (w : World) (b : Nat) (o rt d : Int) (k : Nat) (wr : World) (now r : Int) (s : Bool) (lo hi : Int) : Prop :=
  SInv d r s lo hi ∧ IsClk wr b d r true s lo hi ∧ (s = true → Clk.Kn o rt d now r lo hi) ∧ 0 ≤ now ∧ now ≤ 3600000 ∧ (0 < k → s = true) ∧ Below w.heap.size w wr
theorem walk_bad (a0 : Int) (a1 : Int) (a2 : Int) (a3 : Option Addr) (len3 cap3 : Nat) (z3 : Nat → Nat → Int) (a4 : Int) (a5 : Int) (w : World) (w0 : (Lit.int .i64 a0).wf = true) (w1 : (Lit.int .i64 a1).wf = true) (w2 : (Lit.int .i64 a2).wf = true) (w3 : IsRows 4 w a3 len3 cap3 z3) (w4 : (Lit.int .i64 a4).wf = true) (w5 : (Lit.int .i64 a5).wf = true) (hl : 20 < len3 ∨ a2 < 0 ∨ 100000 < a2 ∨ a1 < -a2 ∨ a2 < a1 ∨ a4 < 0 ∨ 100000 < a4 ∨ a5 < 0 ∨ 3600000 < a5) :
    Calls Try.prog 9 #[.int .i64 a0, .int .i64 a1, .int .i64 a2, .slice a3 len3 cap3, .int .i64 a4, .int .i64 a5] w fun e w' => e = .returned (.bool true) ∧ Below w.heap.size w w' := by
  obtain ⟨hlc, hcm, hnil, hrow⟩ := w3
  unfold maxLen at hcm
  have hl' : 20 < len3 ∨ (len3 ≤ 20 ∧ a2 < 0) ∨ (len3 ≤ 20 ∧ 0 ≤ a2 ∧ 100000 < a2) ∨ (len3 ≤ 20 ∧ 0 ≤ a2 ∧ a2 ≤ 100000 ∧ a1 < -a2) ∨ (len3 ≤ 20 ∧ 0 ≤ a2 ∧ a2 ≤ 100000 ∧ -a2 ≤ a1 ∧ a2 < a1) ∨ (len3 ≤ 20 ∧ 0 ≤ a2 ∧ a2 ≤ 100000 ∧ -a2 ≤ a1 ∧ a1 ≤ a2 ∧ a4 < 0) ∨ (len3 ≤ 20 ∧ 0 ≤ a2 ∧ a2 ≤ 100000 ∧ -a2 ≤ a1 ∧ a1 ≤ a2 ∧ 0 ≤ a4 ∧ 100000 < a4) ∨ (len3 ≤ 20 ∧ 0 ≤ a2 ∧ a2 ≤ 100000 ∧ -a2 ≤ a1 ∧ a1 ≤ a2 ∧ 0 ≤ a4 ∧ a4 ≤ 100000 ∧ a5 < 0) ∨ (len3 ≤ 20 ∧ 0 ≤ a2 ∧ a2 ≤ 100000 ∧ -a2 ≤ a1 ∧ a1 ≤ a2 ∧ 0 ≤ a4 ∧ a4 ≤ 100000 ∧ 0 ≤ a5 ∧ 3600000 < a5) := by omega
  clear hl
  rcases hl' with hl | ⟨hl, g1⟩ | ⟨hl, g1, g2⟩ | ⟨hl, g1, g2, g3⟩ | ⟨hl, g1, g2, g3, g4⟩ | ⟨hl, g1, g2, g3, g4, g5⟩ | ⟨hl, g1, g2, g3, g4, g5, g6⟩ | ⟨hl, g1, g2, g3, g4, g5, g6, g7⟩ | ⟨hl, g1, g2, g3, g4, g5, g6, g7, g8⟩
  all_goals
    go_enter Try.func9, Try.ntmps9
    go_wp2_with fail
    refine (known_true _).mono ?_
    rintro e w1 ⟨rfl, hb⟩
    go_wp2_with fail
    go_ret
    exact ⟨rfl, (by repeat (first | (with_reducible exact Below.refl _ _) | (with_reducible refine Below.drew ?_) | (with_reducible refine below_drewN ?_ _) | ((with_reducible refine Below.alloc ?_ ?_ _); rotate_left; (first | omega | (simp <;> omega)); rotate_right) | ((with_reducible refine Below.setCell ?_ ?_ _); rotate_left; (first | omega | (simp <;> omega)); rotate_right) | (with_reducible assumption) | (refine Below.trans ?_ (Below.mono (by assumption) ?_); rotate_left; (first | omega | (simp <;> omega)); rotate_right)))⟩

end Go.Proofs.Ytfbkbpoabajgdaa.lawHolds

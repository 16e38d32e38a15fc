/- The chapter's examples: each call by itself. -/
import Derived.Test.YtfbkbpoabajgdaaAdd
import Derived.Test.YtfbkbpoabajgdaaMeet
import Derived.Test.YtfbkbpoabajgdaaSure
namespace Go.Proofs.Ytfbkbpoabajgdaa
open Go.RowKit
set_option maxHeartbeats 4000000
set_option linter.unusedSimpArgs false
set_option linter.unusedVariables false
set_option maxRecDepth 100000
theorem kl1 (w : World) : Calls Try.prog 10 #[.int .i64 100, .int .i64 10, .int .i64 1000000] w fun e w' => e = .returned (.tuple #[.int .i64 1000110, .int .i64 0]) ∧ w = w' :=
  (local_any 100 10 1000000 w).mono fun e w' ⟨h1, h2⟩ => ⟨h1.trans (ret_ii (by decide +kernel) (by decide +kernel)), h2⟩
theorem kl2 (w : World) : Calls Try.prog 10 #[.int .i64 0, .int .i64 (-10), .int .i64 1] w fun e w' => e = .returned (.tuple #[.int .i64 0, .int .i64 0]) ∧ w = w' :=
  (local_any 0 (-10) 1 w).mono fun e w' ⟨h1, h2⟩ => ⟨h1.trans (ret_ii (by decide +kernel) (by decide +kernel)), h2⟩
theorem kl3 (w : World) : Calls Try.prog 10 #[.int .i64 0, .int .i64 100001, .int .i64 0] w fun e w' => e = .returned (.tuple #[.int .i64 0, .int .i64 2]) ∧ w = w' :=
  (local_any 0 100001 0 w).mono fun e w' ⟨h1, h2⟩ => ⟨h1.trans (ret_ii (by decide +kernel) (by decide +kernel)), h2⟩
theorem kg1 (w : World) : Calls Try.prog 13 #[.agg #[.int .i64 10, .int .i64 20], .int .i64 0, .int .i64 5] w fun e w' => e = .returned (.tuple #[.agg #[.int .i64 14, .int .i64 26], .int .i64 0]) ∧ Below w.heap.size w w' :=
  (Grow_any 10 20 0 5 w).mono fun e w' ⟨h1, h2⟩ => ⟨h1.trans (ret_bb (by decide +kernel) (by decide +kernel) (by decide +kernel)), h2⟩
theorem kg2 (w : World) : Calls Try.prog 13 #[.agg #[.int .i64 10, .int .i64 20], .int .i64 100000, .int .i64 101] w fun e w' => e = .returned (.tuple #[.agg #[.int .i64 100, .int .i64 134], .int .i64 0]) ∧ Below w.heap.size w w' :=
  (Grow_any 10 20 100000 101 w).mono fun e w' ⟨h1, h2⟩ => ⟨h1.trans (ret_bb (by decide +kernel) (by decide +kernel) (by decide +kernel)), h2⟩
theorem kg3 (w : World) : Calls Try.prog 13 #[.agg #[.int .i64 10, .int .i64 20], .int .i64 0, .int .i64 0] w fun e w' => e = .returned (.tuple #[.agg #[.int .i64 10, .int .i64 21], .int .i64 0]) ∧ Below w.heap.size w w' :=
  (Grow_any 10 20 0 0 w).mono fun e w' ⟨h1, h2⟩ => ⟨h1.trans (ret_bb (by decide +kernel) (by decide +kernel) (by decide +kernel)), h2⟩
theorem km1 (w : World) : Calls Try.prog 15 #[.agg #[.int .i64 1, .int .i64 5], .agg #[.int .i64 3, .int .i64 9]] w fun e w' => e = .returned (.tuple #[.agg #[.int .i64 3, .int .i64 5], .int .i64 0]) ∧ Below w.heap.size w w' :=
  (Meet_any 1 5 3 9 w).mono fun e w' ⟨h1, h2⟩ => ⟨h1.trans (ret_bb (by decide +kernel) (by decide +kernel) (by decide +kernel)), h2⟩
theorem km2 (w : World) : Calls Try.prog 15 #[.agg #[.int .i64 1, .int .i64 2], .agg #[.int .i64 3, .int .i64 4]] w fun e w' => e = .returned (.tuple #[.agg #[.int .i64 0, .int .i64 0], .int .i64 10]) ∧ Below w.heap.size w w' :=
  (Meet_any 1 2 3 4 w).mono fun e w' ⟨h1, h2⟩ => ⟨h1.trans (ret_bb (by decide +kernel) (by decide +kernel) (by decide +kernel)), h2⟩
theorem kadd1 (b : Nat) (w : World) (hk : IsClk w b 0 0 true false 0 0) : Calls Try.prog 21 #[.pointer (some ⟨b, 0, none⟩), .agg #[.int .i64 100, .int .i64 1000, .int .i64 1002, .int .i64 108]] w fun e w' => e = .returned (.int .i64 0) ∧ IsClk w' b 0 108 true true 1002 1009 ∧ w.grownBy w' (some b) :=
  (add_any b 0 0 false 0 0 100 1000 1002 108 w hk (by unfold Clk.CInv; decide +kernel)).mono fun e w' ⟨h1, h2, h3⟩ => ⟨h1.trans (ret_int (by decide +kernel)), by
    rw [show Clk.addR 0 0 false 0 0 100 1000 1002 108 = 108 by decide +kernel, show Clk.addS 0 0 false 0 0 100 1000 1002 108 = true by decide +kernel, show Clk.addLo 0 0 false 0 0 100 1000 1002 108 = 1002 by decide +kernel, show Clk.addHi 0 0 false 0 0 100 1000 1002 108 = 1009 by decide +kernel] at h2
    exact h2, h3⟩
theorem kadd2 (b : Nat) (w : World) (hk : IsClk w b 0 108 true true 1002 1009) : Calls Try.prog 21 #[.pointer (some ⟨b, 0, none⟩), .agg #[.int .i64 110, .int .i64 1010, .int .i64 1010, .int .i64 111]] w fun e w' => e = .returned (.int .i64 0) ∧ IsClk w' b 0 111 true true 1010 1012 ∧ w.grownBy w' (some b) :=
  (add_any b 0 108 true 1002 1009 110 1010 1010 111 w hk (by unfold Clk.CInv; decide +kernel)).mono fun e w' ⟨h1, h2, h3⟩ => ⟨h1.trans (ret_int (by decide +kernel)), by
    rw [show Clk.addR 0 108 true 1002 1009 110 1010 1010 111 = 111 by decide +kernel, show Clk.addS 0 108 true 1002 1009 110 1010 1010 111 = true by decide +kernel, show Clk.addLo 0 108 true 1002 1009 110 1010 1010 111 = 1010 by decide +kernel, show Clk.addHi 0 108 true 1002 1009 110 1010 1010 111 = 1012 by decide +kernel] at h2
    exact h2, h3⟩
theorem kadd3 (b : Nat) (w : World) (hk : IsClk w b 0 111 true true 1010 1012) : Calls Try.prog 21 #[.pointer (some ⟨b, 0, none⟩), .agg #[.int .i64 111, .int .i64 2000, .int .i64 2000, .int .i64 112]] w fun e w' => e = .returned (.int .i64 10) ∧ IsClk w' b 0 111 true true 1010 1012 ∧ w.grownBy w' (some b) :=
  (add_any b 0 111 true 1010 1012 111 2000 2000 112 w hk (by unfold Clk.CInv; decide +kernel)).mono fun e w' ⟨h1, h2, h3⟩ => ⟨h1.trans (ret_int (by decide +kernel)), by
    rw [show Clk.addR 0 111 true 1010 1012 111 2000 2000 112 = 111 by decide +kernel, show Clk.addS 0 111 true 1010 1012 111 2000 2000 112 = true by decide +kernel, show Clk.addLo 0 111 true 1010 1012 111 2000 2000 112 = 1010 by decide +kernel, show Clk.addHi 0 111 true 1010 1012 111 2000 2000 112 = 1012 by decide +kernel] at h2
    exact h2, h3⟩
/-- 'at': for the examples -/
theorem at_is (b : Nat) (d r lo hi x l u : Int) (w : World) (hk : IsClk w b d r true true lo hi) (c : Clk.CInv d r lo hi) (e1 : aLo d r true lo hi x = l) (e2 : aHi d r true hi x = u) (e3 : aE d r true hi x = 0) :
    Calls Try.prog 31 #[.pointer (some ⟨b, 0, none⟩), .int .i64 x, .int .i64 l, .int .i64 u] w fun e w' => e = .returned (.bool true) ∧ Below w.heap.size w w' := by
  have A := Lib.hid (at_any b d r true lo hi x w hk c)
  rw [e1, e2, e3] at A
  clear e1 e2 e3 hk
  go_enter Try.func31, Try.ntmps31
  go_wp2_with fail
  refine A.out.mono ?_
  rintro e w1 ⟨rfl, hb⟩
  have hz := hb.size
  go_wp2_with fail
  refine (is_yes _ _ _).mono ?_
  rintro e w2 ⟨rfl, hb2⟩
  have hz2 := hb2.size; simp at hz2
  go_wp2_with fail
  go_ret
  exact ⟨rfl, (by repeat (first | (with_reducible exact Below.refl _ _) | (with_reducible refine Below.drew ?_) | (with_reducible refine below_drewN ?_ _) | ((with_reducible refine Below.alloc ?_ ?_ _); rotate_left; (first | omega | (simp <;> omega)); rotate_right) | ((with_reducible refine Below.setCell ?_ ?_ _); rotate_left; (first | omega | (simp <;> omega)); rotate_right) | (with_reducible assumption) | (refine Below.trans ?_ (Below.mono (by assumption) ?_); rotate_left; (first | omega | (simp <;> omega)); rotate_right)))⟩
theorem ks1 (b : Nat) (w : World) (hk : IsClk w b 0 108 true true 1002 1009) : Calls Try.prog 22 #[.pointer (some ⟨b, 0, none⟩), .int .i64 1004] w fun e w' => e = .returned (.tuple #[.int .i64 111, .int .i64 0]) ∧ Below w.heap.size w w' := by
  have m : Clk.suM 0 108 1002 1004 = 3 := by
    refine Clk.cnt_eq _ 3 _ (by decide +kernel) (fun t ht => ?_) (fun t h1 _ => ?_)
    · unfold Clk.suP Clk.gLo Clk.up; simp; split <;> omega
    · unfold Clk.suP Clk.gLo Clk.up; rw [if_pos (by omega)]; simp; omega
  have e1 : Clk.suE 0 108 true 1002 1004 = 0 := by rw [Clk.suE, if_neg (by decide +kernel), if_neg (by simp), if_neg (by rw [m]; decide +kernel)]
  have e2 : Clk.suV 0 108 true 1002 1004 = 111 := by rw [Clk.suV, if_pos e1, m]; rfl
  exact (sure_any b 0 108 true 1002 1009 1004 w hk (by unfold Clk.CInv; decide +kernel)).mono fun e w' ⟨h1, h2⟩ => ⟨h1.trans (ret_ii e2 e1), h2⟩
theorem ks2 (b : Nat) (w : World) (hk : IsClk w b 0 111 true true 1010 1012) : Calls Try.prog 22 #[.pointer (some ⟨b, 0, none⟩), .int .i64 0] w fun e w' => e = .returned (.tuple #[.int .i64 111, .int .i64 0]) ∧ Below w.heap.size w w' := by
  have m : Clk.suM 0 111 1010 0 = 0 := by
    refine Clk.cnt_eq _ 0 _ (by decide +kernel) (fun t ht => by omega) (fun t h1 _ => ?_)
    unfold Clk.suP Clk.gLo Clk.up; simp; split <;> omega
  have e1 : Clk.suE 0 111 true 1010 0 = 0 := by rw [Clk.suE, if_neg (by decide +kernel), if_neg (by simp), if_neg (by rw [m]; decide +kernel)]
  have e2 : Clk.suV 0 111 true 1010 0 = 111 := by rw [Clk.suV, if_pos e1, m]; rfl
  exact (sure_any b 0 111 true 1010 1012 0 w hk (by unfold Clk.CInv; decide +kernel)).mono fun e w' ⟨h1, h2⟩ => ⟨h1.trans (ret_ii e2 e1), h2⟩
end Go.Proofs.Ytfbkbpoabajgdaa

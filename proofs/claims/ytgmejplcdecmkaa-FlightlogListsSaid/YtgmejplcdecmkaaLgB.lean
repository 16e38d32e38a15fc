/- bytes.Equal; same, within, place of a log; Point of the reference. -/
import Derived.Test.YtgmejplcdecmkaaLgA
import Derived.Test.YtgmejplcdecmkaaSame
import Derived.Test.YtgmejplcdecmkaaVal
namespace Go.Proofs.Ytgmejplcdecmkaa
open Go.RowKit
set_option maxHeartbeats 4000000
set_option maxRecDepth 100000
set_option linter.unusedSimpArgs false
set_option linter.unusedVariables false
theorem beq_any (A C : Option Addr) (n m cap caq : Nat) (l k : List Int) (w : World) (h : Rd w w.heap.size A n l) (g : Rd w w.heap.size C m k) :
    Calls Try.prog 79 #[.slice A n cap, .slice C m caq] w fun e w' => e = .returned (.bool (decide (l = k))) ∧ w = w' := by
  have h1 := str_of h cap
  have h2 := str_of g caq
  go_enter Try.func79, Try.ntmps79
  go_wp2_with fail
  go_ret
  exact ⟨ret_bool (str_eq h.2.1 g.2.1), rfl⟩
theorem fsame_any (k f t s k' f' t' s' : Int) (A C : Option Addr) (n m cap caq : Nat) (l l' : List Int) (w : World) (h : Rd w w.heap.size A n l) (g : Rd w w.heap.size C m l') :
    Calls Try.prog 57 #[.agg #[.int .i64 k, .int .i64 f, .int .i64 t, .int .i64 s, .slice A n cap], .agg #[.int .i64 k', .int .i64 f', .int .i64 t', .int .i64 s', .slice C m caq]] w
      fun e w' => e = .returned (.bool (sameB k f t s k' f' t' s' l l')) ∧ Below w.heap.size w w' := by
  have H := Lib.hid h
  have G := Lib.hid g
  clear h g
  by_cases e1 : k = k'
  · subst e1
    by_cases e2 : f = f'
    · subst e2
      by_cases e3 : t = t'
      · subst e3
        by_cases e4 : s = s'
        · subst e4
          have E := Lib.hid (show sameB k f t s k f t s l l' = decide (l = l') by simp [sameB])
          go_enter Try.func57, Try.ntmps57
          go_wp2_with fail
          refine (beq_any A C n m cap caq l l' _ (Rd.more (Rd.alloc (Rd.alloc H.out (Nat.le_refl _) _) (by simp) _) (by simp; omega)) (Rd.more (Rd.alloc (Rd.alloc G.out (Nat.le_refl _) _) (by simp) _) (by simp; omega))).mono ?_
          rintro e w' ⟨rfl, rfl⟩
          go_wp2_with fail
          go_ret
          exact ⟨ret_bool E.out.symm, (by repeat (first | (with_reducible exact Below.refl _ _) | (with_reducible refine Below.drew ?_) | (with_reducible refine below_drewN ?_ _) | ((with_reducible refine Below.alloc ?_ ?_ _); rotate_left; (first | omega | (simp <;> omega)); rotate_right) | ((with_reducible refine Below.setCell ?_ ?_ _); rotate_left; (first | omega | (simp <;> omega)); rotate_right) | (with_reducible assumption) | (refine Below.trans ?_ (Below.mono (by assumption) ?_); rotate_left; (first | omega | (simp <;> omega)); rotate_right)))⟩
        · have E := Lib.hid (show sameB k f t s k f t s' l l' = false by simp [sameB, e4])
          have z := beq_ff e4
          clear e4
          go_enter Try.func57, Try.ntmps57
          go_wp2_with fail
          go_ret
          exact ⟨ret_bool E.out.symm, (by repeat (first | (with_reducible exact Below.refl _ _) | (with_reducible refine Below.drew ?_) | (with_reducible refine below_drewN ?_ _) | ((with_reducible refine Below.alloc ?_ ?_ _); rotate_left; (first | omega | (simp <;> omega)); rotate_right) | ((with_reducible refine Below.setCell ?_ ?_ _); rotate_left; (first | omega | (simp <;> omega)); rotate_right) | (with_reducible assumption) | (refine Below.trans ?_ (Below.mono (by assumption) ?_); rotate_left; (first | omega | (simp <;> omega)); rotate_right)))⟩
      · have E := Lib.hid (show sameB k f t s k f t' s' l l' = false by simp [sameB, e3])
        have z := beq_ff e3
        clear e3
        go_enter Try.func57, Try.ntmps57
        go_wp2_with fail
        go_ret
        exact ⟨ret_bool E.out.symm, (by repeat (first | (with_reducible exact Below.refl _ _) | (with_reducible refine Below.drew ?_) | (with_reducible refine below_drewN ?_ _) | ((with_reducible refine Below.alloc ?_ ?_ _); rotate_left; (first | omega | (simp <;> omega)); rotate_right) | ((with_reducible refine Below.setCell ?_ ?_ _); rotate_left; (first | omega | (simp <;> omega)); rotate_right) | (with_reducible assumption) | (refine Below.trans ?_ (Below.mono (by assumption) ?_); rotate_left; (first | omega | (simp <;> omega)); rotate_right)))⟩
    · have E := Lib.hid (show sameB k f t s k f' t' s' l l' = false by simp [sameB, e2])
      have z := beq_ff e2
      clear e2
      go_enter Try.func57, Try.ntmps57
      go_wp2_with fail
      go_ret
      exact ⟨ret_bool E.out.symm, (by repeat (first | (with_reducible exact Below.refl _ _) | (with_reducible refine Below.drew ?_) | (with_reducible refine below_drewN ?_ _) | ((with_reducible refine Below.alloc ?_ ?_ _); rotate_left; (first | omega | (simp <;> omega)); rotate_right) | ((with_reducible refine Below.setCell ?_ ?_ _); rotate_left; (first | omega | (simp <;> omega)); rotate_right) | (with_reducible assumption) | (refine Below.trans ?_ (Below.mono (by assumption) ?_); rotate_left; (first | omega | (simp <;> omega)); rotate_right)))⟩
  · have E := Lib.hid (show sameB k f t s k' f' t' s' l l' = false by simp [sameB, e1])
    have z := beq_ff e1
    clear e1
    go_enter Try.func57, Try.ntmps57
    go_wp2_with fail
    go_ret
    exact ⟨ret_bool E.out.symm, (by repeat (first | (with_reducible exact Below.refl _ _) | (with_reducible refine Below.drew ?_) | (with_reducible refine below_drewN ?_ _) | ((with_reducible refine Below.alloc ?_ ?_ _); rotate_left; (first | omega | (simp <;> omega)); rotate_right) | ((with_reducible refine Below.setCell ?_ ?_ _); rotate_left; (first | omega | (simp <;> omega)); rotate_right) | (with_reducible assumption) | (refine Below.trans ?_ (Below.mono (by assumption) ?_); rotate_left; (first | omega | (simp <;> omega)); rotate_right)))⟩

theorem lwithin_any (n a b : Int) (w : World) :
    Calls Try.prog 60 #[.int .i64 n, .int .i64 a, .int .i64 b] w fun e w' => e = .returned (.bool (Frm.inB n a b)) ∧ w = w' := by
  by_cases h : a ≤ n
  all_goals
    go_enter Try.func60, Try.ntmps60
    go_wp2_with fail
    go_ret
    exact ⟨ret_bool (by simp [Frm.inB, h]; try omega), rfl⟩
theorem lwithin_is (n a b : Int) (r : Bool) (w : World) (h : Frm.inB n a b = r) :
    Calls Try.prog 60 #[.int .i64 n, .int .i64 a, .int .i64 b] w fun e w' => e = .returned (.bool r) ∧ w = w' := by
  subst h
  exact lwithin_any n a b w
theorem eto_any (n a b : Int) (w : World) :
    Calls Try.prog 51 #[.int .i64 n, .int .i64 a, .int .i64 b] w fun e w' => e = .returned (.bool (Frm.inB n a b)) ∧ w = w' := by
  by_cases h : a ≤ n
  all_goals
    go_enter Try.func51, Try.ntmps51
    go_wp2_with fail
    go_ret
    exact ⟨ret_bool (by simp [Frm.inB, h]; try omega), rfl⟩
theorem eto_is (n a b : Int) (r : Bool) (w : World) (h : Frm.inB n a b = r) :
    Calls Try.prog 51 #[.int .i64 n, .int .i64 a, .int .i64 b] w fun e w' => e = .returned (.bool r) ∧ w = w' := by
  subst h
  exact eto_any n a b w
namespace Lg
def inP3 (x y z : Int) : Bool := inP x && inP y && inP z
theorem inP_inB (v : Int) : Frm.inB v (-1048576) 1048576 = inP v := by
  unfold Frm.inB inP
  by_cases h1 : -1048576 ≤ v <;> by_cases h2 : v ≤ 1048576 <;> simp [h1, h2]
end Lg
theorem point_any (x y z : Int) (w : World) :
    Calls Try.prog 19 #[.agg #[.int .i64 x, .int .i64 y, .int .i64 z]] w fun e w' => e = .returned (.bool (Lg.inP3 x y z)) ∧ Below w.heap.size w w' := by
  cases h1 : Lg.inP x
  · have X := Lib.hid (fun W => eto_is x (-1048576) 1048576 false W (by rw [Lg.inP_inB]; exact h1))
    have E := Lib.hid (show Lg.inP3 x y z = false by unfold Lg.inP3; rw [h1]; rfl)
    clear h1
    go_enter Try.func19, Try.ntmps19
    go_wp2_with fail
    refine (X.out _).mono ?_
    rintro e w' ⟨rfl, rfl⟩
    go_wp2_with fail
    go_ret
    exact ⟨ret_bool E.out.symm, (by repeat (first | (with_reducible exact Below.refl _ _) | (with_reducible refine Below.drew ?_) | (with_reducible refine below_drewN ?_ _) | ((with_reducible refine Below.alloc ?_ ?_ _); rotate_left; (first | omega | (simp <;> omega)); rotate_right) | ((with_reducible refine Below.setCell ?_ ?_ _); rotate_left; (first | omega | (simp <;> omega)); rotate_right) | (with_reducible assumption) | (refine Below.trans ?_ (Below.mono (by assumption) ?_); rotate_left; (first | omega | (simp <;> omega)); rotate_right)))⟩
  · have X := Lib.hid (fun W => eto_is x (-1048576) 1048576 true W (by rw [Lg.inP_inB]; exact h1))
    cases h2 : Lg.inP y
    · have Y := Lib.hid (fun W => eto_is y (-1048576) 1048576 false W (by rw [Lg.inP_inB]; exact h2))
      have E := Lib.hid (show Lg.inP3 x y z = false by unfold Lg.inP3; rw [h2]; simp)
      clear h1 h2
      go_enter Try.func19, Try.ntmps19
      go_wp2_with fail
      refine (X.out _).mono ?_
      rintro e w' ⟨rfl, rfl⟩
      go_wp2_with fail
      refine (Y.out _).mono ?_
      rintro e w' ⟨rfl, rfl⟩
      go_wp2_with fail
      go_ret
      exact ⟨ret_bool E.out.symm, (by repeat (first | (with_reducible exact Below.refl _ _) | (with_reducible refine Below.drew ?_) | (with_reducible refine below_drewN ?_ _) | ((with_reducible refine Below.alloc ?_ ?_ _); rotate_left; (first | omega | (simp <;> omega)); rotate_right) | ((with_reducible refine Below.setCell ?_ ?_ _); rotate_left; (first | omega | (simp <;> omega)); rotate_right) | (with_reducible assumption) | (refine Below.trans ?_ (Below.mono (by assumption) ?_); rotate_left; (first | omega | (simp <;> omega)); rotate_right)))⟩
    · have Y := Lib.hid (fun W => eto_is y (-1048576) 1048576 true W (by rw [Lg.inP_inB]; exact h2))
      have E := Lib.hid (show Lg.inP3 x y z = Frm.inB z (-1048576) 1048576 by unfold Lg.inP3; rw [h1, h2, Lg.inP_inB]; rfl)
      clear h1 h2
      go_enter Try.func19, Try.ntmps19
      go_wp2_with fail
      refine (X.out _).mono ?_
      rintro e w' ⟨rfl, rfl⟩
      go_wp2_with fail
      refine (Y.out _).mono ?_
      rintro e w' ⟨rfl, rfl⟩
      go_wp2_with fail
      refine (eto_any _ _ _ _).mono ?_
      rintro e w' ⟨rfl, rfl⟩
      go_wp2_with fail
      go_ret
      exact ⟨ret_bool E.out.symm, (by repeat (first | (with_reducible exact Below.refl _ _) | (with_reducible refine Below.drew ?_) | (with_reducible refine below_drewN ?_ _) | ((with_reducible refine Below.alloc ?_ ?_ _); rotate_left; (first | omega | (simp <;> omega)); rotate_right) | ((with_reducible refine Below.setCell ?_ ?_ _); rotate_left; (first | omega | (simp <;> omega)); rotate_right) | (with_reducible assumption) | (refine Below.trans ?_ (Below.mono (by assumption) ?_); rotate_left; (first | omega | (simp <;> omega)); rotate_right)))⟩
theorem place_any (x y z : Int) (w : World) :
    Calls Try.prog 69 #[.agg #[.int .i64 x, .int .i64 y, .int .i64 z]] w fun e w' => e = .returned (.bool (Lg.inP3 x y z)) ∧ Below w.heap.size w w' := by
  have E := Lib.hid (show Lg.inP3 x y z = decide ((x ≤ 1048576 ∧ y ≤ 1048576 ∧ z ≤ 1048576) ∧ (-1048576 ≤ x ∧ -1048576 ≤ y ∧ -1048576 ≤ z)) by
    unfold Lg.inP3 Lg.inP
    rw [Bool.eq_iff_iff]
    simp
    omega)
  go_enter Try.func69, Try.ntmps69
  go_wp2_with fail
  all_goals
    go_ret
    exact ⟨ret_bool (by rw [E.out, eq_comm]; first | (apply decide_eq_true; omega) | (apply decide_eq_false; omega) | (rw [decide_eq_decide]; omega)), (by repeat (first | (with_reducible exact Below.refl _ _) | (with_reducible refine Below.drew ?_) | (with_reducible refine below_drewN ?_ _) | ((with_reducible refine Below.alloc ?_ ?_ _); rotate_left; (first | omega | (simp <;> omega)); rotate_right) | ((with_reducible refine Below.setCell ?_ ?_ _); rotate_left; (first | omega | (simp <;> omega)); rotate_right) | (with_reducible assumption) | (refine Below.trans ?_ (Below.mono (by assumption) ?_); rotate_left; (first | omega | (simp <;> omega)); rotate_right)))⟩
end Go.Proofs.Ytgmejplcdecmkaa

/- Two records are equal. -/
import Derived.Test.YtgmejplcdecmkaaLgR
namespace Go.Proofs.Ytgmejplcdecmkaa
open Go.RowKit
set_option maxHeartbeats 8000000
set_option maxRecDepth 100000
set_option linter.unusedSimpArgs false
set_option linter.unusedVariables false
attribute [local go_sem ↓] Go.wp_at_zero Go.wp_at_succ
namespace Lg
def sameR (x y : Rc) : Bool := decide (x.t = y.t ∧ x.a = y.a ∧ x.k = y.k ∧ (x.x = y.x ∧ x.y = y.y ∧ x.z = y.z) ∧ x.s = y.s ∧ x.sum = y.sum) && frEq x.f y.f
theorem sameR_iff {x y : Rc} : sameR x y = true ↔ x = y := by
  cases x; cases y
  simp only [sameR, Bool.and_eq_true, decide_eq_true_eq, frEq_iff, Rc.mk.injEq]
  constructor
  · rintro ⟨⟨h1, h2, h3, ⟨h4, h5, h6⟩, h7, h8⟩, h9⟩; exact ⟨h1, h2, h3, h4, h5, h6, h7, h9, h8⟩
  · rintro ⟨h1, h2, h3, h4, h5, h6, h7, h9, h8⟩; exact ⟨⟨h1, h2, h3, ⟨h4, h5, h6⟩, h7, h8⟩, h9⟩
theorem sameR_refl (x : Rc) : sameR x x = true := sameR_iff.2 rfl
def sameRs : List Rc → List Rc → Bool
  | [], [] => true
  | x :: l, y :: m => sameR x y && sameRs l m
  | _, _ => false
theorem sameRs_iff : ∀ {l m : List Rc}, sameRs l m = true ↔ l = m
  | [], [] => by simp [sameRs]
  | [], y :: m => by simp [sameRs]
  | x :: l, [] => by simp [sameRs]
  | x :: l, y :: m => by simp [sameRs, sameR_iff, sameRs_iff]
theorem sameRs_no {l m : List Rc} {j : Nat} (h : sameR (l.getD j r0) (m.getD j r0) = false) : sameRs l m = false := by
  cases hx : sameRs l m
  · rfl
  · rw [sameRs_iff] at hx
    subst hx
    rw [sameR_refl] at h
    cases h
theorem sameRs_yes {l m : List Rc} (hl : l.length = m.length) (h : ∀ i, i < l.length → sameR (l.getD i r0) (m.getD i r0) = true) : sameRs l m = true := by
  rw [sameRs_iff]
  apply List.ext_getElem hl
  intro i h1 h2
  have := sameR_iff.1 (h i h1)
  simpa [List.getD, List.getElem?_eq_getElem h1, List.getElem?_eq_getElem h2] using this
theorem sameRs_len {l m : List Rc} (hl : l.length ≠ m.length) : sameRs l m = false := by
  cases hx : sameRs l m
  · rfl
  · rw [sameRs_iff] at hx
    subst hx
    exact absurd rfl hl
end Lg
theorem veql2 (x y z x' y' z' : Int) (W : World) : (binOp .eql 25 (.agg #[.int .i64 x, .int .i64 y, .int .i64 z]) (.agg #[.int .i64 x', .int .i64 y', .int .i64 z'])).run Try.prog W = .ok (.bool (decide (x = x' ∧ y = y' ∧ z = z'))) W := by
  by_cases h1 : x = x' <;> by_cases h2 : y = y' <;> by_cases h3 : z = z' <;> simp [go_sem, h1, h2, h3]
theorem rsameR_any (v v' : Lg.RV) (w : World) (hv : Lg.Ok w w.heap.size v) (hv' : Lg.Ok w w.heap.size v') :
    Calls Try.prog 36 #[v.val, v'.val] w fun e w' => e = .returned (.bool (Lg.sameR v.x v'.x)) ∧ Below w.heap.size w w' := by
  obtain ⟨⟨t, a, k, x, y, z, s, ⟨fk, ff, ft, fs, d⟩, u⟩, A, cap⟩ := v
  obtain ⟨⟨t', a', k', x', y', z', s', ⟨gk, gf, gt, gs, e⟩, u'⟩, B, caq⟩ := v'
  have SM := Lib.hid (fun (W : World) (hW : Below w.heap.size w W) => same_any fk ff ft fs gk gf gt gs A B d.length e.length cap caq d e W (hv.1.below hW (Nat.le_refl _) |>.more hW.size) (hv'.1.below hW (Nat.le_refl _) |>.more hW.size))
  clear hv hv'
  simp only [Lg.RV.val, Lg.RV.cells] at SM ⊢
  by_cases ht : t = t'
  rotate_left
  · have E := Lib.hid (show Lg.sameR ⟨t, a, k, x, y, z, s, ⟨fk, ff, ft, fs, d⟩, u⟩ ⟨t', a', k', x', y', z', s', ⟨gk, gf, gt, gs, e⟩, u'⟩ = false by simp [Lg.sameR, ht])
    have zt := beq_ff ht
    clear ht
    go_enter Try.func36, Try.ntmps36
    go_wp2_with fail
    go_ret
    exact ⟨ret_bool E.out.symm, (by repeat (first | (with_reducible exact Below.refl _ _) | (with_reducible refine Below.drew ?_) | (with_reducible refine below_drewN ?_ _) | ((with_reducible refine Below.alloc ?_ ?_ _); rotate_left; (first | omega | (simp <;> omega)); rotate_right) | ((with_reducible refine Below.setCell ?_ ?_ _); rotate_left; (first | omega | (simp <;> omega)); rotate_right) | (with_reducible assumption) | (refine Below.trans ?_ (Below.mono (by assumption) ?_); rotate_left; (first | omega | (simp <;> omega)); rotate_right)))⟩
  subst ht
  by_cases ha : a = a'
  rotate_left
  · have E := Lib.hid (show Lg.sameR ⟨t, a, k, x, y, z, s, ⟨fk, ff, ft, fs, d⟩, u⟩ ⟨t, a', k', x', y', z', s', ⟨gk, gf, gt, gs, e⟩, u'⟩ = false by simp [Lg.sameR, ha])
    have za := beq_ff ha
    clear ha
    go_enter Try.func36, Try.ntmps36
    go_wp2_with fail
    go_ret
    exact ⟨ret_bool E.out.symm, (by repeat (first | (with_reducible exact Below.refl _ _) | (with_reducible refine Below.drew ?_) | (with_reducible refine below_drewN ?_ _) | ((with_reducible refine Below.alloc ?_ ?_ _); rotate_left; (first | omega | (simp <;> omega)); rotate_right) | ((with_reducible refine Below.setCell ?_ ?_ _); rotate_left; (first | omega | (simp <;> omega)); rotate_right) | (with_reducible assumption) | (refine Below.trans ?_ (Below.mono (by assumption) ?_); rotate_left; (first | omega | (simp <;> omega)); rotate_right)))⟩
  subst ha
  by_cases hk : k = k'
  rotate_left
  · have E := Lib.hid (show Lg.sameR ⟨t, a, k, x, y, z, s, ⟨fk, ff, ft, fs, d⟩, u⟩ ⟨t, a, k', x', y', z', s', ⟨gk, gf, gt, gs, e⟩, u'⟩ = false by simp [Lg.sameR, hk])
    have zk := beq_ff hk
    clear hk
    go_enter Try.func36, Try.ntmps36
    go_wp2_with fail
    go_ret
    exact ⟨ret_bool E.out.symm, (by repeat (first | (with_reducible exact Below.refl _ _) | (with_reducible refine Below.drew ?_) | (with_reducible refine below_drewN ?_ _) | ((with_reducible refine Below.alloc ?_ ?_ _); rotate_left; (first | omega | (simp <;> omega)); rotate_right) | ((with_reducible refine Below.setCell ?_ ?_ _); rotate_left; (first | omega | (simp <;> omega)); rotate_right) | (with_reducible assumption) | (refine Below.trans ?_ (Below.mono (by assumption) ?_); rotate_left; (first | omega | (simp <;> omega)); rotate_right)))⟩
  subst hk
  have nq := veql2 x y z x' y' z'
  by_cases hV : x = x' ∧ y = y' ∧ z = z'
  rotate_left
  · have E := Lib.hid (show Lg.sameR ⟨t, a, k, x, y, z, s, ⟨fk, ff, ft, fs, d⟩, u⟩ ⟨t, a, k, x', y', z', s', ⟨gk, gf, gt, gs, e⟩, u'⟩ = false by simp only [Lg.sameR]; rw [decide_eq_false (fun h => hV h.2.2.2.1)]; rfl)
    rw [decide_eq_false hV] at nq
    clear hV
    go_enter Try.func36, Try.ntmps36
    go_wp2_with fail
    go_ret
    exact ⟨ret_bool E.out.symm, (by repeat (first | (with_reducible exact Below.refl _ _) | (with_reducible refine Below.drew ?_) | (with_reducible refine below_drewN ?_ _) | ((with_reducible refine Below.alloc ?_ ?_ _); rotate_left; (first | omega | (simp <;> omega)); rotate_right) | ((with_reducible refine Below.setCell ?_ ?_ _); rotate_left; (first | omega | (simp <;> omega)); rotate_right) | (with_reducible assumption) | (refine Below.trans ?_ (Below.mono (by assumption) ?_); rotate_left; (first | omega | (simp <;> omega)); rotate_right)))⟩
  obtain ⟨rfl, rfl, rfl⟩ := hV
  have nq2 : decide (x = x ∧ y = y ∧ z = z) = true := by simp
  rw [nq2] at nq
  clear nq2
  by_cases hs : s = s'
  rotate_left
  · have E := Lib.hid (show Lg.sameR ⟨t, a, k, x, y, z, s, ⟨fk, ff, ft, fs, d⟩, u⟩ ⟨t, a, k, x, y, z, s', ⟨gk, gf, gt, gs, e⟩, u'⟩ = false by simp [Lg.sameR, hs])
    have zs := beq_ff hs
    clear hs
    go_enter Try.func36, Try.ntmps36
    go_wp2_with fail
    go_ret
    exact ⟨ret_bool E.out.symm, (by repeat (first | (with_reducible exact Below.refl _ _) | (with_reducible refine Below.drew ?_) | (with_reducible refine below_drewN ?_ _) | ((with_reducible refine Below.alloc ?_ ?_ _); rotate_left; (first | omega | (simp <;> omega)); rotate_right) | ((with_reducible refine Below.setCell ?_ ?_ _); rotate_left; (first | omega | (simp <;> omega)); rotate_right) | (with_reducible assumption) | (refine Below.trans ?_ (Below.mono (by assumption) ?_); rotate_left; (first | omega | (simp <;> omega)); rotate_right)))⟩
  subst hs
  cases hf : frEq ⟨fk, ff, ft, fs, d⟩ ⟨gk, gf, gt, gs, e⟩
  · have E := Lib.hid (show Lg.sameR ⟨t, a, k, x, y, z, s, ⟨fk, ff, ft, fs, d⟩, u⟩ ⟨t, a, k, x, y, z, s, ⟨gk, gf, gt, gs, e⟩, u'⟩ = false by simp only [Lg.sameR]; rw [hf, Bool.and_false])
    rw [show sameB fk ff ft fs gk gf gt gs d e = false from hf] at SM
    clear hf
    go_enter Try.func36, Try.ntmps36
    go_wp2_with fail
    refine (SM.out _ (by repeat (first | (with_reducible exact Below.refl _ _) | (with_reducible refine Below.drew ?_) | (with_reducible refine below_drewN ?_ _) | ((with_reducible refine Below.alloc ?_ ?_ _); rotate_left; (first | omega | (simp <;> omega)); rotate_right) | ((with_reducible refine Below.setCell ?_ ?_ _); rotate_left; (first | omega | (simp <;> omega)); rotate_right) | (with_reducible assumption) | (refine Below.trans ?_ (Below.mono (by assumption) ?_); rotate_left; (first | omega | (simp <;> omega)); rotate_right)))).mono ?_
    rintro e' w5 ⟨rfl, hb5⟩
    have hz5 := hb5.size; (try simp at hz5)
    go_wp2_with fail
    go_ret
    exact ⟨ret_bool E.out.symm, (by repeat (first | (with_reducible exact Below.refl _ _) | (with_reducible refine Below.drew ?_) | (with_reducible refine below_drewN ?_ _) | ((with_reducible refine Below.alloc ?_ ?_ _); rotate_left; (first | omega | (simp <;> omega)); rotate_right) | ((with_reducible refine Below.setCell ?_ ?_ _); rotate_left; (first | omega | (simp <;> omega)); rotate_right) | (with_reducible assumption) | (refine Below.trans ?_ (Below.mono (by assumption) ?_); rotate_left; (first | omega | (simp <;> omega)); rotate_right)))⟩
  rw [show sameB fk ff ft fs gk gf gt gs d e = true from hf] at SM
  by_cases hu : u = u'
  rotate_left
  · have E := Lib.hid (show Lg.sameR ⟨t, a, k, x, y, z, s, ⟨fk, ff, ft, fs, d⟩, u⟩ ⟨t, a, k, x, y, z, s, ⟨gk, gf, gt, gs, e⟩, u'⟩ = false by simp [Lg.sameR, hu])
    have zu := beq_ff hu
    clear hu
    go_enter Try.func36, Try.ntmps36
    go_wp2_with fail
    refine (SM.out _ (by repeat (first | (with_reducible exact Below.refl _ _) | (with_reducible refine Below.drew ?_) | (with_reducible refine below_drewN ?_ _) | ((with_reducible refine Below.alloc ?_ ?_ _); rotate_left; (first | omega | (simp <;> omega)); rotate_right) | ((with_reducible refine Below.setCell ?_ ?_ _); rotate_left; (first | omega | (simp <;> omega)); rotate_right) | (with_reducible assumption) | (refine Below.trans ?_ (Below.mono (by assumption) ?_); rotate_left; (first | omega | (simp <;> omega)); rotate_right)))).mono ?_
    rintro e' w5 ⟨rfl, hb5⟩
    have hz5 := hb5.size; (try simp at hz5)
    have d1 := ((bcell hb5).1 w.heap.size 12 (by first | omega | (simp; done) | (simp; omega))).trans (show _ = some (.int .u32 u) by simp [go_sem])
    have d2 := ((bcell hb5).1 (w.heap.size + 1) 12 (by first | omega | (simp; done) | (simp; omega))).trans (show _ = some (.int .u32 u') by simp [go_sem])
    go_wp2_with fail
    go_ret
    exact ⟨ret_bool E.out.symm, (by repeat (first | (with_reducible exact Below.refl _ _) | (with_reducible refine Below.drew ?_) | (with_reducible refine below_drewN ?_ _) | ((with_reducible refine Below.alloc ?_ ?_ _); rotate_left; (first | omega | (simp <;> omega)); rotate_right) | ((with_reducible refine Below.setCell ?_ ?_ _); rotate_left; (first | omega | (simp <;> omega)); rotate_right) | (with_reducible assumption) | (refine Below.trans ?_ (Below.mono (by assumption) ?_); rotate_left; (first | omega | (simp <;> omega)); rotate_right)))⟩
  subst hu
  have E := Lib.hid (show Lg.sameR ⟨t, a, k, x, y, z, s, ⟨fk, ff, ft, fs, d⟩, u⟩ ⟨t, a, k, x, y, z, s, ⟨gk, gf, gt, gs, e⟩, u⟩ = true by simp only [Lg.sameR]; rw [hf]; simp)
  clear hf
  go_enter Try.func36, Try.ntmps36
  go_wp2_with fail
  refine (SM.out _ (by repeat (first | (with_reducible exact Below.refl _ _) | (with_reducible refine Below.drew ?_) | (with_reducible refine below_drewN ?_ _) | ((with_reducible refine Below.alloc ?_ ?_ _); rotate_left; (first | omega | (simp <;> omega)); rotate_right) | ((with_reducible refine Below.setCell ?_ ?_ _); rotate_left; (first | omega | (simp <;> omega)); rotate_right) | (with_reducible assumption) | (refine Below.trans ?_ (Below.mono (by assumption) ?_); rotate_left; (first | omega | (simp <;> omega)); rotate_right)))).mono ?_
  rintro e' w5 ⟨rfl, hb5⟩
  have hz5 := hb5.size; (try simp at hz5)
  have d1 := ((bcell hb5).1 w.heap.size 12 (by first | omega | (simp; done) | (simp; omega))).trans (show _ = some (.int .u32 u) by simp [go_sem])
  have d2 := ((bcell hb5).1 (w.heap.size + 1) 12 (by first | omega | (simp; done) | (simp; omega))).trans (show _ = some (.int .u32 u) by simp [go_sem])
  go_wp2_with fail
  go_ret
  exact ⟨ret_bool E.out.symm, (by repeat (first | (with_reducible exact Below.refl _ _) | (with_reducible refine Below.drew ?_) | (with_reducible refine below_drewN ?_ _) | ((with_reducible refine Below.alloc ?_ ?_ _); rotate_left; (first | omega | (simp <;> omega)); rotate_right) | ((with_reducible refine Below.setCell ?_ ?_ _); rotate_left; (first | omega | (simp <;> omega)); rotate_right) | (with_reducible assumption) | (refine Below.trans ?_ (Below.mono (by assumption) ?_); rotate_left; (first | omega | (simp <;> omega)); rotate_right)))⟩
theorem lsameR_any (v v' : Lg.RV) (w : World) (hv : Lg.Ok w w.heap.size v) (hv' : Lg.Ok w w.heap.size v') :
    Calls Try.prog 56 #[v.val, v'.val] w fun e w' => e = .returned (.bool (Lg.sameR v.x v'.x)) ∧ Below w.heap.size w w' := by
  obtain ⟨⟨t, a, k, x, y, z, s, ⟨fk, ff, ft, fs, d⟩, u⟩, A, cap⟩ := v
  obtain ⟨⟨t', a', k', x', y', z', s', ⟨gk, gf, gt, gs, e⟩, u'⟩, B, caq⟩ := v'
  have SM := Lib.hid (fun (W : World) (hW : Below w.heap.size w W) => fsame_any fk ff ft fs gk gf gt gs A B d.length e.length cap caq d e W (hv.1.below hW (Nat.le_refl _) |>.more hW.size) (hv'.1.below hW (Nat.le_refl _) |>.more hW.size))
  clear hv hv'
  simp only [Lg.RV.val, Lg.RV.cells] at SM ⊢
  by_cases ht : t = t'
  rotate_left
  · have E := Lib.hid (show Lg.sameR ⟨t, a, k, x, y, z, s, ⟨fk, ff, ft, fs, d⟩, u⟩ ⟨t', a', k', x', y', z', s', ⟨gk, gf, gt, gs, e⟩, u'⟩ = false by simp [Lg.sameR, ht])
    have zt := beq_ff ht
    clear ht
    go_enter Try.func56, Try.ntmps56
    go_wp2_with fail
    go_ret
    exact ⟨ret_bool E.out.symm, (by repeat (first | (with_reducible exact Below.refl _ _) | (with_reducible refine Below.drew ?_) | (with_reducible refine below_drewN ?_ _) | ((with_reducible refine Below.alloc ?_ ?_ _); rotate_left; (first | omega | (simp <;> omega)); rotate_right) | ((with_reducible refine Below.setCell ?_ ?_ _); rotate_left; (first | omega | (simp <;> omega)); rotate_right) | (with_reducible assumption) | (refine Below.trans ?_ (Below.mono (by assumption) ?_); rotate_left; (first | omega | (simp <;> omega)); rotate_right)))⟩
  subst ht
  by_cases ha : a = a'
  rotate_left
  · have E := Lib.hid (show Lg.sameR ⟨t, a, k, x, y, z, s, ⟨fk, ff, ft, fs, d⟩, u⟩ ⟨t, a', k', x', y', z', s', ⟨gk, gf, gt, gs, e⟩, u'⟩ = false by simp [Lg.sameR, ha])
    have za := beq_ff ha
    clear ha
    go_enter Try.func56, Try.ntmps56
    go_wp2_with fail
    go_ret
    exact ⟨ret_bool E.out.symm, (by repeat (first | (with_reducible exact Below.refl _ _) | (with_reducible refine Below.drew ?_) | (with_reducible refine below_drewN ?_ _) | ((with_reducible refine Below.alloc ?_ ?_ _); rotate_left; (first | omega | (simp <;> omega)); rotate_right) | ((with_reducible refine Below.setCell ?_ ?_ _); rotate_left; (first | omega | (simp <;> omega)); rotate_right) | (with_reducible assumption) | (refine Below.trans ?_ (Below.mono (by assumption) ?_); rotate_left; (first | omega | (simp <;> omega)); rotate_right)))⟩
  subst ha
  by_cases hk : k = k'
  rotate_left
  · have E := Lib.hid (show Lg.sameR ⟨t, a, k, x, y, z, s, ⟨fk, ff, ft, fs, d⟩, u⟩ ⟨t, a, k', x', y', z', s', ⟨gk, gf, gt, gs, e⟩, u'⟩ = false by simp [Lg.sameR, hk])
    have zk := beq_ff hk
    clear hk
    go_enter Try.func56, Try.ntmps56
    go_wp2_with fail
    go_ret
    exact ⟨ret_bool E.out.symm, (by repeat (first | (with_reducible exact Below.refl _ _) | (with_reducible refine Below.drew ?_) | (with_reducible refine below_drewN ?_ _) | ((with_reducible refine Below.alloc ?_ ?_ _); rotate_left; (first | omega | (simp <;> omega)); rotate_right) | ((with_reducible refine Below.setCell ?_ ?_ _); rotate_left; (first | omega | (simp <;> omega)); rotate_right) | (with_reducible assumption) | (refine Below.trans ?_ (Below.mono (by assumption) ?_); rotate_left; (first | omega | (simp <;> omega)); rotate_right)))⟩
  subst hk
  have nq := veql2 x y z x' y' z'
  by_cases hV : x = x' ∧ y = y' ∧ z = z'
  rotate_left
  · have E := Lib.hid (show Lg.sameR ⟨t, a, k, x, y, z, s, ⟨fk, ff, ft, fs, d⟩, u⟩ ⟨t, a, k, x', y', z', s', ⟨gk, gf, gt, gs, e⟩, u'⟩ = false by simp only [Lg.sameR]; rw [decide_eq_false (fun h => hV h.2.2.2.1)]; rfl)
    rw [decide_eq_false hV] at nq
    clear hV
    go_enter Try.func56, Try.ntmps56
    go_wp2_with fail
    go_ret
    exact ⟨ret_bool E.out.symm, (by repeat (first | (with_reducible exact Below.refl _ _) | (with_reducible refine Below.drew ?_) | (with_reducible refine below_drewN ?_ _) | ((with_reducible refine Below.alloc ?_ ?_ _); rotate_left; (first | omega | (simp <;> omega)); rotate_right) | ((with_reducible refine Below.setCell ?_ ?_ _); rotate_left; (first | omega | (simp <;> omega)); rotate_right) | (with_reducible assumption) | (refine Below.trans ?_ (Below.mono (by assumption) ?_); rotate_left; (first | omega | (simp <;> omega)); rotate_right)))⟩
  obtain ⟨rfl, rfl, rfl⟩ := hV
  have nq2 : decide (x = x ∧ y = y ∧ z = z) = true := by simp
  rw [nq2] at nq
  clear nq2
  by_cases hs : s = s'
  rotate_left
  · have E := Lib.hid (show Lg.sameR ⟨t, a, k, x, y, z, s, ⟨fk, ff, ft, fs, d⟩, u⟩ ⟨t, a, k, x, y, z, s', ⟨gk, gf, gt, gs, e⟩, u'⟩ = false by simp [Lg.sameR, hs])
    have zs := beq_ff hs
    clear hs
    go_enter Try.func56, Try.ntmps56
    go_wp2_with fail
    go_ret
    exact ⟨ret_bool E.out.symm, (by repeat (first | (with_reducible exact Below.refl _ _) | (with_reducible refine Below.drew ?_) | (with_reducible refine below_drewN ?_ _) | ((with_reducible refine Below.alloc ?_ ?_ _); rotate_left; (first | omega | (simp <;> omega)); rotate_right) | ((with_reducible refine Below.setCell ?_ ?_ _); rotate_left; (first | omega | (simp <;> omega)); rotate_right) | (with_reducible assumption) | (refine Below.trans ?_ (Below.mono (by assumption) ?_); rotate_left; (first | omega | (simp <;> omega)); rotate_right)))⟩
  subst hs
  by_cases hu : u = u'
  rotate_left
  · have E := Lib.hid (show Lg.sameR ⟨t, a, k, x, y, z, s, ⟨fk, ff, ft, fs, d⟩, u⟩ ⟨t, a, k, x, y, z, s, ⟨gk, gf, gt, gs, e⟩, u'⟩ = false by simp [Lg.sameR, hu])
    have zu := beq_ff hu
    clear hu
    go_enter Try.func56, Try.ntmps56
    go_wp2_with fail
    go_ret
    exact ⟨ret_bool E.out.symm, (by repeat (first | (with_reducible exact Below.refl _ _) | (with_reducible refine Below.drew ?_) | (with_reducible refine below_drewN ?_ _) | ((with_reducible refine Below.alloc ?_ ?_ _); rotate_left; (first | omega | (simp <;> omega)); rotate_right) | ((with_reducible refine Below.setCell ?_ ?_ _); rotate_left; (first | omega | (simp <;> omega)); rotate_right) | (with_reducible assumption) | (refine Below.trans ?_ (Below.mono (by assumption) ?_); rotate_left; (first | omega | (simp <;> omega)); rotate_right)))⟩
  subst hu
  cases hf : frEq ⟨fk, ff, ft, fs, d⟩ ⟨gk, gf, gt, gs, e⟩
  · have E := Lib.hid (show Lg.sameR ⟨t, a, k, x, y, z, s, ⟨fk, ff, ft, fs, d⟩, u⟩ ⟨t, a, k, x, y, z, s, ⟨gk, gf, gt, gs, e⟩, u⟩ = false by simp only [Lg.sameR]; rw [hf, Bool.and_false])
    rw [show sameB fk ff ft fs gk gf gt gs d e = false from hf] at SM
    clear hf
    go_enter Try.func56, Try.ntmps56
    go_wp2_with fail
    refine (SM.out _ (by repeat (first | (with_reducible exact Below.refl _ _) | (with_reducible refine Below.drew ?_) | (with_reducible refine below_drewN ?_ _) | ((with_reducible refine Below.alloc ?_ ?_ _); rotate_left; (first | omega | (simp <;> omega)); rotate_right) | ((with_reducible refine Below.setCell ?_ ?_ _); rotate_left; (first | omega | (simp <;> omega)); rotate_right) | (with_reducible assumption) | (refine Below.trans ?_ (Below.mono (by assumption) ?_); rotate_left; (first | omega | (simp <;> omega)); rotate_right)))).mono ?_
    rintro e' w5 ⟨rfl, hb5⟩
    have hz5 := hb5.size; (try simp at hz5)
    go_wp2_with fail
    go_ret
    exact ⟨ret_bool E.out.symm, (by repeat (first | (with_reducible exact Below.refl _ _) | (with_reducible refine Below.drew ?_) | (with_reducible refine below_drewN ?_ _) | ((with_reducible refine Below.alloc ?_ ?_ _); rotate_left; (first | omega | (simp <;> omega)); rotate_right) | ((with_reducible refine Below.setCell ?_ ?_ _); rotate_left; (first | omega | (simp <;> omega)); rotate_right) | (with_reducible assumption) | (refine Below.trans ?_ (Below.mono (by assumption) ?_); rotate_left; (first | omega | (simp <;> omega)); rotate_right)))⟩
  rw [show sameB fk ff ft fs gk gf gt gs d e = true from hf] at SM
  have E := Lib.hid (show Lg.sameR ⟨t, a, k, x, y, z, s, ⟨fk, ff, ft, fs, d⟩, u⟩ ⟨t, a, k, x, y, z, s, ⟨gk, gf, gt, gs, e⟩, u⟩ = true by simp only [Lg.sameR]; rw [hf]; simp)
  clear hf
  go_enter Try.func56, Try.ntmps56
  go_wp2_with fail
  refine (SM.out _ (by repeat (first | (with_reducible exact Below.refl _ _) | (with_reducible refine Below.drew ?_) | (with_reducible refine below_drewN ?_ _) | ((with_reducible refine Below.alloc ?_ ?_ _); rotate_left; (first | omega | (simp <;> omega)); rotate_right) | ((with_reducible refine Below.setCell ?_ ?_ _); rotate_left; (first | omega | (simp <;> omega)); rotate_right) | (with_reducible assumption) | (refine Below.trans ?_ (Below.mono (by assumption) ?_); rotate_left; (first | omega | (simp <;> omega)); rotate_right)))).mono ?_
  rintro e' w5 ⟨rfl, hb5⟩
  have hz5 := hb5.size; (try simp at hz5)
  go_wp2_with fail
  go_ret
  exact ⟨ret_bool E.out.symm, (by repeat (first | (with_reducible exact Below.refl _ _) | (with_reducible refine Below.drew ?_) | (with_reducible refine below_drewN ?_ _) | ((with_reducible refine Below.alloc ?_ ?_ _); rotate_left; (first | omega | (simp <;> omega)); rotate_right) | ((with_reducible refine Below.setCell ?_ ?_ _); rotate_left; (first | omega | (simp <;> omega)); rotate_right) | (with_reducible assumption) | (refine Below.trans ?_ (Below.mono (by assumption) ?_); rotate_left; (first | omega | (simp <;> omega)); rotate_right)))⟩
end Go.Proofs.Ytgmejplcdecmkaa

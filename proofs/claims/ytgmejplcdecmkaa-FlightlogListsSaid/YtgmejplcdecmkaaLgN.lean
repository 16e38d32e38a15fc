/- Position, State, Frame: the calls that append. -/
import Derived.Test.YtgmejplcdecmkaaLgL
namespace Go.Proofs.Ytgmejplcdecmkaa
open Go.RowKit
set_option maxHeartbeats 8000000
set_option maxRecDepth 100000
set_option linter.unusedSimpArgs false
set_option linter.unusedVariables false
attribute [local go_sem ↓] Go.wp_at_zero Go.wp_at_succ
namespace Lg
def posR (t a x y z : Int) : Rc := ⟨t, a, 1, x, y, z, 0, fr0, 0⟩
def stR (t a s : Int) : Rc := ⟨t, a, 2, 0, 0, 0, s, fr0, 0⟩
def frR (t a : Int) (f : Fr) : Rc := ⟨t, a, 3, 0, 0, 0, 0, f, 0⟩
theorem ok0 (w : World) (B : Nat) (x : Rc) (h : x.f.d = []) : Ok w B ⟨x, none, 0⟩ := by
  refine ⟨?_, ?_, Nat.zero_le _, fun _ => ⟨by rw [h]; rfl, rfl⟩⟩
  · show Rd w B none x.f.d.length x.f.d
    rw [h]
    exact Rd.nil _ _ _
  · show x.f.d.length ≤ 0
    rw [h]
    exact Nat.le_refl _
end Lg
section
variable {w w' W : World} {base p c n : Nat} {X X' : Nat → Prop} {A : Option Addr} {vs : List Lg.RV}
open Lg (IsLg)
theorem AddPost.up {x : Lg.Rc} {e : Ending} (h : AddPost base p A vs X x W e w') (hb : Below w.heap.size w W) : AddPost base p A vs X x w e w' := by
  obtain ⟨A', c', vs', h1, h2, h3, h4, h5, h6, h7⟩ := h
  have hz := hb.size
  refine ⟨A', c', vs', h1, h2.mono (fun i _ hi => hi.imp id (fun h => Nat.le_trans hz h)), h3, (Keeps.of_below (S := Lg.Two p A) hb).trans h4 (fun i _ h => h), h5.imp id (fun ⟨g, e, h⟩ => ⟨g, e, Nat.le_trans hz h⟩), h6, h7⟩
theorem position_any (h : IsLg w base p A c vs X) (hbase : base ≤ w.heap.size) (hn : vs.length ≤ 1000000) (t a x y z : Int) :
    Calls Try.prog 21 #[.pointer (some ⟨p, 0, none⟩), .int .i64 t, .int .i64 a, .agg #[.int .i64 x, .int .i64 y, .int .i64 z]] w fun e w' => AddPost base p A vs X (Lg.posR t a x y z) w e w' := by
  have D := Lib.hid (fun (W : World) (hW : Below w.heap.size w W) => ladd_any (h.below hW) (Nat.le_trans hbase hW.size) hn ⟨Lg.posR t a x y z, none, 0⟩ (Lg.ok0 W W.heap.size _ rfl) (by simp [Lg.posR, fr0]))
  clear h hbase
  go_enter Try.func21, Try.ntmps21
  go_wp2_with fail
  have HB := Lib.hid (show Below w.heap.size w (w.alloc (.cells #[.int .i64 x, .int .i64 y, .int .i64 z] 25 (0, 0))) from (by repeat (first | (with_reducible exact Below.refl _ _) | (with_reducible refine Below.drew ?_) | (with_reducible refine below_drewN ?_ _) | ((with_reducible refine Below.alloc ?_ ?_ _); rotate_left; (first | omega | (simp <;> omega)); rotate_right) | ((with_reducible refine Below.setCell ?_ ?_ _); rotate_left; (first | omega | (simp <;> omega)); rotate_right) | (with_reducible assumption) | (refine Below.trans ?_ (Below.mono (by assumption) ?_); rotate_left; (first | omega | (simp <;> omega)); rotate_right))))
  refine (D.out _ (by repeat (first | (with_reducible exact Below.refl _ _) | (with_reducible refine Below.drew ?_) | (with_reducible refine below_drewN ?_ _) | ((with_reducible refine Below.alloc ?_ ?_ _); rotate_left; (first | omega | (simp <;> omega)); rotate_right) | ((with_reducible refine Below.setCell ?_ ?_ _); rotate_left; (first | omega | (simp <;> omega)); rotate_right) | (with_reducible assumption) | (refine Below.trans ?_ (Below.mono (by assumption) ?_); rotate_left; (first | omega | (simp <;> omega)); rotate_right)))).mono ?_
  rintro e w1 hp
  have HP := Lib.hid (hp.up HB.out)
  obtain ⟨A', c', vs', rfl, _⟩ := hp
  go_wp2_with fail
  go_ret
  exact HP.out
theorem state_any (h : IsLg w base p A c vs X) (hbase : base ≤ w.heap.size) (hn : vs.length ≤ 1000000) (t a s : Int) :
    Calls Try.prog 22 #[.pointer (some ⟨p, 0, none⟩), .int .i64 t, .int .i64 a, .int .i64 s] w fun e w' => AddPost base p A vs X (Lg.stR t a s) w e w' := by
  have D := Lib.hid (fun (W : World) (hW : Below w.heap.size w W) => ladd_any (h.below hW) (Nat.le_trans hbase hW.size) hn ⟨Lg.stR t a s, none, 0⟩ (Lg.ok0 W W.heap.size _ rfl) (by simp [Lg.stR, fr0]))
  clear h hbase
  go_enter Try.func22, Try.ntmps22
  go_wp2_with fail
  refine (D.out _ (by repeat (first | (with_reducible exact Below.refl _ _) | (with_reducible refine Below.drew ?_) | (with_reducible refine below_drewN ?_ _) | ((with_reducible refine Below.alloc ?_ ?_ _); rotate_left; (first | omega | (simp <;> omega)); rotate_right) | ((with_reducible refine Below.setCell ?_ ?_ _); rotate_left; (first | omega | (simp <;> omega)); rotate_right) | (with_reducible assumption) | (refine Below.trans ?_ (Below.mono (by assumption) ?_); rotate_left; (first | omega | (simp <;> omega)); rotate_right)))).mono ?_
  rintro e w1 hp
  have HP := Lib.hid hp
  obtain ⟨A', c', vs', rfl, _⟩ := hp
  go_wp2_with fail
  go_ret
  exact HP.out
theorem state_nil (t a s : Int) (w : World) : Calls Try.prog 22 #[.pointer none, .int .i64 t, .int .i64 a, .int .i64 s] w fun e w' => e = .returned (.int .i64 1) ∧ Below w.heap.size w w' := by
  have D := Lib.hid (fun (W : World) => ladd_nil ⟨Lg.stR t a s, none, 0⟩ W)
  go_enter Try.func22, Try.ntmps22
  go_wp2_with fail
  refine (D.out _).mono ?_
  rintro e w1 ⟨rfl, hb1⟩
  go_wp2_with fail
  go_ret
  exact ⟨rfl, hb1⟩
theorem frame_any (h : IsLg w base p A c vs X) (hbase : base ≤ w.heap.size) (hn : vs.length ≤ 1000000) (t a : Int) (f : Fr) (D : Option Addr) (cap : Nat) (hd : Lg.Ok w w.heap.size ⟨Lg.frR t a f, D, cap⟩) (hl : f.d.length ≤ 1000) :
    Calls Try.prog 67 #[.pointer (some ⟨p, 0, none⟩), .int .i64 t, .int .i64 a, .agg #[.int .i64 f.k, .int .i64 f.f, .int .i64 f.t, .int .i64 f.s, .slice D f.d.length cap]] w fun e w' => AddPost base p A vs X (Lg.frR t a f) w e w' := by
  have AD := Lib.hid (fun (W : World) (hW : Below w.heap.size w W) => ladd_any (h.below hW) (Nat.le_trans hbase hW.size) hn ⟨Lg.frR t a f, D, cap⟩ (hd.up hW) hl)
  clear h hbase hd
  go_enter Try.func67, Try.ntmps67
  go_wp2_with fail
  have HB := Lib.hid (show Below w.heap.size w (w.alloc (.cells #[.int .i64 f.k, .int .i64 f.f, .int .i64 f.t, .int .i64 f.s, .slice D f.d.length cap] 30 (0, 0))) from (by repeat (first | (with_reducible exact Below.refl _ _) | (with_reducible refine Below.drew ?_) | (with_reducible refine below_drewN ?_ _) | ((with_reducible refine Below.alloc ?_ ?_ _); rotate_left; (first | omega | (simp <;> omega)); rotate_right) | ((with_reducible refine Below.setCell ?_ ?_ _); rotate_left; (first | omega | (simp <;> omega)); rotate_right) | (with_reducible assumption) | (refine Below.trans ?_ (Below.mono (by assumption) ?_); rotate_left; (first | omega | (simp <;> omega)); rotate_right))))
  refine (AD.out _ (by repeat (first | (with_reducible exact Below.refl _ _) | (with_reducible refine Below.drew ?_) | (with_reducible refine below_drewN ?_ _) | ((with_reducible refine Below.alloc ?_ ?_ _); rotate_left; (first | omega | (simp <;> omega)); rotate_right) | ((with_reducible refine Below.setCell ?_ ?_ _); rotate_left; (first | omega | (simp <;> omega)); rotate_right) | (with_reducible assumption) | (refine Below.trans ?_ (Below.mono (by assumption) ?_); rotate_left; (first | omega | (simp <;> omega)); rotate_right)))).mono ?_
  rintro e w1 hp
  have HP := Lib.hid (hp.up HB.out)
  obtain ⟨A', c', vs', rfl, _⟩ := hp
  go_wp2_with fail
  go_ret
  exact HP.out
theorem new_any (w : World) : Calls Try.prog 20 #[] w fun e w' => ∃ p, e = .returned (.pointer (some ⟨p, 0, none⟩)) ∧ IsLg w' w.heap.size p none 0 [] (fun i => w.heap.size ≤ i) ∧ Below w.heap.size w w' := by
  go_enter Try.func20, Try.ntmps20
  go_wp2_with fail
  go_ret
  exact ⟨_, rfl, ⟨heap_new' _ _ _ (by simp), Row.nil _ _ _ _, fun y hy => (by cases hy), Nat.le_refl _⟩, (by repeat (first | (with_reducible exact Below.refl _ _) | (with_reducible refine Below.drew ?_) | (with_reducible refine below_drewN ?_ _) | ((with_reducible refine Below.alloc ?_ ?_ _); rotate_left; (first | omega | (simp <;> omega)); rotate_right) | ((with_reducible refine Below.setCell ?_ ?_ _); rotate_left; (first | omega | (simp <;> omega)); rotate_right) | (with_reducible assumption) | (refine Below.trans ?_ (Below.mono (by assumption) ?_); rotate_left; (first | omega | (simp <;> omega)); rotate_right)))⟩
end
end Go.Proofs.Ytgmejplcdecmkaa

/- A command behind an interface: what its four methods answer. -/
import Derived.Test.YtiidkmnagfhgiaaStB
import Derived.Test.YtiidkmnagfhgiaaFrO
namespace Go.Proofs.Ytiidkmnagfhgiaa
open Go.RowKit
set_option maxHeartbeats 8000000
set_option maxRecDepth 100000
set_option linter.unusedSimpArgs false
set_option linter.unusedVariables false
attribute [local go_sem ↓] Go.wp_at_zero Go.wp_at_succ
/-- the method of a type by its name: function f; its receiver is the value itself -/
structure MCall (T : TypeId) (v : Value) (name : String) (f : FuncId) : Prop where
  m : ∀ W : World, (method 244 T v name).run Try.prog W = .ok (f, v) W
  n : ∀ W : World, (nilAhead 244 T v name).run Try.prog W = .ok (some false) W
  c : ∀ (args : Array Value) (W : World), (callFunc f args).run Try.prog W = .ok (.enter f args) W
/-- the bytes of a command's frames -/
def cdat (k x p : Int) : List Int := if k = 1 ∨ k = 2 then Frm.num4 p else if k = 3 then Frm.num4 x else []
structure Cmd (T : TypeId) (v : Value) (k x : Int) (fk fm fs fd : FuncId) : Prop where
  ak : MCall T v "skylantern/station.kind" fk
  am : MCall T v "skylantern/station.may" fm
  as_ : MCall T v "skylantern/station.states" fs
  ad : MCall T v "skylantern/station.data" fd
  ck : ∀ W : World, Calls Try.prog fk #[v] W fun e w' => e = .returned (.int .i64 k) ∧ Below W.heap.size W w'
  cm : ∀ (W : World) (s : Int), 0 ≤ s → Calls Try.prog fm #[v, .int .i64 s] W fun e w' => e = .returned (.bool (Stn.may k s)) ∧ Below W.heap.size W w'
  cs : ∀ W : World, Calls Try.prog fs #[v] W fun e w' => e = .returned (.tuple #[.int .i64 (Stn.given k), .int .i64 (Stn.full k)]) ∧ Below W.heap.size W w'
  cd : ∀ (W : World) (p : Int), 0 ≤ p ∧ p ≤ 4294967295 → (k = 3 → 0 ≤ x ∧ x ≤ 4294967295) → Calls Try.prog fd #[v, .int .i64 p] W fun e w' => ∃ A cap, e = .returned (.slice A (cdat k x p).length cap) ∧ Ow w' W.heap.size A (cdat k x p).length cap (cdat k x p) ∧ Below W.heap.size W w'
  ta : ∀ W : World, (Instr.typeAssert (.iface T v) 71 111 true).run Try.prog W = .ok (.tuple #[.agg #[.int .i64 (if k = 3 then x else 0)], .bool (decide (k = 3))]) W
  en : ∀ W : World, (binOp .eql 71 (.iface T v) .nilIface).run Try.prog W = .ok (.bool false) W
  cur : ∀ s : Stn.St, s.cmd = k → (k = 3 → s.at_ = x) → curV s = .iface T v
theorem Ri.new1 (w : World) (x : Int) (h : -9223372036854775808 ≤ x ∧ x ≤ 9223372036854775807) : Ri (w.alloc (.cells #[.int .i64 x] 3)) (w.heap.size + 1) (some ⟨w.heap.size, 0, none⟩) 1 [x] := by
  refine ⟨rfl, fun y hy => by rw [List.mem_singleton.1 hy]; exact h, fun _ => ⟨_, 0, rfl, by omega, fun i hi => ?_⟩⟩
  obtain rfl : i = 0 := by omega
  exact blk_cell (l := [.int .i64 x]) (heap_new _ _) 0 rfl
theorem numbers_any (n : Int) (w : World) (h : 0 ≤ n ∧ n ≤ 4294967295) :
    Calls Try.prog 85 #[.int .i64 n] w fun e w' => ∃ A cap, e = .returned (.slice A 4 cap) ∧ Ow w' w.heap.size A 4 cap (Frm.num4 n) ∧ Below w.heap.size w w' := by
  have hok : Frm.okAll [n] = true := by simp [Frm.okAll, Frm.okN_iff.2 h]
  have P := Lib.hid (fun (W : World) (hW : Ri W W.heap.size (some ⟨w.heap.size, 0, none⟩) 1 [n]) => put_yes (some ⟨w.heap.size, 0, none⟩) 1 1 [n] W hW (by omega) hok)
  clear hok
  go_enter Try.func85, Try.ntmps85
  go_wp2_with fail
  refine (P.out _ (by have := Ri.new1 w n (by omega); simpa using this)).mono ?_
  rintro e w1 ⟨A, cap, rfl, hO, hB⟩
  have hz1 := hB.size
  go_wp2_with fail
  go_ret
  refine ⟨A, cap, rfl, ?_, (by repeat (first | (with_reducible exact Below.refl _ _) | (with_reducible refine Below.drew ?_) | (with_reducible refine below_drewN ?_ _) | ((with_reducible refine Below.alloc ?_ ?_ _); rotate_left; (first | omega | (simp <;> omega)); rotate_right) | ((with_reducible refine Below.setCell ?_ ?_ _); rotate_left; (first | omega | (simp <;> omega)); rotate_right) | (with_reducible assumption) | (refine Below.trans ?_ (Below.mono (by assumption) ?_); rotate_left; (first | omega | (simp <;> omega)); rotate_right)))⟩
  have := hO.more (base' := w.heap.size) (by simp)
  simpa [Frm.pn] using this
theorem kind_load (w : World) : Calls Try.prog 87 #[(.agg #[])] w fun e w' => e = .returned (.int .i64 1) ∧ Below w.heap.size w w' := by
  go_enter Try.func87, Try.ntmps87
  go_wp2_with fail
  go_ret
  exact ⟨rfl, (by repeat (first | (with_reducible exact Below.refl _ _) | (with_reducible refine Below.drew ?_) | (with_reducible refine below_drewN ?_ _) | ((with_reducible refine Below.alloc ?_ ?_ _); rotate_left; (first | omega | (simp <;> omega)); rotate_right) | ((with_reducible refine Below.setCell ?_ ?_ _); rotate_left; (first | omega | (simp <;> omega)); rotate_right) | (with_reducible assumption) | (refine Below.trans ?_ (Below.mono (by assumption) ?_); rotate_left; (first | omega | (simp <;> omega)); rotate_right)))⟩
theorem states_load (w : World) : Calls Try.prog 89 #[(.agg #[])] w fun e w' => e = .returned (.tuple #[.int .i64 (Stn.given 1), .int .i64 (Stn.full 1)]) ∧ Below w.heap.size w w' := by
  go_enter Try.func89, Try.ntmps89
  go_wp2_with fail
  go_ret2
  exact ⟨rfl, (by repeat (first | (with_reducible exact Below.refl _ _) | (with_reducible refine Below.drew ?_) | (with_reducible refine below_drewN ?_ _) | ((with_reducible refine Below.alloc ?_ ?_ _); rotate_left; (first | omega | (simp <;> omega)); rotate_right) | ((with_reducible refine Below.setCell ?_ ?_ _); rotate_left; (first | omega | (simp <;> omega)); rotate_right) | (with_reducible assumption) | (refine Below.trans ?_ (Below.mono (by assumption) ?_); rotate_left; (first | omega | (simp <;> omega)); rotate_right)))⟩
theorem may_load (w : World) (s : Int) (hs : 0 ≤ s) : Calls Try.prog 88 #[(.agg #[]), .int .i64 s] w fun e w' => e = .returned (.bool (Stn.may 1 s)) ∧ Below w.heap.size w w' := by
  by_cases h0 : s = 0
  · subst h0
    have E := Lib.hid (show Stn.may 1 0 = true by decide)
    go_enter Try.func88, Try.ntmps88
    go_wp2_with fail
    go_ret
    exact ⟨ret_bool E.out.symm, (by repeat (first | (with_reducible exact Below.refl _ _) | (with_reducible refine Below.drew ?_) | (with_reducible refine below_drewN ?_ _) | ((with_reducible refine Below.alloc ?_ ?_ _); rotate_left; (first | omega | (simp <;> omega)); rotate_right) | ((with_reducible refine Below.setCell ?_ ?_ _); rotate_left; (first | omega | (simp <;> omega)); rotate_right) | (with_reducible assumption) | (refine Below.trans ?_ (Below.mono (by assumption) ?_); rotate_left; (first | omega | (simp <;> omega)); rotate_right)))⟩
  · have z0 : (s == 0) = false := by rw [beq_eq_false_iff_ne]; exact h0
    by_cases h1 : s = 2
    · subst h1
      have E := Lib.hid (show Stn.may 1 2 = true by decide)
      go_enter Try.func88, Try.ntmps88
      go_wp2_with fail
      go_ret
      exact ⟨ret_bool E.out.symm, (by repeat (first | (with_reducible exact Below.refl _ _) | (with_reducible refine Below.drew ?_) | (with_reducible refine below_drewN ?_ _) | ((with_reducible refine Below.alloc ?_ ?_ _); rotate_left; (first | omega | (simp <;> omega)); rotate_right) | ((with_reducible refine Below.setCell ?_ ?_ _); rotate_left; (first | omega | (simp <;> omega)); rotate_right) | (with_reducible assumption) | (refine Below.trans ?_ (Below.mono (by assumption) ?_); rotate_left; (first | omega | (simp <;> omega)); rotate_right)))⟩
    · have z1 : (s == 2) = false := by rw [beq_eq_false_iff_ne]; exact h1
      by_cases h2 : s = 9
      · subst h2
        have E := Lib.hid (show Stn.may 1 9 = true by decide)
        go_enter Try.func88, Try.ntmps88
        go_wp2_with fail
        go_ret
        exact ⟨ret_bool E.out.symm, (by repeat (first | (with_reducible exact Below.refl _ _) | (with_reducible refine Below.drew ?_) | (with_reducible refine below_drewN ?_ _) | ((with_reducible refine Below.alloc ?_ ?_ _); rotate_left; (first | omega | (simp <;> omega)); rotate_right) | ((with_reducible refine Below.setCell ?_ ?_ _); rotate_left; (first | omega | (simp <;> omega)); rotate_right) | (with_reducible assumption) | (refine Below.trans ?_ (Below.mono (by assumption) ?_); rotate_left; (first | omega | (simp <;> omega)); rotate_right)))⟩
      · have z2 : (s == 9) = false := by rw [beq_eq_false_iff_ne]; exact h2
        have E := Lib.hid (show Stn.may 1 s = false by simp [Stn.may]; omega)
        go_enter Try.func88, Try.ntmps88
        go_wp2_with fail
        go_ret
        exact ⟨ret_bool E.out.symm, (by repeat (first | (with_reducible exact Below.refl _ _) | (with_reducible refine Below.drew ?_) | (with_reducible refine below_drewN ?_ _) | ((with_reducible refine Below.alloc ?_ ?_ _); rotate_left; (first | omega | (simp <;> omega)); rotate_right) | ((with_reducible refine Below.setCell ?_ ?_ _); rotate_left; (first | omega | (simp <;> omega)); rotate_right) | (with_reducible assumption) | (refine Below.trans ?_ (Below.mono (by assumption) ?_); rotate_left; (first | omega | (simp <;> omega)); rotate_right)))⟩
theorem data_load (w : World) (p : Int) (hp : 0 ≤ p ∧ p ≤ 4294967295) : Calls Try.prog 86 #[(.agg #[]), .int .i64 p] w fun e w' => ∃ A cap, e = .returned (.slice A (cdat 1 0 p).length cap) ∧ Ow w' w.heap.size A (cdat 1 0 p).length cap (cdat 1 0 p) ∧ Below w.heap.size w w' := by
  rw [show cdat 1 0 p = Frm.num4 p by simp [cdat]]
  have N := Lib.hid (fun W : World => numbers_any p W hp)
  go_enter Try.func86, Try.ntmps86
  go_wp2_with fail
  refine (N.out _).mono ?_
  rintro e w1 ⟨A, cap, rfl, hO, hB⟩
  have hz1 := hB.size
  go_wp2_with fail
  go_ret
  exact ⟨A, cap, rfl, hO.more (by simp), (by repeat (first | (with_reducible exact Below.refl _ _) | (with_reducible refine Below.drew ?_) | (with_reducible refine below_drewN ?_ _) | ((with_reducible refine Below.alloc ?_ ?_ _); rotate_left; (first | omega | (simp <;> omega)); rotate_right) | ((with_reducible refine Below.setCell ?_ ?_ _); rotate_left; (first | omega | (simp <;> omega)); rotate_right) | (with_reducible assumption) | (refine Below.trans ?_ (Below.mono (by assumption) ?_); rotate_left; (first | omega | (simp <;> omega)); rotate_right)))⟩
theorem cmd_load  : Cmd 94 (.agg #[]) 1 0 87 88 89 86 :=
  ⟨⟨fun W => by kernel_rfl, fun W => by kernel_rfl, fun _ W => by kernel_rfl⟩, ⟨fun W => by kernel_rfl, fun W => by kernel_rfl, fun _ W => by kernel_rfl⟩, ⟨fun W => by kernel_rfl, fun W => by kernel_rfl, fun _ W => by kernel_rfl⟩, ⟨fun W => by kernel_rfl, fun W => by kernel_rfl, fun _ W => by kernel_rfl⟩, fun W => kind_load W, fun W s hs => may_load W s hs, fun W => states_load W, fun W p hp _ => data_load W p hp  , fun W => by kernel_rfl, fun W => by kernel_rfl, fun s h1 _ => by unfold curV; rw [h1]; rfl⟩
theorem kind_arm (w : World) : Calls Try.prog 82 #[(.agg #[])] w fun e w' => e = .returned (.int .i64 2) ∧ Below w.heap.size w w' := by
  go_enter Try.func82, Try.ntmps82
  go_wp2_with fail
  go_ret
  exact ⟨rfl, (by repeat (first | (with_reducible exact Below.refl _ _) | (with_reducible refine Below.drew ?_) | (with_reducible refine below_drewN ?_ _) | ((with_reducible refine Below.alloc ?_ ?_ _); rotate_left; (first | omega | (simp <;> omega)); rotate_right) | ((with_reducible refine Below.setCell ?_ ?_ _); rotate_left; (first | omega | (simp <;> omega)); rotate_right) | (with_reducible assumption) | (refine Below.trans ?_ (Below.mono (by assumption) ?_); rotate_left; (first | omega | (simp <;> omega)); rotate_right)))⟩
theorem states_arm (w : World) : Calls Try.prog 84 #[(.agg #[])] w fun e w' => e = .returned (.tuple #[.int .i64 (Stn.given 2), .int .i64 (Stn.full 2)]) ∧ Below w.heap.size w w' := by
  go_enter Try.func84, Try.ntmps84
  go_wp2_with fail
  go_ret2
  exact ⟨rfl, (by repeat (first | (with_reducible exact Below.refl _ _) | (with_reducible refine Below.drew ?_) | (with_reducible refine below_drewN ?_ _) | ((with_reducible refine Below.alloc ?_ ?_ _); rotate_left; (first | omega | (simp <;> omega)); rotate_right) | ((with_reducible refine Below.setCell ?_ ?_ _); rotate_left; (first | omega | (simp <;> omega)); rotate_right) | (with_reducible assumption) | (refine Below.trans ?_ (Below.mono (by assumption) ?_); rotate_left; (first | omega | (simp <;> omega)); rotate_right)))⟩
theorem may_arm (w : World) (s : Int) (hs : 0 ≤ s) : Calls Try.prog 83 #[(.agg #[]), .int .i64 s] w fun e w' => e = .returned (.bool (Stn.may 2 s)) ∧ Below w.heap.size w w' := by
  by_cases h0 : s = 2
  · subst h0
    have E := Lib.hid (show Stn.may 2 2 = true by decide)
    go_enter Try.func83, Try.ntmps83
    go_wp2_with fail
    go_ret
    exact ⟨ret_bool E.out.symm, (by repeat (first | (with_reducible exact Below.refl _ _) | (with_reducible refine Below.drew ?_) | (with_reducible refine below_drewN ?_ _) | ((with_reducible refine Below.alloc ?_ ?_ _); rotate_left; (first | omega | (simp <;> omega)); rotate_right) | ((with_reducible refine Below.setCell ?_ ?_ _); rotate_left; (first | omega | (simp <;> omega)); rotate_right) | (with_reducible assumption) | (refine Below.trans ?_ (Below.mono (by assumption) ?_); rotate_left; (first | omega | (simp <;> omega)); rotate_right)))⟩
  · have z0 : (s == 2) = false := by rw [beq_eq_false_iff_ne]; exact h0
    have E := Lib.hid (show Stn.may 2 s = false by simp [Stn.may]; omega)
    go_enter Try.func83, Try.ntmps83
    go_wp2_with fail
    go_ret
    exact ⟨ret_bool E.out.symm, (by repeat (first | (with_reducible exact Below.refl _ _) | (with_reducible refine Below.drew ?_) | (with_reducible refine below_drewN ?_ _) | ((with_reducible refine Below.alloc ?_ ?_ _); rotate_left; (first | omega | (simp <;> omega)); rotate_right) | ((with_reducible refine Below.setCell ?_ ?_ _); rotate_left; (first | omega | (simp <;> omega)); rotate_right) | (with_reducible assumption) | (refine Below.trans ?_ (Below.mono (by assumption) ?_); rotate_left; (first | omega | (simp <;> omega)); rotate_right)))⟩
theorem data_arm (w : World) (p : Int) (hp : 0 ≤ p ∧ p ≤ 4294967295) : Calls Try.prog 81 #[(.agg #[]), .int .i64 p] w fun e w' => ∃ A cap, e = .returned (.slice A (cdat 2 0 p).length cap) ∧ Ow w' w.heap.size A (cdat 2 0 p).length cap (cdat 2 0 p) ∧ Below w.heap.size w w' := by
  rw [show cdat 2 0 p = Frm.num4 p by simp [cdat]]
  have N := Lib.hid (fun W : World => numbers_any p W hp)
  go_enter Try.func81, Try.ntmps81
  go_wp2_with fail
  refine (N.out _).mono ?_
  rintro e w1 ⟨A, cap, rfl, hO, hB⟩
  have hz1 := hB.size
  go_wp2_with fail
  go_ret
  exact ⟨A, cap, rfl, hO.more (by simp), (by repeat (first | (with_reducible exact Below.refl _ _) | (with_reducible refine Below.drew ?_) | (with_reducible refine below_drewN ?_ _) | ((with_reducible refine Below.alloc ?_ ?_ _); rotate_left; (first | omega | (simp <;> omega)); rotate_right) | ((with_reducible refine Below.setCell ?_ ?_ _); rotate_left; (first | omega | (simp <;> omega)); rotate_right) | (with_reducible assumption) | (refine Below.trans ?_ (Below.mono (by assumption) ?_); rotate_left; (first | omega | (simp <;> omega)); rotate_right)))⟩
theorem cmd_arm  : Cmd 92 (.agg #[]) 2 0 82 83 84 81 :=
  ⟨⟨fun W => by kernel_rfl, fun W => by kernel_rfl, fun _ W => by kernel_rfl⟩, ⟨fun W => by kernel_rfl, fun W => by kernel_rfl, fun _ W => by kernel_rfl⟩, ⟨fun W => by kernel_rfl, fun W => by kernel_rfl, fun _ W => by kernel_rfl⟩, ⟨fun W => by kernel_rfl, fun W => by kernel_rfl, fun _ W => by kernel_rfl⟩, fun W => kind_arm W, fun W s hs => may_arm W s hs, fun W => states_arm W, fun W p hp _ => data_arm W p hp  , fun W => by kernel_rfl, fun W => by kernel_rfl, fun s h1 _ => by unfold curV; rw [h1]; rfl⟩
theorem kind_start (x : Int) (w : World) : Calls Try.prog 91 #[(.agg #[.int .i64 x])] w fun e w' => e = .returned (.int .i64 3) ∧ Below w.heap.size w w' := by
  go_enter Try.func91, Try.ntmps91
  go_wp2_with fail
  go_ret
  exact ⟨rfl, (by repeat (first | (with_reducible exact Below.refl _ _) | (with_reducible refine Below.drew ?_) | (with_reducible refine below_drewN ?_ _) | ((with_reducible refine Below.alloc ?_ ?_ _); rotate_left; (first | omega | (simp <;> omega)); rotate_right) | ((with_reducible refine Below.setCell ?_ ?_ _); rotate_left; (first | omega | (simp <;> omega)); rotate_right) | (with_reducible assumption) | (refine Below.trans ?_ (Below.mono (by assumption) ?_); rotate_left; (first | omega | (simp <;> omega)); rotate_right)))⟩
theorem states_start (x : Int) (w : World) : Calls Try.prog 93 #[(.agg #[.int .i64 x])] w fun e w' => e = .returned (.tuple #[.int .i64 (Stn.given 3), .int .i64 (Stn.full 3)]) ∧ Below w.heap.size w w' := by
  go_enter Try.func93, Try.ntmps93
  go_wp2_with fail
  go_ret2
  exact ⟨rfl, (by repeat (first | (with_reducible exact Below.refl _ _) | (with_reducible refine Below.drew ?_) | (with_reducible refine below_drewN ?_ _) | ((with_reducible refine Below.alloc ?_ ?_ _); rotate_left; (first | omega | (simp <;> omega)); rotate_right) | ((with_reducible refine Below.setCell ?_ ?_ _); rotate_left; (first | omega | (simp <;> omega)); rotate_right) | (with_reducible assumption) | (refine Below.trans ?_ (Below.mono (by assumption) ?_); rotate_left; (first | omega | (simp <;> omega)); rotate_right)))⟩
theorem may_start (x : Int) (w : World) (s : Int) (hs : 0 ≤ s) : Calls Try.prog 92 #[(.agg #[.int .i64 x]), .int .i64 s] w fun e w' => e = .returned (.bool (Stn.may 3 s)) ∧ Below w.heap.size w w' := by
  by_cases h0 : s = 4
  · subst h0
    have E := Lib.hid (show Stn.may 3 4 = true by decide)
    go_enter Try.func92, Try.ntmps92
    go_wp2_with fail
    go_ret
    exact ⟨ret_bool E.out.symm, (by repeat (first | (with_reducible exact Below.refl _ _) | (with_reducible refine Below.drew ?_) | (with_reducible refine below_drewN ?_ _) | ((with_reducible refine Below.alloc ?_ ?_ _); rotate_left; (first | omega | (simp <;> omega)); rotate_right) | ((with_reducible refine Below.setCell ?_ ?_ _); rotate_left; (first | omega | (simp <;> omega)); rotate_right) | (with_reducible assumption) | (refine Below.trans ?_ (Below.mono (by assumption) ?_); rotate_left; (first | omega | (simp <;> omega)); rotate_right)))⟩
  · have z0 : (s == 4) = false := by rw [beq_eq_false_iff_ne]; exact h0
    have E := Lib.hid (show Stn.may 3 s = false by simp [Stn.may]; omega)
    go_enter Try.func92, Try.ntmps92
    go_wp2_with fail
    go_ret
    exact ⟨ret_bool E.out.symm, (by repeat (first | (with_reducible exact Below.refl _ _) | (with_reducible refine Below.drew ?_) | (with_reducible refine below_drewN ?_ _) | ((with_reducible refine Below.alloc ?_ ?_ _); rotate_left; (first | omega | (simp <;> omega)); rotate_right) | ((with_reducible refine Below.setCell ?_ ?_ _); rotate_left; (first | omega | (simp <;> omega)); rotate_right) | (with_reducible assumption) | (refine Below.trans ?_ (Below.mono (by assumption) ?_); rotate_left; (first | omega | (simp <;> omega)); rotate_right)))⟩
theorem data_start (x : Int) (w : World) (p : Int) (hx : 0 ≤ x ∧ x ≤ 4294967295) (hp : 0 ≤ p ∧ p ≤ 4294967295) : Calls Try.prog 90 #[(.agg #[.int .i64 x]), .int .i64 p] w fun e w' => ∃ A cap, e = .returned (.slice A (cdat 3 x p).length cap) ∧ Ow w' w.heap.size A (cdat 3 x p).length cap (cdat 3 x p) ∧ Below w.heap.size w w' := by
  rw [show cdat 3 x p = Frm.num4 x by simp [cdat]]
  have N := Lib.hid (fun W : World => numbers_any x W hx)
  go_enter Try.func90, Try.ntmps90
  go_wp2_with fail
  refine (N.out _).mono ?_
  rintro e w1 ⟨A, cap, rfl, hO, hB⟩
  have hz1 := hB.size
  go_wp2_with fail
  go_ret
  exact ⟨A, cap, rfl, hO.more (by simp), (by repeat (first | (with_reducible exact Below.refl _ _) | (with_reducible refine Below.drew ?_) | (with_reducible refine below_drewN ?_ _) | ((with_reducible refine Below.alloc ?_ ?_ _); rotate_left; (first | omega | (simp <;> omega)); rotate_right) | ((with_reducible refine Below.setCell ?_ ?_ _); rotate_left; (first | omega | (simp <;> omega)); rotate_right) | (with_reducible assumption) | (refine Below.trans ?_ (Below.mono (by assumption) ?_); rotate_left; (first | omega | (simp <;> omega)); rotate_right)))⟩
theorem cmd_start (x : Int) : Cmd 111 (.agg #[.int .i64 x]) 3 x 91 92 93 90 :=
  ⟨⟨fun W => by kernel_rfl, fun W => by kernel_rfl, fun _ W => by kernel_rfl⟩, ⟨fun W => by kernel_rfl, fun W => by kernel_rfl, fun _ W => by kernel_rfl⟩, ⟨fun W => by kernel_rfl, fun W => by kernel_rfl, fun _ W => by kernel_rfl⟩, ⟨fun W => by kernel_rfl, fun W => by kernel_rfl, fun _ W => by kernel_rfl⟩, fun W => kind_start x W, fun W s hs => may_start x W s hs, fun W => states_start x W, fun W p hp hx => data_start x W p (hx rfl) hp  , fun W => by kernel_rfl, fun W => by kernel_rfl, fun s h1 h2 => by unfold curV; rw [h1, h2 rfl]; rfl⟩
theorem kind_hold (w : World) : Calls Try.prog 99 #[(.agg #[])] w fun e w' => e = .returned (.int .i64 4) ∧ Below w.heap.size w w' := by
  go_enter Try.func99, Try.ntmps99
  go_wp2_with fail
  go_ret
  exact ⟨rfl, (by repeat (first | (with_reducible exact Below.refl _ _) | (with_reducible refine Below.drew ?_) | (with_reducible refine below_drewN ?_ _) | ((with_reducible refine Below.alloc ?_ ?_ _); rotate_left; (first | omega | (simp <;> omega)); rotate_right) | ((with_reducible refine Below.setCell ?_ ?_ _); rotate_left; (first | omega | (simp <;> omega)); rotate_right) | (with_reducible assumption) | (refine Below.trans ?_ (Below.mono (by assumption) ?_); rotate_left; (first | omega | (simp <;> omega)); rotate_right)))⟩
theorem states_hold (w : World) : Calls Try.prog 101 #[(.agg #[])] w fun e w' => e = .returned (.tuple #[.int .i64 (Stn.given 4), .int .i64 (Stn.full 4)]) ∧ Below w.heap.size w w' := by
  go_enter Try.func101, Try.ntmps101
  go_wp2_with fail
  go_ret2
  exact ⟨rfl, (by repeat (first | (with_reducible exact Below.refl _ _) | (with_reducible refine Below.drew ?_) | (with_reducible refine below_drewN ?_ _) | ((with_reducible refine Below.alloc ?_ ?_ _); rotate_left; (first | omega | (simp <;> omega)); rotate_right) | ((with_reducible refine Below.setCell ?_ ?_ _); rotate_left; (first | omega | (simp <;> omega)); rotate_right) | (with_reducible assumption) | (refine Below.trans ?_ (Below.mono (by assumption) ?_); rotate_left; (first | omega | (simp <;> omega)); rotate_right)))⟩
theorem may_hold (w : World) (s : Int) (hs : 0 ≤ s) : Calls Try.prog 100 #[(.agg #[]), .int .i64 s] w fun e w' => e = .returned (.bool (Stn.may 4 s)) ∧ Below w.heap.size w w' := by
  by_cases h0 : s = 6
  · subst h0
    have E := Lib.hid (show Stn.may 4 6 = true by decide)
    go_enter Try.func100, Try.ntmps100
    go_wp2_with fail
    go_ret
    exact ⟨ret_bool E.out.symm, (by repeat (first | (with_reducible exact Below.refl _ _) | (with_reducible refine Below.drew ?_) | (with_reducible refine below_drewN ?_ _) | ((with_reducible refine Below.alloc ?_ ?_ _); rotate_left; (first | omega | (simp <;> omega)); rotate_right) | ((with_reducible refine Below.setCell ?_ ?_ _); rotate_left; (first | omega | (simp <;> omega)); rotate_right) | (with_reducible assumption) | (refine Below.trans ?_ (Below.mono (by assumption) ?_); rotate_left; (first | omega | (simp <;> omega)); rotate_right)))⟩
  · have z0 : (s == 6) = false := by rw [beq_eq_false_iff_ne]; exact h0
    have E := Lib.hid (show Stn.may 4 s = false by simp [Stn.may]; omega)
    go_enter Try.func100, Try.ntmps100
    go_wp2_with fail
    go_ret
    exact ⟨ret_bool E.out.symm, (by repeat (first | (with_reducible exact Below.refl _ _) | (with_reducible refine Below.drew ?_) | (with_reducible refine below_drewN ?_ _) | ((with_reducible refine Below.alloc ?_ ?_ _); rotate_left; (first | omega | (simp <;> omega)); rotate_right) | ((with_reducible refine Below.setCell ?_ ?_ _); rotate_left; (first | omega | (simp <;> omega)); rotate_right) | (with_reducible assumption) | (refine Below.trans ?_ (Below.mono (by assumption) ?_); rotate_left; (first | omega | (simp <;> omega)); rotate_right)))⟩
theorem data_hold (w : World) (p : Int) (hp : 0 ≤ p ∧ p ≤ 4294967295) : Calls Try.prog 98 #[(.agg #[]), .int .i64 p] w fun e w' => ∃ A cap, e = .returned (.slice A (cdat 4 0 p).length cap) ∧ Ow w' w.heap.size A (cdat 4 0 p).length cap (cdat 4 0 p) ∧ Below w.heap.size w w' := by
  rw [show cdat 4 0 p = [] by simp [cdat]]
  go_enter Try.func98, Try.ntmps98
  go_wp2_with fail
  go_ret
  exact ⟨none, 0, rfl, Ow.nil _ _, (by repeat (first | (with_reducible exact Below.refl _ _) | (with_reducible refine Below.drew ?_) | (with_reducible refine below_drewN ?_ _) | ((with_reducible refine Below.alloc ?_ ?_ _); rotate_left; (first | omega | (simp <;> omega)); rotate_right) | ((with_reducible refine Below.setCell ?_ ?_ _); rotate_left; (first | omega | (simp <;> omega)); rotate_right) | (with_reducible assumption) | (refine Below.trans ?_ (Below.mono (by assumption) ?_); rotate_left; (first | omega | (simp <;> omega)); rotate_right)))⟩
theorem cmd_hold  : Cmd 113 (.agg #[]) 4 0 99 100 101 98 :=
  ⟨⟨fun W => by kernel_rfl, fun W => by kernel_rfl, fun _ W => by kernel_rfl⟩, ⟨fun W => by kernel_rfl, fun W => by kernel_rfl, fun _ W => by kernel_rfl⟩, ⟨fun W => by kernel_rfl, fun W => by kernel_rfl, fun _ W => by kernel_rfl⟩, ⟨fun W => by kernel_rfl, fun W => by kernel_rfl, fun _ W => by kernel_rfl⟩, fun W => kind_hold W, fun W s hs => may_hold W s hs, fun W => states_hold W, fun W p hp _ => data_hold W p hp  , fun W => by kernel_rfl, fun W => by kernel_rfl, fun s h1 _ => by unfold curV; rw [h1]; rfl⟩
theorem kind_resume (w : World) : Calls Try.prog 103 #[(.agg #[])] w fun e w' => e = .returned (.int .i64 5) ∧ Below w.heap.size w w' := by
  go_enter Try.func103, Try.ntmps103
  go_wp2_with fail
  go_ret
  exact ⟨rfl, (by repeat (first | (with_reducible exact Below.refl _ _) | (with_reducible refine Below.drew ?_) | (with_reducible refine below_drewN ?_ _) | ((with_reducible refine Below.alloc ?_ ?_ _); rotate_left; (first | omega | (simp <;> omega)); rotate_right) | ((with_reducible refine Below.setCell ?_ ?_ _); rotate_left; (first | omega | (simp <;> omega)); rotate_right) | (with_reducible assumption) | (refine Below.trans ?_ (Below.mono (by assumption) ?_); rotate_left; (first | omega | (simp <;> omega)); rotate_right)))⟩
theorem states_resume (w : World) : Calls Try.prog 105 #[(.agg #[])] w fun e w' => e = .returned (.tuple #[.int .i64 (Stn.given 5), .int .i64 (Stn.full 5)]) ∧ Below w.heap.size w w' := by
  go_enter Try.func105, Try.ntmps105
  go_wp2_with fail
  go_ret2
  exact ⟨rfl, (by repeat (first | (with_reducible exact Below.refl _ _) | (with_reducible refine Below.drew ?_) | (with_reducible refine below_drewN ?_ _) | ((with_reducible refine Below.alloc ?_ ?_ _); rotate_left; (first | omega | (simp <;> omega)); rotate_right) | ((with_reducible refine Below.setCell ?_ ?_ _); rotate_left; (first | omega | (simp <;> omega)); rotate_right) | (with_reducible assumption) | (refine Below.trans ?_ (Below.mono (by assumption) ?_); rotate_left; (first | omega | (simp <;> omega)); rotate_right)))⟩
theorem may_resume (w : World) (s : Int) (hs : 0 ≤ s) : Calls Try.prog 104 #[(.agg #[]), .int .i64 s] w fun e w' => e = .returned (.bool (Stn.may 5 s)) ∧ Below w.heap.size w w' := by
  by_cases h0 : s = 7
  · subst h0
    have E := Lib.hid (show Stn.may 5 7 = true by decide)
    go_enter Try.func104, Try.ntmps104
    go_wp2_with fail
    go_ret
    exact ⟨ret_bool E.out.symm, (by repeat (first | (with_reducible exact Below.refl _ _) | (with_reducible refine Below.drew ?_) | (with_reducible refine below_drewN ?_ _) | ((with_reducible refine Below.alloc ?_ ?_ _); rotate_left; (first | omega | (simp <;> omega)); rotate_right) | ((with_reducible refine Below.setCell ?_ ?_ _); rotate_left; (first | omega | (simp <;> omega)); rotate_right) | (with_reducible assumption) | (refine Below.trans ?_ (Below.mono (by assumption) ?_); rotate_left; (first | omega | (simp <;> omega)); rotate_right)))⟩
  · have z0 : (s == 7) = false := by rw [beq_eq_false_iff_ne]; exact h0
    have E := Lib.hid (show Stn.may 5 s = false by simp [Stn.may]; omega)
    go_enter Try.func104, Try.ntmps104
    go_wp2_with fail
    go_ret
    exact ⟨ret_bool E.out.symm, (by repeat (first | (with_reducible exact Below.refl _ _) | (with_reducible refine Below.drew ?_) | (with_reducible refine below_drewN ?_ _) | ((with_reducible refine Below.alloc ?_ ?_ _); rotate_left; (first | omega | (simp <;> omega)); rotate_right) | ((with_reducible refine Below.setCell ?_ ?_ _); rotate_left; (first | omega | (simp <;> omega)); rotate_right) | (with_reducible assumption) | (refine Below.trans ?_ (Below.mono (by assumption) ?_); rotate_left; (first | omega | (simp <;> omega)); rotate_right)))⟩
theorem data_resume (w : World) (p : Int) (hp : 0 ≤ p ∧ p ≤ 4294967295) : Calls Try.prog 102 #[(.agg #[]), .int .i64 p] w fun e w' => ∃ A cap, e = .returned (.slice A (cdat 5 0 p).length cap) ∧ Ow w' w.heap.size A (cdat 5 0 p).length cap (cdat 5 0 p) ∧ Below w.heap.size w w' := by
  rw [show cdat 5 0 p = [] by simp [cdat]]
  go_enter Try.func102, Try.ntmps102
  go_wp2_with fail
  go_ret
  exact ⟨none, 0, rfl, Ow.nil _ _, (by repeat (first | (with_reducible exact Below.refl _ _) | (with_reducible refine Below.drew ?_) | (with_reducible refine below_drewN ?_ _) | ((with_reducible refine Below.alloc ?_ ?_ _); rotate_left; (first | omega | (simp <;> omega)); rotate_right) | ((with_reducible refine Below.setCell ?_ ?_ _); rotate_left; (first | omega | (simp <;> omega)); rotate_right) | (with_reducible assumption) | (refine Below.trans ?_ (Below.mono (by assumption) ?_); rotate_left; (first | omega | (simp <;> omega)); rotate_right)))⟩
theorem cmd_resume  : Cmd 114 (.agg #[]) 5 0 103 104 105 102 :=
  ⟨⟨fun W => by kernel_rfl, fun W => by kernel_rfl, fun _ W => by kernel_rfl⟩, ⟨fun W => by kernel_rfl, fun W => by kernel_rfl, fun _ W => by kernel_rfl⟩, ⟨fun W => by kernel_rfl, fun W => by kernel_rfl, fun _ W => by kernel_rfl⟩, ⟨fun W => by kernel_rfl, fun W => by kernel_rfl, fun _ W => by kernel_rfl⟩, fun W => kind_resume W, fun W s hs => may_resume W s hs, fun W => states_resume W, fun W p hp _ => data_resume W p hp  , fun W => by kernel_rfl, fun W => by kernel_rfl, fun s h1 _ => by unfold curV; rw [h1]; rfl⟩
theorem kind_abort (w : World) : Calls Try.prog 95 #[(.agg #[])] w fun e w' => e = .returned (.int .i64 6) ∧ Below w.heap.size w w' := by
  go_enter Try.func95, Try.ntmps95
  go_wp2_with fail
  go_ret
  exact ⟨rfl, (by repeat (first | (with_reducible exact Below.refl _ _) | (with_reducible refine Below.drew ?_) | (with_reducible refine below_drewN ?_ _) | ((with_reducible refine Below.alloc ?_ ?_ _); rotate_left; (first | omega | (simp <;> omega)); rotate_right) | ((with_reducible refine Below.setCell ?_ ?_ _); rotate_left; (first | omega | (simp <;> omega)); rotate_right) | (with_reducible assumption) | (refine Below.trans ?_ (Below.mono (by assumption) ?_); rotate_left; (first | omega | (simp <;> omega)); rotate_right)))⟩
theorem states_abort (w : World) : Calls Try.prog 97 #[(.agg #[])] w fun e w' => e = .returned (.tuple #[.int .i64 (Stn.given 6), .int .i64 (Stn.full 6)]) ∧ Below w.heap.size w w' := by
  go_enter Try.func97, Try.ntmps97
  go_wp2_with fail
  go_ret2
  exact ⟨rfl, (by repeat (first | (with_reducible exact Below.refl _ _) | (with_reducible refine Below.drew ?_) | (with_reducible refine below_drewN ?_ _) | ((with_reducible refine Below.alloc ?_ ?_ _); rotate_left; (first | omega | (simp <;> omega)); rotate_right) | ((with_reducible refine Below.setCell ?_ ?_ _); rotate_left; (first | omega | (simp <;> omega)); rotate_right) | (with_reducible assumption) | (refine Below.trans ?_ (Below.mono (by assumption) ?_); rotate_left; (first | omega | (simp <;> omega)); rotate_right)))⟩
theorem may_abort (w : World) (s : Int) (hs : 0 ≤ s) : Calls Try.prog 96 #[(.agg #[]), .int .i64 s] w fun e w' => e = .returned (.bool (Stn.may 6 s)) ∧ Below w.heap.size w w' := by
  by_cases h0 : s = 0
  · subst h0
    have E := Lib.hid (show Stn.may 6 0 = false by decide)
    go_enter Try.func96, Try.ntmps96
    go_wp2_with fail
    go_ret
    exact ⟨ret_bool E.out.symm, (by repeat (first | (with_reducible exact Below.refl _ _) | (with_reducible refine Below.drew ?_) | (with_reducible refine below_drewN ?_ _) | ((with_reducible refine Below.alloc ?_ ?_ _); rotate_left; (first | omega | (simp <;> omega)); rotate_right) | ((with_reducible refine Below.setCell ?_ ?_ _); rotate_left; (first | omega | (simp <;> omega)); rotate_right) | (with_reducible assumption) | (refine Below.trans ?_ (Below.mono (by assumption) ?_); rotate_left; (first | omega | (simp <;> omega)); rotate_right)))⟩
  · have z0 : (s != 0) = true := by simpa using h0
    by_cases h1 : s < 8
    · have E := Lib.hid (show Stn.may 6 s = true by simp [Stn.may]; omega)
      go_enter Try.func96, Try.ntmps96
      go_wp2_with fail
      go_ret
      exact ⟨ret_bool E.out.symm, (by repeat (first | (with_reducible exact Below.refl _ _) | (with_reducible refine Below.drew ?_) | (with_reducible refine below_drewN ?_ _) | ((with_reducible refine Below.alloc ?_ ?_ _); rotate_left; (first | omega | (simp <;> omega)); rotate_right) | ((with_reducible refine Below.setCell ?_ ?_ _); rotate_left; (first | omega | (simp <;> omega)); rotate_right) | (with_reducible assumption) | (refine Below.trans ?_ (Below.mono (by assumption) ?_); rotate_left; (first | omega | (simp <;> omega)); rotate_right)))⟩
    · have E := Lib.hid (show Stn.may 6 s = false by simp [Stn.may]; omega)
      go_enter Try.func96, Try.ntmps96
      go_wp2_with fail
      go_ret
      exact ⟨ret_bool E.out.symm, (by repeat (first | (with_reducible exact Below.refl _ _) | (with_reducible refine Below.drew ?_) | (with_reducible refine below_drewN ?_ _) | ((with_reducible refine Below.alloc ?_ ?_ _); rotate_left; (first | omega | (simp <;> omega)); rotate_right) | ((with_reducible refine Below.setCell ?_ ?_ _); rotate_left; (first | omega | (simp <;> omega)); rotate_right) | (with_reducible assumption) | (refine Below.trans ?_ (Below.mono (by assumption) ?_); rotate_left; (first | omega | (simp <;> omega)); rotate_right)))⟩
theorem data_abort (w : World) (p : Int) (hp : 0 ≤ p ∧ p ≤ 4294967295) : Calls Try.prog 94 #[(.agg #[]), .int .i64 p] w fun e w' => ∃ A cap, e = .returned (.slice A (cdat 6 0 p).length cap) ∧ Ow w' w.heap.size A (cdat 6 0 p).length cap (cdat 6 0 p) ∧ Below w.heap.size w w' := by
  rw [show cdat 6 0 p = [] by simp [cdat]]
  go_enter Try.func94, Try.ntmps94
  go_wp2_with fail
  go_ret
  exact ⟨none, 0, rfl, Ow.nil _ _, (by repeat (first | (with_reducible exact Below.refl _ _) | (with_reducible refine Below.drew ?_) | (with_reducible refine below_drewN ?_ _) | ((with_reducible refine Below.alloc ?_ ?_ _); rotate_left; (first | omega | (simp <;> omega)); rotate_right) | ((with_reducible refine Below.setCell ?_ ?_ _); rotate_left; (first | omega | (simp <;> omega)); rotate_right) | (with_reducible assumption) | (refine Below.trans ?_ (Below.mono (by assumption) ?_); rotate_left; (first | omega | (simp <;> omega)); rotate_right)))⟩
theorem cmd_abort  : Cmd 112 (.agg #[]) 6 0 95 96 97 94 :=
  ⟨⟨fun W => by kernel_rfl, fun W => by kernel_rfl, fun _ W => by kernel_rfl⟩, ⟨fun W => by kernel_rfl, fun W => by kernel_rfl, fun _ W => by kernel_rfl⟩, ⟨fun W => by kernel_rfl, fun W => by kernel_rfl, fun _ W => by kernel_rfl⟩, ⟨fun W => by kernel_rfl, fun W => by kernel_rfl, fun _ W => by kernel_rfl⟩, fun W => kind_abort W, fun W s hs => may_abort W s hs, fun W => states_abort W, fun W p hp _ => data_abort W p hp  , fun W => by kernel_rfl, fun W => by kernel_rfl, fun s h1 _ => by unfold curV; rw [h1]; rfl⟩
theorem cmd_at {T : TypeId} {v : Value} {k : Int} {fk fm fs fd : FuncId} (h : Cmd T v k 0 fk fm fs fd) (x : Int) (hk : k ≠ 3) : Cmd T v k x fk fm fs fd :=
  ⟨h.ak, h.am, h.as_, h.ad, h.ck, h.cm, h.cs, fun W p hp hx => by have := h.cd W p hp (fun e => absurd e hk); rw [show cdat k 0 p = cdat k x p by simp [cdat, hk]] at this; exact this, fun W => by rw [if_neg hk]; have := h.ta W; rw [if_neg hk] at this; exact this, h.en, fun s h1 _ => h.cur s h1 (fun e => absurd e hk)⟩
theorem cmd_of (s : Stn.St) (hs : Stn.Inv s) (h : s.cmd ≠ 0) : ∃ T v fk fm fs fd, curV s = .iface T v ∧ Cmd T v s.cmd s.at_ fk fm fs fd := by
  have hc := hs.cmd
  have ha := hs.at_
  unfold curV
  obtain ⟨k, hk⟩ : ∃ k, k = s.cmd := ⟨_, rfl⟩
  rw [← hk] at hc h ⊢
  clear hk
  rw [if_neg h]
  by_cases h1 : k = 1
  · subst h1; exact ⟨_, _, _, _, _, _, rfl, cmd_at cmd_load s.at_ (by decide)⟩
  by_cases h2 : k = 2
  · subst h2; exact ⟨_, _, _, _, _, _, rfl, cmd_at cmd_arm s.at_ (by decide)⟩
  by_cases h3 : k = 3
  · subst h3; exact ⟨_, _, _, _, _, _, rfl, cmd_start s.at_⟩
  by_cases h4 : k = 4
  · subst h4; exact ⟨_, _, _, _, _, _, rfl, cmd_at cmd_hold s.at_ (by decide)⟩
  by_cases h5 : k = 5
  · subst h5; exact ⟨_, _, _, _, _, _, rfl, cmd_at cmd_resume s.at_ (by decide)⟩
  obtain rfl : k = 6 := by omega
  exact ⟨_, _, _, _, _, _, rfl, cmd_at cmd_abort s.at_ (by decide)⟩
theorem data_is (s : Stn.St) : Stn.data s = cdat s.cmd s.at_ s.prog := rfl
end Go.Proofs.Ytiidkmnagfhgiaa

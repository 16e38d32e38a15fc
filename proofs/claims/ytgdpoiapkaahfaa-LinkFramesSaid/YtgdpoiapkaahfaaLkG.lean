/- gets, counts; calls of a nil and of a zero link. -/
import Derived.Test.YtgdpoiapkaahfaaLkE
import Derived.Test.YtgdpoiapkaahfaaSameR
namespace Go.Proofs.Ytgdpoiapkaahfaa
open Go.RowKit
set_option maxHeartbeats 8000000
set_option maxRecDepth 100000
set_option linter.unusedSimpArgs false
set_option linter.unusedVariables false
attribute [local go_sem ↓] Go.wp_at_zero Go.wp_at_succ
theorem lrecv_nil (now : Int) (w : World) : Calls Try.prog 18 #[.pointer none, .int .i64 now] w fun e w' => e = .returned (.tuple #[.slice none 0 0, .int .i64 1]) ∧ w = w' := by
  go_enter Try.func18, Try.ntmps18
  go_wp2_with (refine (none_nil _).mono ?_; rintro e w' ⟨rfl, rfl⟩)
  go_ret2
  exact ⟨rfl, rfl⟩
theorem lsend_nil (now : Int) (v : Value) (w : World) : Calls Try.prog 16 #[.pointer none, .int .i64 now, v] w fun e w' => e = .returned (.int .i64 1) ∧ w = w' := by
  go_enter Try.func16, Try.ntmps16
  go_wp2_with (refine (none_nil _).mono ?_; rintro e w' ⟨rfl, rfl⟩)
  go_ret
  exact ⟨rfl, rfl⟩
theorem lnext_zero (b : Nat) (cs : List Value) (w : World) (h : w.heap[b]? = some (.cells cs.toArray 77 (0, 0))) (h0 : cs[0]? = some (.bool false)) :
    Calls Try.prog 26 #[.pointer (some ⟨b, 0, none⟩)] w fun e w' => e = .returned (.tuple #[.int .i64 0, .int .i64 1]) ∧ w = w' := by
  have N := Lib.hid (none_zero b _ w h h0)
  clear h h0
  go_enter Try.func26, Try.ntmps26
  go_wp2_with (refine N.out.mono ?_; rintro e w' ⟨rfl, rfl⟩)
  go_ret2
  exact ⟨rfl, rfl⟩
theorem lsendf_zero (b : Nat) (cs : List Value) (now k f t q : Int) (D : Option Addr) (n cap : Nat) (w : World) (h : w.heap[b]? = some (.cells cs.toArray 77 (0, 0))) (h0 : cs[0]? = some (.bool false)) :
    Calls Try.prog 21 #[.pointer (some ⟨b, 0, none⟩), .int .i64 now, .agg #[.int .i64 k, .int .i64 f, .int .i64 t, .int .i64 q, .slice D n cap]] w fun e w' => e = .returned (.int .i64 1) ∧ Below w.heap.size w w' := by
  have N := Lib.hid (fun (o : Obj) => none_zero b _ (w.alloc o) (blk_alloc h o) h0)
  clear h h0
  go_enter Try.func21, Try.ntmps21
  go_wp2_with (refine (N.out _).mono ?_; rintro e w' ⟨rfl, rfl⟩)
  go_ret
  exact ⟨rfl, (by repeat (first | (with_reducible exact Below.refl _ _) | (with_reducible refine Below.drew ?_) | (with_reducible refine below_drewN ?_ _) | ((with_reducible refine Below.alloc ?_ ?_ _); rotate_left; (first | omega | (simp <;> omega)); rotate_right) | ((with_reducible refine Below.setCell ?_ ?_ _); rotate_left; (first | omega | (simp <;> omega)); rotate_right) | (with_reducible assumption) | (refine Below.trans ?_ (Below.mono (by assumption) ?_); rotate_left; (first | omega | (simp <;> omega)); rotate_right)))⟩
theorem counts_yes (base b c : Nat) (A : Option Addr) (r : Lnk.Ru) (s : Lnk.St) (x y z : Int) (w : World) (h : IsLk w base b A c r s) (e1 : s.sent = x) (e2 : s.lost = y) (e3 : s.dbl = z) :
    Calls Try.prog 32 #[.pointer (some ⟨b, 0, none⟩), .int .i64 x, .int .i64 y, .int .i64 z] w fun e w' => e = .returned (.bool true) ∧ ∃ q, w' = w.drewN q := by
  subst e1; subst e2; subst e3
  have N := Lib.hid (lcounts_any base b c A r s w h)
  clear h
  go_enter Try.func32, Try.ntmps32
  go_wp2_with fail
  refine N.out.mono ?_
  rintro e w' ⟨rfl, q, rfl⟩
  go_wp2_with fail
  go_ret
  exact ⟨rfl, q, rfl⟩
theorem counts_zero (b : Nat) (cs : List Value) (w : World) (h : w.heap[b]? = some (.cells cs.toArray 77 (0, 0))) (h0 : cs[0]? = some (.bool false)) :
    Calls Try.prog 32 #[.pointer (some ⟨b, 0, none⟩), .int .i64 0, .int .i64 0, .int .i64 0] w fun e w' => e = .returned (.bool true) ∧ w = w' := by
  have N := Lib.hid (lcounts_zero b cs w h h0)
  clear h h0
  go_enter Try.func32, Try.ntmps32
  go_wp2_with fail
  refine N.out.mono ?_
  rintro e w' ⟨rfl, rfl⟩
  go_wp2_with fail
  go_ret
  exact ⟨rfl, rfl⟩
def scells (l : List (List Int)) : List Value := l.map (fun d => .string (strOfNums d))
/-- what gets gives -/
def GetsPost (base b : Nat) (A : Option Addr) (r : Lnk.Ru) (s' : Lnk.St) (w : World) (e : Ending) (w' : World) : Prop := e = .returned (.bool true) ∧ LkTo base b A r s' w w'
theorem LkTo.drewN {base b : Nat} {A : Option Addr} {r : Lnk.Ru} {s : Lnk.St} {w w' : World} (h : LkTo base b A r s w w') (q : Nat) : LkTo base b A r s w (w'.drewN q) := by
  obtain ⟨A', c', h1, h2, h3⟩ := h
  exact ⟨A', c', h1.drewN q, h2.drewN q, h3⟩
theorem gets_yes (base b c : Nat) (A : Option Addr) (r : Lnk.Ru) (s : Lnk.St) (now : Int) (U : Option Addr) (n cap : Nat) (l : List (List Int)) (w : World) (h : IsLk w base b A c r s) (hs : Lnk.Inv s) (hbase : base ≤ w.heap.size) (he : Lnk.recvE s now = 0)
    (hl : (Lnk.got s now).map (·.2) = l) (hw : Rds w w.heap.size 1 U n (scells l)) (hU : ∀ a, U = some a → ¬ Two b A a.block) (hn : n ≤ 1000) :
    Calls Try.prog 31 #[.pointer (some ⟨b, 0, none⟩), .int .i64 now, .slice U n cap] w (GetsPost base b A r (Lnk.recv s now) w) := by
  have N := Lib.hid (recv_yes base b c A r s now w h hs hbase he)
  have hln : l.length = n := by have := hw.1; simp [scells] at this; omega
  have HLN := Lib.hid hln
  have HL := Lib.hid hl
  have HW := Lib.hid hw
  have HU := Lib.hid hU
  clear h hs he hl hw hU hln
  go_enter Try.func31, Try.ntmps31
  go_wp2_with fail
  refine N.out.mono ?_
  rintro e w1 ⟨oA, on, oc, rfl, hrb, hto⟩
  rw [HL.out] at hrb
  have hlo := hrb.len
  obtain rfl : on = n := by rw [← hlo, HLN.out]
  have HRB := Lib.hid hrb
  have HTO := Lib.hid hto
  have hk : Keeps (Two b A) w w1 := by obtain ⟨A', c', h1, h2, h3⟩ := hto; exact h2
  have HW1 := Lib.hid ((HW.out.keep hk (Nat.le_refl _) HU.out).more hk.size)
  clear hrb hlo hk hto N
  go_wp2_with fail
  go_loopw [9] (fun s wr => ∃ (j q : Nat), s = .int .i64 j ∧ j ≤ on ∧ wr = w1.drewN q) (fun s _ => on - (intOf s).toNat)
  case atStart => exact ⟨0, 0, by go_num, by omega, rfl⟩
  case round =>
    obtain ⟨j, q, rfl, hj, rfl⟩ := hrel
    by_cases hlt : j < on
    · obtain ⟨g, o, A1, c1, rfl, hb, hc, hrd, _⟩ := HRB.out.at_ hlt
      obtain ⟨g', o', rfl, hb', hc'⟩ := HW1.out.2 (by omega)
      have hsj : (scells l)[j]? = some (.string (strOfNums (l.getD j []))) := by
        rw [scells, List.getElem?_map, List.getElem?_eq_getElem (by rw [HLN.out]; exact hlt)]
        simp [List.getD, List.getElem?_eq_getElem (show j < l.length by rw [HLN.out]; exact hlt)]
      have hcs := hc' j _ hsj
      obtain ⟨x, hx⟩ : ∃ x, x = l.getD j [] := ⟨_, rfl⟩
      rw [← hx] at hc hrd hcs
      have cv1 : ∀ z, (convert 37 9 (.slice A1 x.length c1)).run Try.prog (w1.drewN z) = .ok (.string (strOfNums x)) (w1.drewN z) := fun z => str_of (hrd.drewN z) c1
      clear hx hsj hc' hrd
      go_wp2_with fail
      go_quiet (fail)
      go_wp2_with fail
      go_roundw
      case rel => exact ⟨j + 1, _, by go_num, by omega, by first | exact World.drewN_drewN _ _ _ | rfl⟩
      case measure => simp [intOf]; omega
    · obtain rfl : j = on := by omega
      go_wp2_with fail
      go_ret
      exact ⟨rfl, HTO.out.drewN q⟩
end Go.Proofs.Ytgdpoiapkaahfaa

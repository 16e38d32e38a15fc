import Derived.Test.YtdocdgcdldpagaaGreatAp
import Derived.Test.YtdocdgcdldpagaaGreatAv14
import Derived.Maps.OwnSet
import Derived.WalkArith
import Derived.Test.YtdocdgcdldpagaaGreatAv09
import Derived.Test.YtdocdgcdldpagaaGreatAv10
import Derived.Deep.DrawnRows
namespace Go.Proofs.YtdocdgcdldpagaaGreat
open Go.RowKit
open Go.Maps (Keyed IsMap Tidy)
open Go.ChangeMaps Go.WideShapes Go.MapKept
set_option maxHeartbeats 2000000
set_option maxRecDepth 100000
set_option linter.unusedSimpArgs false
set_option linter.unusedVariables false
abbrev TM : TypeId := 84
theorem cut_key : Keyed Tryz.prog 3 := Maps.int_keyed Tryz.underlying3
theorem cut_kl (i : Nat) (h : i ≤ 9223372036854775807) : keyOf Tryz.prog 3 (.int .i64 i) = some (.int .i64 i) := Go.Maps.keyOf_int_mk Tryz.underlying3 (WalkArith.wf_i64 Cb)
theorem cut_zero (w : World) : (zeroValue 4).run Tryz.prog w = .ok (.bool false) w := by kernel_rfl
def IsCut (w : World) (mb k : Nat) (cut : List Bool) : Prop :=
  ∃ D : DataW Unit, w.ownsMap Tryz.prog 3 (plainElem Tryz.prog 4) mb k D ∧ ∀ i : Nat, D.atKey (.int .i64 i) (.lit (.bool false)) = .lit (.bool (cut.getD i false))
section
variable {w w' : World} {mb k : Nat} {cut : List Bool}
theorem IsCut.lt (h : IsCut w mb k cut) : mb < w.heap.size := by obtain ⟨D, h1, _⟩ := h; exact h1.lt
theorem IsCut.notCells (h : IsCut w mb k cut) {i : Nat} {e : TypeId} (g : Ty w i e) : i ≠ mb := by
  rintro rfl
  obtain ⟨D, ⟨es, clock, hb, _⟩, _⟩ := h
  obtain ⟨cs, hc⟩ := g
  rw [hb] at hc
  cases hc
theorem IsCut.kept {S : Nat → Prop} (h : IsCut w mb k cut) (g : Keeps S w w') (hS : ¬ S mb) : IsCut w' mb k cut := by
  obtain ⟨D, ⟨es, clock, hb, r⟩, h2⟩ := h
  exact ⟨D, ⟨es, clock, blk_keep hb g hS, r⟩, h2⟩
theorem IsCut.mono (h : IsCut w mb k cut) {k' : Nat} (hk : k ≤ k') : IsCut w mb k' cut := by
  obtain ⟨D, h1, h2⟩ := h
  exact ⟨D, h1.mono hk, h2⟩
theorem cut_made (w : World) (cut : List Bool) (h : ∀ i, cut.getD i false = false) : IsCut (w.alloc (.map #[] 0)) w.heap.size 0 cut := by
  refine ⟨_, World.ownsMap_made w _ _ _, fun i => ?_⟩
  rw [h i]
  rfl
theorem IsCut.look (h : IsCut w mb k cut) (i : Nat) (hi : i ≤ 9223372036854775807) : (Instr.lookup TM (.map (some mb)) (.int .i64 i) false).run Tryz.prog w = .ok (.bool (cut.getD i false)) w := by
  obtain ⟨D, h1, h2⟩ := h
  obtain ⟨v, ps, hr, hv⟩ := h1.lookup cut_key Tryz.underlying84 (cut_zero w) (plainElem_bool Tryz.underlying4 false) (cut_kl i hi)
  rw [h2 i] at hv
  have hvb : v = .bool (cut.getD i false) := by
    unfold plainElem at hv
    rw [Tryz.underlying4] at hv
    cases v <;> simp at hv
    have h3 := hv.1
    rw [h3]
    rfl
  rw [hr, hvb]
theorem IsCut.put (h : IsCut w mb k cut) (i : Nat) (hi : i < cut.length) (hi2 : i ≤ 9223372036854775807) (hk : k < maxLen) : ∃ w', (Instr.mapUpdate TM (.map (some mb)) (.int .i64 i) (.bool true)).run Tryz.prog w = .ok () w' ∧ IsCut w' mb (k + 1) (cut.set i true) ∧ w.grownBy w' (some mb) := by
  obtain ⟨D, h1, h2⟩ := h
  obtain ⟨w', hr, ho, hg⟩ := h1.update cut_key Tryz.underlying84 hk (cut_kl i hi2) (plainElem_bool Tryz.underlying4 true)
  refine ⟨w', hr, ⟨_, ho, fun j => ?_⟩, hg⟩
  by_cases e : j = i
  · subst e
    rw [Maps.atKey_put_same h1.isMap (by trivial), List.getD, List.getElem?_set_self hi]
    rfl
  · rw [Maps.atKey_put_other (by intro h; injection h with _ h; exact e Cb), h2 j, List.getD, List.getD, List.getElem?_set_ne (fun h => e h.symm)]
theorem IsCut.del (h : IsCut w mb k cut) (i : Nat) (hi2 : i ≤ 9223372036854775807) (ty : TypeId) : ∃ w', (Builtin.delete_ #[TM, 3] ty #[.map (some mb), .int .i64 i]).run Tryz.prog w = .ok (.tuple #[]) w' ∧ IsCut w' mb k (cut.set i false) ∧ w.grownBy w' (some mb) := by
  obtain ⟨D, h1, h2⟩ := h
  obtain ⟨w', hr, ho, ht⟩ := h1.drop cut_key Tryz.underlying84 (cut_kl i hi2) ty
  refine ⟨w', hr, ⟨_, ho, fun j => ?_⟩, ht.grown⟩
  by_cases e : j = i
  · subst e
    rw [Maps.atKey_del_same]
    by_cases hl : j < cut.length
    · rw [List.getD, List.getElem?_set_self hl]; rfl
    · rw [List.getD, List.getElem?_eq_none (by rw [List.length_set]; omega)]; rfl
  · rw [Maps.atKey_del_other (by intro h; injection h with _ h; exact e Cb), h2 j, List.getD, List.getD, List.getElem?_set_ne (fun h => e h.symm)]
end
end Go.Proofs.YtdocdgcdldpagaaGreat
namespace Go.Proofs.YtdocdgcdldpagaaGreat
open Go.RowKit
set_option maxHeartbeats 4000000
set_option maxRecDepth 100000
set_option linter.unusedSimpArgs false
set_option linter.unusedVariables false
attribute [local go_sem ↓] Go.wp_at_zero Go.wp_at_succ
def curV (s : Stn.St) : Value :=
  if s.cmd = 0 then .nilIface else if s.cmd = 1 then .iface 186 (.agg #[]) else if s.cmd = 2 then .iface 187 (.agg #[]) else if s.cmd = 3 then .iface 189 (.agg #[.int .i64 s.at_]) else if s.cmd = 4 then .iface 190 (.agg #[]) else if s.cmd = 5 then .iface 191 (.agg #[]) else .iface 192 (.agg #[])
def repc (x : Stn.Rep) : List Value := [.bool x.1, .int .i64 x.2.1, .int .i64 x.2.2]
def repcs (l : List Stn.Rep) : List Value := l.flatMap repc
def stl (s : Stn.St) (MA : Option Addr) (mc : Nat) (RA : Option Addr) (rc : Nat) : List Value := [.int .i64 s.n, .int .i64 s.again, .int .i64 s.st, .int .i64 s.now, .int .i64 s.seq, .int .i64 s.sent, .bool s.some, .int .i64 s.prog, curV s, .slice MA (Stn.miss s).length mc, .slice RA s.n rc]
structure IsSt (w : World) (base b : Nat) (MA : Option Addr) (mc : Nat) (RA : Option Addr) (rc : Nat) (s : Stn.St) : Prop where
  blk : w.heap[b]? = some (.cells (stl s MA mc RA rc).toArray 162 (0, 0))
  mrow : Row w base 3 1 MA (Stn.miss s).length mc ((Stn.miss s).map (fun (i : Nat) => .int .i64 i))
  rrow : Row w base 165 3 RA s.n rc (repcs s.seen)
  ge : base ≤ b
theorem snone_made (b : Nat) (cs : List Value) (n : Int) (w : World) (h : w.heap[b]? = some (.cells cs.toArray 162 (0, 0))) (h0 : cs[0]? = some (.int .i64 n)) (hn : n ≠ 0) :
    Calls Tryz.prog 95 #[.pointer (some ⟨b, 0, none⟩)] w fun e w' => e = .returned (.bool false) ∧ w = w' := by
  have c0 := blk_cell h 0 h0
  have z : (n == 0) = false := by rw [beq_eq_false_iff_ne]; exact hn
  clear h h0 hn
  go_enter Tryz.func95, Tryz.ntmps95
  go_wp2_with fail
  go_ret
  exact ⟨rfl, rfl⟩
section
variable {w : World} {base b mc rc : Nat} {MA RA : Option Addr} {s : Stn.St}
theorem IsSt.none (h : IsSt w base b MA mc RA rc s) (hs : Stn.Inv s) : Calls Tryz.prog 95 #[.pointer (some ⟨b, 0, none⟩)] w fun e w' => e = .returned (.bool false) ∧ w = w' :=
  snone_made b _ s.n w h.blk rfl (by have := hs.n; omega)
theorem last_any (h : IsSt w base b MA mc RA rc s) (hs : Stn.Inv s) :
    Calls Tryz.prog 108 #[.pointer (some ⟨b, 0, none⟩)] w fun e w' => e = .returned (.int .i64 s.prog) ∧ w = w' := by
  have N := Lib.hid (h.none hs)
  have c7 : w.cell? ⟨b, 7, none⟩ = some (.int .i64 s.prog) := blk_cell h.blk 7 rfl
  clear h hs
  go_enter Tryz.func108, Tryz.ntmps108
  go_wp2_with (refine N.out.mono ?_; rintro e w' ⟨rfl, rfl⟩)
  go_ret
  exact ⟨rfl, rfl⟩
theorem state_any (h : IsSt w base b MA mc RA rc s) (hs : Stn.Inv s) :
    Calls Tryz.prog 52 #[.pointer (some ⟨b, 0, none⟩)] w fun e w' => e = .returned (.int .i64 s.st) ∧ w = w' := by
  have N := Lib.hid (h.none hs)
  have c2 : w.cell? ⟨b, 2, none⟩ = some (.int .i64 s.st) := blk_cell h.blk 2 rfl
  clear h hs
  go_enter Tryz.func52, Tryz.ntmps52
  go_wp2_with (refine N.out.mono ?_; rintro e w' ⟨rfl, rfl⟩)
  go_ret
  exact ⟨rfl, rfl⟩
theorem Cv {p : Prop} (h : p := by
  go_enter Tryz.func99, Tryz.ntmps99
  go_wp2_with fail
  go_ret
  exact ⟨ret_int E.out.symm, rfl⟩
 ) : p := h
theorem stcheck_any (h : IsSt w base b MA mc RA rc s) (now : Int) :
    Calls Tryz.prog 99 #[.pointer (some ⟨b, 0, none⟩), .int .i64 now] w fun e w' => e = .returned (.int .i64 (Stn.timeE s now)) ∧ w = w' := by
  have c3 : w.cell? ⟨b, 3, none⟩ = some (.int .i64 s.now) := blk_cell h.blk 3 rfl
  clear h
  by_cases h1 : now < s.now
  · have E := Lib.hid (show Stn.timeE s now = 3 by unfold Stn.timeE; rw [if_neg Cb])
    exact Cv
  · by_cases h2 : 3600000 < now
    · have E := Lib.hid (show Stn.timeE s now = 3 by unfold Stn.timeE; rw [if_neg Cb])
      exact Cv
    · have E := Lib.hid (show Stn.timeE s now = 0 by unfold Stn.timeE; rw [if_pos Cb])
      exact Cv
end
end Go.Proofs.YtdocdgcdldpagaaGreat
namespace Go.Proofs.YtdocdgcdldpagaaGreat
open Go.RowKit
set_option maxHeartbeats 8000000
set_option maxRecDepth 100000
set_option linter.unusedSimpArgs false
set_option linter.unusedVariables false
attribute [local go_sem ↓] Go.wp_at_zero Go.wp_at_succ
structure MCall (T : TypeId) (v : Value) (name : String) (f : FuncId) : Prop where
  m : ∀ W : World, (method 398 T v name).run Tryz.prog W = .ok (f, v) W
  n : ∀ W : World, (nilAhead 398 T v name).run Tryz.prog W = .ok (some false) W
  c : ∀ (args : Array Value) (W : World), (callFunc f args).run Tryz.prog W = .ok (.enter f args) W
def cdat (k x p : Int) : List Int := if k = 1 ∨ k = 2 then Frm.num4 p else if k = 3 then Frm.num4 x else []
structure Cmd (T : TypeId) (v : Value) (k x : Int) (fk fm fs fd : FuncId) : Prop where
  ak : MCall T v "skylantern/station.kind" fk
  am : MCall T v "skylantern/station.may" fm
  as_ : MCall T v "skylantern/station.states" fs
  ad : MCall T v "skylantern/station.data" fd
  ck : ∀ W : World, Calls Tryz.prog fk #[v] W fun e w' => e = .returned (.int .i64 k) ∧ Below W.heap.size W w'
  cm : ∀ (W : World) (s : Int), 0 ≤ s → Calls Tryz.prog fm #[v, .int .i64 s] W fun e w' => e = .returned (.bool (Stn.may k s)) ∧ Below W.heap.size W w'
  cs : ∀ W : World, Calls Tryz.prog fs #[v] W fun e w' => e = .returned (.tuple #[.int .i64 (Stn.given k), .int .i64 (Stn.full k)]) ∧ Below W.heap.size W w'
  cd : ∀ (W : World) (p : Int), 0 ≤ p ∧ p ≤ 4294967295 → (k = 3 → 0 ≤ x ∧ x ≤ 4294967295) → Calls Tryz.prog fd #[v, .int .i64 p] W fun e w' => ∃ A cap, e = .returned (.slice A (cdat k x p).length cap) ∧ Ow w' W.heap.size A (cdat k x p).length cap (cdat k x p) ∧ Below W.heap.size W w'
  ta : ∀ W : World, (Instr.typeAssert (.iface T v) 159 189 true).run Tryz.prog W = .ok (.tuple #[.agg #[.int .i64 (if k = 3 then x else 0)], .bool (decide (k = 3))]) W
  en : ∀ W : World, (binOp .eql 159 (.iface T v) .nilIface).run Tryz.prog W = .ok (.bool false) W
  cur : ∀ s : Stn.St, s.cmd = k → (k = 3 → s.at_ = x) → curV s = .iface T v
theorem Ri.new1 (w : World) (x : Int) (h : -9223372036854775808 ≤ x ∧ x ≤ 9223372036854775807) : Ri (w.alloc (.cells #[.int .i64 x] 3)) (w.heap.size + 1) (some ⟨w.heap.size, 0, none⟩) 1 [x] := by
  refine ⟨rfl, fun y hy => by rw [List.mem_singleton.1 hy]; exact h, fun _ => ⟨_, 0, rfl, by omega, fun i hi => ?_⟩⟩
  obtain rfl : i = 0 := by omega
  exact blk_cell (l := [.int .i64 x]) (heap_new _ _) 0 rfl
theorem numbers_any (n : Int) (w : World) (h : 0 ≤ n ∧ n ≤ 4294967295) :
    Calls Tryz.prog 208 #[.int .i64 n] w fun e w' => ∃ A cap, e = .returned (.slice A 4 cap) ∧ Ow w' w.heap.size A 4 cap (Frm.num4 n) ∧ Below w.heap.size w w' := by
  have hok : Frm.okAll [n] = true := by simp [Frm.okAll, Frm.okN_iff.2 h]
  have P := Lib.hid (fun (W : World) (hW : Ri W W.heap.size (some ⟨w.heap.size, 0, none⟩) 1 [n]) => put_yes (some ⟨w.heap.size, 0, none⟩) 1 1 [n] W hW Cb hok)
  clear hok
  go_enter Tryz.func208, Tryz.ntmps208
  go_wp2_with fail
  refine (P.out _ (by have := Ri.new1 w n Cb; simpa using this)).mono ?_
  rintro e w1 ⟨A, cap, rfl, hO, hB⟩
  have hz1 := hB.size
  go_wp2_with fail
  go_ret
  refine ⟨A, cap, rfl, ?_, A9⟩
  have := hO.more (base' := w.heap.size) C9
  simpa [Frm.pn] using this
theorem Cz {p : Prop} (h : p := by
  go_wp2_with fail
  go_ret
  exact ⟨rfl, A9⟩
 ) : p := h
theorem kind_load (w : World) : Calls Tryz.prog 205 #[(.agg #[])] w fun e w' => e = .returned (.int .i64 1) ∧ Below w.heap.size w w' := by
  go_enter Tryz.func205, Tryz.ntmps205
  exact Cz
theorem Cy {p : Prop} (h : p := by
  go_wp2_with fail
  go_ret2
  exact ⟨rfl, A9⟩
 ) : p := h
theorem states_load (w : World) : Calls Tryz.prog 207 #[(.agg #[])] w fun e w' => e = .returned (.tuple #[.int .i64 (Stn.given 1), .int .i64 (Stn.full 1)]) ∧ Below w.heap.size w w' := by
  go_enter Tryz.func207, Tryz.ntmps207
  exact Cy
theorem Cw {p : Prop} (h : p := by
  go_wp2_with fail
  go_ret
  exact ⟨ret_bool E.out.symm, A9⟩
 ) : p := h
theorem D0 {p : Prop} (h : p := by
  go_enter Tryz.func206, Tryz.ntmps206
  exact Cw
 ) : p := h
theorem may_load (w : World) (s : Int) (hs : 0 ≤ s) : Calls Tryz.prog 206 #[(.agg #[]), .int .i64 s] w fun e w' => e = .returned (.bool (Stn.may 1 s)) ∧ Below w.heap.size w w' := by
  by_cases h0 : s = 0
  · subst h0
    have E := Lib.hid (show Stn.may 1 0 = true by decide)
    exact D0
  · have z0 : (s == 0) = false := by rw [beq_eq_false_iff_ne]; exact h0
    by_cases h1 : s = 2
    · subst h1
      have E := Lib.hid (show Stn.may 1 2 = true by decide)
      exact D0
    · have z1 : (s == 2) = false := by rw [beq_eq_false_iff_ne]; exact h1
      by_cases h2 : s = 9
      · subst h2
        have E := Lib.hid (show Stn.may 1 9 = true by decide)
        exact D0
      · have z2 : (s == 9) = false := by rw [beq_eq_false_iff_ne]; exact h2
        have E := Lib.hid (show Stn.may 1 s = false by simp [Stn.may]; omega)
        exact D0
theorem Cx {p : Prop} (h : p := by
  go_wp2_with fail
  refine (N.out _).mono ?_
  rintro e w1 ⟨A, cap, rfl, hO, hB⟩
  have hz1 := hB.size
  go_wp2_with fail
  go_ret
  exact ⟨A, cap, rfl, hO.more C9, A9⟩
 ) : p := h
theorem data_load (w : World) (p : Int) (hp : 0 ≤ p ∧ p ≤ 4294967295) : Calls Tryz.prog 204 #[(.agg #[]), .int .i64 p] w fun e w' => ∃ A cap, e = .returned (.slice A (cdat 1 0 p).length cap) ∧ Ow w' w.heap.size A (cdat 1 0 p).length cap (cdat 1 0 p) ∧ Below w.heap.size w w' := by
  rw [show cdat 1 0 p = Frm.num4 p by simp [cdat]]
  have N := Lib.hid (fun W : World => numbers_any p W hp)
  go_enter Tryz.func204, Tryz.ntmps204
  exact Cx
theorem cmd_load  : Cmd 186 (.agg #[]) 1 0 205 206 207 204 :=
  ⟨⟨fun W => by kernel_rfl, fun W => by kernel_rfl, fun _ W => by kernel_rfl⟩, ⟨fun W => by kernel_rfl, fun W => by kernel_rfl, fun _ W => by kernel_rfl⟩, ⟨fun W => by kernel_rfl, fun W => by kernel_rfl, fun _ W => by kernel_rfl⟩, ⟨fun W => by kernel_rfl, fun W => by kernel_rfl, fun _ W => by kernel_rfl⟩, fun W => kind_load W, fun W s hs => may_load W s hs, fun W => states_load W, fun W p hp _ => data_load W p hp  , fun W => by kernel_rfl, fun W => by kernel_rfl, fun s h1 _ => by unfold curV; rw [h1]; rfl⟩
theorem kind_arm (w : World) : Calls Tryz.prog 210 #[(.agg #[])] w fun e w' => e = .returned (.int .i64 2) ∧ Below w.heap.size w w' := by
  go_enter Tryz.func210, Tryz.ntmps210
  exact Cz
theorem states_arm (w : World) : Calls Tryz.prog 212 #[(.agg #[])] w fun e w' => e = .returned (.tuple #[.int .i64 (Stn.given 2), .int .i64 (Stn.full 2)]) ∧ Below w.heap.size w w' := by
  go_enter Tryz.func212, Tryz.ntmps212
  exact Cy
theorem may_arm (w : World) (s : Int) (hs : 0 ≤ s) : Calls Tryz.prog 211 #[(.agg #[]), .int .i64 s] w fun e w' => e = .returned (.bool (Stn.may 2 s)) ∧ Below w.heap.size w w' := by
  by_cases h0 : s = 2
  · subst h0
    have E := Lib.hid (show Stn.may 2 2 = true by decide)
    go_enter Tryz.func211, Tryz.ntmps211
    exact Cw
  · have z0 : (s == 2) = false := by rw [beq_eq_false_iff_ne]; exact h0
    have E := Lib.hid (show Stn.may 2 s = false by simp [Stn.may]; omega)
    go_enter Tryz.func211, Tryz.ntmps211
    exact Cw
theorem data_arm (w : World) (p : Int) (hp : 0 ≤ p ∧ p ≤ 4294967295) : Calls Tryz.prog 209 #[(.agg #[]), .int .i64 p] w fun e w' => ∃ A cap, e = .returned (.slice A (cdat 2 0 p).length cap) ∧ Ow w' w.heap.size A (cdat 2 0 p).length cap (cdat 2 0 p) ∧ Below w.heap.size w w' := by
  rw [show cdat 2 0 p = Frm.num4 p by simp [cdat]]
  have N := Lib.hid (fun W : World => numbers_any p W hp)
  go_enter Tryz.func209, Tryz.ntmps209
  exact Cx
theorem cmd_arm  : Cmd 187 (.agg #[]) 2 0 210 211 212 209 :=
  ⟨⟨fun W => by kernel_rfl, fun W => by kernel_rfl, fun _ W => by kernel_rfl⟩, ⟨fun W => by kernel_rfl, fun W => by kernel_rfl, fun _ W => by kernel_rfl⟩, ⟨fun W => by kernel_rfl, fun W => by kernel_rfl, fun _ W => by kernel_rfl⟩, ⟨fun W => by kernel_rfl, fun W => by kernel_rfl, fun _ W => by kernel_rfl⟩, fun W => kind_arm W, fun W s hs => may_arm W s hs, fun W => states_arm W, fun W p hp _ => data_arm W p hp  , fun W => by kernel_rfl, fun W => by kernel_rfl, fun s h1 _ => by unfold curV; rw [h1]; rfl⟩
theorem kind_start (x : Int) (w : World) : Calls Tryz.prog 214 #[(.agg #[.int .i64 x])] w fun e w' => e = .returned (.int .i64 3) ∧ Below w.heap.size w w' := by
  go_enter Tryz.func214, Tryz.ntmps214
  exact Cz
theorem states_start (x : Int) (w : World) : Calls Tryz.prog 216 #[(.agg #[.int .i64 x])] w fun e w' => e = .returned (.tuple #[.int .i64 (Stn.given 3), .int .i64 (Stn.full 3)]) ∧ Below w.heap.size w w' := by
  go_enter Tryz.func216, Tryz.ntmps216
  exact Cy
theorem may_start (x : Int) (w : World) (s : Int) (hs : 0 ≤ s) : Calls Tryz.prog 215 #[(.agg #[.int .i64 x]), .int .i64 s] w fun e w' => e = .returned (.bool (Stn.may 3 s)) ∧ Below w.heap.size w w' := by
  by_cases h0 : s = 4
  · subst h0
    have E := Lib.hid (show Stn.may 3 4 = true by decide)
    go_enter Tryz.func215, Tryz.ntmps215
    exact Cw
  · have z0 : (s == 4) = false := by rw [beq_eq_false_iff_ne]; exact h0
    have E := Lib.hid (show Stn.may 3 s = false by simp [Stn.may]; omega)
    go_enter Tryz.func215, Tryz.ntmps215
    exact Cw
theorem data_start (x : Int) (w : World) (p : Int) (hx : 0 ≤ x ∧ x ≤ 4294967295) (hp : 0 ≤ p ∧ p ≤ 4294967295) : Calls Tryz.prog 213 #[(.agg #[.int .i64 x]), .int .i64 p] w fun e w' => ∃ A cap, e = .returned (.slice A (cdat 3 x p).length cap) ∧ Ow w' w.heap.size A (cdat 3 x p).length cap (cdat 3 x p) ∧ Below w.heap.size w w' := by
  rw [show cdat 3 x p = Frm.num4 x by simp [cdat]]
  have N := Lib.hid (fun W : World => numbers_any x W hx)
  go_enter Tryz.func213, Tryz.ntmps213
  exact Cx
theorem cmd_start (x : Int) : Cmd 189 (.agg #[.int .i64 x]) 3 x 214 215 216 213 :=
  ⟨⟨fun W => by kernel_rfl, fun W => by kernel_rfl, fun _ W => by kernel_rfl⟩, ⟨fun W => by kernel_rfl, fun W => by kernel_rfl, fun _ W => by kernel_rfl⟩, ⟨fun W => by kernel_rfl, fun W => by kernel_rfl, fun _ W => by kernel_rfl⟩, ⟨fun W => by kernel_rfl, fun W => by kernel_rfl, fun _ W => by kernel_rfl⟩, fun W => kind_start x W, fun W s hs => may_start x W s hs, fun W => states_start x W, fun W p hp hx => data_start x W p (hx rfl) hp  , fun W => by kernel_rfl, fun W => by kernel_rfl, fun s h1 h2 => by unfold curV; rw [h1, h2 rfl]; rfl⟩
theorem kind_hold (w : World) : Calls Tryz.prog 218 #[(.agg #[])] w fun e w' => e = .returned (.int .i64 4) ∧ Below w.heap.size w w' := by
  go_enter Tryz.func218, Tryz.ntmps218
  exact Cz
theorem states_hold (w : World) : Calls Tryz.prog 220 #[(.agg #[])] w fun e w' => e = .returned (.tuple #[.int .i64 (Stn.given 4), .int .i64 (Stn.full 4)]) ∧ Below w.heap.size w w' := by
  go_enter Tryz.func220, Tryz.ntmps220
  exact Cy
theorem may_hold (w : World) (s : Int) (hs : 0 ≤ s) : Calls Tryz.prog 219 #[(.agg #[]), .int .i64 s] w fun e w' => e = .returned (.bool (Stn.may 4 s)) ∧ Below w.heap.size w w' := by
  by_cases h0 : s = 6
  · subst h0
    have E := Lib.hid (show Stn.may 4 6 = true by decide)
    go_enter Tryz.func219, Tryz.ntmps219
    exact Cw
  · have z0 : (s == 6) = false := by rw [beq_eq_false_iff_ne]; exact h0
    have E := Lib.hid (show Stn.may 4 s = false by simp [Stn.may]; omega)
    go_enter Tryz.func219, Tryz.ntmps219
    exact Cw
theorem D1 {p : Prop} (h : p := by
  go_wp2_with fail
  go_ret
  exact ⟨none, 0, rfl, Ow.nil _ _, A9⟩
 ) : p := h
theorem data_hold (w : World) (p : Int) (hp : 0 ≤ p ∧ p ≤ 4294967295) : Calls Tryz.prog 217 #[(.agg #[]), .int .i64 p] w fun e w' => ∃ A cap, e = .returned (.slice A (cdat 4 0 p).length cap) ∧ Ow w' w.heap.size A (cdat 4 0 p).length cap (cdat 4 0 p) ∧ Below w.heap.size w w' := by
  rw [show cdat 4 0 p = [] by simp [cdat]]
  go_enter Tryz.func217, Tryz.ntmps217
  exact D1
theorem cmd_hold  : Cmd 190 (.agg #[]) 4 0 218 219 220 217 :=
  ⟨⟨fun W => by kernel_rfl, fun W => by kernel_rfl, fun _ W => by kernel_rfl⟩, ⟨fun W => by kernel_rfl, fun W => by kernel_rfl, fun _ W => by kernel_rfl⟩, ⟨fun W => by kernel_rfl, fun W => by kernel_rfl, fun _ W => by kernel_rfl⟩, ⟨fun W => by kernel_rfl, fun W => by kernel_rfl, fun _ W => by kernel_rfl⟩, fun W => kind_hold W, fun W s hs => may_hold W s hs, fun W => states_hold W, fun W p hp _ => data_hold W p hp  , fun W => by kernel_rfl, fun W => by kernel_rfl, fun s h1 _ => by unfold curV; rw [h1]; rfl⟩
theorem kind_resume (w : World) : Calls Tryz.prog 222 #[(.agg #[])] w fun e w' => e = .returned (.int .i64 5) ∧ Below w.heap.size w w' := by
  go_enter Tryz.func222, Tryz.ntmps222
  exact Cz
theorem states_resume (w : World) : Calls Tryz.prog 224 #[(.agg #[])] w fun e w' => e = .returned (.tuple #[.int .i64 (Stn.given 5), .int .i64 (Stn.full 5)]) ∧ Below w.heap.size w w' := by
  go_enter Tryz.func224, Tryz.ntmps224
  exact Cy
theorem may_resume (w : World) (s : Int) (hs : 0 ≤ s) : Calls Tryz.prog 223 #[(.agg #[]), .int .i64 s] w fun e w' => e = .returned (.bool (Stn.may 5 s)) ∧ Below w.heap.size w w' := by
  by_cases h0 : s = 7
  · subst h0
    have E := Lib.hid (show Stn.may 5 7 = true by decide)
    go_enter Tryz.func223, Tryz.ntmps223
    exact Cw
  · have z0 : (s == 7) = false := by rw [beq_eq_false_iff_ne]; exact h0
    have E := Lib.hid (show Stn.may 5 s = false by simp [Stn.may]; omega)
    go_enter Tryz.func223, Tryz.ntmps223
    exact Cw
theorem data_resume (w : World) (p : Int) (hp : 0 ≤ p ∧ p ≤ 4294967295) : Calls Tryz.prog 221 #[(.agg #[]), .int .i64 p] w fun e w' => ∃ A cap, e = .returned (.slice A (cdat 5 0 p).length cap) ∧ Ow w' w.heap.size A (cdat 5 0 p).length cap (cdat 5 0 p) ∧ Below w.heap.size w w' := by
  rw [show cdat 5 0 p = [] by simp [cdat]]
  go_enter Tryz.func221, Tryz.ntmps221
  exact D1
theorem cmd_resume  : Cmd 191 (.agg #[]) 5 0 222 223 224 221 :=
  ⟨⟨fun W => by kernel_rfl, fun W => by kernel_rfl, fun _ W => by kernel_rfl⟩, ⟨fun W => by kernel_rfl, fun W => by kernel_rfl, fun _ W => by kernel_rfl⟩, ⟨fun W => by kernel_rfl, fun W => by kernel_rfl, fun _ W => by kernel_rfl⟩, ⟨fun W => by kernel_rfl, fun W => by kernel_rfl, fun _ W => by kernel_rfl⟩, fun W => kind_resume W, fun W s hs => may_resume W s hs, fun W => states_resume W, fun W p hp _ => data_resume W p hp  , fun W => by kernel_rfl, fun W => by kernel_rfl, fun s h1 _ => by unfold curV; rw [h1]; rfl⟩
theorem kind_abort (w : World) : Calls Tryz.prog 226 #[(.agg #[])] w fun e w' => e = .returned (.int .i64 6) ∧ Below w.heap.size w w' := by
  go_enter Tryz.func226, Tryz.ntmps226
  exact Cz
theorem states_abort (w : World) : Calls Tryz.prog 228 #[(.agg #[])] w fun e w' => e = .returned (.tuple #[.int .i64 (Stn.given 6), .int .i64 (Stn.full 6)]) ∧ Below w.heap.size w w' := by
  go_enter Tryz.func228, Tryz.ntmps228
  exact Cy
theorem may_abort (w : World) (s : Int) (hs : 0 ≤ s) : Calls Tryz.prog 227 #[(.agg #[]), .int .i64 s] w fun e w' => e = .returned (.bool (Stn.may 6 s)) ∧ Below w.heap.size w w' := by
  by_cases h0 : s = 0
  · subst h0
    have E := Lib.hid (show Stn.may 6 0 = false by decide)
    go_enter Tryz.func227, Tryz.ntmps227
    exact Cw
  · have z0 : (s != 0) = true := by simpa using h0
    by_cases h1 : s < 8
    · have E := Lib.hid (show Stn.may 6 s = true by simp [Stn.may]; omega)
      go_enter Tryz.func227, Tryz.ntmps227
      exact Cw
    · have E := Lib.hid (show Stn.may 6 s = false by simp [Stn.may]; omega)
      go_enter Tryz.func227, Tryz.ntmps227
      exact Cw
theorem data_abort (w : World) (p : Int) (hp : 0 ≤ p ∧ p ≤ 4294967295) : Calls Tryz.prog 225 #[(.agg #[]), .int .i64 p] w fun e w' => ∃ A cap, e = .returned (.slice A (cdat 6 0 p).length cap) ∧ Ow w' w.heap.size A (cdat 6 0 p).length cap (cdat 6 0 p) ∧ Below w.heap.size w w' := by
  rw [show cdat 6 0 p = [] by simp [cdat]]
  go_enter Tryz.func225, Tryz.ntmps225
  exact D1
theorem cmd_abort  : Cmd 192 (.agg #[]) 6 0 226 227 228 225 :=
  ⟨⟨fun W => by kernel_rfl, fun W => by kernel_rfl, fun _ W => by kernel_rfl⟩, ⟨fun W => by kernel_rfl, fun W => by kernel_rfl, fun _ W => by kernel_rfl⟩, ⟨fun W => by kernel_rfl, fun W => by kernel_rfl, fun _ W => by kernel_rfl⟩, ⟨fun W => by kernel_rfl, fun W => by kernel_rfl, fun _ W => by kernel_rfl⟩, fun W => kind_abort W, fun W s hs => may_abort W s hs, fun W => states_abort W, fun W p hp _ => data_abort W p hp  , fun W => by kernel_rfl, fun W => by kernel_rfl, fun s h1 _ => by unfold curV; rw [h1]; rfl⟩
theorem cmd_at {T : TypeId} {v : Value} {k : Int} {fk fm fs fd : FuncId} (h : Cmd T v k 0 fk fm fs fd) (x : Int) (hk : k ≠ 3) : Cmd T v k x fk fm fs fd :=
  ⟨h.ak, h.am, h.as_, h.ad, h.ck, h.cm, h.cs, fun W p hp hx => by have := h.cd W p hp (fun e => absurd e hk); rw [show cdat k 0 p = cdat k x p by simp [cdat, hk]] at this; exact this, fun W => by rw [if_neg hk]; have := h.ta W; rw [if_neg hk] at this; exact this, h.en, fun s h1 _ => h.cur s h1 (fun e => absurd e hk)⟩
theorem cmd_of (s : Stn.St) (hs : Stn.Inv s) (h : s.cmd ≠ 0) : ∃ T v fk fm fs fd, curV s = .iface T v ∧ Cmd T v s.cmd s.at_ fk fm fs fd := by
  have hc := hs.cmd
  have ha := hs.at_
  unfold curV
  obtain ⟨k, hk⟩ : ∃ k, k = s.cmd := ⟨_, rfl⟩
  rw [← hk] at hc h ⊢
  clear hk
  rw [if_neg h]
  by_cases h1 : k = 1
  · subst h1; exact ⟨_, _, _, _, _, _, rfl, cmd_at cmd_load s.at_ C8⟩
  by_cases h2 : k = 2
  · subst h2; exact ⟨_, _, _, _, _, _, rfl, cmd_at cmd_arm s.at_ C8⟩
  by_cases h3 : k = 3
  · subst h3; exact ⟨_, _, _, _, _, _, rfl, cmd_start s.at_⟩
  by_cases h4 : k = 4
  · subst h4; exact ⟨_, _, _, _, _, _, rfl, cmd_at cmd_hold s.at_ C8⟩
  by_cases h5 : k = 5
  · subst h5; exact ⟨_, _, _, _, _, _, rfl, cmd_at cmd_resume s.at_ C8⟩
  obtain rfl : k = 6 := by omega
  exact ⟨_, _, _, _, _, _, rfl, cmd_at cmd_abort s.at_ C8⟩
theorem data_is (s : Stn.St) : Stn.data s = cdat s.cmd s.at_ s.prog := rfl
end Go.Proofs.YtdocdgcdldpagaaGreat

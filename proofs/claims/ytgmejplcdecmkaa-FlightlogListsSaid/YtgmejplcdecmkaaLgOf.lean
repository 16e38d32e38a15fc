/- Of: the iterator over an aircraft's records. -/
import Derived.Test.YtgmejplcdecmkaaLgAll
import Derived.Laws.EntriesVeiled
namespace Go.Proofs.Ytgmejplcdecmkaa
open Go.RowKit Go.Shelf
attribute [local go_sem] Oper.semAt_some
set_option maxHeartbeats 4000000
set_option maxRecDepth 100000
set_option linter.unusedSimpArgs false
set_option linter.unusedVariables false
theorem round_any {m m' l : Nat} {P : Program} {f : FuncId} {tmps : Array Value} {assign body : Code} {w : World} {R : Ending → World → Prop} (h : RoundIn Fence.wide m P l f tmps assign body w R) : RoundIn Fence.wide m' P l f tmps assign body w R :=
  ⟨h.1, fun c cs _ => h.2 c cs (fun d hd => by cases hd)⟩
theorem round_in {m m' l l0 : Nat} {P : Program} {f : FuncId} {tmps : Array Value} {assign body : Code} {w : World} {R : Ending → World → Prop} (h : RoundIn Fence.wide m P l f tmps assign body w R) : RoundIn (Fence.wide.inRound l0) m' P l f tmps assign body w R :=
  ⟨h.1, fun c cs _ => by rw [fenced_inRound]; exact h.2 c cs (fun d hd => by cases hd)⟩
section
variable {F : Fence} {n : Nat} {P : Program} {ops : Array Oper} {rest : List Oper} {o : Oper} {a : Act} {w : World} {Q : Exit → Act → World → Prop}
theorem wpListIn_load_row_on (hw : Region.wanted o (yielded ops a.tmps) = true) (ty : TypeId) (x : Operand) (ho : o.op = .load ty x)
    (g : Nat) (hx : a.eval x = .pointer (some ⟨g, 0, none⟩)) (t : TypeId) (cs : Array Value) (fr : Nat × Nat) (d : TypeDesc) (hg : w.heap[g]? = some (.cells cs t fr))
    (hu : P.underlying ty = some d) (hd : (match d with | .struct _ | .array _ _ => true | _ => false) = true) (hi : (P.info? ty).map (·.size) = some cs.size)
    (h : wpListIn F n P ops Q rest (a.put o.dst (.agg cs)) w) : wpListIn F n P ops Q (o :: rest) a w := by
  refine wpListIn_step fun K hK' => ?_
  rw [if_pos hw]
  unfold Oper.wpIn
  refine ⟨fun f hf => (by simp [Oper.about, ho] at hf), ?_⟩
  rw [Oper.semAt_plain F _ _ (by rw [ho]; intro c hc; cases hc)]
  have hx' : (execOp a.eval o).run P w = .ok (.value (.agg cs)) w := by
    unfold execOp
    simp only [ho, hx, Instr.loadAt, Instr.sureAddr, Sem.run_bind, Sem.run_pure, Result.andThen_ok, run_loadVar_row w g t ty cs fr d hg hu hd hi]
  rw [hx']
  exact hK' _ _ h
end
namespace Lg
def ofE (a : Int) : Int := if 0 ≤ a ∧ a ≤ 64 then 0 else 2
theorem ofL_len_le (l : List Rc) (a : Int) : ∀ n m, n ≤ m → (ofL l a n).length ≤ (ofL l a m).length := by
  intro n m h
  induction h with
  | refl => exact Nat.le_refl _
  | step h ih =>
    rename_i m
    rw [ofL]
    split
    · rw [List.length_append]; omega
    · exact ih
theorem ofL_pre (l : List Rc) (a : Int) : ∀ n m i, n ≤ m → i < (ofL l a n).length → (ofL l a m)[i]? = (ofL l a n)[i]? := by
  intro n m i h hi
  induction h with
  | refl => rfl
  | step h ih =>
    rename_i m
    rw [ofL]
    have := ofL_len_le l a n m h
    split
    · rw [List.getElem?_append_left (by omega)]; exact ih
    · exact ih
theorem ofL_next {l : List Rc} {a : Int} {n m : Nat} (h : n < m) (ha : (l.getD n r0).a = a) : (ofL l a m)[(ofL l a n).length]? = some n := by
  have e : ofL l a (n + 1) = ofL l a n ++ [n] := by rw [ofL, if_pos ha]
  rw [ofL_pre l a (n + 1) m _ h (by rw [e]; simp), e]
  simp
/-- the records of an aircraft among those that have come -/
def sel (a : Int) (pre : List NR) : List NR := pre.filter (fun x => decide (x.2.x.a = a))
theorem sel_yes {a : Int} {pre : List NR} {x : NR} (h : x.2.x.a = a) : sel a (pre ++ [x]) = sel a pre ++ [x] := by simp [sel, h]
theorem sel_no {a : Int} {pre : List NR} {x : NR} (h : x.2.x.a ≠ a) : sel a (pre ++ [x]) = sel a pre := by simp [sel, h]
/-- what a round of Of is handed -/
def PrO (vs : List RV) (a : Int) (n : Nat) (pre : List NR) (x : NR) (W : World) : Prop := (ofL (xs vs) a n)[pre.length]? = some x.1 ∧ x.1 < n ∧ x.2.x = (vs.getD x.1 rv0).x ∧ x.2.x.a = a ∧ Ok W W.heap.size x.2
theorem PrO.own (B : Nat) (vs : List RV) (a : Int) (n : Nat) (pre : List NR) : OwnFrom B (PrO vs a n pre) := fun s X Y row hs hg hr => ⟨hs.1, hs.2.1, hs.2.2.1, hs.2.2.2.1, ok_own B (fun _ => True) s.2 X Y row hs.2.2.2.2 hg hr⟩
/-- the blocks below n0, block q, and the boxes of functions of a number and a record lie as they lay -/
def KpQ (n0 q : Nat) (A B : World) : Prop := Below n0 A B ∧ B.heap[q]? = A.heap[q]? ∧ ∀ (i : Nat) (cs : Array Value), A.heap[i]? = some (Obj.cells cs 124 (0, 0)) → B.heap[i]? = some (Obj.cells cs 124 (0, 0))
theorem KpQ.trans {n0 q : Nat} {A B C : World} (h : KpQ n0 q A B) (k : KpQ n0 q B C) : KpQ n0 q A C := ⟨h.1.trans k.1, k.2.1.trans h.2.1, fun i cs e => k.2.2 i cs (h.2.2 i cs e)⟩
theorem KpQ.of_below {n0 q : Nat} {A B : World} (h : Below A.heap.size A B) (hn : n0 ≤ A.heap.size) (hq : q < A.heap.size) : KpQ n0 q A B := ⟨h.mono hn, h.block q hq, fun i cs e => (h.block i (lt_of_block e)).trans e⟩
theorem KpQ.put {n0 q l : Nat} {V : World} {o o' : Obj} {cs : Array Value} {t : TypeId} (hn : n0 ≤ l) (hq : V.heap[q]? = some (.cells cs t (0, 0))) (h : V.heap[l]? = some o) (hc : o.isCells = false) : KpQ n0 q V (V.putObj l o') := by
  have ne : ∀ {i : Nat} {cs : Array Value} {t : TypeId}, V.heap[i]? = some (.cells cs t (0, 0)) → i ≠ l := fun h' e => by
    subst e
    rw [h'] at h
    cases h
    cases hc
  exact ⟨(Below.refl n0 V).grown (grownBy_putObj' V l o') (by have := (Array.getElem?_eq_some_iff.1 h).1; omega) (fun k e => by cases e; omega), World.putObj_heap_other (ne hq), fun i cs e => (World.putObj_heap_other (ne e)).trans e⟩
end Lg
theorem blk_own {β : Type} (B q : Nat) (cs : Array Value) (t : TypeId) : OwnFrom B (fun (_ : β) W => W.heap[q]? = some (.cells cs t (0, 0))) := fun s X Y row hs hg hr =>
  (hg.block q (lt_of_block hs) (fun e => by
    obtain ⟨_, o', ho', hn'⟩ := hr q e.symm
    rw [hs] at ho'
    cases ho'
    cases hn')).trans hs
set_option maxHeartbeats 16000000 in
theorem of1_seq (m n0 B q1 q2 : Nat) (a : Int) (A : Option Addr) (n c : Nat) (vs : List Lg.RV) (w : World) (hm : 3 ≤ m) (hn : n ≤ 1000000) (hn0 : n0 ≤ w.heap.size) (hbox : w.heap[B]? = some (.cells #[.slice A n c] 40 (0, 0))) (hR : Lg.Rr w n0 A n vs) (hd : ∀ y ∈ vs, y.x.f.d.length ≤ 1000)
    (h1 : w.heap[q1]? = some (.cells #[.func (.func 53) #[] #[.pointer (some ⟨B, 0, none⟩)]] 73 (0, 0))) (h2 : w.heap[q2]? = some (.cells #[.int .i64 a] 3 (0, 0))) :
    SeqP Fence.wide m Try.prog 66 #[.pointer (some ⟨q1, 0, none⟩), .pointer (some ⟨q2, 0, none⟩)] Lg.encNR (Lg.PrO vs a n) (Lg.KpQ n0 q2) (fun ys => ys.length = (Lg.ofL (Lg.xs vs) a n).length) (fun _ => True) (Lg.ofL (Lg.xs vs) a n).length w := by
  intro l J Jx W hW hJ hJx hY h0
  have hb1 := blk_below h1 hW (lt_of_block h1)
  have hb2 := blk_below h2 hW (lt_of_block h2)
  have hbB := blk_below hbox hW (lt_of_block hbox)
  have HR := hR.below hW hn0
  have HL := hR.len
  have hW0 := hW.size
  clear h1 h2 hbox hR hW
  refine callsIn_of_wp_marks Try.func66 rfl trivial ?_ rfl
  simp only [Try.ntmps66, List.size_toArray, List.length_cons, List.length_nil, Nat.reduceAdd, Nat.reduceSub, Array.replicate_succ, Array.replicate_zero, List.push_toArray, List.append_toArray, List.nil_append, List.cons_append]
  have c1 := (World.cell?_alloc_lt W (.cells #[.func (.yield l) #[] #[]] 124) ⟨q1, 0, none⟩ (lt_of_block hb1)).trans (blk_cell (l := [_]) hb1 0 rfl)
  gi_wp2
  obtain ⟨W0, hW0'⟩ : ∃ W0 : World, W0 = W.alloc (.cells #[.func (.yield l) #[] #[]] 124) := ⟨_, rfl⟩
  have z0 : W0.heap.size = W.heap.size + 1 := by rw [hW0']; simp
  have y3 : W0.heap[W.heap.size]? = some (.cells #[.func (.yield l) #[] #[]] 124 (0, 0)) := by rw [hW0']; exact heap_new _ _
  have y2 : W0.heap[q2]? = some (.cells #[.int .i64 a] 3 (0, 0)) := by rw [hW0']; exact blk_alloc hb2 _
  have B0 : Below W.heap.size W W0 := by rw [hW0']; exact (Below.refl _ W).alloc (Nat.le_refl _) _
  have yB : W0.heap[B]? = some (.cells #[.slice A n c] 40 (0, 0)) := by rw [hW0']; exact blk_alloc hbB _
  have hJ0 : J (Lg.sel a []) W0 := own_grows hJ (s := []) h0 B0
  have hn0W : n0 ≤ W.heap.size := Nat.le_trans hn0 hW0
  rw [← hW0']
  clear hW0' hb1 hb2 hbB c1 h0
  have hseq := all1_seq (m - 1) n0 B A n c vs W0 (by omega) hn (by omega) yB (HR.below B0 hn0W) hd
  have hq2 : q2 < W0.heap.size := lt_of_block y2
  refine range_own (F := Fence.wide) rfl (by omega) (gf := 53) (lb := #[.pointer (some ⟨B, 0, none⟩)]) rfl trivial (enters_of Try.func53 (by kernel_rfl) rfl) hseq (fun h k => h.trans k)
    (fun V l' o o' hl h hc => (Below.refl n0 V).grown (grownBy_putObj' V l' o') (by have := (Array.getElem?_eq_some_iff.1 h).1; omega) (fun k e => by cases e; omega)) (fun x => rfl)
    (fun pre V => J (Lg.sel a pre) V ∧ (Below n0 W0 V ∧ V.heap[W.heap.size]? = some (.cells #[.func (.yield l) #[] #[]] 124 (0, 0)) ∧ V.heap[q2]? = some (.cells #[.int .i64 a] 3 (0, 0)) ∧ (pre.length ≤ n ∧ (Lg.sel a pre).length = (Lg.ofL (Lg.xs vs) a pre.length).length)))
    (fun c pre V => c = .ret ∧ Jx (Lg.sel a pre) V)
    (fun x a' V => ∃ Bx, W0.heap.size ≤ Bx ∧ V.heap[Bx]? = some (.cells x.2.cells.toArray 32 (0, 0)) ∧ a' = { tmps := #[.func (.yield l) #[] #[], .pointer (some ⟨q1, 0, none⟩), .pointer (some ⟨q2, 0, none⟩), .pointer (some ⟨W.heap.size, 0, none⟩), .int .i64 x.1, .pointer (some ⟨Bx, 0, none⟩), .func (.func 53) #[] #[.pointer (some ⟨B, 0, none⟩)], .int .i64 x.1, x.2.val, undef, undef, undef, undef, undef, undef, undef, undef, undef, undef, undef], defers := [] })
    ?hI ?hIx ?hPr ?hAx ?h0 ?assign ?body ?done ?stop
  case hI => exact OwnFrom.and (fun s X Y row hs hg hr => ownFrom_up hJ (by omega) (Lg.sel a s) X Y row hs hg hr) (OwnFrom.and (ownFrom_below (by omega) (by omega)) (OwnFrom.and (blk_own _ _ _ _) (OwnFrom.and (blk_own _ _ _ _) (ownFrom_pure _ _))))
  case hIx => exact fun c => OwnFrom.and (ownFrom_pure _ _) (fun s X Y row hs hg hr => ownFrom_up hJx (by omega) (Lg.sel a s) X Y row hs hg hr)
  case hPr => exact fun pre => Lg.PrA.own _ vs pre
  case hAx =>
    rintro a' x X Y row ⟨Bx, e1, e2, e3⟩ hg hr
    exact ⟨Bx, e1, blk_own (β := Unit) _ Bx _ _ () X Y row e2 hg hr, e3⟩
  case h0 => exact ⟨hJ0, Below.refl _ _, y3, y2, Nat.zero_le _, rfl⟩
  case assign =>
    rintro l' pre x V K ⟨hJv, hBn, hy3, hy2, hlen, hcnt⟩ ⟨hx1, hx2, hok⟩ hK
    have hzV := hBn.size
    have z1 : x.2.cells.toArray.size = 13 := rfl
    have HX1 := Lib.hid hx1
    have HX2 := Lib.hid hx2
    clear hx1 hx2
    simp only [Lg.encNR]
    gi_wp2_with (refine wpListIn_store_row rfl 32 _ _ rfl V.heap.size x.2.cells.toArray rfl rfl 32 _ (heap_new V (.cells #[.int .i64 0, .int .i64 0, .int .i64 0, .int .i64 0, .int .i64 0, .int .i64 0, .int .i64 0, .int .i64 0, .int .i64 0, .int .i64 0, .int .i64 0, .slice none 0 0, .int .u32 0] 32 (0, 0))) (by rw [z1]; kernel_rfl) z1.symm (rv_ones x.2) ?_)
    have kx := setRow_heap (V.alloc (.cells #[.int .i64 0, .int .i64 0, .int .i64 0, .int .i64 0, .int .i64 0, .int .i64 0, .int .i64 0, .int .i64 0, .int .i64 0, .int .i64 0, .int .i64 0, .slice none 0 0, .int .u32 0] 32 (0, 0))) V.heap.size #[.int .i64 0, .int .i64 0, .int .i64 0, .int .i64 0, .int .i64 0, .int .i64 0, .int .i64 0, .int .i64 0, .int .i64 0, .int .i64 0, .int .i64 0, .slice none 0 0, .int .u32 0] x.2.cells.toArray 32 (0, 0) (heap_new V (.cells #[.int .i64 0, .int .i64 0, .int .i64 0, .int .i64 0, .int .i64 0, .int .i64 0, .int .i64 0, .int .i64 0, .int .i64 0, .int .i64 0, .int .i64 0, .slice none 0 0, .int .u32 0] 32 (0, 0)))
    have bx : Below V.heap.size V ((V.alloc (.cells #[.int .i64 0, .int .i64 0, .int .i64 0, .int .i64 0, .int .i64 0, .int .i64 0, .int .i64 0, .int .i64 0, .int .i64 0, .int .i64 0, .int .i64 0, .slice none 0 0, .int .u32 0] 32 (0, 0))).setRow V.heap.size x.2.cells.toArray) := below_setRow ((Below.refl V.heap.size V).alloc (Nat.le_refl _) _) (Nat.le_refl _) _
    exact hK _ _ (keepsFrom_below bx) (bx.mono (by omega)) ⟨own_grows (ownFrom_up hJ (B' := V.heap.size) (by omega)) hJv bx, hBn.trans (bx.mono (by omega)), blk_below hy3 bx (lt_of_block hy3), blk_below hy2 bx (lt_of_block hy2), hlen, hcnt⟩ ⟨HX1.out, HX2.out, hok.up bx⟩ ⟨V.heap.size, hzV, kx, rfl⟩
  case body =>
    rintro l' pre x a' V ⟨hJv, hBn, hy3, hy2, hlen, hcnt⟩ ⟨hx1, hx2, hok⟩ ⟨Bx, hBx, hbx, rfl⟩ hlt
    have hzV := hBn.size
    have z1 : x.2.cells.toArray.size = 13 := rfl
    have d1 : V.cell? ⟨Bx, 1, none⟩ = some (.int .i64 x.2.x.a) := arr_cell hbx rfl
    have d2 : V.cell? ⟨q2, 0, none⟩ = some (.int .i64 a) := blk_cell (l := [_]) hy2 0 rfl
    have d3 : V.cell? ⟨W.heap.size, 0, none⟩ = some (.func (.yield l) #[] #[]) := blk_cell (l := [_]) hy3 0 rfl
    have ex : ((Lg.xs vs).getD pre.length Lg.r0).a = x.2.x.a := by rw [Lg.xs_at (by rw [HL]; exact hlt), ← hx2]
    by_cases ha : x.2.x.a = a
    · have zt : (x.2.x.a == a) = true := by simp [ha]
      have hnx := Lg.ofL_next (l := Lg.xs vs) (a := a) hlt (by rw [ex]; exact ha)
      have hS := Lg.sel_yes (pre := pre) ha
      have hc1 : (Lg.ofL (Lg.xs vs) a (pre.length + 1)).length = (Lg.sel a pre).length + 1 := by rw [Lg.ofL, if_pos (by rw [ex]; exact ha), List.length_append, ← hcnt]; rfl
      have hlt2 : (Lg.sel a pre).length < (Lg.ofL (Lg.xs vs) a n).length := by
        have := Lg.ofL_len_le (Lg.xs vs) a (pre.length + 1) n (by omega)
        omega
      obtain ⟨fn, tmps, assign, body, hy, hR⟩ := hY (Lg.sel a pre) x V hJv ⟨by rw [hcnt, hx1]; exact hnx, by rw [hx1]; exact hlt, by rw [hx1]; exact hx2, ha, hok⟩ hlt2
      simp only [Lg.encNR, Lg.RV.val] at hy
      have HRd := Lib.hid hR
      have HX1 := Lib.hid hx1
      have HX2 := Lib.hid hx2
      have HS := Lib.hid hS
      have HC1 := Lib.hid hc1
      have HJV := Lib.hid hJv
      have HCN := Lib.hid hcnt
      clear hR hx1 hx2 hS hc1 hnx ex hJv hcnt
      gi_wp2_with (refine wpListIn_load_row_on (by rfl) 32 _ rfl Bx rfl 32 _ (0, 0) _ hbx Try.underlying32 rfl (by rw [z1]; kernel_rfl) ?_)
      refine ⟨fun h => (by cases h), (round_in HRd.out).mono ?_⟩
      rintro e V3 (⟨rfl, hJ3, hk3, hkf3⟩ | ⟨rfl, hJx3, hkf3⟩)
      · gi_wp2
        have e2 := hk3.2.1.trans hy2
        have e3 := hk3.2.2 _ _ hy3
        exact ⟨KeepsFrom.up hkf3 (by omega), hk3.1, by rw [HS.out]; exact hJ3, hBn.trans hk3.1, e3, e2, by rw [List.length_append, List.length_singleton]; omega, by rw [HS.out, List.length_append, List.length_append, List.length_singleton, HC1.out]⟩
      · gi_wp2
        exact ⟨KeepsFrom.up hkf3 (by omega), rfl, by rw [HS.out]; exact hJx3⟩
    · have zf : (x.2.x.a == a) = false := by simp [ha]
      have hS := Lg.sel_no (pre := pre) ha
      have hc1 : (Lg.ofL (Lg.xs vs) a (pre.length + 1)).length = (Lg.sel a pre).length := by rw [Lg.ofL, if_neg (by rw [ex]; exact ha), ← hcnt]
      have HX1 := Lib.hid hx1
      have HS := Lib.hid hS
      have HC1 := Lib.hid hc1
      have HJV := Lib.hid hJv
      have HCN := Lib.hid hcnt
      clear hx1 hx2 hS hc1 ex hJv hcnt
      gi_wp2
      refine ⟨fun _ h => (by cases h), ?_⟩
      gi_wp2
      exact ⟨KeepsFrom.refl _ V, Below.refl _ _, by rw [HS.out]; exact HJV.out, hBn, hy3, hy2, by rw [List.length_append, List.length_singleton]; omega, by rw [HS.out, List.length_append, List.length_singleton, HC1.out]⟩
  case done =>
    rintro D ys V hD hys ⟨hJv, hBn, hy3, hy2, hlen, hcnt⟩ hK
    gi_wp2
    refine ⟨by simp, .inl ⟨_, _, rfl, run_takeDeferred hK, ?_⟩⟩
    refine ⟨_, results_none rfl _ _ _, ⟨_, rfl⟩, .inl ⟨Lg.sel a ys, by rw [hcnt, hys], ?_⟩⟩
    exact OwnFrom.putObj hJ _ hJv (by omega) hK rfl
  case stop =>
    rintro D c pre V hD _ ⟨rfl, hJv⟩ hK
    gi_wp2
    refine ⟨by simp, .inl ⟨_, _, rfl, run_takeDeferred hK, ?_⟩⟩
    refine ⟨_, results_none rfl _ _ _, ⟨_, rfl⟩, .inr ⟨Lg.sel a pre, trivial, ?_⟩⟩
    exact OwnFrom.putObj hJx _ hJv (by omega) hK rfl
theorem check_nil (a : Int) (w : World) : Calls Try.prog 59 #[.pointer none, .int .i64 a] w fun e w' => e = .returned (.int .i64 1) ∧ w = w' := by
  go_enter Try.func59, Try.ntmps59
  go_wp2_with fail
  go_ret
  exact ⟨rfl, rfl⟩
theorem check_any (p : Addr) (a : Int) (w : World) : Calls Try.prog 59 #[.pointer (some p), .int .i64 a] w fun e w' => e = .returned (.int .i64 (Lg.ofE a)) ∧ w = w' := by
  by_cases h : 0 ≤ a ∧ a ≤ 64
  · have e1 : Lg.ofE a = 0 := by rw [Lg.ofE, if_pos h]
    have D := Lib.hid (lwithin_is a 0 64 true w (by simp [Frm.inB]; omega))
    rw [e1]
    go_enter Try.func59, Try.ntmps59
    go_wp2_with fail
    refine D.out.mono ?_
    rintro _ _ ⟨rfl, rfl⟩
    go_wp2_with fail
    go_ret
    exact ⟨rfl, rfl⟩
  · have e1 : Lg.ofE a = 2 := by rw [Lg.ofE, if_neg h]
    have D := Lib.hid (lwithin_is a 0 64 false w (by simp [Frm.inB]; omega))
    rw [e1]
    go_enter Try.func59, Try.ntmps59
    go_wp2_with fail
    refine D.out.mono ?_
    rintro _ _ ⟨rfl, rfl⟩
    go_wp2_with fail
    go_ret
    exact ⟨rfl, rfl⟩
theorem of_nil (a : Int) (w : World) : Calls Try.prog 37 #[.pointer none, .int .i64 a] w fun e w' => e = .returned (.tuple #[.nilFunc, .int .i64 1]) ∧ Below w.heap.size w w' := by
  have D := Lib.hid (fun (W : World) => check_nil a W)
  go_enter Try.func37, Try.ntmps37
  go_wp2_with fail
  refine (D.out _).mono ?_
  rintro _ _ ⟨rfl, rfl⟩
  go_wp2_with fail
  exact bodyPost_ret (results_tmp2 rfl _ _ _) rfl ⟨rfl, (by repeat (first | (with_reducible exact Below.refl _ _) | (with_reducible refine Below.drew ?_) | (with_reducible refine below_drewN ?_ _) | ((with_reducible refine Below.alloc ?_ ?_ _); rotate_left; (first | omega | (simp <;> omega)); rotate_right) | ((with_reducible refine Below.setCell ?_ ?_ _); rotate_left; (first | omega | (simp <;> omega)); rotate_right) | (with_reducible assumption) | (refine Below.trans ?_ (Below.mono (by assumption) ?_); rotate_left; (first | omega | (simp <;> omega)); rotate_right)))⟩
theorem of_no (p : Addr) (a : Int) (h : Lg.ofE a = 2) (w : World) : Calls Try.prog 37 #[.pointer (some p), .int .i64 a] w fun e w' => e = .returned (.tuple #[.nilFunc, .int .i64 2]) ∧ Below w.heap.size w w' := by
  have D := Lib.hid (fun (W : World) => h ▸ check_any p a W)
  go_enter Try.func37, Try.ntmps37
  go_wp2_with fail
  refine (D.out _).mono ?_
  rintro _ _ ⟨rfl, rfl⟩
  go_wp2_with fail
  exact bodyPost_ret (results_tmp2 rfl _ _ _) rfl ⟨rfl, (by repeat (first | (with_reducible exact Below.refl _ _) | (with_reducible refine Below.drew ?_) | (with_reducible refine below_drewN ?_ _) | ((with_reducible refine Below.alloc ?_ ?_ _); rotate_left; (first | omega | (simp <;> omega)); rotate_right) | ((with_reducible refine Below.setCell ?_ ?_ _); rotate_left; (first | omega | (simp <;> omega)); rotate_right) | (with_reducible assumption) | (refine Below.trans ?_ (Below.mono (by assumption) ?_); rotate_left; (first | omega | (simp <;> omega)); rotate_right)))⟩
theorem of_any {w : World} {base p c : Nat} {X : Nat → Prop} {A : Option Addr} {vs : List Lg.RV} (h : Lg.IsLg w base p A c vs X) (hn : vs.length ≤ 1000000) (a : Int) (ha : Lg.ofE a = 0) :
    Calls Try.prog 37 #[.pointer (some ⟨p, 0, none⟩), .int .i64 a] w fun e w' => ∃ B q1 q2, e = .returned (.tuple #[.func (.func 66) #[] #[.pointer (some ⟨q1, 0, none⟩), .pointer (some ⟨q2, 0, none⟩)], .int .i64 0])
      ∧ w'.heap[B]? = some (.cells #[.slice A vs.length vs.length] 40 (0, 0)) ∧ w'.heap[q1]? = some (.cells #[.func (.func 53) #[] #[.pointer (some ⟨B, 0, none⟩)]] 73 (0, 0)) ∧ w'.heap[q2]? = some (.cells #[.int .i64 a] 3 (0, 0))
      ∧ w.heap.size ≤ B ∧ w.heap.size ≤ q1 ∧ w.heap.size ≤ q2 ∧ Below w.heap.size w w' := by
  have D := Lib.hid (fun (W : World) => ha ▸ check_any ⟨p, 0, none⟩ a W)
  have AL := Lib.hid (fun (W : World) (hW : Below w.heap.size w W) => all_any (h.below hW) hn)
  clear h
  go_enter Try.func37, Try.ntmps37
  go_wp2_with fail
  refine (D.out _).mono ?_
  rintro _ _ ⟨rfl, rfl⟩
  go_wp2_with fail
  have y2 := heap_new w (.cells #[.int .i64 a] 3 (0, 0))
  refine (AL.out _ (by repeat (first | (with_reducible exact Below.refl _ _) | (with_reducible refine Below.drew ?_) | (with_reducible refine below_drewN ?_ _) | ((with_reducible refine Below.alloc ?_ ?_ _); rotate_left; (first | omega | (simp <;> omega)); rotate_right) | ((with_reducible refine Below.setCell ?_ ?_ _); rotate_left; (first | omega | (simp <;> omega)); rotate_right) | (with_reducible assumption) | (refine Below.trans ?_ (Below.mono (by assumption) ?_); rotate_left; (first | omega | (simp <;> omega)); rotate_right)))).mono ?_
  rintro _ w1 ⟨B, rfl, hB, hb, hb1⟩
  have hnb := heap_new w1 (.cells #[.nilFunc] 73 (0, 0))
  have hfz := blk_free hnb 0
  go_wp2_with fail
  have z1 := hb1.size
  have y2' := blk_below y2 hb1 (by simp)
  simp at hB z1
  refine bodyPost_ret (results_tmp2 rfl _ _ _) rfl ⟨B, w1.heap.size, w.heap.size, rfl, blk_alloc hb _, heap_new _ _, blk_alloc y2' _, by omega, by omega, Nat.le_refl _, ?_⟩
  exact (((Below.refl w.heap.size w).alloc (Nat.le_refl _) _).trans (hb1.mono (by simp))).alloc (by omega) _
end Go.Proofs.Ytgmejplcdecmkaa

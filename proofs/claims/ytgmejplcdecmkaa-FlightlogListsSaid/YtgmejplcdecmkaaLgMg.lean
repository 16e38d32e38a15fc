/- Log.Replay. -/
import Derived.Test.YtgmejplcdecmkaaLgMf
import Derived.Test.YtgmejplcdecmkaaLgMb
namespace Go.Proofs.Ytgmejplcdecmkaa
open Go.RowKit Go.Shelf
attribute [local go_sem] Oper.semAt_some
set_option maxHeartbeats 8000000
set_option maxRecDepth 100000
set_option linter.unusedSimpArgs false
set_option linter.unusedVariables false
namespace Lg
/-- the states among those that have come -/
def sts (pre : List NR) : List RV := (pre.map (·.2)).filter (fun v => decide (v.x.k = 2))
theorem sts_yes {pre : List NR} {x : NR} (h : x.2.x.k = 2) : sts (pre ++ [x]) = sts pre ++ [x.2] := by simp [sts, h]
theorem sts_no {pre : List NR} {x : NR} (h : x.2.x.k ≠ 2) : sts (pre ++ [x]) = sts pre := by simp [sts, h]
theorem sts_len (pre : List NR) : (sts pre).length ≤ pre.length := by
  unfold sts
  refine Nat.le_trans (List.length_filter_le _ _) ?_
  rw [List.length_map]
  exact Nat.le_refl _
/-- what has come is what was to come -/
def Pm (vs : List RV) (a : Int) (n : Nat) (pre : List NR) : Prop := pre.map (·.2.x) = ((ofL (xs vs) a n).take pre.length).map (fun i => (xs vs).getD i r0)
theorem Pm.nil (vs : List RV) (a : Int) (n : Nat) : Pm vs a n [] := rfl
theorem Pm.step {vs : List RV} {a : Int} {n : Nat} {pre : List NR} {x : NR} (h : Pm vs a n pre) (hn : n = vs.length) (h1 : (ofL (xs vs) a n)[pre.length]? = some x.1) (h2 : x.1 < n) (h3 : x.2.x = (vs.getD x.1 rv0).x) : Pm vs a n (pre ++ [x]) := by
  unfold Pm at h ⊢
  rw [List.length_append, List.length_singleton, List.take_add_one, h1, List.map_append, List.map_append, h]
  simp only [List.map_cons, List.map_nil, Option.toList]
  rw [xs_at (by omega), ← h3]
theorem stL_of (l : List Rc) (a : Int) : ∀ n, stL l a n = ((ofL l a n).map (fun i => l.getD i r0)).filter (fun r => decide (r.k = 2))
  | 0 => rfl
  | n + 1 => by
    rw [stL, ofL, stL_of l a n]
    unfold isSt
    by_cases ha : (l.getD n r0).a = a
    · rw [if_pos ha, List.map_append, List.filter_append]
      by_cases hk : (l.getD n r0).k = 2
      · rw [if_pos (decide_eq_true ⟨hk, ha⟩)]
        simp only [List.map_cons, List.map_nil, List.filter_cons, hk, decide_true, if_true, List.filter_nil]
      · rw [if_neg (fun h => hk (of_decide_eq_true h).1)]
        simp only [List.map_cons, List.map_nil, List.filter_cons, hk, decide_false, List.filter_nil]
        simp
    · rw [if_neg ha, if_neg (fun h => ha (of_decide_eq_true h).2)]
theorem sts_stL {vs : List RV} {a : Int} {n : Nat} {ys : List NR} (h : Pm vs a n ys) (hl : ys.length = (ofL (xs vs) a n).length) : xs (sts ys) = stL (xs vs) a n := by
  unfold Pm at h
  rw [hl, List.take_length] at h
  rw [stL_of, ← h]
  unfold xs sts
  rw [List.filter_map, List.filter_map, List.map_map]
  rfl
theorem cpn_mem (us : List RV) : ∀ n, n ≤ us.length → ∀ y ∈ cpn us n, y ∈ us
  | 0, _, y, hy => by simp [cpn] at hy
  | 1, h, y, hy => by
    simp only [cpn, List.mem_singleton] at hy
    rw [hy, List.getD, List.getElem?_eq_getElem (by omega)]
    exact List.getElem_mem _
  | j + 2, h, y, hy => by
    rw [cpn] at hy
    split at hy
    · exact cpn_mem us (j + 1) (by omega) y hy
    · rcases List.mem_append.1 hy with hy | hy
      · exact cpn_mem us (j + 1) (by omega) y hy
      · rw [List.mem_singleton.1 hy, List.getD, List.getElem?_eq_getElem (by omega)]
        exact List.getElem_mem _
theorem ofL_le (l : List Rc) (a : Int) : ∀ n, (ofL l a n).length ≤ n
  | 0 => by simp [ofL]
  | n + 1 => by
    have := ofL_le l a n
    rw [ofL]
    split
    · rw [List.length_append, List.length_singleton]; omega
    · omega
theorem KpQ.put2 {n0 q l : Nat} {V : World} {o o' : Obj} (hn : n0 ≤ l) (hq : q < l) (h : V.heap[l]? = some o) (hc : o.isCells = false) : KpQ n0 q V (V.putObj l o') := by
  refine ⟨(Below.refl n0 V).grown (grownBy_putObj' V l o') (by have := (Array.getElem?_eq_some_iff.1 h).1; omega) (fun k e => by cases e; omega), World.putObj_heap_other (by omega), fun i cs e => (World.putObj_heap_other (fun e' => ?_)).trans e⟩
  subst e'
  rw [e] at h
  cases h
  cases hc
/-- a record without bytes -/
def Lone (y : RV) : Prop := y.x.f.d = [] ∧ y.cap ≤ maxLen ∧ (y.A = none → y.cap = 0)
theorem fine_2d {r : Rc} (h : fine r = true) (hk : r.k = 2) : r.f.d = [] := by
  have h1 := fine_fk h
  rw [fineK2 hk] at h1
  simp only [Bool.and_eq_true] at h1
  have h2 := h1.2
  unfold zF at h2
  exact (of_decide_eq_true h2).2.2.2.2
theorem Lone.ok {y : RV} (h : Lone y) (w : World) (B : Nat) : Ok w B y := by
  obtain ⟨h1, h2, h3⟩ := h
  refine ⟨⟨rfl, ?_, fun hn => ?_⟩, ?_, h2, fun e => ⟨?_, h3 e⟩⟩
  · rw [h1]; intro x hx; cases hx
  · rw [h1] at hn; simp at hn
  · rw [h1]; simp
  · rw [h1]; rfl
end Lg
/-- append in a round -/
theorem wpListIn_append_row2 {P : Program} {F : Fence} {nn : Nat} {ops : Array Oper} {rest : List Oper} {w : World} {o : Oper} {a : Act} {Q : Exit → Act → World → Prop} (hgd : o.guard = none) (s x : Operand) (t : TypeId)
    (ho : o.op = .call { callee := .builtin .append, args := #[s, x], argTypes := #[t, t] })
    (base : Nat) (e : TypeId) (i : TypeInfo) (z : Value) (size bytes : Nat) (ht : P.underlying t = some (.slice e)) (hi : P.info? e = some i) (hz : i.zero = some z)
    (hsize : i.size = size) (hby : i.bytes = bytes) (hzs : z.cells.size = size) (A : Option Addr) (n c : Nat) (xs : List Value) (hs : a.eval s = .slice A n c) (hown : Row w base e size A n c xs)
    (ad : Addr) (m d : Nat) (news : List Value) (hx : a.eval x = .slice (some ad) m d) (hl : news.length = m * size) (hnews : ∀ j u, news[j]? = some u → w.cell? (ad.add j) = some u) (h1 : ∀ u ∈ news, u.oneCell' = true) (hm : 0 < m)
    (h63 : n + m ≤ maxLen) (hbytes : (n + m) * bytes ≤ 140737488355328) (hbase : base ≤ w.heap.size)
    (h : ∀ A' c' w', Row w' base e size A' (n + m) c' (xs ++ news) → w.grownBy w' (blkOf A) → (A' = A ∨ blkOf A' = some w.heap.size) → Rds w' w'.heap.size size A n xs → wpListIn F nn P ops Q rest (a.put o.dst (.slice A' (n + m) c')) w') :
    wpListIn F nn P ops Q (o :: rest) a w := by
  obtain ⟨A', c', w', hrun, h2, h3, h4, h5⟩ := run_append_row2 (P := P) base t o.type e i z size bytes ht hi hz hsize hby hzs A n c xs hown ad m d news hl hnews h1 hm h63 hbytes hbase
  refine wpListIn_exec (v := .slice A' (n + m) c') (w' := w') hgd (by simp [Oper.about, ho, resolve, go_sem, Target.leads]) (by rw [ho]; intro c hc; cases hc) ?_ (h A' c' w' h2 h3 h4 h5)
  unfold execOp
  simp only [ho, resolve, invoke, builtin, Sem.run_bind, Sem.run_pure, Result.andThen_ok, List.map_toArray, List.map_cons, List.map_nil, hs, hx, hrun]
theorem kf_grown {B : Nat} {W W' : World} {row : Option Nat} (hg : W.grownBy W' row) (hr : ∀ r, row = some r → ∃ e, Ty W r e) : KeepsFrom B W W' :=
  ⟨hg.size, fun k o _ hk ho => (hg.block k (Array.getElem?_eq_some_iff.1 hk).1 (fun e => by
    obtain ⟨_, cs, hc⟩ := hr k e.symm
    rw [hk] at hc
    cases hc
    cases ho)).trans hk⟩
theorem fill_cell (W : World) (C : List Value) (h : C.length = 13) (j : Nat) (u : Value) (hu : C[j]? = some u) : (W.alloc (.cells (List.foldl (fun (cs : Array Value) (x : Value × Nat) => cs.setIfInBounds x.snd x.fst) (#[.int .i64 0, .int .i64 0, .int .i64 0, .int .i64 0, .int .i64 0, .int .i64 0, .int .i64 0, .int .i64 0, .int .i64 0, .int .i64 0, .int .i64 0, .slice none 0 0, .int .u32 0] : Array Value) C.zipIdx) 32)).cell? ((⟨W.heap.size, 0, none⟩ : Addr).add j) = some u := by
  have e : (⟨W.heap.size, 0, none⟩ : Addr).add j = ⟨W.heap.size, j, none⟩ := by rw [addr_add, Nat.zero_add]
  rw [e, fill13 C h]
  exact blk_cell (heap_new _ _) j hu
theorem row_own {W W' : World} {base size n c : Nat} {e : TypeId} {A : Option Addr} {xs : List Value} {row : Option Nat} (h : Row W base e size A n c xs) (hg : W.grownBy W' row) (hr : ∀ r, row = some r → ∃ o, W.heap[r]? = some o ∧ o.isCells = false) : Row W' base e size A n c xs :=
  h.kept (Keeps.of_grown (S := fun i => row = some i) hg (fun g e => e)) (fun g hg' e' => by
    obtain ⟨o, ho, hn⟩ := hr g e'
    obtain ⟨cs, hc⟩ := h.ty hg'
    rw [ho] at hc
    cases hc
    cases hn)
theorem compact_all {w : World} {base n c : Nat} {A : Option Addr} {us : List Lg.RV} (h : Row w base 32 13 A n c (Lg.cs us)) (hl : us.length = n) (hn2 : n ≤ 1000000) :
    Calls Try.prog 63 #[.slice A n c, .func (.func 64) #[] #[]] w (Lg.CmpPost w base A n c us) := by
  rcases Nat.lt_or_ge n 2 with h1 | h1
  · exact compact_few h hl h1
  · exact compact_any h hl h1 hn2
theorem replay_nil (a : Int) (w : World) : Calls Try.prog 33 #[.pointer none, .int .i64 a] w fun e w' => e = .returned (.tuple #[.slice none 0 0, .int .i64 1]) ∧ Below w.heap.size w w' := by
  have D := Lib.hid (fun (W : World) => of_nil a W)
  go_enter Try.func33, Try.ntmps33
  go_wp2_with fail
  refine (D.out _).mono ?_
  rintro _ w1 ⟨rfl, hb1⟩
  go_wp2_with fail
  exact bodyPost_ret (results_tmp2 rfl _ _ _) rfl ⟨rfl, hb1⟩
theorem replay_no (p : Addr) (a : Int) (h : Lg.ofE a = 2) (w : World) : Calls Try.prog 33 #[.pointer (some p), .int .i64 a] w fun e w' => e = .returned (.tuple #[.slice none 0 0, .int .i64 2]) ∧ Below w.heap.size w w' := by
  have D := Lib.hid (fun (W : World) => of_no p a h W)
  go_enter Try.func33, Try.ntmps33
  go_wp2_with fail
  refine (D.out _).mono ?_
  rintro _ w1 ⟨rfl, hb1⟩
  go_wp2_with fail
  exact bodyPost_ret (results_tmp2 rfl _ _ _) rfl ⟨rfl, hb1⟩
/-- behind Replay -/
def ReplPost (a : Int) (vs : List Lg.RV) (w : World) (e : Ending) (w' : World) : Prop :=
  ∃ A' c' us, e = .returned (.tuple #[.slice A' us.length c', .int .i64 0]) ∧ Row w' w.heap.size 32 13 A' us.length c' (Lg.cs us) ∧ (∀ y ∈ us, Lg.Lone y) ∧ Lg.xs us = Lg.cmp (Lg.stL (Lg.xs vs) a vs.length) ∧ Below w.heap.size w w'
theorem replay_yes {w : World} {base p c : Nat} {X : Nat → Prop} {A : Option Addr} {vs : List Lg.RV} (h : Lg.IsLg w base p A c vs X) (hn : vs.length ≤ 1000000) (hf : ∀ y ∈ vs, Lg.fine y.x = true) (hd : ∀ y ∈ vs, y.x.f.d.length ≤ 1000) (a : Int) (ha : Lg.ofE a = 0) :
    Calls Try.prog 33 #[.pointer (some ⟨p, 0, none⟩), .int .i64 a] w fun e w' => ReplPost a vs w e w' := by
  obtain ⟨j0, hj0, hya, hyb, hyc⟩ := info_parts info_rec
  have OF := Lib.hid (fun (W : World) (hW : Below w.heap.size w W) => of_any (h.below hW) hn a ha)
  have HR := Lib.hid (fun (W : World) (hW : Below w.heap.size w W) => h.rr.below hW (Nat.le_refl _))
  have HF := Lib.hid hf
  clear h ha hf
  refine (callsIn_wide (n := 5)).1 (callsIn_of_wp_marks Try.func33 rfl trivial ?_ rfl)
  simp only [Try.ntmps33, List.size_toArray, List.length_cons, List.length_nil, Nat.reduceAdd, Nat.reduceSub, Array.replicate_succ, Array.replicate_zero, List.push_toArray, List.append_toArray, List.nil_append, List.cons_append]
  gi_wp2
  refine ⟨trivial, callsIn_wide.2 ((OF.out w (Below.refl _ _)).mono ?_)⟩
  rintro _ W0 ⟨B, q1, q2, rfl, yB, y1, y2, hB, hq1, hq2, B0⟩
  clear OF
  gi_wp2
  have z0 := B0.size
  obtain ⟨W1, hW1⟩ : ∃ W1 : World, W1 = W0.alloc (.cells #[.slice none 0 0] 40) := ⟨_, rfl⟩
  obtain ⟨Q, hQ⟩ : ∃ Q, Q = W0.heap.size := ⟨_, rfl⟩
  have yQ : W1.heap[Q]? = some (.cells #[.slice none 0 0] 40 (0, 0)) := by rw [hW1, hQ]; exact heap_new _ _
  have z1 : W1.heap.size = Q + 1 := by rw [hW1, hQ]; simp
  have hq2l : q2 < Q := by rw [hQ]; exact lt_of_block y2
  replace yB : W1.heap[B]? = some (.cells #[.slice A vs.length vs.length] 40 (0, 0)) := by rw [hW1]; exact blk_alloc yB _
  replace y1 : W1.heap[q1]? = some (.cells #[.func (.func 53) #[] #[.pointer (some ⟨B, 0, none⟩)]] 73 (0, 0)) := by rw [hW1]; exact blk_alloc y1 _
  replace y2 : W1.heap[q2]? = some (.cells #[.int .i64 a] 3 (0, 0)) := by rw [hW1]; exact blk_alloc y2 _
  have B1 : Below w.heap.size w W1 := by rw [hW1]; exact B0.alloc z0 _
  have hQw : w.heap.size ≤ Q := by rw [hQ]; exact z0
  rw [← hW1, ← hQ]
  clear hW1 hQ B0 z0
  have HRV := Lib.hid (HR.out W1 B1)
  have HL := Lib.hid (HR.out W1 B1).len
  have hseq := of1_seq 4 w.heap.size B q1 q2 a A vs.length vs.length vs W1 (by omega) hn (by omega) yB HRV.out hd y1 y2
  refine range_own (F := Fence.wide) rfl (by omega) (gf := 66) (lb := #[.pointer (some ⟨q1, 0, none⟩), .pointer (some ⟨q2, 0, none⟩)]) rfl trivial (enters_of Try.func66 (by kernel_rfl) rfl) hseq (fun h k => h.trans k)
    (fun V l' o o' hl h hc => Lg.KpQ.put2 (by omega) (by omega) h hc) (fun x => rfl)
    (fun pre V => Below w.heap.size W1 V ∧ V.heap[q2]? = some (.cells #[.int .i64 a] 3 (0, 0)) ∧ (∃ A' c', V.heap[Q]? = some (.cells #[.slice A' (Lg.sts pre).length c'] 40 (0, 0)) ∧ Row V w.heap.size 32 13 A' (Lg.sts pre).length c' (Lg.cs (Lg.sts pre))) ∧ (Lg.Pm vs a vs.length pre ∧ ∀ y ∈ Lg.sts pre, Lg.Lone y))
    (fun c pre V => False)
    (fun x a' V => ∃ Bx, W1.heap.size ≤ Bx ∧ V.heap[Bx]? = some (.cells x.2.cells.toArray 32 (0, 0)) ∧ a' = { tmps := #[.pointer (some ⟨p, 0, none⟩), .int .i64 a, undef, undef, .slice none 0 0, .int .i64 0, .func (.func 66) #[] #[.pointer (some ⟨q1, 0, none⟩), .pointer (some ⟨q2, 0, none⟩)], .int .i64 0, .pointer (some ⟨Q, 0, none⟩), undef, .pointer (some ⟨Bx, 0, none⟩),
        .tuple #[.func (.func 66) #[] #[.pointer (some ⟨q1, 0, none⟩), .pointer (some ⟨q2, 0, none⟩)], .int .i64 0], .pointer (some ⟨p, 0, none⟩), .int .i64 a, .tuple #[.func (.func 66) #[] #[.pointer (some ⟨q1, 0, none⟩), .pointer (some ⟨q2, 0, none⟩)], .int .i64 0], .func (.func 66) #[] #[.pointer (some ⟨q1, 0, none⟩), .pointer (some ⟨q2, 0, none⟩)], .int .i64 0, .int .i64 0, .bool false, undef, .func (.func 66) #[] #[.pointer (some ⟨q1, 0, none⟩), .pointer (some ⟨q2, 0, none⟩)], .int .i64 x.1, x.2.val, undef, undef, undef, undef, undef, undef, undef, undef, undef], defers := [] })
    ?hI ?hIx ?hPr ?hAx ?h0 ?assign ?body ?done ?stop
  case hI =>
    refine OwnFrom.and (ownFrom_below (by omega) (by omega)) (OwnFrom.and (blk_own _ _ _ _) (OwnFrom.and ?_ (ownFrom_pure _ _)))
    rintro s X Y row ⟨A', c', e1, e2⟩ hg hr
    exact ⟨A', c', blk_own (β := Unit) _ Q _ _ () X Y row e1 hg hr, row_own e2 hg (fun r e => (hr r e).2)⟩
  case hIx => exact fun c s X Y row hs _ _ => hs.elim
  case hPr => exact fun pre => Lg.PrO.own _ vs a vs.length pre
  case hAx =>
    rintro a' x X Y row ⟨Bx, e1, e2, e3⟩ hg hr
    exact ⟨Bx, e1, blk_own (β := Unit) _ Bx _ _ () X Y row e2 hg hr, e3⟩
  case h0 => exact ⟨Below.refl _ _, y2, ⟨none, 0, yQ, Row.nil _ _ _ _⟩, Lg.Pm.nil _ _ _, fun y hy => by cases hy⟩
  case assign =>
    rintro l' pre x V K ⟨hBn, hy2, ⟨A', c', eQ, eR⟩, hpm⟩ hpr hK
    have hzV := hBn.size
    have z1 : x.2.cells.toArray.size = 13 := rfl
    have HPM := Lib.hid hpm
    have HPR := Lib.hid hpr
    clear hpm hpr
    simp only [Lg.encNR]
    gi_wp2_with (refine wpListIn_store_row rfl 32 _ _ rfl V.heap.size x.2.cells.toArray rfl rfl 32 _ (heap_new V (.cells #[.int .i64 0, .int .i64 0, .int .i64 0, .int .i64 0, .int .i64 0, .int .i64 0, .int .i64 0, .int .i64 0, .int .i64 0, .int .i64 0, .int .i64 0, .slice none 0 0, .int .u32 0] 32 (0, 0))) (by rw [z1]; kernel_rfl) z1.symm (rv_ones x.2) ?_)
    have kx := setRow_heap (V.alloc (.cells #[.int .i64 0, .int .i64 0, .int .i64 0, .int .i64 0, .int .i64 0, .int .i64 0, .int .i64 0, .int .i64 0, .int .i64 0, .int .i64 0, .int .i64 0, .slice none 0 0, .int .u32 0] 32 (0, 0))) V.heap.size #[.int .i64 0, .int .i64 0, .int .i64 0, .int .i64 0, .int .i64 0, .int .i64 0, .int .i64 0, .int .i64 0, .int .i64 0, .int .i64 0, .int .i64 0, .slice none 0 0, .int .u32 0] x.2.cells.toArray 32 (0, 0) (heap_new V (.cells #[.int .i64 0, .int .i64 0, .int .i64 0, .int .i64 0, .int .i64 0, .int .i64 0, .int .i64 0, .int .i64 0, .int .i64 0, .int .i64 0, .int .i64 0, .slice none 0 0, .int .u32 0] 32 (0, 0)))
    have bx : Below V.heap.size V ((V.alloc (.cells #[.int .i64 0, .int .i64 0, .int .i64 0, .int .i64 0, .int .i64 0, .int .i64 0, .int .i64 0, .int .i64 0, .int .i64 0, .int .i64 0, .int .i64 0, .slice none 0 0, .int .u32 0] 32 (0, 0))).setRow V.heap.size x.2.cells.toArray) := below_setRow ((Below.refl V.heap.size V).alloc (Nat.le_refl _) _) (Nat.le_refl _) _
    obtain ⟨p1, p2, p3, p4, p5⟩ := HPR.out
    refine hK _ _ (keepsFrom_below bx) (Lg.KpQ.of_below bx (by omega) (by omega)) ⟨hBn.trans (bx.mono (by omega)), blk_below hy2 bx (lt_of_block hy2), ⟨A', c', blk_below eQ bx (lt_of_block eQ), eR.kept (Keeps.of_below (S := fun _ => False) bx) (fun _ _ h => h)⟩, HPM.out⟩ ⟨p1, p2, p3, p4, p5.up bx⟩ ⟨V.heap.size, hzV, kx, rfl⟩
  case body =>
    rintro l' pre x a' V ⟨hBn, hy2, ⟨A', c', eQ, eR⟩, hpm, hlone⟩ ⟨p1, p2, p3, p4, p5⟩ ⟨Bx, hBx, hbx, rfl⟩ hlt
    have hzV := hBn.size
    have hpl := Lg.ofL_le (Lg.xs vs) a vs.length
    have hsl := Lg.sts_len pre
    have d2 : V.cell? ⟨Bx, 2, none⟩ = some (.int .i64 x.2.x.k) := arr_cell hbx rfl
    have dQ : V.cell? ⟨Q, 0, none⟩ = some (.slice A' (Lg.sts pre).length c') := blk_cell (l := [_]) eQ 0 rfl
    have HPM := Lib.hid (hpm.step rfl p1 p2 p3)
    have P2 := Lib.hid p2
    have P3 := Lib.hid p3
    have P5 := Lib.hid p5
    clear hpm p1 p2 p3 p4 p5
    by_cases hk : x.2.x.k = 2
    · have zt : (x.2.x.k == 2) = true := by simp [hk]
      have HS := Lib.hid (Lg.sts_yes (pre := pre) hk)
      have hx2m : Lg.Lone x.2 := by
        have hm : vs.getD x.1 Lg.rv0 ∈ vs := by rw [List.getD, List.getElem?_eq_getElem P2.out]; exact List.getElem_mem _
        have hfi := HF.out _ hm
        rw [← P3.out] at hfi
        exact ⟨Lg.fine_2d hfi hk, P5.out.2.2.1, fun e => (P5.out.2.2.2 e).2⟩
      have HX := Lib.hid hx2m
      have HLN := Lib.hid hlone
      obtain ⟨C, hC⟩ : ∃ C : List Value, C = x.2.cells := ⟨_, rfl⟩
      have hC1 : C.length = 13 := by rw [hC]; rfl
      have hC2 : ∀ u ∈ C, u.oneCell' = true := by rw [hC]; exact rv_oneL _
      rw [← hC] at hbx
      have HC := Lib.hid hC
      generalize Lg.sts pre = sp at *
      have hnQ := (show Ty V Q 40 from ⟨_, eQ⟩)
      have hq2t := (show Ty V q2 3 from ⟨_, hy2⟩)
      have eA : ∀ g, blkOf A' = some g → g ≠ Q ∧ g ≠ q2 ∧ w.heap.size ≤ g ∧ Ty V g 32 := fun g hg => ⟨(eR.ty hg).ne hnQ (by decide), (eR.ty hg).ne hq2t (by decide), (eR.lt hg).1, eR.ty hg⟩
      have HA := Lib.hid eA
      have hRa := Lib.hid (eR.alloc (.cells (List.foldl (fun (cs : Array Value) (x : Value × Nat) => cs.setIfInBounds x.snd x.fst) (#[.int .i64 0, .int .i64 0, .int .i64 0, .int .i64 0, .int .i64 0, .int .i64 0, .int .i64 0, .int .i64 0, .int .i64 0, .int .i64 0, .int .i64 0, .slice none 0 0, .int .u32 0] : Array Value) C.zipIdx) 32))
      have HFC := Lib.hid (fill_cell V C hC1)
      have aQ := blk_alloc eQ (.cells (List.foldl (fun (cs : Array Value) (x : Value × Nat) => cs.setIfInBounds x.snd x.fst) (#[.int .i64 0, .int .i64 0, .int .i64 0, .int .i64 0, .int .i64 0, .int .i64 0, .int .i64 0, .int .i64 0, .int .i64 0, .int .i64 0, .int .i64 0, .slice none 0 0, .int .u32 0] : Array Value) C.zipIdx) 32)
      have a2 := blk_alloc hy2 (.cells (List.foldl (fun (cs : Array Value) (x : Value × Nat) => cs.setIfInBounds x.snd x.fst) (#[.int .i64 0, .int .i64 0, .int .i64 0, .int .i64 0, .int .i64 0, .int .i64 0, .int .i64 0, .int .i64 0, .int .i64 0, .int .i64 0, .int .i64 0, .slice none 0 0, .int .u32 0] : Array Value) C.zipIdx) 32)
      have hE0 : ∀ (i : Nat) (cs : Array Value), V.heap[i]? = some (Obj.cells cs 124 (0, 0)) → (∀ g, blkOf A' = some g → i ≠ g) ∧ i ≠ Q := by
        intro i cs e
        have ht : Ty V i 124 := ⟨_, e⟩
        exact ⟨fun g hg => ht.ne (eR.ty hg) (by decide), ht.ne hnQ (by decide)⟩
      have hE := Lib.hid hE0
      clear hE0
      clear hx2m hlone eA eR hC hnQ hq2t hk
      gi_wp2_with (first | (refine wpListIn_load_row rfl 32 (.tmp 10) rfl Bx rfl 32 C.toArray (0, 0) _ hbx Try.underlying32 rfl (by rw [show C.toArray.size = 13 from by simpa using hC1]; kernel_rfl) ?_) | (refine wpListIn_append_row2 rfl (.tmp 26) (.tmp 28) 40 rfl w.heap.size 32 j0 _ 13 120 Try.underlying40 hj0 hya hyb hyc rfl A' sp.length c' (Lg.cs sp) rfl hRa.out ⟨V.heap.size, 0, none⟩ 1 1 C rfl (by rw [hC1]) HFC.out hC2 (by omega) (by simp only [maxLen]; omega) (by omega) (by simp; omega) ?_; intro A2 c2 w5 hr5 hg5 hat5 _; have HR5 := Lib.hid hr5; have HG5 := Lib.hid hg5; have HT5 := Lib.hid hat5; clear hr5 hg5 hat5; have b5 := blk_only aQ HG5.out (fun e => (HA.out Q e.symm).1 rfl); have c5 := blk_cell (l := [_]) b5 0 rfl; have f5 := blk_free b5 0))
      have kA : KeepsFrom (Q + 1) V w5 := (keepsFrom_below ((Below.refl V.heap.size V).alloc (Nat.le_refl _) _)).trans (kf_grown HG5.out (fun r e => ⟨32, (HA.out r e).2.2.2.choose, blk_alloc (HA.out r e).2.2.2.choose_spec _⟩))
      have bA : Below w.heap.size V w5 := ((Below.refl w.heap.size V).alloc (by omega) _).grown HG5.out (by simp; omega) (fun g e => (HA.out g e).2.2.1)
      have bB : Below w.heap.size V (w5.setCell ⟨Q, 0, none⟩ (.slice A2 (sp.length + 1) c2)) := bA.setCell (p := ⟨Q, 0, none⟩) hQw _
      have q2B : (w5.setCell ⟨Q, 0, none⟩ (.slice A2 (sp.length + 1) c2)).heap[q2]? = some (.cells #[.int .i64 a] 3 (0, 0)) := blk_far (blk_only a2 HG5.out (fun e => (HA.out q2 e.symm).2.1 rfl)) (by show q2 ≠ Q; omega) _
      have hlen : (Lg.sts (pre ++ [x])).length = sp.length + 1 := by rw [HS.out, List.length_append, List.length_singleton]
      refine ⟨kA.trans (kf_setCell (by show Q < Q + 1; omega)), ⟨bB, q2B.trans hy2.symm, fun i cs e => ?_⟩, hBn.trans bB, q2B, ⟨A2, c2, ?_, ?_⟩, HPM.out, ?_⟩
      · exact blk_far (blk_only (blk_alloc e _) HG5.out (fun e' => (hE.out i cs e).1 i e'.symm rfl)) (hE.out i cs e).2 _
      · rw [hlen]; exact blk_set b5 0 _
      · rw [hlen, HS.out, Lg.cs_app, Lg.cs_one, ← HC.out]
        have hTQ : Ty w5 Q 40 := ⟨_, b5⟩
        exact HR5.out.kept ((Keeps.refl (fun i => i = Q) w5).setCell (p := ⟨Q, 0, none⟩) (.inl rfl) _) (fun g hg e => (HR5.out.ty hg).ne hTQ (by decide) e)
      · rw [HS.out]
        intro y hy
        rcases List.mem_append.1 hy with hy | hy
        · exact HLN.out y hy
        · rw [List.mem_singleton.1 hy]; exact HX.out
    · have zf : (x.2.x.k == 2) = false := by simp [hk]
      have HS := Lib.hid (Lg.sts_no (pre := pre) hk)
      gi_wp2
      exact ⟨KeepsFrom.refl _ V, ⟨Below.refl _ _, rfl, fun _ _ e => e⟩, hBn, hy2, ⟨A', c', by rw [HS.out]; exact eQ, by rw [HS.out]; exact eR⟩, HPM.out, by rw [HS.out]; exact hlone⟩
  case done =>
    rintro D ys V hD hys ⟨hBn, hy2, ⟨A', c', eQ, eR⟩, hpm, hlone⟩ hK
    have HX := Lib.hid (Lg.sts_stL hpm hys)
    have hslen : (Lg.sts ys).length ≤ 1000000 := by
      have h1 := Lg.sts_len ys
      have h2 := Lg.ofL_le (Lg.xs vs) a vs.length
      omega
    have dQ : V.cell? ⟨Q, 0, none⟩ = some (.slice A' (Lg.sts ys).length c') := blk_cell (l := [_]) eQ 0 rfl
    have HLN := Lib.hid hlone
    have HK := Lib.hid hK
    have CO := Lib.hid (compact_all eR rfl hslen)
    have HRow := Lib.hid eR
    clear hpm hlone hys hK eQ
    generalize Lg.sts ys = us at *
    clear eR
    gi_wp2
    refine ⟨trivial, callsIn_wide.2 (CO.out.mono ?_)⟩
    rintro _ W5 ⟨rfl, hr5, hk5⟩
    have HR5 := Lib.hid hr5
    have HK5 := Lib.hid hk5
    clear hr5 hk5
    gi_wp2
    have hD5 : W5.heap[D]? = some (.deferred (some [])) := (HK5.out.block D (Array.getElem?_eq_some_iff.1 HK.out).1 (fun e => by
      obtain ⟨cs, hc⟩ := HRow.out.ty e
      rw [HK.out] at hc
      cases hc)).trans HK.out
    refine ⟨by simp, .inl ⟨_, _, rfl, run_takeDeferred hD5, ?_⟩⟩
    have hB5 : Below w.heap.size w W5 := B1.trans (hBn.trans (HK5.out.below (fun i _ e => (HRow.out.lt e).1) (by have := hBn.size; omega)))
    have hgp := grownBy_putObj' W5 D (.deferred none)
    refine ⟨_, results_tmp2 rfl _ _ _, A', c', Lg.cpn us us.length, rfl, row_own HR5.out hgp (fun r e => by cases e; exact ⟨_, hD5, rfl⟩), fun y hy => HLN.out y (Lg.cpn_mem us _ (Nat.le_refl _) y hy), by rw [Lg.cpn_cmp, HX.out], ?_⟩
    exact hB5.grown hgp (by have := (Array.getElem?_eq_some_iff.1 hD5).1; omega) (fun k e => by cases e; omega)
  case stop =>
    rintro D c' pre V hD _ hf hK
    exact hf.elim
end Go.Proofs.Ytgmejplcdecmkaa
/- The examples' logs: plain. -/
namespace Go.Proofs.Ytgmejplcdecmkaa
open Go.RowKit
set_option maxHeartbeats 4000000
set_option maxRecDepth 100000
set_option linter.unusedSimpArgs false
set_option linter.unusedVariables false
namespace Lg.Kn
def k1 : List Rc := add [] (posR 100 1 10 20 30)
def k2 : List Rc := add k1 (stR 200 1 4)
def k3 : List Rc := add k2 (stR 300 1 4)
def k4 : List Rc := add k3 (stR 400 1 5)
def k5 : List Rc := add k4 (stR 500 0 9)
theorem e1 : addE [] (posR 100 1 10 20 30) = 0 := by kernel_rfl
theorem e2 : addE k1 (stR 200 1 4) = 0 := by kernel_rfl
theorem e2' : addE k2 (stR 150 1 5) = 8 := by kernel_rfl
theorem e3 : addE k2 (stR 300 1 4) = 0 := by kernel_rfl
theorem e4 : addE k3 (stR 400 1 5) = 0 := by kernel_rfl
theorem e5a : addE k4 (posR 500 0 0 0 0) = 2 := by kernel_rfl
theorem e5 : addE k4 (stR 500 0 9) = 0 := by kernel_rfl
theorem e6 : addE k5 (stR 500 1 8) = 2 := by kernel_rfl
theorem add_no {l : List Rc} {r : Rc} (h : addE l r ≠ 0) : add l r = l := by unfold add; rw [if_neg h]
theorem len4 : k4.length = 4 := by kernel_rfl
theorem len5 : k5.length = 5 := by kernel_rfl
theorem good5 : Good k5 := good_add (good_add (good_add (good_add (good_add Good.nil _) _) _) _) _
theorem good4 : Good k4 := good_add (good_add (good_add (good_add Good.nil _) _) _) _
theorem rep : (cmp (stL k4 1 4)).map (·.t) = [200, 400] := by kernel_rfl
theorem la1 : lastAt k4 1 99 4 = none := by kernel_rfl
theorem la2 : lastAt k4 1 100 4 = some 0 := by kernel_rfl
theorem la3 : lastAt k4 1 5000 4 = some 0 := by kernel_rfl
theorem at0 : (k4.getD 0 r0).x = 10 ∧ (k4.getD 0 r0).y = 20 ∧ (k4.getD 0 r0).z = 30 ∧ (k4.getD 0 r0).t = 100 := ⟨by kernel_rfl, by kernel_rfl, by kernel_rfl, by kernel_rfl⟩
theorem nod : k5.map (·.f.d) = [[], [], [], [], []] := by kernel_rfl
theorem n0 : (k5.getD 0 r0).f.d = [] := by kernel_rfl
theorem n1 : (k5.getD 1 r0).f.d = [] := by kernel_rfl
theorem n2 : (k5.getD 2 r0).f.d = [] := by kernel_rfl
theorem n3 : (k5.getD 3 r0).f.d = [] := by kernel_rfl
theorem n4 : (k5.getD 4 r0).f.d = [] := by kernel_rfl
theorem nod_at {i : Nat} (h : i < 5) : (k5.getD i r0).f.d = [] := by
  have : i = 0 ∨ i = 1 ∨ i = 2 ∨ i = 3 ∨ i = 4 := by omega
  rcases this with rfl | rfl | rfl | rfl | rfl
  · exact n0
  · exact n1
  · exact n2
  · exact n3
  · exact n4
def bad : List Rc := k5.set 2 { k5.getD 2 r0 with t := 301 }
theorem lb : (ld [] bad).2 = (2, 400) := by kernel_rfl
theorem st0 : addE [] (stR 0 0 0) = 0 := by kernel_rfl
end Lg.Kn
end Go.Proofs.Ytgmejplcdecmkaa
/- The examples' calls of a log, each as it is asked; Keep of nothing. -/
namespace Go.Proofs.Ytgmejplcdecmkaa
open Go.RowKit
set_option maxHeartbeats 4000000
set_option maxRecDepth 100000
set_option linter.unusedSimpArgs false
set_option linter.unusedVariables false
attribute [local go_sem ↓] Go.wp_at_zero Go.wp_at_succ
/-- block p is a log that has the records K -/
def KS (w : World) (base p : Nat) (K : List Lg.Rc) : Prop := ∃ A c vs X, Lg.IsLg w base p A c vs X ∧ Lg.xs vs = K
/-- nothing but logs and records has changed -/
def Kt (base : Nat) (w w' : World) : Prop := Below base w w' ∧ (∀ (i : Nat) (cs : Array Value) (t : TypeId), t ≠ 108 → t ≠ 32 → w.heap[i]? = some (.cells cs t (0, 0)) → w'.heap[i]? = some (.cells cs t (0, 0))) ∧ ∀ (i : Nat) (o : Obj), o.isCells = false → w.heap[i]? = some o → w'.heap[i]? = some o
theorem Kt.of_below {base : Nat} {w w' : World} (h : Below w.heap.size w w') (hb : base ≤ w.heap.size) : Kt base w w' := ⟨h.mono hb, fun i cs t _ _ e => blk_below e h (lt_of_block e), fun i o _ e => blk_below e h (lt_of_block e)⟩
theorem KS.below {w w' : World} {base p : Nat} {K : List Lg.Rc} (h : KS w base p K) (k : Below w.heap.size w w') : KS w' base p K := by
  obtain ⟨A, c, vs, X, h1, h2⟩ := h
  exact ⟨A, c, vs, X, h1.below k, h2⟩
theorem ks_post {w w' : World} {base p c : Nat} {A : Option Addr} {vs : List Lg.RV} {X : Nat → Prop} {K : List Lg.Rc} {x : Lg.Rc} {z : Int} {e : Ending} (h : Lg.IsLg w base p A c vs X) (hx : Lg.xs vs = K) (hbase : base ≤ w.heap.size) (hz : Lg.addE K x = z) (hp : AddPost base p A vs X x w e w') :
    e = .returned (.int .i64 z) ∧ KS w' base p (Lg.add K x) ∧ Kt base w w' := by
  obtain ⟨A', c', vs', he, h2, h3, h4, _⟩ := hp
  refine ⟨by rw [he, hx, hz], ⟨A', c', vs', _, h2, by rw [h3, hx]⟩, h4.below (fun i _ hi => (h.two_lt hi).1) hbase, fun i cs t h1 h2 e => blk_keep e h4 (fun hi => ?_), fun i o ho e => blk_keep e h4 (fun hi => ?_)⟩
  · exact h.away (e := t) ⟨cs, e⟩ h1 h2 hi
  · rcases h.two hi with ⟨cs, h1⟩ | ⟨cs, h1⟩
    · rw [e] at h1; cases h1; cases ho
    · rw [e] at h1; cases h1; cases ho
theorem ks_pos {w : World} {base p : Nat} {K : List Lg.Rc} (h : KS w base p K) (hbase : base ≤ w.heap.size) (hn : K.length ≤ 1000000) (t a x y z r : Int) (hr : Lg.addE K (Lg.posR t a x y z) = r) :
    Calls Try.prog 21 #[.pointer (some ⟨p, 0, none⟩), .int .i64 t, .int .i64 a, .agg #[.int .i64 x, .int .i64 y, .int .i64 z]] w fun e w' => e = .returned (.int .i64 r) ∧ KS w' base p (Lg.add K (Lg.posR t a x y z)) ∧ Kt base w w' := by
  obtain ⟨A, c, vs, X, h1, h2⟩ := h
  refine (position_any h1 hbase (by rw [← h2, Lg.xs_len] at hn; exact hn) t a x y z).mono ?_
  intro e w' hp
  exact ks_post h1 h2 hbase hr hp
theorem ks_st {w : World} {base p : Nat} {K : List Lg.Rc} (h : KS w base p K) (hbase : base ≤ w.heap.size) (hn : K.length ≤ 1000000) (t a s r : Int) (hr : Lg.addE K (Lg.stR t a s) = r) :
    Calls Try.prog 22 #[.pointer (some ⟨p, 0, none⟩), .int .i64 t, .int .i64 a, .int .i64 s] w fun e w' => e = .returned (.int .i64 r) ∧ KS w' base p (Lg.add K (Lg.stR t a s)) ∧ Kt base w w' := by
  obtain ⟨A, c, vs, X, h1, h2⟩ := h
  refine (state_any h1 hbase (by rw [← h2, Lg.xs_len] at hn; exact hn) t a s).mono ?_
  intro e w' hp
  exact ks_post h1 h2 hbase hr hp
theorem ks_len {w : World} {base p n : Nat} {K : List Lg.Rc} (h : KS w base p K) (hn : K.length = n) :
    Calls Try.prog 23 #[.pointer (some ⟨p, 0, none⟩)] w fun e w' => e = .returned (.int .i64 n) ∧ w = w' := by
  obtain ⟨A, c, vs, X, h1, h2⟩ := h
  have := llen_any h1
  rw [show vs.length = n by rw [← hn, ← h2, Lg.xs_len]] at this
  exact this
theorem ks_rep {w : World} {base p : Nat} {K : List Lg.Rc} (h : KS w base p K) (hg : Lg.Good K) (a : Int) (ha : Lg.ofE a = 0) (L : List Int) (hL : (Lg.cmp (Lg.stL K a K.length)).map (·.t) = L) :
    Calls Try.prog 33 #[.pointer (some ⟨p, 0, none⟩), .int .i64 a] w fun e w' => ∃ A' c' us, e = .returned (.tuple #[.slice A' L.length c', .int .i64 0]) ∧ Row w' w.heap.size 32 13 A' L.length c' (Lg.cs us) ∧ (Lg.xs us).map (·.t) = L ∧ Below w.heap.size w w' := by
  obtain ⟨A, c, vs, X, h1, h2⟩ := h
  subst h2
  refine (replay_yes h1 (Lg.good_vs hg) (Lg.good_rv hg) (Lg.good_rd hg) a ha).mono ?_
  rintro e w' ⟨A', c', us, he, hr, _, hx, hb⟩
  rw [Lg.xs_len] at hL
  have hl : us.length = L.length := by rw [← hL, List.length_map, ← hx, Lg.xs_len]
  rw [hl] at he hr
  exact ⟨A', c', us, he, hr, by rw [hx]; exact hL, hb⟩
theorem ks_no {w : World} {base p n : Nat} {K : List Lg.Rc} (h : KS w base p K) (hn : K.length = n) (hn2 : n ≤ 1000000) (a t : Int) (ha : Lg.ofE a = 0) (ht : 0 ≤ t ∧ t ≤ 3600000) (hl : Lg.lastAt K a t n = none) :
    Calls Try.prog 31 #[.pointer (some ⟨p, 0, none⟩), .int .i64 a, .int .i64 t] w fun e w' => e = .returned (.tuple #[.agg #[.int .i64 0, .int .i64 0, .int .i64 0], .int .i64 0, .int .i64 9]) ∧ Below w.heap.size w w' := by
  obtain ⟨A, c, vs, X, h1, h2⟩ := h
  have e1 : vs.length = n := by rw [← hn, ← h2, Lg.xs_len]
  refine (last_any h1 (by omega) a t ha ht).mono ?_
  rintro e w' ⟨hp, hb⟩
  rcases hp with ⟨_, he⟩ | ⟨i, hi, he⟩
  · exact ⟨he, hb⟩
  · rw [h2, e1, hl] at hi; cases hi
theorem ks_last {w : World} {base p n i : Nat} {K : List Lg.Rc} (h : KS w base p K) (hn : K.length = n) (hn2 : n ≤ 1000000) (a t x y z u : Int) (ha : Lg.ofE a = 0) (ht : 0 ≤ t ∧ t ≤ 3600000) (hl : Lg.lastAt K a t n = some i) (hi : i < n) (hv : (K.getD i Lg.r0).x = x ∧ (K.getD i Lg.r0).y = y ∧ (K.getD i Lg.r0).z = z ∧ (K.getD i Lg.r0).t = u) :
    Calls Try.prog 31 #[.pointer (some ⟨p, 0, none⟩), .int .i64 a, .int .i64 t] w fun e w' => e = .returned (.tuple #[.agg #[.int .i64 x, .int .i64 y, .int .i64 z], .int .i64 u, .int .i64 0]) ∧ Below w.heap.size w w' := by
  obtain ⟨A, c, vs, X, h1, h2⟩ := h
  have e1 : vs.length = n := by rw [← hn, ← h2, Lg.xs_len]
  refine (last_any h1 (by omega) a t ha ht).mono ?_
  rintro e w' ⟨hp, hb⟩
  rcases hp with ⟨ho, _⟩ | ⟨j, hj, he⟩
  · rw [h2, e1, hl] at ho; cases ho
  · rw [h2, e1, hl] at hj
    cases hj
    have e2 : K.getD i Lg.r0 = (vs.getD i Lg.rv0).x := by rw [← h2]; exact Lg.xs_at (by omega)
    rw [e2] at hv
    rw [he]
    obtain ⟨h3, h4, h5, h6⟩ := hv
    exact ⟨by rw [h3, h4, h5, h6], hb⟩
theorem ks_at {w : World} {base p n : Nat} {K : List Lg.Rc} (h : KS w base p K) (hn : K.length = n) (hn2 : n ≤ 1000000) (i : Nat) (hi : i < n) (hd : (K.getD i Lg.r0).f.d.length ≤ 1000) :
    Calls Try.prog 35 #[.pointer (some ⟨p, 0, none⟩), .int .i64 i] w fun e w' => ∃ y : Lg.RV, e = .returned (.tuple #[y.val, .int .i64 0]) ∧ y.x = K.getD i Lg.r0 ∧ Lg.Ok w' w'.heap.size y ∧ Ow w' w.heap.size y.A y.x.f.d.length y.cap y.x.f.d ∧ Below w.heap.size w w' := by
  obtain ⟨A, c, vs, X, h1, h2⟩ := h
  have e1 : vs.length = n := by rw [← hn, ← h2, Lg.xs_len]
  have e2 : K.getD i Lg.r0 = (vs.getD i Lg.rv0).x := by rw [← h2]; exact Lg.xs_at (by omega)
  rw [e2] at hd ⊢
  refine (lat_yes h1 i (by omega) (by omega) hd).mono ?_
  rintro e w' ⟨A', c', he, ho, hb⟩
  exact ⟨⟨(vs.getD i Lg.rv0).x, A', c'⟩, he, rfl, Lg.Dt.ok (Lg.Dt.of_own (X := fun _ => True) ho (fun _ _ => trivial)), ho, hb⟩
theorem wpList_append_row2 {P : Program} {ops : Array Oper} {rest : List Oper} {w : World} {o : Oper} {a : Act} {Q : Exit → Act → World → Prop} (hgd : o.guard = none) (s x : Operand) (t : TypeId)
    (ho : o.op = .call { callee := .builtin .append, args := #[s, x], argTypes := #[t, t] })
    (base : Nat) (e : TypeId) (i : TypeInfo) (z : Value) (size bytes : Nat) (ht : P.underlying t = some (.slice e)) (hi : P.info? e = some i) (hz : i.zero = some z)
    (hsize : i.size = size) (hby : i.bytes = bytes) (hzs : z.cells.size = size) (A : Option Addr) (n c : Nat) (xs : List Value) (hs : a.eval s = .slice A n c) (hown : Row w base e size A n c xs)
    (ad : Addr) (m d : Nat) (news : List Value) (hx : a.eval x = .slice (some ad) m d) (hl : news.length = m * size) (hnews : ∀ j u, news[j]? = some u → w.cell? (ad.add j) = some u) (h1 : ∀ u ∈ news, u.oneCell' = true) (hm : 0 < m)
    (h63 : n + m ≤ maxLen) (hbytes : (n + m) * bytes ≤ 140737488355328) (hbase : base ≤ w.heap.size)
    (h : ∀ A' c' w', Row w' base e size A' (n + m) c' (xs ++ news) → w.grownBy w' (blkOf A) → (A' = A ∨ blkOf A' = some w.heap.size) → Rds w' w'.heap.size size A n xs → wpList P ops Q rest (a.put o.dst (.slice A' (n + m) c')) w') :
    wpList P ops Q (o :: rest) a w := by
  obtain ⟨A', c', w', hrun, h2, h3, h4, h5⟩ := run_append_row2 (P := P) base t o.type e i z size bytes ht hi hz hsize hby hzs A n c xs hown ad m d news hl hnews h1 hm h63 hbytes hbase
  refine wpList_plain hgd fun _ hK => ?_
  unfold Oper.wp execOp
  simp only [ho, resolve, invoke, builtin, Sem.run_bind, Sem.run_pure, Result.andThen_ok, List.map_toArray, List.map_cons, List.map_nil, hs, hx, hrun]
  exact hK _ _ (h A' c' w' h2 h3 h4 h5)
/-- one cell of a record is written -/
theorem Lg.Cu.setc {w : World} {g o c i j : Nat} {l : List Lg.RV} {v : Value} {y : Lg.RV} (h : Lg.Cu w g o c l) (hi : i < l.length) (hj : j < 13) (hy : y.cells = (l.getD i Lg.rv0).cells.set j v) : Lg.Cu (w.setCell ⟨g, o + i * 13 + j, none⟩ v) g o c (l.set i y) := by
  obtain ⟨C, hb, hl, hc, hx⟩ := h
  refine ⟨_, blk_set hb (o + i * 13 + j) v, by rw [List.length_set]; exact hl, by rw [Array.size_setIfInBounds]; exact hc, ?_⟩
  intro k hk q u hu
  rw [List.length_set] at hk
  have hq : q < 13 := by
    rcases Nat.lt_or_ge q 13 with h | h
    · exact h
    · rw [List.getElem?_eq_none (by rw [Lg.RV.len]; exact h)] at hu; cases hu
  rw [Array.getElem?_setIfInBounds]
  by_cases e : k = i
  · subst e
    rw [List.getD, List.getElem?_set_self hk, Option.getD_some, hy] at hu
    by_cases e2 : q = j
    · subst e2
      rw [if_pos rfl]
      rw [List.getElem?_set_self (by rw [Lg.RV.len]; exact hq)] at hu
      rw [if_pos (by omega)]
      exact hu
    · rw [if_neg (by omega)]
      rw [List.getElem?_set_ne (fun h => e2 h.symm)] at hu
      exact hx k hk q u hu
  · rw [if_neg (by omega)]
    rw [List.getD, List.getElem?_set_ne (fun h => e h.symm)] at hu
    exact hx k hk q u hu
theorem Lg.xs_set (l : List Lg.RV) (i : Nat) (y : Lg.RV) : Lg.xs (l.set i y) = (Lg.xs l).set i y.x := by simp [Lg.xs, List.map_set]
theorem fill_cell2 (W : World) (C : List Value) (h : C.length = 13) (j : Nat) (u : Value) (hu : C[j]? = some u) : (W.alloc (.cells (List.foldl (fun (cs : Array Value) (x : Value × Nat) => cs.setIfInBounds x.snd x.fst) (#[.int .i64 0, .int .i64 0, .int .i64 0, .int .i64 0, .int .i64 0, .int .i64 0, .int .i64 0, .int .i64 0, .int .i64 0, .int .i64 0, .int .i64 0, .slice none 0 0, .int .u32 0] : Array Value) C.zipIdx) 32)).cell? ((⟨W.heap.size, 0, none⟩ : Addr).add j) = some u := fill_cell W C h j u hu
theorem results_c1 {P : Program} {fn : Func} {p : Tmp} {t1 : TypeId} (h : fn.results = #[.cell p t1]) (tmps : Array Value) (w : World) (g1 : Nat) (v1 : Value) (d1 : TypeDesc)
    (h1 : tmps.getD p undef = .pointer (some ⟨g1, 0, none⟩)) (c1 : w.cell? ⟨g1, 0, none⟩ = some v1) (hu1 : P.underlying t1 = some d1) (hd1 : (match d1 with | .struct _ | .array _ _ => true | _ => false) = false) :
    (results fn tmps).run P w = .ok v1 w := by
  have h1' : tmps[p]?.getD undef = .pointer (some ⟨g1, 0, none⟩) := by simpa using h1
  simp [results, h, h1', asAddr, run_loadVar_one hu1 hd1 c1]
theorem keep_nil (w : World) : Calls Try.prog 24 #[.pointer none, .pointer none] w fun e w' => e = .returned (.int .i64 1) ∧ Below w.heap.size w w' := by
  go_enter Try.func24, Try.ntmps24
  go_wp2_with fail
  exact bodyPost_ret (results_c1 rfl _ _ w.heap.size (.int .i64 1) _ rfl (by simp [go_sem]) Try.underlying34 rfl) rfl ⟨rfl, (by repeat (first | (with_reducible exact Below.refl _ _) | (with_reducible refine Below.drew ?_) | (with_reducible refine below_drewN ?_ _) | ((with_reducible refine Below.alloc ?_ ?_ _); rotate_left; (first | omega | (simp <;> omega)); rotate_right) | ((with_reducible refine Below.setCell ?_ ?_ _); rotate_left; (first | omega | (simp <;> omega)); rotate_right) | (with_reducible assumption) | (refine Below.trans ?_ (Below.mono (by assumption) ?_); rotate_left; (first | omega | (simp <;> omega)); rotate_right)))⟩
end Go.Proofs.Ytgmejplcdecmkaa
/- The examples of the chapter on logs hold: known returns true. -/
namespace Go.Proofs.Ytgmejplcdecmkaa
open Go.RowKit Go.Shelf
set_option maxHeartbeats 8000000
set_option maxRecDepth 100000
set_option linter.unusedSimpArgs false
set_option linter.unusedVariables false
attribute [local go_sem ↓] Go.wp_at_zero Go.wp_at_succ
theorem fnil (n : Nat) (b : Array Value) (W : World) : (binOp .eql 73 (.func (.func n) #[] b) .nilFunc).run Try.prog W = .ok (.bool false) W := by kernel_rfl
theorem two_us {us : List Lg.RV} {a b : Int} (h : (Lg.xs us).map (·.t) = [a, b]) : (Lg.cs us)[0]? = some (.int .i64 a) ∧ (Lg.cs us)[13]? = some (.int .i64 b) := by
  match us with
  | [] => simp [Lg.xs] at h
  | [u] => simp [Lg.xs] at h
  | [u, v] =>
    simp [Lg.xs] at h
    rw [← h.1, ← h.2]
    exact ⟨rfl, rfl⟩
  | u :: v :: z :: l => simp [Lg.xs] at h
theorem known_true (w : World) : Calls Try.prog 11 #[] w fun e w' => e = .returned (.bool true) ∧ Below w.heap.size w w' := by
  refine (callsIn_wide (n := 5)).1 (callsIn_of_wp_marks Try.func11 rfl trivial ?_ rfl)
  simp only [Try.ntmps11, List.size_toArray, List.length_cons, List.length_nil, Nat.reduceAdd, Nat.reduceSub, Array.replicate_succ, Array.replicate_zero, List.push_toArray, List.append_toArray, List.nil_append, List.cons_append]
  refine wpIn_wide.2 ?_
  obtain ⟨r, hr⟩ : ∃ r, r = w.heap.size := ⟨_, rfl⟩
  have NW := Lib.hid (fun W => new_any W)
  go_upto_region 1 with fail
  generalize hW0 : World.alloc _ _ = W0
  have r0 : W0.heap[r]? = some (.cells #[.bool false] 4 (0, 0)) := by rw [← hW0, hr]; exact heap_new _ _
  have HB0 : Below w.heap.size w W0 := by rw [← hW0]; exact (Below.refl _ w).alloc (Nat.le_refl _) _
  rw [← hr]
  clear hW0
  go_wp2_with fail
  refine (NW.out W0).mono ?_
  rintro _ W1 ⟨p, rfl, hlg, hb1⟩
  obtain ⟨B, hB⟩ : ∃ B, B = W0.heap.size := ⟨_, rfl⟩
  rw [← hB] at hlg hb1
  have hks : KS W1 B p [] := ⟨_, _, _, _, hlg, rfl⟩
  have hrb : w.heap.size ≤ B := by rw [hB]; exact HB0.size
  have hbs : B ≤ W1.heap.size := by rw [hB]; exact hb1.size
  have r0 := blk_below r0 hb1 (by rw [hB]; exact lt_of_block r0)
  have HB1 : Below w.heap.size w W1 := HB0.trans (hb1.mono hrb)
  clear hlg hB HB0 hb1 NW
  go_upto_region 5 with fail
  generalize hW2 : World.alloc _ _ = W2
  obtain ⟨q, hq⟩ : ∃ q, q = W1.heap.size := ⟨_, rfl⟩
  have v0 : W2.heap[q]? = some (.cells #[.int .i64 10, .int .i64 20, .int .i64 30] 25 (0, 0)) := by rw [← hW2, hq]; exact heap_new _ _
  have r0 : W2.heap[r]? = some (.cells #[.bool false] 4 (0, 0)) := by rw [← hW2]; exact blk_alloc r0 _
  have b2 : Below W1.heap.size W1 W2 := by rw [← hW2]; exact (Below.refl _ W1).alloc (Nat.le_refl _) _
  have HK := Lib.hid (hks.below b2)
  have HB := Lib.hid (HB1.trans (b2.mono HB1.size))
  have hbs := Nat.le_trans hbs b2.size
  rw [← hq]
  clear hW2 hq b2 hks HB1
  go_wp2_with (refine wpList_load_row rfl 25 (.tmp 2) rfl q rfl 25 _ (0, 0) _ v0 Try.underlying25 rfl (by kernel_rfl) ?_)
  refine (ks_pos HK.out hbs (by decide) 100 1 10 20 30 0 Lg.Kn.e1).mono ?_
  rintro _ W3 ⟨rfl, hks, hkt⟩
  change KS W3 B p Lg.Kn.k1 at hks
  have r0 := hkt.2.1 _ _ _ (by decide) (by decide) r0; have v0 := hkt.2.1 _ _ _ (by decide) (by decide) v0; have hbs := Nat.le_trans hbs hkt.1.size; have HK := Lib.hid hks; have HB := Lib.hid (HB.out.trans (hkt.1.mono hrb)); clear hks hkt
  go_wp2_with fail
  refine (ks_st HK.out hbs (by decide) 200 1 4 0 Lg.Kn.e2).mono ?_
  rintro _ W4 ⟨rfl, hks, hkt⟩
  change KS W4 B p Lg.Kn.k2 at hks
  have r0 := hkt.2.1 _ _ _ (by decide) (by decide) r0; have v0 := hkt.2.1 _ _ _ (by decide) (by decide) v0; have hbs := Nat.le_trans hbs hkt.1.size; have HK := Lib.hid hks; have HB := Lib.hid (HB.out.trans (hkt.1.mono hrb)); clear hks hkt
  go_wp2_with fail
  refine (ks_st HK.out hbs (by decide) 150 1 5 8 Lg.Kn.e2').mono ?_
  rintro _ W5 ⟨rfl, hks, hkt⟩
  rw [Lg.Kn.add_no (by rw [Lg.Kn.e2']; decide)] at hks
  have r0 := hkt.2.1 _ _ _ (by decide) (by decide) r0; have v0 := hkt.2.1 _ _ _ (by decide) (by decide) v0; have hbs := Nat.le_trans hbs hkt.1.size; have HK := Lib.hid hks; have HB := Lib.hid (HB.out.trans (hkt.1.mono hrb)); clear hks hkt
  go_wp2_with fail
  refine (ks_st HK.out hbs (by decide) 300 1 4 0 Lg.Kn.e3).mono ?_
  rintro _ W6 ⟨rfl, hks, hkt⟩
  change KS W6 B p Lg.Kn.k3 at hks
  have r0 := hkt.2.1 _ _ _ (by decide) (by decide) r0; have v0 := hkt.2.1 _ _ _ (by decide) (by decide) v0; have hbs := Nat.le_trans hbs hkt.1.size; have HK := Lib.hid hks; have HB := Lib.hid (HB.out.trans (hkt.1.mono hrb)); clear hks hkt
  go_wp2_with fail
  refine (ks_st HK.out hbs (by decide) 400 1 5 0 Lg.Kn.e4).mono ?_
  rintro _ W7 ⟨rfl, hks, hkt⟩
  change KS W7 B p Lg.Kn.k4 at hks
  have r0 := hkt.2.1 _ _ _ (by decide) (by decide) r0; have v0 := hkt.2.1 _ _ _ (by decide) (by decide) v0; have hbs := Nat.le_trans hbs hkt.1.size; have HK := Lib.hid hks; have HB := Lib.hid (HB.out.trans (hkt.1.mono hrb)); clear hks hkt
  go_wp2_with fail
  refine (ks_len HK.out Lg.Kn.len4).mono ?_
  rintro _ _ ⟨rfl, rfl⟩
  go_wp2_with fail
  refine (ks_rep HK.out Lg.Kn.good4 1 (by decide) [200, 400] (by rw [Lg.Kn.len4]; exact Lg.Kn.rep)).mono ?_
  rintro _ W8 ⟨A8, c8, us, rfl, hrow, hts, hbb⟩
  have r0 := blk_below r0 hbb (lt_of_block r0); have v0 := blk_below v0 hbb (lt_of_block v0); have HB := Lib.hid (HB.out.trans (hbb.mono HB.out.size)); have HK := Lib.hid (HK.out.below hbb); have hbs := Nat.le_trans hbs hbb.size; clear hbb
  have hts2 := two_us hts
  obtain ⟨g8, o8, cur8, rfl, _, _, _, hnc8, hcm8, _, _, hc8, _⟩ := hrow.some_ (by decide)
  have d0 : W8.cell? ⟨g8, o8 + 0, none⟩ = some (.int .i64 200) := hc8 0 _ hts2.1
  have d0' : W8.cell? ⟨g8, o8, none⟩ = some (.int .i64 200) := d0
  have d1 : W8.cell? ⟨g8, o8 + 13, none⟩ = some (.int .i64 400) := hc8 13 _ hts2.2
  have d1' : W8.cell? ⟨g8, o8 + 1 * 13, none⟩ = some (.int .i64 400) := hc8 13 _ hts2.2
  clear hrow hc8 hts hts2
  go_wp2_with fail
  refine (ks_no HK.out Lg.Kn.len4 (by decide) 1 99 (by decide) (by decide) Lg.Kn.la1).mono ?_
  rintro _ W9 ⟨rfl, hbb⟩
  clear d0 d0' d1 d1'
  have r0 := blk_below r0 hbb (lt_of_block r0); have v0 := blk_below v0 hbb (lt_of_block v0); have HB := Lib.hid (HB.out.trans (hbb.mono HB.out.size)); have HK := Lib.hid (HK.out.below hbb); have hbs := Nat.le_trans hbs hbb.size; clear hbb
  go_wp2_with fail
  refine (ks_last HK.out Lg.Kn.len4 (by decide) 1 100 10 20 30 100 (by decide) (by decide) Lg.Kn.la2 (by decide) Lg.Kn.at0).mono ?_
  rintro _ W10 ⟨rfl, hbb⟩
  have r0 := blk_below r0 hbb (lt_of_block r0); have v0 := blk_below v0 hbb (lt_of_block v0); have HB := Lib.hid (HB.out.trans (hbb.mono HB.out.size)); have HK := Lib.hid (HK.out.below hbb); have hbs := Nat.le_trans hbs hbb.size; clear hbb
  go_upto_region 12 with fail
  generalize hWa : World.alloc _ _ = W11
  obtain ⟨f, hf⟩ : ∃ f, f = W10.heap.size := ⟨_, rfl⟩
  have f0 : W11.heap[f]? = some (.cells #[.int .i64 10, .int .i64 20, .int .i64 30] 25 (0, 0)) := by rw [← hWa, hf]; exact heap_new _ _
  have hbb : Below W10.heap.size W10 W11 := by rw [← hWa]; exact (Below.refl _ W10).alloc (Nat.le_refl _) _
  rw [← hf]
  clear hWa hf
  have r0 := blk_below r0 hbb (lt_of_block r0); have v0 := blk_below v0 hbb (lt_of_block v0); have HB := Lib.hid (HB.out.trans (hbb.mono HB.out.size)); have HK := Lib.hid (HK.out.below hbb); have hbs := Nat.le_trans hbs hbb.size; clear hbb
  go_wp2_with fail
  refine (ks_last HK.out Lg.Kn.len4 (by decide) 1 5000 10 20 30 100 (by decide) (by decide) Lg.Kn.la3 (by decide) Lg.Kn.at0).mono ?_
  rintro _ W12 ⟨rfl, hbb⟩
  have f0 := blk_below f0 hbb (lt_of_block f0)
  have r0 := blk_below r0 hbb (lt_of_block r0); have v0 := blk_below v0 hbb (lt_of_block v0); have HB := Lib.hid (HB.out.trans (hbb.mono HB.out.size)); have HK := Lib.hid (HK.out.below hbb); have hbs := Nat.le_trans hbs hbb.size; clear hbb
  go_upto_region 13 with fail
  generalize hWa : World.alloc _ _ = W13
  obtain ⟨h, hh⟩ : ∃ h, h = W12.heap.size := ⟨_, rfl⟩
  have h0 : W13.heap[h]? = some (.cells #[.int .i64 10, .int .i64 20, .int .i64 30] 25 (0, 0)) := by rw [← hWa, hh]; exact heap_new _ _
  have hbb : Below W12.heap.size W12 W13 := by rw [← hWa]; exact (Below.refl _ W12).alloc (Nat.le_refl _) _
  have f0 := blk_below f0 hbb (lt_of_block f0)
  rw [← hh]
  clear hWa hh
  have r0 := blk_below r0 hbb (lt_of_block r0); have v0 := blk_below v0 hbb (lt_of_block v0); have HB := Lib.hid (HB.out.trans (hbb.mono HB.out.size)); have HK := Lib.hid (HK.out.below hbb); have hbs := Nat.le_trans hbs hbb.size; clear hbb
  have cx_0 := blk_cell f0 0 rfl; have fx_0 := blk_free f0 0; have cx_1 := blk_cell f0 1 rfl; have fx_1 := blk_free f0 1; have cx_2 := blk_cell f0 2 rfl; have fx_2 := blk_free f0 2; have lx := lt_of_block f0
  have cy_0 := blk_cell v0 0 rfl; have fy_0 := blk_free v0 0; have cy_1 := blk_cell v0 1 rfl; have fy_1 := blk_free v0 1; have cy_2 := blk_cell v0 2 rfl; have fy_2 := blk_free v0 2; have ly := lt_of_block v0
  have cz_0 := blk_cell h0 0 rfl; have fz_0 := blk_free h0 0; have cz_1 := blk_cell h0 1 rfl; have fz_1 := blk_free h0 1; have cz_2 := blk_cell h0 2 rfl; have fz_2 := blk_free h0 2; have lz := lt_of_block h0
  clear f0 h0
  go_wp2_with fail
  clear cx_0 fx_0 cx_1 fx_1 cx_2 fx_2
  clear cy_0 fy_0 cy_1 fy_1 cy_2 fy_2
  clear cz_0 fz_0 cz_1 fz_1 cz_2 fz_2
  refine (ks_pos HK.out hbs (by decide) 500 0 0 0 0 2 Lg.Kn.e5a).mono ?_
  rintro _ W14 ⟨rfl, hks, hkt⟩
  rw [Lg.Kn.add_no (by rw [Lg.Kn.e5a]; decide)] at hks
  have r0 := hkt.2.1 _ _ _ (by decide) (by decide) r0; have v0 := hkt.2.1 _ _ _ (by decide) (by decide) v0; have hbs := Nat.le_trans hbs hkt.1.size; have HK := Lib.hid hks; have HB := Lib.hid (HB.out.trans (hkt.1.mono hrb)); clear hks hkt
  go_wp2_with fail
  refine (ks_st HK.out hbs (by decide) 500 0 9 0 Lg.Kn.e5).mono ?_
  rintro _ W15 ⟨rfl, hks, hkt⟩
  change KS W15 B p Lg.Kn.k5 at hks
  have r0 := hkt.2.1 _ _ _ (by decide) (by decide) r0; have v0 := hkt.2.1 _ _ _ (by decide) (by decide) v0; have hbs := Nat.le_trans hbs hkt.1.size; have HK := Lib.hid hks; have HB := Lib.hid (HB.out.trans (hkt.1.mono hrb)); clear hks hkt
  go_wp2_with fail
  refine (ks_st HK.out hbs (by decide) 500 1 8 2 Lg.Kn.e6).mono ?_
  rintro _ W16 ⟨rfl, hks, hkt⟩
  rw [Lg.Kn.add_no (by rw [Lg.Kn.e6]; decide)] at hks
  have r0 := hkt.2.1 _ _ _ (by decide) (by decide) r0; have v0 := hkt.2.1 _ _ _ (by decide) (by decide) v0; have hbs := Nat.le_trans hbs hkt.1.size; have HK := Lib.hid hks; have HB := Lib.hid (HB.out.trans (hkt.1.mono hrb)); clear hks hkt
  go_upto_region 15 with fail
  obtain ⟨j0, hj0, hya, hyb, hyc⟩ := info_parts info_rec
  have hrw : w.heap.size ≤ W16.heap.size := HB.out.size
  go_cut [11] from 2 to 140 (fun v11 wx => v11 = .slice none 0 0 ∧ KS wx B p Lg.Kn.k5 ∧ wx.heap[r]? = some (.cells #[.bool false] 4 (0, 0)) ∧ B ≤ wx.heap.size ∧ Below w.heap.size w wx)
  case first =>
    go_wp2_with fail
    go_meet
    exact ⟨rfl, HK.out, r0, hbs, HB.out⟩
  case rest =>
    obtain ⟨rfl, hks, r0, hbs, HB⟩ := hcut
    subst hr
    have HK := Lib.hid hks
    have HBc := Lib.hid HB
    have hrc : w.heap.size < wc.heap.size := lt_of_block r0
    clear hks HB
    go_wp2_with fail
    go_loopw [11, 12] (fun s11 s12 wr => ∃ (i : Nat) (A : Option Addr) (c : Nat) (ys : List Lg.RV), s11 = .slice A i c ∧ s12 = .int .i64 i ∧ i ≤ 5 ∧ Hid (Row wr wc.heap.size 32 13 A i c (Lg.cs ys)) ∧ Hid (Lg.xs ys = Lg.Kn.k5.take i ∧ ∀ y ∈ ys, Lg.Lone y) ∧ Below wc.heap.size wc wr) (fun _ s12 _ => 5 - (intOf s12).toNat)
    case atStart => exact ⟨0, none, 0, [], rfl, by go_num, by omega, Lib.hid (Row.nil _ _ _ _), Lib.hid ⟨rfl, fun y hy => (by cases hy)⟩, Below.refl _ _⟩
    case round =>
      obtain ⟨i, A, c, ys, rfl, rfl, hi, HR, HY, hB⟩ := hrel
      have hzr := hB.size
      by_cases hlt : i < 5
      · have ik : (i : Int) < (5 : Int) := by omega
        go_wp2_with fail
        refine (ks_len (HK.out.below hB) Lg.Kn.len5).mono ?_
        rintro _ _ ⟨rfl, rfl⟩
        go_wp2_with fail
        refine (ks_at (HK.out.below hB) Lg.Kn.len5 (by decide) i hlt (by rw [Lg.Kn.nod_at hlt]; simp)).mono ?_
        rintro _ w1 ⟨y, rfl, hyx, oky, _, hb1⟩
        have HX := Lib.hid hyx
        have LO := Lib.hid (show Lg.Lone y from ⟨by rw [hyx]; exact Lg.Kn.nod_at hlt, oky.2.2.1, fun e => (oky.2.2.2 e).2⟩)
        obtain ⟨C, hC⟩ : ∃ C : List Value, C = y.cells := ⟨_, rfl⟩
        have hC1 : C.length = 13 := by rw [hC]; rfl
        have hCs : C.toArray.size = 13 := by simpa using hC1
        have hC2 : ∀ u ∈ C, u.oneCell' = true := by rw [hC]; exact rv_oneL _
        have hC3 : C.toArray.all (·.oneCell') = true := by rw [hC]; exact rv_ones _
        have hval : y.val = .agg C.toArray := by rw [hC]; rfl
        rw [hval]
        have HC := Lib.hid hC
        have j2 := heap_new w1 (.cells #[.int .i64 0, .int .i64 0, .int .i64 0, .int .i64 0, .int .i64 0, .int .i64 0, .int .i64 0, .int .i64 0, .int .i64 0, .int .i64 0, .int .i64 0, .slice none 0 0, .int .u32 0] 32 (0, 0))
        clear hyx oky hC hval
        have R1 := HR.out.kept (Keeps.of_below (S := fun _ => False) hb1) (fun _ _ h => h)
        have hz1 := hb1.size
        go_upto_region 20 with (refine wpList_store_row rfl 32 (.tmp 13) (.tmp 151) rfl w1.heap.size C.toArray rfl rfl 32 _ j2 (by rw [hCs]; kernel_rfl) hCs.symm hC3 ?_)
        generalize hW : World.setRow _ _ _ = W2
        have gx : W2.heap[w1.heap.size]? = some (.cells C.toArray 32 (0, 0)) := by rw [← hW]; exact setRow_heap _ _ _ _ _ _ j2
        have bW : Below w1.heap.size w1 W2 := by rw [← hW]; exact below_setRow ((Below.refl _ w1).alloc (Nat.le_refl _) _) (Nat.le_refl _) _
        have R2 := Lib.hid (R1.kept (Keeps.of_below (S := fun _ => False) bW) (fun _ _ h => h))
        have B2 : Below wc.heap.size wc W2 := hB.trans ((hb1.mono hzr).trans (bW.mono (by omega)))
        obtain ⟨g, hg⟩ : ∃ g, g = w1.heap.size := ⟨_, rfl⟩
        rw [← hg] at gx ⊢
        clear hW j2 R1 bW hb1 hg
        have HFC := Lib.hid (fill_cell2 W2 C hC1)
        have hRa := Lib.hid (R2.out.alloc (.cells (List.foldl (fun (cs : Array Value) (x : Value × Nat) => cs.setIfInBounds x.snd x.fst) (#[.int .i64 0, .int .i64 0, .int .i64 0, .int .i64 0, .int .i64 0, .int .i64 0, .int .i64 0, .int .i64 0, .int .i64 0, .int .i64 0, .int .i64 0, .slice none 0 0, .int .u32 0] : Array Value) C.zipIdx) 32))
        have hz2 := B2.size
        go_wp2_with (first | (refine wpList_load_row rfl 32 (.tmp 13) rfl g rfl 32 C.toArray (0, 0) _ gx Try.underlying32 rfl (by rw [hCs]; kernel_rfl) ?_) | (refine wpList_append_row2 rfl (.tmp 155) (.tmp 157) 40 rfl wc.heap.size 32 j0 _ 13 120 Try.underlying40 hj0 hya hyb hyc rfl A i c (Lg.cs ys) rfl hRa.out ⟨W2.heap.size, 0, none⟩ 1 1 C rfl (by rw [hC1]) HFC.out hC2 (by omega) (by simp only [maxLen]; omega) (by omega) (by simp; omega) ?_; intro A2 c2 w5 hr5 hg5 hat5 _; have HR5 := Lib.hid hr5; have HG5 := Lib.hid hg5; clear hr5 hg5 hat5))
        have hB5 : Below wc.heap.size wc w5 := (B2.alloc hz2 _).grown HG5.out (by simp; omega) (fun k e => (R2.out.lt e).1)
        go_roundw
        case rel => exact ⟨i + 1, A2, c2, ys ++ [y], rfl, by go_num, by omega, Lib.hid (by rw [Lg.cs_app, Lg.cs_one, ← HC.out]; exact HR5.out), Lib.hid ⟨by
          rw [Lg.xs_app1, HY.out.1, HX.out, List.take_add_one, List.getElem?_eq_getElem (show i < Lg.Kn.k5.length by rw [Lg.Kn.len5]; exact hlt), List.getD, List.getElem?_eq_getElem (show i < Lg.Kn.k5.length by rw [Lg.Kn.len5]; exact hlt)]
          rfl, fun z hz => by
          rcases List.mem_append.1 hz with hz | hz
          · exact HY.out.2 z hz
          · rw [List.mem_singleton.1 hz]; exact LO.out⟩, hB5⟩
        case measure => simp [intOf]; omega
      · obtain rfl : i = 5 := by omega
        have ik : ¬ (((5 : Nat) : Int) < (5 : Int)) := by omega
        go_wp2_with fail
        refine (ks_len (HK.out.below hB) Lg.Kn.len5).mono ?_
        rintro _ _ ⟨rfl, rfl⟩
        have hyl : ys.length = 5 := by
          have := congrArg List.length HY.out.1
          rw [Lg.xs_len, List.length_take, Lg.Kn.len5] at this
          exact this
        obtain ⟨g, o, cur, rfl, hgb, hgs, hg, hnc, hcm, hoc, hcur, hcell, hfr⟩ := HR.out.some_ (by omega)
        have CU := Lg.Cu.of_row (base := wc.heap.size) hg hyl hnc hoc hcur
        obtain ⟨y2, hy2⟩ : ∃ y2, y2 = ys.getD 2 Lg.rv0 := ⟨_, rfl⟩
        obtain ⟨y', hy'⟩ : ∃ y' : Lg.RV, y' = ⟨{ y2.x with t := 301 }, y2.A, y2.cap⟩ := ⟨_, rfl⟩
        have CU2 := Lib.hid (CU.setc (i := 2) (j := 0) (v := .int .i64 301) (y := y') (by omega) (by omega) (by rw [← hy2, hy']; rfl))
        have c26 : wr.cell? ⟨g, o + 26, none⟩ = some (.int .i64 y2.x.t) := CU.cell (i := 2) (by omega) 0 _ (by rw [← hy2]; rfl)
        have c26' : wr.cell? ⟨g, o + 2 * 13, none⟩ = some (.int .i64 y2.x.t) := c26
        have f26 := hfr (o + 26)
        have f26' := hfr (o + 2 * 13)
        have hbad := Lib.hid (show Lg.xs (ys.set 2 y') = Lg.Kn.bad by
          rw [Lg.xs_set, HY.out.1, List.take_of_length_le (by rw [Lg.Kn.len5]; exact Nat.le_refl _), hy', hy2, ← Lg.xs_at (by omega), HY.out.1, List.take_of_length_le (by rw [Lg.Kn.len5]; exact Nat.le_refl _)]
          rfl)
        have hlone := Lib.hid (show ∀ y ∈ ys.set 2 y', Lg.Lone y from fun y hy => by
          rcases List.mem_or_eq_of_mem_set hy with h | h
          · exact HY.out.2 y h
          · have h2 : Lg.Lone y2 := HY.out.2 _ (by rw [hy2, List.getD, List.getElem?_eq_getElem (by omega)]; exact List.getElem_mem _)
            rw [h, hy']
            exact h2)
        have hyl2 := Lib.hid (show (ys.set 2 y').length = 5 by rw [List.length_set]; exact hyl)
        generalize ys.set 2 y' = zs at *
        clear CU hy2 hy' hg hcur hcell HR HY hyl hoc
        go_upto_region 26 with fail
        generalize hW : World.setCell _ _ _ = W26
        have CU3 : Lg.Cu W26 g o c zs := by rw [← hW]; exact CU2.out
        have B26 : Below wc.heap.size wc W26 := by rw [← hW]; exact hB.setCell (by show wc.heap.size ≤ g; exact hgb) _
        have ROW := CU3.row (base := wc.heap.size) hgb hcm (k := 5) (by rw [hyl2.out]; exact Nat.le_refl _)
        rw [List.take_of_length_le (by rw [hyl2.out]; exact Nat.le_refl _)] at ROW
        have LD := Lib.hid (show Calls Try.prog 15 #[.slice (some ⟨g, o, none⟩) 5 c] W26 (fun e w' => e = .returned (.tuple #[.pointer none, .int .i64 2, .int .i64 400]) ∧ Below W26.heap.size W26 w') by
          refine (lload_any (some ⟨g, o, none⟩) 5 c zs W26 (by decide) ⟨Rds.of_row ROW, fun y hy => (hlone.out y hy).ok _ _⟩ (fun y hy => by rw [(hlone.out y hy).1]; simp)).mono ?_
          rintro e w' ⟨hb, hp⟩
          rw [hbad.out, Lg.Kn.lb] at hp
          rcases hp with ⟨_, he⟩ | ⟨h, _⟩
          · exact ⟨he, hb⟩
          · cases h)
        have HB26 := Lib.hid B26
        clear hW CU2 CU3 ROW hbad hlone hyl2 c26 c26' f26 f26' hfr hB B26 hzr
        go_wp2_with fail
        refine LD.out.mono ?_
        rintro _ W27 ⟨rfl, hb27⟩
        have B27 := HB26.out.trans (hb27.mono HB26.out.size)
        clear LD HB26 hb27
        go_upto_region 31 with fail
        generalize hW : World.alloc _ _ = W30
        obtain ⟨z, hz⟩ : ∃ z, z = W27.heap.size := ⟨_, rfl⟩
        have z0 : W30.heap[z]? = some (.cells #[.slice none 0 0] 108 (0, 0)) := by rw [← hW, hz]; exact heap_new _ _
        have B30 : Below wc.heap.size wc W30 := by rw [← hW]; exact B27.alloc B27.size _
        have ZS : KS W30 z z [] := ⟨none, 0, [], fun _ => False, ⟨z0, Row.nil _ _ _ _, fun y hy => (by cases hy), Nat.le_refl _⟩, rfl⟩
        have hzz : z ≤ W30.heap.size := Nat.le_of_lt (lt_of_block z0)
        have hwz : wc.heap.size ≤ z := by rw [hz]; exact B27.size
        rw [← hz]
        clear hW hz z0 B27
        go_wp2_with fail
        refine (lat_nil 0 W30).mono ?_
        rintro _ W31 ⟨rfl, hb31⟩
        have B31 := B30.trans (hb31.mono B30.size)
        have ZS := ZS.below hb31
        have hzz := Nat.le_trans hzz hb31.size
        clear hb31 B30
        go_wp2_with fail
        refine (all_nil W31).mono ?_
        rintro _ W32 ⟨bx, rfl, hbx1, hbx2, hb32⟩
        have B32 := B31.trans (hb32.mono B31.size)
        have ZS := Lib.hid (ZS.below hb32)
        have hzz := Nat.le_trans hzz hb32.size
        clear hb32 B31 hbx1
        have hfn := fnil 53 #[.pointer (some ⟨bx, 0, none⟩)]
        go_upto_region 36 with fail
        clear hfn
        refine (wpIn_wide (n := 5)).1 ?_
        have hseq := all1_seq 4 W32.heap.size bx none 0 0 [] W32 (by omega) (by omega) (Nat.le_refl _) hbx2 (Lg.Rr.nil _ _ _) (fun y hy => by cases hy)
        have B32' := Lib.hid B32
        have hDw : ∀ D, W32.heap.size ≤ D → D ≠ w.heap.size := fun D hD => by have := B32.size; omega
        have HDW := Lib.hid hDw
        clear B32 hDw
        refine range_own (F := Fence.wide) rfl (by omega) (gf := 53) (lb := #[.pointer (some ⟨bx, 0, none⟩)]) rfl trivial (enters_of Try.func53 (by kernel_rfl) rfl) hseq (fun h k => h.trans k)
          (fun V l' o o' hl h hc => (Below.refl _ V).grown (grownBy_putObj' V l' o') (by have := (Array.getElem?_eq_some_iff.1 h).1; omega) (fun k e => by cases e; omega)) (fun x => rfl)
          (fun pre V => Below W32.heap.size W32 V) (fun c pre V => False) (fun x a' V => True)
          ?hI ?hIx ?hPr ?hAx ?h0 ?assign ?body ?done ?stop
        case hI => exact ownFrom_below (by omega) (by omega)
        case hIx => exact fun c s X Y row hs _ _ => hs.elim
        case hPr => exact fun pre => Lg.PrA.own _ [] pre
        case hAx => exact fun a' s X Y row _ _ _ => trivial
        case h0 => exact Below.refl _ _
        case assign =>
          rintro l' pre x V K hBn hpr hK
          gi_wp2
          exact hK _ _ (KeepsFrom.refl _ V) (Below.refl _ _) hBn hpr trivial
        case body =>
          rintro l' pre x a' V _ _ _ hlt
          exact absurd hlt (Nat.not_lt_zero _)
        case stop =>
          rintro D c' pre V hD _ hf hK
          exact hf.elim
        case done =>
          rintro D ys V hD hys hBn hK
          have BV := Lib.hid (B32'.out.trans (hBn.mono B32'.out.size))
          have ZS := Lib.hid (ZS.out.below hBn)
          have hzz := Nat.le_trans hzz hBn.size
          have r0 := blk_below r0 BV.out hrc
          clear hBn hys hseq B32'
          go_wp2_with fail
          refine (state_nil 0 0 0 V).mono ?_
          rintro _ V1 ⟨rfl, hbb⟩
          have hK := blk_below hK hbb (lt_of_block hK); have r0 := blk_below r0 hbb (lt_of_block r0); have BV := Lib.hid (BV.out.trans (hbb.mono BV.out.size)); have ZS := Lib.hid (ZS.out.below hbb); have hzz := Nat.le_trans hzz hbb.size; clear hbb
          go_wp2_with fail
          refine (keep_nil _).mono ?_
          rintro _ V2 ⟨rfl, hbb⟩
          have hK := blk_below hK hbb (lt_of_block hK); have r0 := blk_below r0 hbb (lt_of_block r0); have BV := Lib.hid (BV.out.trans (hbb.mono BV.out.size)); have ZS := Lib.hid (ZS.out.below hbb); have hzz := Nat.le_trans hzz hbb.size; clear hbb
          go_wp2_with fail
          refine (ks_st ZS.out hzz (by decide) 0 0 0 0 Lg.Kn.st0).mono ?_
          rintro _ V3 ⟨rfl, _, hkt⟩
          have hK := hkt.2.2 _ _ rfl hK
          have r0 := hkt.2.1 _ _ _ (by decide) (by decide) r0
          have BV := Lib.hid (BV.out.trans (hkt.1.mono hwz))
          clear hkt ZS hzz
          go_wp2_with fail
          refine (llen_nil _).mono ?_
          rintro _ _ ⟨rfl, rfl⟩
          go_wp2_with fail
          refine (lend_nil _).mono ?_
          rintro _ _ ⟨rfl, rfl⟩
          go_wp2_with fail
          refine (lcopy_nil _).mono ?_
          rintro _ V4 ⟨rfl, hbb⟩
          have hK := blk_below hK hbb (lt_of_block hK); have r0 := blk_below r0 hbb (lt_of_block r0); have BV := Lib.hid (BV.out.trans (hbb.mono BV.out.size)); clear hbb
          go_wp2_with fail
          refine (lsame_nx p _).mono ?_
          rintro _ V5 ⟨rfl, hbb⟩
          have hK := blk_below hK hbb (lt_of_block hK); have r0 := blk_below r0 hbb (lt_of_block r0); have BV := Lib.hid (BV.out.trans (hbb.mono BV.out.size)); clear hbb
          go_wp2_with fail
          refine (lsame_xn p _).mono ?_
          rintro _ V6 ⟨rfl, hbb⟩
          have hK := blk_below hK hbb (lt_of_block hK); have r0 := blk_below r0 hbb (lt_of_block r0); have BV := Lib.hid (BV.out.trans (hbb.mono BV.out.size)); clear hbb
          go_wp2_with fail
          refine (lsame_nn _).mono ?_
          rintro _ V7 ⟨rfl, hbb⟩
          have hK := blk_below hK hbb (lt_of_block hK); have r0 := blk_below r0 hbb (lt_of_block r0); have BV := Lib.hid (BV.out.trans (hbb.mono BV.out.size)); clear hbb
          have c0 := blk_cell (l := [_]) r0 0 rfl
          have f0 := blk_free r0 0
          go_wp2_with fail
          have hne := HDW.out D hD
          have rT := blk_set r0 0 (.bool true)
          have kT := blk_far hK (a := ⟨w.heap.size, 0, none⟩) hne (.bool true)
          have hB7 := (HBc.out.trans (BV.out.mono HBc.out.size)).setCell (p := ⟨w.heap.size, 0, none⟩) (Nat.le_refl _) (.bool true)
          refine ⟨by simp, .inl ⟨_, _, rfl, run_takeDeferred kT, ?_⟩⟩
          refine ⟨_, results_c1 rfl _ _ w.heap.size (.bool true) _ rfl (blk_cell (l := [_]) ((World.putObj_heap_other (fun e => hne e.symm)).trans rT) 0 rfl) Try.underlying4 rfl, rfl, ?_⟩
          exact hB7.grown (grownBy_putObj' _ _ _) (by have := (Array.getElem?_eq_some_iff.1 kT).1; omega) (fun k e => by cases e; omega)
end Go.Proofs.Ytgmejplcdecmkaa

import Derived.Test.YtdocdgcdldpagaaGreatAp
import Derived.Test.YtdocdgcdldpagaaGreatAv10
import Derived.Lib.Overlaps
import Derived.Laws.Externs
import Derived.Deep.DrawnRows
namespace Go.Proofs.YtdocdgcdldpagaaGreat
open Go.RowKit
set_option maxHeartbeats 4000000
set_option maxRecDepth 100000
set_option linter.unusedSimpArgs false
set_option linter.unusedVariables false
attribute [local go_sem ↓] Go.wp_at_zero Go.wp_at_succ
section
variable {P : Program} {w : World}
theorem wp_copy_rowS {o : Oper} {a : Act} {K : Act → World → Prop} {Q : Exit → Act → World → Prop} (d s : Operand) (dT sT : TypeId)
    (ho : o.op = .call { callee := .builtin .copy, args := #[d, s], argTypes := #[dT, sT] }) (elem : TypeId) (hu : P.underlying dT = some (.slice elem)) (size : Nat) (hsz : (P.info? elem).map (·.size) = some size)
    (g off dLen dCap : Nat) (ad : Addr) (sLen sCap : Nat) (hd : a.eval d = .slice (some ⟨g, off, none⟩) dLen dCap) (hs : a.eval s = .slice (some ad) sLen sCap)
    (cur : Array Value) (t : TypeId) (hg : w.heap[g]? = some (.cells cur t (0, 0))) (cs : List Value) (k : Nat) (hk : k = Nat.min sLen dLen) (hn : cs.length = k * size)
    (hsrc : ∀ j v, cs[j]? = some v → w.cell? (ad.add j) = some v) (hfit : off + cs.length ≤ cur.size) (h1 : ∀ v ∈ cs, v.oneCell' = true)
    (h : ∀ w', Hid (w'.heap[g]? = some (.cells (splice cur.toList off cs).toArray t (0, 0))) → w.grownBy w' (some g) → K (a.put o.dst (goInt k)) w') : o.wp P a w K Q := by
  have hr := run_copy_rowS (P := P) w dT sT o.type elem size g off dLen dCap ad sLen sCap cur t cs hu hsz hg k hk hn hsrc hfit h1
  unfold Oper.wp execOp
  simp only [ho, resolve, invoke, builtin, Sem.run_bind, Sem.run_pure, Result.andThen_ok, List.map_toArray, List.map_cons, List.map_nil, hd, hs, hr]
  exact h _ (setRow_heap w g cur _ t _ hg) ⟨rfl, rfl, rfl, by simp [World.setRow], fun j _ hj => setRow_other w g j _ (fun e => hj (by rw [e]))⟩
theorem wpList_copy_rowS {ops : Array Oper} {rest : List Oper} {o : Oper} {a : Act} {Q : Exit → Act → World → Prop} (hgd : o.guard = none) (d s : Operand) (dT sT : TypeId)
    (ho : o.op = .call { callee := .builtin .copy, args := #[d, s], argTypes := #[dT, sT] }) (elem : TypeId) (hu : P.underlying dT = some (.slice elem)) (size : Nat) (hsz : (P.info? elem).map (·.size) = some size)
    (g off dLen dCap : Nat) (ad : Addr) (sLen sCap : Nat) (hd : a.eval d = .slice (some ⟨g, off, none⟩) dLen dCap) (hs : a.eval s = .slice (some ad) sLen sCap)
    (cur : Array Value) (t : TypeId) (hg : w.heap[g]? = some (.cells cur t (0, 0))) (cs : List Value) (k : Nat) (hk : k = Nat.min sLen dLen) (hn : cs.length = k * size)
    (hsrc : ∀ j v, cs[j]? = some v → w.cell? (ad.add j) = some v) (hfit : off + cs.length ≤ cur.size) (h1 : ∀ v ∈ cs, v.oneCell' = true)
    (h : ∀ w', Hid (w'.heap[g]? = some (.cells (splice cur.toList off cs).toArray t (0, 0))) → w.grownBy w' (some g) → wpList P ops Q rest (a.put o.dst (goInt k)) w') : wpList P ops Q (o :: rest) a w :=
  wpList_plain hgd fun _ hK => wp_copy_rowS d s dT sT ho elem hu size hsz g off dLen dCap ad sLen sCap hd hs cur t hg cs k hk hn hsrc hfit h1 fun w' a b => hK _ _ (h w' a b)
theorem step_copy_rowS {ops : Array Oper} {o : Oper} {a : Act} {K : Act → World → Prop} {Q : Exit → Act → World → Prop} {E : Prop} (hgd : o.guard = none) (d s : Operand) (dT sT : TypeId)
    (ho : o.op = .call { callee := .builtin .copy, args := #[d, s], argTypes := #[dT, sT] }) (elem : TypeId) (hu : P.underlying dT = some (.slice elem)) (size : Nat) (hsz : (P.info? elem).map (·.size) = some size)
    (g off dLen dCap : Nat) (ad : Addr) (sLen sCap : Nat) (hd : a.eval d = .slice (some ⟨g, off, none⟩) dLen dCap) (hs : a.eval s = .slice (some ad) sLen sCap)
    (cur : Array Value) (t : TypeId) (hg : w.heap[g]? = some (.cells cur t (0, 0))) (cs : List Value) (k : Nat) (hk : k = Nat.min sLen dLen) (hn : cs.length = k * size)
    (hsrc : ∀ j v, cs[j]? = some v → w.cell? (ad.add j) = some v) (hfit : off + cs.length ≤ cur.size) (h1 : ∀ v ∈ cs, v.oneCell' = true)
    (h : ∀ w', Hid (w'.heap[g]? = some (.cells (splice cur.toList off cs).toArray t (0, 0))) → w.grownBy w' (some g) → K (a.put o.dst (goInt k)) w') :
    if Region.wanted o (yielded ops a.tmps) = true then Oper.wp P o a w K Q else E := by
  have hw : Region.wanted o (yielded ops a.tmps) = true := by simp [Region.wanted, hgd]
  rw [if_pos hw]
  exact wp_copy_rowS d s dT sT ho elem hu size hsz g off dLen dCap ad sLen sCap hd hs cur t hg cs k hk hn hsrc hfit h1 h
end
theorem msg_info : (Tryz.prog.info? 175).map (fun i => (i.zero, i.size, i.bytes)) = some (some (.agg #[.int .i64 0, .string ⟨#[]⟩]), 2, 24) := by kernel_rfl
theorem msg_size : (Tryz.prog.info? 175).map (·.size) = some 2 := by kernel_rfl
theorem msg_sizeOf : ∀ w, (Go.sizeOf 175).run Tryz.prog w = .ok 2 w := fun w => by kernel_rfl
def InsPost (base : Nat) (A : Option Addr) (n : Nat) (ys : List Value) (w : World) (e : Ending) (w' : World) : Prop :=
  ∃ A' c', e = .returned (.slice A' (n + 1) c') ∧ Row w' base 175 2 A' (n + 1) c' ys ∧ w.grownBy w' (blkOf A) ∧ (blkOf A' = blkOf A ∨ ∃ g, blkOf A' = some g ∧ w.heap.size ≤ g)
theorem ins_end (A : Option Addr) (n c : Nat) (xs news : List Value) (vb : Nat) (base : Nat) (w : World) (hrow : Row w base 175 2 A n c xs) (hn : n ≤ 1000000)
    (hv : w.heap[vb]? = some (.cells news.toArray 175 (0, 0))) (hnl : news.length = 2) (h1 : ∀ v ∈ news, v.oneCell' = true) (hbase : base ≤ w.heap.size) :
    Calls Tryz.prog 172 #[.slice A n c, .int .i64 n, .slice (some ⟨vb, 0, none⟩) 1 1] w (InsPost base A n (xs ++ news) w) := by
  obtain ⟨i0, hi0, hz0, hz1, hz2⟩ := info_parts msg_info
  have hle := hrow.le
  obtain ⟨hle1, hle2⟩ := hle
  unfold maxLen at hle2
  have HR := Lib.hid hrow
  have HV := Lib.hid hv
  have HL := Lib.hid hnl
  clear hv hrow hnl
  cases A with
  | none =>
    rcases HR.out.2 with ⟨_, h0, h00⟩ | ⟨g, o, cur, he, _⟩
    · subst h0; subst h00
      go_enter Tryz.func172, Tryz.ntmps172
      go_wp2_with (at_builtin; refine wpList_append_row rfl (.tmp 23) (.tmp 24) _ rfl base 175 i0 _ 2 24 Tryz.underlying170 hi0 hz0 hz1 hz2 rfl none 0 0 xs rfl HR.out ⟨vb, 0, none⟩ 1 1 news rfl (by rw [HL.out]) (fun j u hu => by rw [addr_add, Nat.zero_add]; exact blk_cell HV.out j hu) h1 Cb Bv Cb hbase ?_; intro A' c' w' hown hg hat)
      go_ret
      exact ⟨A', c', rfl, hown, hg, hat.imp id (fun h => ⟨_, h, Nat.le_refl _⟩)⟩
    · cases he
  | some ad =>
    by_cases hcn : c = n
    all_goals
      first | subst hcn | skip
      go_enter Tryz.func172, Tryz.ntmps172
      go_wp2_with (at_builtin; refine wpList_append_row rfl (.tmp 23) (.tmp 24) _ rfl base 175 i0 _ 2 24 Tryz.underlying170 hi0 hz0 hz1 hz2 rfl (some ad) _ _ xs rfl HR.out ⟨vb, 0, none⟩ 1 1 news rfl (by rw [HL.out]) (fun j u hu => by rw [addr_add, Nat.zero_add]; exact blk_cell HV.out j hu) h1 Cb Bv Cb hbase ?_; intro A' c' w' hown hg hat)
      go_ret
      exact ⟨A', c', rfl, hown, hg, hat.imp id (fun h => ⟨_, h, Nat.le_refl _⟩)⟩
theorem Cp {p : Prop} (h : p := by
  repeat (first | rw [if_pos Cb] | rw [if_neg Cb])
  congr 1
  omega
 ) : p := h
theorem Cq {p : Prop} (h : p := by
  repeat (first | rw [if_pos Cb] | rw [if_neg Cb])
  symm
  rw [List.getElem?_eq_none]
  omega
 ) : p := h
theorem drop_two {α : Type} (cur : List α) (o i n : Nat) (xs news : List α) (hx : (cur.drop o).take (n * 2) = xs) (hin : i < n) (hn : news.length = 2) (hL : o + (n + 1) * 2 ≤ cur.length) (hxl : xs.length = n * 2) :
    ((splice (splice cur (o + (i + 1) * 2) (xs.drop (i * 2))) (o + i * 2) news).drop o).take ((n + 1) * 2) = xs.take (i * 2) ++ (news ++ xs.drop (i * 2)) := by
  have hd : (xs.drop (i * 2)).length = (n - i) * 2 := by rw [List.length_drop, hxl]; omega
  apply List.ext_getElem?
  intro j
  simp only [splice, List.getElem?_take, List.getElem?_drop, List.getElem?_append, List.length_take, List.length_append, List.length_drop, hn, hd, hxl]
  have hxj : ∀ j, j < n * 2 → xs[j]? = cur[o + j]? := fun j hj => by rw [← hx, List.getElem?_take, if_pos hj, List.getElem?_drop]
  by_cases h1 : j < i * 2
  · rw [hxj j Cb]
    simp only [h1, show j < (n + 1) * 2 by omega, if_true]
    repeat (first | rw [if_pos Cb] | rw [if_neg Cb])
  · by_cases h2 : j < i * 2 + 2
    · simp only [show j < (n + 1) * 2 by omega, if_true]
      exact Cp
    · by_cases h3 : j < (n + 1) * 2
      · simp only [h3, if_true]
        exact Cp
      · rw [if_neg h3]
        exact Cq
theorem ins_room (g o n c i : Nat) (xs news : List Value) (vb : Nat) (base : Nat) (w : World) (hrow : Row w base 175 2 (some ⟨g, o, none⟩) n c xs) (hn : n ≤ 1000000) (hi : i < n) (hroom : n + 1 ≤ c)
    (hv : w.heap[vb]? = some (.cells news.toArray 175 (0, 0))) (hnl : news.length = 2) (h1 : ∀ v ∈ news, v.oneCell' = true) (hx1 : ∀ v ∈ xs, v.oneCell' = true) (hne : vb ≠ g) :
    Calls Tryz.prog 172 #[.slice (some ⟨g, o, none⟩) n c, .int .i64 i, .slice (some ⟨vb, 0, none⟩) 1 1] w (InsPost base (some ⟨g, o, none⟩) n (xs.take (i * 2) ++ (news ++ xs.drop (i * 2))) w) := by
  obtain ⟨g', o', cur, he, hbg, hlt, hg, hnc, hcm, hfit, hcur, hcell, _⟩ := hrow.some_ Cb
  injection he with he; injection he with e1 e2
  subst e1; subst e2
  have hxl := hrow.1
  have hsv : w.shape? vb = some (175, 2) := by simp [World.shape?, hv, hnl]
  have hsg : w.shape? g = some (175, cur.size) := by simp [World.shape?, hg]
  have hov : ∀ lb cb, (callFunc 178 #[.slice (some ⟨vb, 0, none⟩) 1 1, .slice (some ⟨g, o + (i + 1) * 2, none⟩) lb cb]).run Tryz.prog w = .ok (.value (.bool false)) w := fun lb cb => by
    rw [run_callFunc_extern Tryz.func178 C7 C7 C7 (e := Extern.SlicesOverlaps.overlaps #[170, 170] #[4]) C7,
      Lib.run_overlaps_apart w 170 4 175 Tryz.underlying170 2 msg_sizeOf ⟨vb, 0, none⟩ ⟨g, o + (i + 1) * 2, none⟩ 1 1 lb cb hne 175 175 2 cur.size hsv hsg Cb (blk_free hv 0) (blk_free hv 2)]
    rfl
  have hdl : (xs.drop (i * 2)).length = (n - i) * 2 := by rw [List.length_drop, hxl]; omega
  unfold maxLen at hcm
  have b1 : ¬ (c = i + 1) := by omega
  have b2 : ¬ (c = i) := by omega
  have b3 : (i : Int) ≤ (n : Int) := by omega
  have b4 : (i : Int) + 1 ≤ (n : Int) + 1 := by omega
  have b5 : (i : Int) ≤ (n : Int) + 1 := by omega
  have b6 : (n : Int) + 1 ≤ (c : Int) := by omega
  have b7 : ((i : Int) == (n : Int)) = false := by rw [beq_eq_false_iff_ne]; omega
  have b8 : (0 : Int) ≤ (i : Int) + 1 := by omega
  have b9 : (0 : Int) ≤ (n : Int) + 1 := by omega
  have w1 : IntKind.i64.wrap ((i : Int) + 1) = (i : Int) + 1 := IntWalk.i64_in _ Cb
  have w2 : IntKind.i64.wrap ((n : Int) + 1) = (n : Int) + 1 := IntWalk.i64_in _ Cb
  have t1 : ((i : Int) + 1).toNat = i + 1 := by omega
  have t2 : ((n : Int) + 1).toNat = n + 1 := by omega
  have HX := Lib.hid hcur
  have HL := Lib.hid hnl
  have HC := Lib.hid hcell
  have HG := Lib.hid hg
  have HV := Lib.hid hv
  have HXL := Lib.hid hxl
  have HD := Lib.hid hdl
  clear hcur hnl hcell hg hv hxl hdl hsv hsg hrow
  go_enter Tryz.func172, Tryz.ntmps172
  go_wp2_with (simp only [hov])
  go_region_law (refine step_copy_rowS rfl (.tmp 73) (.tmp 76) _ _ rfl 175 Tryz.underlying170 2 msg_size g (o + (i + 1) * 2) (n + 1 - (i + 1)) (c - (i + 1)) ⟨g, o + i * 2, none⟩ (n + 1 - i) (c - i) Bp Bp cur _ HG.out (xs.drop (i * 2)) (n - i) (by show _ = min _ _; omega) HD.out (fun j v hj => by rw [addr_add, Nat.add_assoc]; exact HC.out _ _ (by rwa [List.getElem?_drop] at hj)) (by rw [HD.out]; omega) (fun v hv => hx1 v (List.mem_of_mem_drop hv)) ?_; intro wA hG1 hg1)
  have hG1' := hG1.out
  have hV1 := (hg1.block vb (lt_of_block HV.out) C6).trans HV.out
  have e1 : (xs.drop (i * 2)).length = (n - i) * 2 := HD.out
  have e2 : news.length = 2 := HL.out
  have hsz : (splice cur.toList (o + (i + 1) * 2) (xs.drop (i * 2))).length = cur.size := by rw [length_splice _ _ _ (by rw [e1]; simp; omega)]; simp
  have HV1 := Lib.hid hV1
  have HG1 := Lib.hid hG1'
  have HSZ := Lib.hid hsz
  clear hG1' hV1 e1 e2 hsz hov
  go_wp2_with (refine wpList_copy_rowS rfl (.tmp 80) (.tmp 81) _ _ rfl 175 Tryz.underlying170 2 msg_size g (o + i * 2) (n + 1 - i) (c - i) ⟨vb, 0, none⟩ 1 1 rfl rfl _ _ HG1.out news 1 (by show _ = min _ _; omega) (by rw [HL.out]) (fun j v hj => by rw [addr_add, Nat.zero_add]; exact blk_cell HV1.out j hj) (by rw [List.size_toArray, HSZ.out, HL.out]; omega) h1 ?_; intro wB hG2 hg2)
  go_ret
  refine ⟨some ⟨g, o, none⟩, c, rfl, Row.of_block hG2.out hbg Cb Bv ?_ ?_, ⟨hg2.os.trans hg1.os, hg2.tape.trans hg1.tape, hg2.output.trans hg1.output, Nat.le_trans hg1.size hg2.size, fun k hk hne => (hg2.block k (Nat.lt_of_lt_of_le hk hg1.size) hne).trans (hg1.block k hk hne)⟩, .inl rfl⟩
  · rw [List.size_toArray, length_splice _ _ _ (by rw [List.toList_toArray, HSZ.out, HL.out]; omega), List.toList_toArray, HSZ.out]; omega
  · simp only [List.toList_toArray]
    exact drop_two cur.toList o i n xs news HX.out hi HL.out C6 HXL.out
theorem drop_grow {α : Type} (Z : List α) (i n : Nat) (xs news : List α) (hf : ∀ j, j < i * 2 → Z[j]? = xs[j]?) (hin : i < n) (hn : news.length = 2) (hL : (n + 1) * 2 ≤ Z.length) (hxl : xs.length = n * 2) :
    ((splice (splice Z (i * 2) news) ((i + 1) * 2) (xs.drop (i * 2))).drop 0).take ((n + 1) * 2) = xs.take (i * 2) ++ (news ++ xs.drop (i * 2)) := by
  have hd : (xs.drop (i * 2)).length = (n - i) * 2 := by rw [List.length_drop, hxl]; omega
  apply List.ext_getElem?
  intro j
  simp only [splice, List.getElem?_take, List.drop_zero, List.getElem?_drop, List.getElem?_append, List.length_take, List.length_append, List.length_drop, hn, hd, hxl]
  by_cases h1 : j < i * 2
  · rw [← hf j h1]
    simp only [h1, show j < (n + 1) * 2 by omega, if_true]
    repeat (first | rw [if_pos Cb] | rw [if_neg Cb])
  · by_cases h2 : j < i * 2 + 2
    · simp only [show j < (n + 1) * 2 by omega, if_true]
      exact Cp
    · by_cases h3 : j < (n + 1) * 2
      · simp only [h3, if_true]
        exact Cp
      · rw [if_neg h3]
        exact Cq
theorem ins_grow (g o n c i : Nat) (xs news : List Value) (vb : Nat) (base : Nat) (w : World) (hrow : Row w base 175 2 (some ⟨g, o, none⟩) n c xs) (hn : n ≤ 1000000) (hi : i < n) (hroom : c < n + 1)
    (hv : w.heap[vb]? = some (.cells news.toArray 175 (0, 0))) (hnl : news.length = 2) (h1 : ∀ v ∈ news, v.oneCell' = true) (hx1 : ∀ v ∈ xs, v.oneCell' = true) (hbase : base ≤ w.heap.size) :
    Calls Tryz.prog 172 #[.slice (some ⟨g, o, none⟩) n c, .int .i64 i, .slice (some ⟨vb, 0, none⟩) 1 1] w (InsPost base (some ⟨g, o, none⟩) n (xs.take (i * 2) ++ (news ++ xs.drop (i * 2))) w) := by
  obtain ⟨g', o', cur, he, hbg, hlt, hg, hnc, hcm, hfit, hcur, hcell, _⟩ := hrow.some_ Cb
  injection he with he; injection he with e1 e2
  subst e1; subst e2
  obtain ⟨i0, hi0, hz0, hz1, hz2⟩ := info_parts msg_info
  obtain rfl : c = n := by omega
  have hxl := hrow.1
  have hdl : (xs.drop (i * 2)).length = (c - i) * 2 := by rw [List.length_drop, hxl]; omega
  have htl : (xs.take (i * 2)).length = i * 2 := by rw [List.length_take, hxl]; omega
  have hkk : (((c + 1 - i : Nat)) : Int) = (c : Int) + 1 - (i : Int) := by omega
  have hrun := Lib.run_append_grow_zeros (P := Tryz.prog) w 170 3 170 175 i0 _ .i64 .i64 Tryz.underlying170 Tryz.underlying3 hi0 hz0 (some ⟨g, o, none⟩) i c (xs.take (i * 2))
    (run_firstCells_some (P := Tryz.prog) w.drew i0.size i _ i c (xs.take (i * 2)) (by rw [hz1, htl]) (fun j u hu => by rw [addr_add]; rw [List.getElem?_take] at hu; split at hu; (· exact hcell j u hu); (· cases hu))) (c + 1 - i) Cb Cb Cb Cb (by rw [hz2]; omega)
    (Nat.le_trans (Nat.mul_le_mul_right _ (nextslicecap_le Cb)) (by rw [hz2]; omega))
  rw [hkk, show i + (c + 1 - i) = c + 1 by omega] at hrun
  have hge := grownCap_ge w (c + 1) c 175
  have hGm := grownCap_le_maxLen w (c + 1) c 175 Bv
  have hcells : ((xs.take (i * 2)).toArray ++ Builtin.zeroCells (Value.agg #[.int .i64 0, .string ⟨#[]⟩]).cells (c + 1 - i) ++ Builtin.zeroCells (Value.agg #[.int .i64 0, .string ⟨#[]⟩]).cells (grownCap w (c + 1) c 175 - (c + 1))).size = grownCap w (c + 1) c 175 * 2 := by
    simp only [Array.size_append, size_zeroCells, List.size_toArray, htl, show (Value.agg #[.int .i64 0, .string ⟨#[]⟩]).cells.size = 2 from rfl]
    omega
  have hfirst : ∀ j, j < i * 2 → ((xs.take (i * 2)).toArray ++ Builtin.zeroCells (Value.agg #[.int .i64 0, .string ⟨#[]⟩]).cells (c + 1 - i) ++ Builtin.zeroCells (Value.agg #[.int .i64 0, .string ⟨#[]⟩]).cells (grownCap w (c + 1) c 175 - (c + 1))).toList[j]? = xs[j]? := fun j hj => by
    simp only [Array.toList_append]
    rw [List.append_assoc, List.getElem?_append_left (by rw [htl]; exact hj), List.getElem?_take, if_pos hj]
  generalize ((xs.take (i * 2)).toArray ++ Builtin.zeroCells (Value.agg #[.int .i64 0, .string ⟨#[]⟩]).cells (c + 1 - i) ++ Builtin.zeroCells (Value.agg #[.int .i64 0, .string ⟨#[]⟩]).cells (grownCap w (c + 1) c 175 - (c + 1))) = Z at hrun hcells hfirst
  generalize grownCap w (c + 1) c 175 = G at hrun hcells hge hGm
  unfold maxLen at hcm hGm
  have b1 : ¬ (G = i + 1) := by omega
  have b2 : ¬ (G = i) := by omega
  have b2' : ¬ (c = i) := by omega
  have b3 : (i : Int) ≤ (c : Int) := by omega
  have b4 : (i : Int) + 1 ≤ (c : Int) + 1 := by omega
  have b5 : (i : Int) ≤ (c : Int) + 1 := by omega
  have b6 : (c : Int) + 1 ≤ (G : Int) := by omega
  have b7 : ((i : Int) == (c : Int)) = false := by rw [beq_eq_false_iff_ne]; omega
  have b8 : (0 : Int) ≤ (i : Int) + 1 := by omega
  have b9 : (0 : Int) ≤ (c : Int) + 1 := by omega
  have w1 : IntKind.i64.wrap ((i : Int) + 1) = (i : Int) + 1 := IntWalk.i64_in _ Cb
  have w2 : IntKind.i64.wrap ((c : Int) + 1) = (c : Int) + 1 := IntWalk.i64_in _ Cb
  have w3 : IntKind.i64.wrap ((c : Int) + 1 - (i : Int)) = (c : Int) + 1 - (i : Int) := IntWalk.i64_in _ Cb
  have t1 : ((i : Int) + 1).toNat = i + 1 := by omega
  have t2 : ((c : Int) + 1).toNat = c + 1 := by omega
  have HX := Lib.hid hcur
  have HL := Lib.hid hnl
  have HC := Lib.hid hcell
  have HG := Lib.hid hg
  have HV := Lib.hid hv
  have HXL := Lib.hid hxl
  have HD := Lib.hid hdl
  have HR := Lib.hid hrun
  have HZ := Lib.hid hcells
  have HF := Lib.hid hfirst
  clear hcur hnl hcell hg hv hxl hdl hrow hrun hcells hfirst hkk htl
  go_enter Tryz.func172, Tryz.ntmps172
  go_wp2_with (first | (at_builtin; refine Lib.wpList_append_run _ rfl (.tmp 34) (.tmp 39) _ _ rfl _ _ rfl rfl _ _ HR.out ?_) | (refine wpList_copy_rowS rfl (.tmp 43) (.tmp 44) _ _ rfl 175 Tryz.underlying170 2 msg_size w.heap.size (i * 2) (c + 1 - i) (G - i) ⟨vb, 0, none⟩ 1 1 rfl rfl _ _ (by first | exact heap_new w _ | exact heap_new w.drew _) news 1 (by show _ = min _ _; omega) (by rw [HL.out]) (fun j v hj => by rw [addr_add, Nat.zero_add]; exact blk_cell ((Below.heap_alloc w.drew _ vb (lt_of_block HV.out)).trans HV.out) j hj) (by rw [HL.out, HZ.out]; omega) h1 ?_; intro wA hG1 hg1))
  have hG1' := hG1.out
  have hs1 := hg1.size; try simp at hs1
  have hO1 := (hg1.block g C6 C6).trans ((Below.heap_alloc w.drew _ g hlt).trans HG.out)
  have hsz : (splice Z.toList (i * 2) news).length = G * 2 := by rw [length_splice _ _ _ (by rw [HL.out]; simp [HZ.out]; omega)]; simp [HZ.out]
  have HO1 := Lib.hid hO1
  have HG1 := Lib.hid hG1'
  have HSZ := Lib.hid hsz
  clear hG1 hG1' hO1 hsz
  go_wp2_with fail
  go_region_law (refine step_copy_rowS rfl (.tmp 50) (.tmp 53) _ _ rfl 175 Tryz.underlying170 2 msg_size w.heap.size ((i + 1) * 2) (c + 1 - (i + 1)) (G - (i + 1)) ⟨g, o + i * 2, none⟩ (c - i) (c - i) Bp Bp _ _ HG1.out (xs.drop (i * 2)) (c - i) (by show _ = min _ _; omega) HD.out (fun j v hj => by rw [addr_add, Nat.add_assoc]; have := HC.out _ _ (by rwa [List.getElem?_drop] at hj); exact (World.cell?_of_block (w := w) (w' := wA) (a := ⟨g, o + (i * 2 + j), none⟩) (HO1.out.trans HG.out.symm)).trans this) (by rw [List.size_toArray, HSZ.out, HD.out]; omega) (fun v hv => hx1 v (List.mem_of_mem_drop hv)) ?_; intro wB hG2 hg2)
  go_wp2_with fail
  go_ret
  have hs2 := hg2.size
  refine ⟨some ⟨w.heap.size, 0, none⟩, G, rfl, Row.of_block hG2.out hbase Cb Bv ?_ ?_, ⟨hg2.os.trans hg1.os, hg2.tape.trans hg1.tape, hg2.output.trans hg1.output, by have : w.heap.size + 1 ≤ wB.heap.size := Nat.le_trans hs1 hg2.size; omega, fun k hk hne => (hg2.block k (by show k < wA.heap.size; omega) C6).trans ((hg1.block k C6 C6).trans (Below.heap_alloc w.drew _ k hk))⟩, .inr ⟨_, rfl, Nat.le_refl _⟩⟩
  · rw [List.size_toArray, length_splice _ _ _ (by rw [List.toList_toArray, HSZ.out, HD.out]; omega), List.toList_toArray, HSZ.out]; omega
  · simp only [List.toList_toArray]
    exact drop_grow Z.toList i c xs news HF.out hi HL.out (by simp [HZ.out]; omega) HXL.out
theorem ins_any (A : Option Addr) (n c i : Nat) (xs news : List Value) (vb : Nat) (base : Nat) (w : World) (hrow : Row w base 175 2 A n c xs) (hn : n ≤ 1000000) (hi : i ≤ n)
    (hv : w.heap[vb]? = some (.cells news.toArray 175 (0, 0))) (hnl : news.length = 2) (h1 : ∀ v ∈ news, v.oneCell' = true) (hx1 : ∀ v ∈ xs, v.oneCell' = true) (hne : blkOf A ≠ some vb) (hbase : base ≤ w.heap.size) :
    Calls Tryz.prog 172 #[.slice A n c, .int .i64 i, .slice (some ⟨vb, 0, none⟩) 1 1] w (InsPost base A n (xs.take (i * 2) ++ (news ++ xs.drop (i * 2))) w) := by
  rcases Nat.lt_or_ge i n with h | h
  · obtain ⟨g, o, cur, rfl, _⟩ := hrow.some_ Cb
    rcases Nat.lt_or_ge c (n + 1) with hc | hc
    · exact ins_grow g o n c i xs news vb base w hrow hn h hc hv hnl h1 hx1 hbase
    · exact ins_room g o n c i xs news vb base w hrow hn h hc hv hnl h1 hx1 (fun e => hne (by rw [e]; rfl))
  · obtain rfl : i = n := by omega
    have := ins_end A i c xs news vb base w hrow hn hv hnl h1 hbase
    rw [List.take_of_length_le (by rw [hrow.1]; omega), List.drop_eq_nil_of_le (by rw [hrow.1]; omega), List.append_nil]
    exact this
end Go.Proofs.YtdocdgcdldpagaaGreat
namespace Go.Proofs.YtdocdgcdldpagaaGreat
open Go.RowKit
set_option maxHeartbeats 4000000
set_option maxRecDepth 100000
set_option linter.unusedSimpArgs false
set_option linter.unusedVariables false
attribute [local go_sem ↓] Go.wp_at_zero Go.wp_at_succ
def mcell (m : Lnk.Msg) : List Value := [.int .i64 m.1, .string (strOfNums m.2)]
def mcells (l : List Lnk.Msg) : List Value := l.flatMap mcell
theorem mcells_cons (m : Lnk.Msg) (l : List Lnk.Msg) : mcells (m :: l) = .int .i64 m.1 :: .string (strOfNums m.2) :: mcells l := rfl
theorem mcells_append (l k : List Lnk.Msg) : mcells (l ++ k) = mcells l ++ mcells k := List.flatMap_append
theorem mcells_at : ∀ (l : List Lnk.Msg) (j : Nat) (h : j < l.length), (mcells l)[j * 2]? = some (.int .i64 l[j].1) ∧ (mcells l)[j * 2 + 1]? = some (.string (strOfNums l[j].2))
  | m :: l, 0, h => ⟨rfl, rfl⟩
  | m :: l, j + 1, h => by
    have := mcells_at l j C4
    rw [mcells_cons, show (j + 1) * 2 = j * 2 + 1 + 1 by omega]
    simpa using this
theorem mcells_take : ∀ (l : List Lnk.Msg) (j : Nat), (mcells l).take (j * 2) = mcells (l.take j)
  | [], j => by simp [mcells]
  | m :: l, 0 => by simp [mcells]
  | m :: l, j + 1 => by
    rw [mcells_cons, show (j + 1) * 2 = j * 2 + 1 + 1 by omega, List.take_succ_cons, List.take_succ_cons, mcells_take l j, List.take_succ_cons, mcells_cons]
theorem mcells_drop : ∀ (l : List Lnk.Msg) (j : Nat), (mcells l).drop (j * 2) = mcells (l.drop j)
  | [], j => by simp [mcells]
  | m :: l, 0 => by simp [mcells]
  | m :: l, j + 1 => by
    rw [mcells_cons, show (j + 1) * 2 = j * 2 + 1 + 1 by omega, List.drop_succ_cons, List.drop_succ_cons, mcells_drop l j, List.drop_succ_cons]
theorem mcells_one (l : List Lnk.Msg) : ∀ v ∈ mcells l, v.oneCell' = true := by
  intro v hv
  simp only [mcells, List.mem_flatMap] at hv
  obtain ⟨m, _, hm⟩ := hv
  simp [mcell] at hm
  rcases hm with rfl | rfl <;> rfl
def lkl (r : Lnk.Ru) (s : Lnk.St) (A : Option Addr) (c : Nat) : List Value := [.bool true, .int .i64 r.loss, .int .i64 r.twice, .int .i64 r.least, .int .i64 r.most, .int .i64 r.seed, .int .u64 s.x, .int .i64 s.now, .slice A s.u.length c, .int .i64 s.sent, .int .i64 s.lost, .int .i64 s.dbl]
structure IsLk (w : World) (base b : Nat) (A : Option Addr) (c : Nat) (r : Lnk.Ru) (s : Lnk.St) : Prop where
  blk : w.heap[b]? = some (.cells (lkl r s A c).toArray 172 (0, 0))
  row : Row w base 175 2 A s.u.length c (mcells (Lnk.srt s.u))
  ge : base ≤ b
def Two (b : Nat) (A : Option Addr) (i : Nat) : Prop := i = b ∨ blkOf A = some i
section
variable {w w' : World} {base b c : Nat} {A : Option Addr} {r : Lnk.Ru} {s : Lnk.St}
theorem IsLk.ne (h : IsLk w base b A c r s) {g : Nat} (hg : blkOf A = some g) : g ≠ b := by
  rintro rfl
  rcases h.row.2 with ⟨rfl, _⟩ | ⟨g', o, cur, rfl, _, hh, _⟩
  · cases hg
  · simp [blkOf] at hg
    subst hg
    rw [h.blk] at hh
    injection hh with hh
    injection hh with _ ht
    exact absurd ht C8
theorem IsLk.lt (h : IsLk w base b A c r s) : b < w.heap.size := lt_of_block h.blk
theorem IsLk.kept {S : Nat → Prop} (h : IsLk w base b A c r s) (k : Keeps S w w') (hS : ∀ i, Two b A i → ¬ S i) : IsLk w' base b A c r s :=
  ⟨blk_keep h.blk k (hS b (.inl rfl)), h.row.kept k (fun g hg => hS g (.inr hg)), h.ge⟩
theorem IsLk.below {B : Nat} (h : IsLk w base b A c r s) (k : Below B w w') (hB : w.heap.size ≤ B) : IsLk w' base b A c r s :=
  h.kept (S := fun _ => False) ⟨k.os, k.tape, k.output, k.size, fun i hi _ => k.block i Cb⟩ (fun _ _ h => h)
theorem IsLk.alloc (h : IsLk w base b A c r s) (o : Obj) : IsLk (w.alloc o) base b A c r s := ⟨blk_alloc h.blk o, h.row.alloc o, h.ge⟩
theorem IsLk.drew (h : IsLk w base b A c r s) : IsLk w.drew base b A c r s := ⟨h.blk, h.row, h.ge⟩
theorem IsLk.drewN (h : IsLk w base b A c r s) (k : Nat) : IsLk (w.drewN k) base b A c r s := ⟨h.blk, h.row, h.ge⟩
theorem IsLk.far (h : IsLk w base b A c r s) {p : Addr} (hp : ∀ i, Two b A i → i ≠ p.block) (u : Value) : IsLk (w.setCell p u) base b A c r s :=
  ⟨blk_far h.blk (hp b (.inl rfl)) u, h.row.far (fun g hg => hp g (.inr hg)) u, h.ge⟩
theorem IsLk.two (h : IsLk w base b A c r s) : ∀ i, Two b A i → i < w.heap.size := by
  rintro i (rfl | hi)
  · exact h.lt
  · exact (h.row.lt hi).2
theorem IsLk.two_ge (h : IsLk w base b A c r s) : ∀ i, Two b A i → base ≤ i := by
  rintro i (rfl | hi)
  · exact h.ge
  · exact (h.row.lt hi).1
end
theorem Cs {p : Prop} (h : p := by
  have c0 := blk_cell h 0 h0
  clear h h0
  go_enter Tryz.func128, Tryz.ntmps128
  go_wp2_with fail
  go_ret
  exact ⟨rfl, rfl⟩
 ) : p := h
theorem none_made (b : Nat) (cs : List Value) (w : World) (h : w.heap[b]? = some (.cells cs.toArray 172 (0, 0))) (h0 : cs[0]? = some (.bool true)) :
    Calls Tryz.prog 128 #[.pointer (some ⟨b, 0, none⟩)] w fun e w' => e = .returned (.bool false) ∧ w = w' := by
  exact Cs
theorem none_zero (b : Nat) (cs : List Value) (w : World) (h : w.heap[b]? = some (.cells cs.toArray 172 (0, 0))) (h0 : cs[0]? = some (.bool false)) :
    Calls Tryz.prog 128 #[.pointer (some ⟨b, 0, none⟩)] w fun e w' => e = .returned (.bool true) ∧ w = w' := by
  exact Cs
theorem nx_two (x : Int) : IntKind.u64.wrap (IntKind.u64.wrap (6364136223846793005 * x) + 1442695040888963407) = Lnk.nx x := by
  unfold Lnk.nx
  simp only [IntKind.wrap_u64]
  omega
theorem draw_any (b : Nat) (x lim : Int) (w : World) (hc : w.cell? ⟨b, 6, none⟩ = some (.int .u64 x)) (hf : w.frozen? ⟨b, 6, none⟩ = false) (hl : 0 < lim) (hl2 : lim ≤ 1000000) :
    Calls Tryz.prog 152 #[.pointer (some ⟨b, 0, none⟩), .int .i64 lim] w fun e w' => e = .returned (.int .i64 (Lnk.dr x % lim)) ∧ w' = w.setCell ⟨b, 6, none⟩ (.int .u64 (Lnk.nx x)) := by
  have N := Lib.hid (nx_two x)
  go_enter Tryz.func152, Tryz.ntmps152
  go_wp2_with fail
  go_ret
  rw [N.out]
  refine ⟨ret_int ?_, rfl⟩
  have := Lnk.dr_bd x
  unfold Lnk.dr at this ⊢
  rw [IntWalk.wrap64_in _ ⟨by omega, by omega⟩, Int.tmod_eq_emod_of_nonneg this.1]
theorem draw_lk (base b c : Nat) (A : Option Addr) (r : Lnk.Ru) (s : Lnk.St) (lim : Int) (w : World) (h : IsLk w base b A c r s) (hl : 0 < lim) (hl2 : lim ≤ 1000000) :
    Calls Tryz.prog 152 #[.pointer (some ⟨b, 0, none⟩), .int .i64 lim] w fun e w' => e = .returned (.int .i64 (Lnk.dr s.x % lim)) ∧ w' = w.setCell ⟨b, 6, none⟩ (.int .u64 (Lnk.nx s.x)) ∧ IsLk w' base b A c r { s with x := Lnk.nx s.x } := by
  refine (draw_any b s.x lim w (blk_cell h.blk 6 rfl) (blk_free h.blk 6) hl hl2).mono ?_
  rintro e w' ⟨rfl, rfl⟩
  refine ⟨rfl, rfl, ?_, h.row.far (fun g hg => h.ne hg) _, h.ge⟩
  have := blk_set h.blk 6 (.int .u64 (Lnk.nx s.x))
  rw [List.setIfInBounds_toArray] at this
  exact this
theorem mcells_put (r : Lnk.Ru) (s : Lnk.St) (m : Lnk.Msg) {i : Nat} (hi : i ≤ s.u.length) (h1 : ∀ (h : 0 < i), ∀ x, (Lnk.srt s.u)[i - 1]? = some x → x.1 ≤ m.1) (h2 : ∀ j x, (Lnk.srt s.u)[j]? = some x → i ≤ j → m.1 < x.1) :
    (mcells (Lnk.srt s.u)).take (i * 2) ++ (mcell m ++ (mcells (Lnk.srt s.u)).drop (i * 2)) = mcells (Lnk.srt (s.u ++ [m])) := by
  rw [Lnk.srt_snoc, Lnk.ins_find (Lnk.sorted_srt s.u) (i := i) (by rw [Lnk.length_srt]; exact hi) (fun h => h1 h _ (List.getElem?_eq_getElem Bm)) (fun j h hj => h2 j _ (List.getElem?_eq_getElem h) hj),
    mcells_take, mcells_drop, mcells_append]
  rfl
end Go.Proofs.YtdocdgcdldpagaaGreat

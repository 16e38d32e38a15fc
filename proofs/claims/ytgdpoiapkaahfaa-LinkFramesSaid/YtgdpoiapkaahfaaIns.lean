/- slices.Insert of one message. -/
import Derived.Test.YtgdpoiapkaahfaaRw
import Derived.Lib.Overlaps
import Derived.Laws.Externs
import Derived.Deep.DrawnRows
namespace Go.Proofs.Ytgdpoiapkaahfaa
open Go.RowKit
set_option maxHeartbeats 4000000
set_option maxRecDepth 100000
set_option linter.unusedSimpArgs false
set_option linter.unusedVariables false
attribute [local go_sem ↓] Go.wp_at_zero Go.wp_at_succ
section
variable {P : Program} {w : World}
theorem wp_copy_rowS {o : Oper} {a : Act} {K : Act → World → Prop} {Q : Exit → Act → World → Prop} (d s : Operand) (dT sT : TypeId)
    (ho : o.op = .call { callee := .builtin .copy, args := #[d, s], argTypes := #[dT, sT] }) (elem : TypeId) (hu : P.underlying dT = some (.slice elem)) (size : Nat) (hsz : (P.info? elem).map (·.size) = some size)
    (g off dLen dCap : Nat) (ad : Addr) (sLen sCap : Nat) (hd : a.eval d = .slice (some ⟨g, off, none⟩) dLen dCap) (hs : a.eval s = .slice (some ad) sLen sCap)
    (cur : Array Value) (t : TypeId) (hg : w.heap[g]? = some (.cells cur t (0, 0))) (cs : List Value) (k : Nat) (hk : k = Nat.min sLen dLen) (hn : cs.length = k * size)
    (hsrc : ∀ j v, cs[j]? = some v → w.cell? (ad.add j) = some v) (hfit : off + cs.length ≤ cur.size) (h1 : ∀ v ∈ cs, v.oneCell' = true)
    (h : ∀ w', Hid (w'.heap[g]? = some (.cells (splice cur.toList off cs).toArray t (0, 0))) → w.grownBy w' (some g) → K (a.put o.dst (goInt k)) w') : o.wp P a w K Q := by
  have hr := run_copy_rowS (P := P) w dT sT o.type elem size g off dLen dCap ad sLen sCap cur t cs hu hsz hg k hk hn hsrc hfit h1
  unfold Oper.wp execOp
  simp only [ho, resolve, invoke, builtin, Sem.run_bind, Sem.run_pure, Result.andThen_ok, List.map_toArray, List.map_cons, List.map_nil, hd, hs, hr]
  exact h _ (setRow_heap w g cur _ t _ hg) ⟨rfl, rfl, rfl, by simp [World.setRow], fun j _ hj => setRow_other w g j _ (fun e => hj (by rw [e]))⟩
theorem wpList_copy_rowS {ops : Array Oper} {rest : List Oper} {o : Oper} {a : Act} {Q : Exit → Act → World → Prop} (hgd : o.guard = none) (d s : Operand) (dT sT : TypeId)
    (ho : o.op = .call { callee := .builtin .copy, args := #[d, s], argTypes := #[dT, sT] }) (elem : TypeId) (hu : P.underlying dT = some (.slice elem)) (size : Nat) (hsz : (P.info? elem).map (·.size) = some size)
    (g off dLen dCap : Nat) (ad : Addr) (sLen sCap : Nat) (hd : a.eval d = .slice (some ⟨g, off, none⟩) dLen dCap) (hs : a.eval s = .slice (some ad) sLen sCap)
    (cur : Array Value) (t : TypeId) (hg : w.heap[g]? = some (.cells cur t (0, 0))) (cs : List Value) (k : Nat) (hk : k = Nat.min sLen dLen) (hn : cs.length = k * size)
    (hsrc : ∀ j v, cs[j]? = some v → w.cell? (ad.add j) = some v) (hfit : off + cs.length ≤ cur.size) (h1 : ∀ v ∈ cs, v.oneCell' = true)
    (h : ∀ w', Hid (w'.heap[g]? = some (.cells (splice cur.toList off cs).toArray t (0, 0))) → w.grownBy w' (some g) → wpList P ops Q rest (a.put o.dst (goInt k)) w') : wpList P ops Q (o :: rest) a w :=
  wpList_plain hgd fun _ hK => wp_copy_rowS d s dT sT ho elem hu size hsz g off dLen dCap ad sLen sCap hd hs cur t hg cs k hk hn hsrc hfit h1 fun w' a b => hK _ _ (h w' a b)
theorem step_copy_rowS {ops : Array Oper} {o : Oper} {a : Act} {K : Act → World → Prop} {Q : Exit → Act → World → Prop} {E : Prop} (hgd : o.guard = none) (d s : Operand) (dT sT : TypeId)
    (ho : o.op = .call { callee := .builtin .copy, args := #[d, s], argTypes := #[dT, sT] }) (elem : TypeId) (hu : P.underlying dT = some (.slice elem)) (size : Nat) (hsz : (P.info? elem).map (·.size) = some size)
    (g off dLen dCap : Nat) (ad : Addr) (sLen sCap : Nat) (hd : a.eval d = .slice (some ⟨g, off, none⟩) dLen dCap) (hs : a.eval s = .slice (some ad) sLen sCap)
    (cur : Array Value) (t : TypeId) (hg : w.heap[g]? = some (.cells cur t (0, 0))) (cs : List Value) (k : Nat) (hk : k = Nat.min sLen dLen) (hn : cs.length = k * size)
    (hsrc : ∀ j v, cs[j]? = some v → w.cell? (ad.add j) = some v) (hfit : off + cs.length ≤ cur.size) (h1 : ∀ v ∈ cs, v.oneCell' = true)
    (h : ∀ w', Hid (w'.heap[g]? = some (.cells (splice cur.toList off cs).toArray t (0, 0))) → w.grownBy w' (some g) → K (a.put o.dst (goInt k)) w') :
    if Region.wanted o (yielded ops a.tmps) = true then Oper.wp P o a w K Q else E := by
  have hw : Region.wanted o (yielded ops a.tmps) = true := by simp [Region.wanted, hgd]
  rw [if_pos hw]
  exact wp_copy_rowS d s dT sT ho elem hu size hsz g off dLen dCap ad sLen sCap hd hs cur t hg cs k hk hn hsrc hfit h1 h
end
theorem msg_info : (Try.prog.info? 87).map (fun i => (i.zero, i.size, i.bytes)) = some (some (.agg #[.int .i64 0, .string ⟨#[]⟩]), 2, 24) := by kernel_rfl
theorem msg_size : (Try.prog.info? 87).map (·.size) = some 2 := by kernel_rfl
theorem msg_sizeOf : ∀ w, (Go.sizeOf 87).run Try.prog w = .ok 2 w := fun w => by kernel_rfl
/-- what Insert gives -/
def InsPost (base : Nat) (A : Option Addr) (n : Nat) (ys : List Value) (w : World) (e : Ending) (w' : World) : Prop :=
  ∃ A' c', e = .returned (.slice A' (n + 1) c') ∧ Row w' base 87 2 A' (n + 1) c' ys ∧ w.grownBy w' (blkOf A) ∧ (blkOf A' = blkOf A ∨ ∃ g, blkOf A' = some g ∧ w.heap.size ≤ g)
theorem splice_end {α : Type} (L : List α) (o : Nat) (xs ys : List α) (h : (L.drop o).take xs.length = xs) (hL : o + xs.length + ys.length ≤ L.length) : ((splice L (o + xs.length) ys).drop o).take (xs.length + ys.length) = xs ++ ys := by
  simp only [splice]
  rw [List.drop_append_of_le_length (by rw [List.length_take]; omega), List.drop_take, show o + xs.length - o = xs.length by omega, h, ← List.append_assoc, List.take_append_of_le_length (by simp), List.take_of_length_le (by simp)]
theorem ins_end (A : Option Addr) (n c : Nat) (xs news : List Value) (vb : Nat) (base : Nat) (w : World) (hrow : Row w base 87 2 A n c xs) (hn : n ≤ 1000000)
    (hv : w.heap[vb]? = some (.cells news.toArray 87 (0, 0))) (hnl : news.length = 2) (h1 : ∀ v ∈ news, v.oneCell' = true) (hbase : base ≤ w.heap.size) :
    Calls Try.prog 48 #[.slice A n c, .int .i64 n, .slice (some ⟨vb, 0, none⟩) 1 1] w (InsPost base A n (xs ++ news) w) := by
  obtain ⟨i0, hi0, hz0, hz1, hz2⟩ := info_parts msg_info
  have hle := hrow.le
  obtain ⟨hle1, hle2⟩ := hle
  unfold maxLen at hle2
  have HR := Lib.hid hrow
  have HV := Lib.hid hv
  have HL := Lib.hid hnl
  clear hv hrow hnl
  cases A with
  | none =>
    rcases HR.out.2 with ⟨_, h0, h00⟩ | ⟨g, o, cur, he, _⟩
    · subst h0; subst h00
      go_enter Try.func48, Try.ntmps48
      go_wp2_with (at_builtin; refine wpList_append_row rfl (.tmp 23) (.tmp 24) _ rfl base 87 i0 _ 2 24 Try.underlying75 hi0 hz0 hz1 hz2 rfl none 0 0 xs rfl HR.out ⟨vb, 0, none⟩ 1 1 news rfl (by rw [HL.out]) (fun j u hu => by rw [addr_add, Nat.zero_add]; exact blk_cell HV.out j hu) h1 (by omega) (by unfold maxLen; omega) (by omega) hbase ?_; intro A' c' w' hown hg hat)
      go_ret
      exact ⟨A', c', rfl, hown, hg, hat.imp id (fun h => ⟨_, h, Nat.le_refl _⟩)⟩
    · cases he
  | some ad =>
    by_cases hcn : c = n
    all_goals
      first | subst hcn | skip
      go_enter Try.func48, Try.ntmps48
      go_wp2_with (at_builtin; refine wpList_append_row rfl (.tmp 23) (.tmp 24) _ rfl base 87 i0 _ 2 24 Try.underlying75 hi0 hz0 hz1 hz2 rfl (some ad) _ _ xs rfl HR.out ⟨vb, 0, none⟩ 1 1 news rfl (by rw [HL.out]) (fun j u hu => by rw [addr_add, Nat.zero_add]; exact blk_cell HV.out j hu) h1 (by omega) (by unfold maxLen; omega) (by omega) hbase ?_; intro A' c' w' hown hg hat)
      go_ret
      exact ⟨A', c', rfl, hown, hg, hat.imp id (fun h => ⟨_, h, Nat.le_refl _⟩)⟩
theorem drop_two {α : Type} (cur : List α) (o i n : Nat) (xs news : List α) (hx : (cur.drop o).take (n * 2) = xs) (hin : i < n) (hn : news.length = 2) (hL : o + (n + 1) * 2 ≤ cur.length) (hxl : xs.length = n * 2) :
    ((splice (splice cur (o + (i + 1) * 2) (xs.drop (i * 2))) (o + i * 2) news).drop o).take ((n + 1) * 2) = xs.take (i * 2) ++ (news ++ xs.drop (i * 2)) := by
  have hd : (xs.drop (i * 2)).length = (n - i) * 2 := by rw [List.length_drop, hxl]; omega
  apply List.ext_getElem?
  intro j
  simp only [splice, List.getElem?_take, List.getElem?_drop, List.getElem?_append, List.length_take, List.length_append, List.length_drop, hn, hd, hxl]
  have hxj : ∀ j, j < n * 2 → xs[j]? = cur[o + j]? := fun j hj => by rw [← hx, List.getElem?_take, if_pos hj, List.getElem?_drop]
  by_cases h1 : j < i * 2
  · rw [hxj j (by omega)]
    simp only [h1, show j < (n + 1) * 2 by omega, if_true]
    repeat (first | rw [if_pos (by omega)] | rw [if_neg (by omega)])
  · by_cases h2 : j < i * 2 + 2
    · simp only [show j < (n + 1) * 2 by omega, if_true]
      repeat (first | rw [if_pos (by omega)] | rw [if_neg (by omega)])
      congr 1
      omega
    · by_cases h3 : j < (n + 1) * 2
      · simp only [h3, if_true]
        repeat (first | rw [if_pos (by omega)] | rw [if_neg (by omega)])
        congr 1
        omega
      · rw [if_neg h3]
        repeat (first | rw [if_pos (by omega)] | rw [if_neg (by omega)])
        symm
        rw [List.getElem?_eq_none]
        omega
theorem ins_room (g o n c i : Nat) (xs news : List Value) (vb : Nat) (base : Nat) (w : World) (hrow : Row w base 87 2 (some ⟨g, o, none⟩) n c xs) (hn : n ≤ 1000000) (hi : i < n) (hroom : n + 1 ≤ c)
    (hv : w.heap[vb]? = some (.cells news.toArray 87 (0, 0))) (hnl : news.length = 2) (h1 : ∀ v ∈ news, v.oneCell' = true) (hx1 : ∀ v ∈ xs, v.oneCell' = true) (hne : vb ≠ g) :
    Calls Try.prog 48 #[.slice (some ⟨g, o, none⟩) n c, .int .i64 i, .slice (some ⟨vb, 0, none⟩) 1 1] w (InsPost base (some ⟨g, o, none⟩) n (xs.take (i * 2) ++ (news ++ xs.drop (i * 2))) w) := by
  obtain ⟨g', o', cur, he, hbg, hlt, hg, hnc, hcm, hfit, hcur, hcell, _⟩ := hrow.some_ (by omega)
  injection he with he; injection he with e1 e2
  subst e1; subst e2
  have hxl := hrow.1
  have hsv : w.shape? vb = some (87, 2) := by simp [World.shape?, hv, hnl]
  have hsg : w.shape? g = some (87, cur.size) := by simp [World.shape?, hg]
  have hov : ∀ lb cb, (callFunc 52 #[.slice (some ⟨vb, 0, none⟩) 1 1, .slice (some ⟨g, o + (i + 1) * 2, none⟩) lb cb]).run Try.prog w = .ok (.value (.bool false)) w := fun lb cb => by
    rw [run_callFunc_extern Try.func52 (by kernel_rfl) (by kernel_rfl) (by kernel_rfl) (e := Extern.SlicesOverlaps.overlaps #[75, 75] #[4]) (by kernel_rfl),
      Lib.run_overlaps_apart w 75 4 87 Try.underlying75 2 msg_sizeOf ⟨vb, 0, none⟩ ⟨g, o + (i + 1) * 2, none⟩ 1 1 lb cb hne 87 87 2 cur.size hsv hsg (by omega) (blk_free hv 0) (blk_free hv 2)]
    rfl
  have hdl : (xs.drop (i * 2)).length = (n - i) * 2 := by rw [List.length_drop, hxl]; omega
  unfold maxLen at hcm
  have b1 : ¬ (c = i + 1) := by omega
  have b2 : ¬ (c = i) := by omega
  have b3 : (i : Int) ≤ (n : Int) := by omega
  have b4 : (i : Int) + 1 ≤ (n : Int) + 1 := by omega
  have b5 : (i : Int) ≤ (n : Int) + 1 := by omega
  have b6 : (n : Int) + 1 ≤ (c : Int) := by omega
  have b7 : ((i : Int) == (n : Int)) = false := by rw [beq_eq_false_iff_ne]; omega
  have b8 : (0 : Int) ≤ (i : Int) + 1 := by omega
  have b9 : (0 : Int) ≤ (n : Int) + 1 := by omega
  have w1 : IntKind.i64.wrap ((i : Int) + 1) = (i : Int) + 1 := IntWalk.i64_in _ (by omega)
  have w2 : IntKind.i64.wrap ((n : Int) + 1) = (n : Int) + 1 := IntWalk.i64_in _ (by omega)
  have t1 : ((i : Int) + 1).toNat = i + 1 := by omega
  have t2 : ((n : Int) + 1).toNat = n + 1 := by omega
  have HX := Lib.hid hcur
  have HL := Lib.hid hnl
  have HC := Lib.hid hcell
  have HG := Lib.hid hg
  have HV := Lib.hid hv
  have HXL := Lib.hid hxl
  have HD := Lib.hid hdl
  clear hcur hnl hcell hg hv hxl hdl hsv hsg hrow
  go_enter Try.func48, Try.ntmps48
  go_wp2_with (simp only [hov])
  go_region_law (refine step_copy_rowS rfl (.tmp 73) (.tmp 76) _ _ rfl 87 Try.underlying75 2 msg_size g (o + (i + 1) * 2) (n + 1 - (i + 1)) (c - (i + 1)) ⟨g, o + i * 2, none⟩ (n + 1 - i) (c - i) (by simp [Act.eval, Act.put]) (by simp [Act.eval, Act.put]) cur _ HG.out (xs.drop (i * 2)) (n - i) (by show _ = min _ _; omega) HD.out (fun j v hj => by rw [addr_add, Nat.add_assoc]; exact HC.out _ _ (by rwa [List.getElem?_drop] at hj)) (by rw [HD.out]; omega) (fun v hv => hx1 v (List.mem_of_mem_drop hv)) ?_; intro wA hG1 hg1)
  have hG1' := hG1.out
  have hV1 := (hg1.block vb (lt_of_block HV.out) (by simp; omega)).trans HV.out
  have e1 : (xs.drop (i * 2)).length = (n - i) * 2 := HD.out
  have e2 : news.length = 2 := HL.out
  have hsz : (splice cur.toList (o + (i + 1) * 2) (xs.drop (i * 2))).length = cur.size := by rw [length_splice _ _ _ (by rw [e1]; simp; omega)]; simp
  have HV1 := Lib.hid hV1
  have HG1 := Lib.hid hG1'
  have HSZ := Lib.hid hsz
  clear hG1' hV1 e1 e2 hsz hov
  go_wp2_with (refine wpList_copy_rowS rfl (.tmp 80) (.tmp 81) _ _ rfl 87 Try.underlying75 2 msg_size g (o + i * 2) (n + 1 - i) (c - i) ⟨vb, 0, none⟩ 1 1 rfl rfl _ _ HG1.out news 1 (by show _ = min _ _; omega) (by rw [HL.out]) (fun j v hj => by rw [addr_add, Nat.zero_add]; exact blk_cell HV1.out j hj) (by rw [List.size_toArray, HSZ.out, HL.out]; omega) h1 ?_; intro wB hG2 hg2)
  go_ret
  refine ⟨some ⟨g, o, none⟩, c, rfl, Row.of_block hG2.out hbg (by omega) (by unfold maxLen; omega) ?_ ?_, ⟨hg2.os.trans hg1.os, hg2.tape.trans hg1.tape, hg2.output.trans hg1.output, Nat.le_trans hg1.size hg2.size, fun k hk hne => (hg2.block k (Nat.lt_of_lt_of_le hk hg1.size) hne).trans (hg1.block k hk hne)⟩, .inl rfl⟩
  · rw [List.size_toArray, length_splice _ _ _ (by rw [List.toList_toArray, HSZ.out, HL.out]; omega), List.toList_toArray, HSZ.out]; omega
  · simp only [List.toList_toArray]
    exact drop_two cur.toList o i n xs news HX.out hi HL.out (by simp; omega) HXL.out
theorem drop_grow {α : Type} (Z : List α) (i n : Nat) (xs news : List α) (hf : ∀ j, j < i * 2 → Z[j]? = xs[j]?) (hin : i < n) (hn : news.length = 2) (hL : (n + 1) * 2 ≤ Z.length) (hxl : xs.length = n * 2) :
    ((splice (splice Z (i * 2) news) ((i + 1) * 2) (xs.drop (i * 2))).drop 0).take ((n + 1) * 2) = xs.take (i * 2) ++ (news ++ xs.drop (i * 2)) := by
  have hd : (xs.drop (i * 2)).length = (n - i) * 2 := by rw [List.length_drop, hxl]; omega
  apply List.ext_getElem?
  intro j
  simp only [splice, List.getElem?_take, List.drop_zero, List.getElem?_drop, List.getElem?_append, List.length_take, List.length_append, List.length_drop, hn, hd, hxl]
  by_cases h1 : j < i * 2
  · rw [← hf j h1]
    simp only [h1, show j < (n + 1) * 2 by omega, if_true]
    repeat (first | rw [if_pos (by omega)] | rw [if_neg (by omega)])
  · by_cases h2 : j < i * 2 + 2
    · simp only [show j < (n + 1) * 2 by omega, if_true]
      repeat (first | rw [if_pos (by omega)] | rw [if_neg (by omega)])
      congr 1
      omega
    · by_cases h3 : j < (n + 1) * 2
      · simp only [h3, if_true]
        repeat (first | rw [if_pos (by omega)] | rw [if_neg (by omega)])
        congr 1
        omega
      · rw [if_neg h3]
        repeat (first | rw [if_pos (by omega)] | rw [if_neg (by omega)])
        symm
        rw [List.getElem?_eq_none]
        omega
theorem ins_grow (g o n c i : Nat) (xs news : List Value) (vb : Nat) (base : Nat) (w : World) (hrow : Row w base 87 2 (some ⟨g, o, none⟩) n c xs) (hn : n ≤ 1000000) (hi : i < n) (hroom : c < n + 1)
    (hv : w.heap[vb]? = some (.cells news.toArray 87 (0, 0))) (hnl : news.length = 2) (h1 : ∀ v ∈ news, v.oneCell' = true) (hx1 : ∀ v ∈ xs, v.oneCell' = true) (hbase : base ≤ w.heap.size) :
    Calls Try.prog 48 #[.slice (some ⟨g, o, none⟩) n c, .int .i64 i, .slice (some ⟨vb, 0, none⟩) 1 1] w (InsPost base (some ⟨g, o, none⟩) n (xs.take (i * 2) ++ (news ++ xs.drop (i * 2))) w) := by
  obtain ⟨g', o', cur, he, hbg, hlt, hg, hnc, hcm, hfit, hcur, hcell, _⟩ := hrow.some_ (by omega)
  injection he with he; injection he with e1 e2
  subst e1; subst e2
  obtain ⟨i0, hi0, hz0, hz1, hz2⟩ := info_parts msg_info
  obtain rfl : c = n := by omega
  have hxl := hrow.1
  have hdl : (xs.drop (i * 2)).length = (c - i) * 2 := by rw [List.length_drop, hxl]; omega
  have htl : (xs.take (i * 2)).length = i * 2 := by rw [List.length_take, hxl]; omega
  have hkk : (((c + 1 - i : Nat)) : Int) = (c : Int) + 1 - (i : Int) := by omega
  have hrun := Lib.run_append_grow_zeros (P := Try.prog) w 75 3 75 87 i0 _ .i64 .i64 Try.underlying75 Try.underlying3 hi0 hz0 (some ⟨g, o, none⟩) i c (xs.take (i * 2))
    (run_firstCells_some (P := Try.prog) w.drew i0.size i _ i c (xs.take (i * 2)) (by rw [hz1, htl]) (fun j u hu => by rw [addr_add]; rw [List.getElem?_take] at hu; split at hu; (· exact hcell j u hu); (· cases hu))) (c + 1 - i) (by omega) (by omega) (by omega) (by omega) (by rw [hz2]; omega)
    (Nat.le_trans (Nat.mul_le_mul_right _ (nextslicecap_le (by omega))) (by rw [hz2]; omega))
  rw [hkk, show i + (c + 1 - i) = c + 1 by omega] at hrun
  have hge := grownCap_ge w (c + 1) c 87
  have hGm := grownCap_le_maxLen w (c + 1) c 87 (by unfold maxLen; omega)
  have hcells : ((xs.take (i * 2)).toArray ++ Builtin.zeroCells (Value.agg #[.int .i64 0, .string ⟨#[]⟩]).cells (c + 1 - i) ++ Builtin.zeroCells (Value.agg #[.int .i64 0, .string ⟨#[]⟩]).cells (grownCap w (c + 1) c 87 - (c + 1))).size = grownCap w (c + 1) c 87 * 2 := by
    simp only [Array.size_append, size_zeroCells, List.size_toArray, htl, show (Value.agg #[.int .i64 0, .string ⟨#[]⟩]).cells.size = 2 from rfl]
    omega
  have hfirst : ∀ j, j < i * 2 → ((xs.take (i * 2)).toArray ++ Builtin.zeroCells (Value.agg #[.int .i64 0, .string ⟨#[]⟩]).cells (c + 1 - i) ++ Builtin.zeroCells (Value.agg #[.int .i64 0, .string ⟨#[]⟩]).cells (grownCap w (c + 1) c 87 - (c + 1))).toList[j]? = xs[j]? := fun j hj => by
    simp only [Array.toList_append]
    rw [List.append_assoc, List.getElem?_append_left (by rw [htl]; exact hj), List.getElem?_take, if_pos hj]
  generalize ((xs.take (i * 2)).toArray ++ Builtin.zeroCells (Value.agg #[.int .i64 0, .string ⟨#[]⟩]).cells (c + 1 - i) ++ Builtin.zeroCells (Value.agg #[.int .i64 0, .string ⟨#[]⟩]).cells (grownCap w (c + 1) c 87 - (c + 1))) = Z at hrun hcells hfirst
  generalize grownCap w (c + 1) c 87 = G at hrun hcells hge hGm
  unfold maxLen at hcm hGm
  have b1 : ¬ (G = i + 1) := by omega
  have b2 : ¬ (G = i) := by omega
  have b2' : ¬ (c = i) := by omega
  have b3 : (i : Int) ≤ (c : Int) := by omega
  have b4 : (i : Int) + 1 ≤ (c : Int) + 1 := by omega
  have b5 : (i : Int) ≤ (c : Int) + 1 := by omega
  have b6 : (c : Int) + 1 ≤ (G : Int) := by omega
  have b7 : ((i : Int) == (c : Int)) = false := by rw [beq_eq_false_iff_ne]; omega
  have b8 : (0 : Int) ≤ (i : Int) + 1 := by omega
  have b9 : (0 : Int) ≤ (c : Int) + 1 := by omega
  have w1 : IntKind.i64.wrap ((i : Int) + 1) = (i : Int) + 1 := IntWalk.i64_in _ (by omega)
  have w2 : IntKind.i64.wrap ((c : Int) + 1) = (c : Int) + 1 := IntWalk.i64_in _ (by omega)
  have w3 : IntKind.i64.wrap ((c : Int) + 1 - (i : Int)) = (c : Int) + 1 - (i : Int) := IntWalk.i64_in _ (by omega)
  have t1 : ((i : Int) + 1).toNat = i + 1 := by omega
  have t2 : ((c : Int) + 1).toNat = c + 1 := by omega
  have HX := Lib.hid hcur
  have HL := Lib.hid hnl
  have HC := Lib.hid hcell
  have HG := Lib.hid hg
  have HV := Lib.hid hv
  have HXL := Lib.hid hxl
  have HD := Lib.hid hdl
  have HR := Lib.hid hrun
  have HZ := Lib.hid hcells
  have HF := Lib.hid hfirst
  clear hcur hnl hcell hg hv hxl hdl hrow hrun hcells hfirst hkk htl
  go_enter Try.func48, Try.ntmps48
  go_wp2_with (first | (at_builtin; refine Lib.wpList_append_run _ rfl (.tmp 34) (.tmp 39) _ _ rfl _ _ rfl rfl _ _ HR.out ?_) | (refine wpList_copy_rowS rfl (.tmp 43) (.tmp 44) _ _ rfl 87 Try.underlying75 2 msg_size w.heap.size (i * 2) (c + 1 - i) (G - i) ⟨vb, 0, none⟩ 1 1 rfl rfl _ _ (by first | exact heap_new w _ | exact heap_new w.drew _) news 1 (by show _ = min _ _; omega) (by rw [HL.out]) (fun j v hj => by rw [addr_add, Nat.zero_add]; exact blk_cell ((Below.heap_alloc w.drew _ vb (lt_of_block HV.out)).trans HV.out) j hj) (by rw [HL.out, HZ.out]; omega) h1 ?_; intro wA hG1 hg1))
  have hG1' := hG1.out
  have hs1 := hg1.size; try simp at hs1
  have hO1 := (hg1.block g (by simp; omega) (by simp; omega)).trans ((Below.heap_alloc w.drew _ g hlt).trans HG.out)
  have hsz : (splice Z.toList (i * 2) news).length = G * 2 := by rw [length_splice _ _ _ (by rw [HL.out]; simp [HZ.out]; omega)]; simp [HZ.out]
  have HO1 := Lib.hid hO1
  have HG1 := Lib.hid hG1'
  have HSZ := Lib.hid hsz
  clear hG1 hG1' hO1 hsz
  go_wp2_with fail
  go_region_law (refine step_copy_rowS rfl (.tmp 50) (.tmp 53) _ _ rfl 87 Try.underlying75 2 msg_size w.heap.size ((i + 1) * 2) (c + 1 - (i + 1)) (G - (i + 1)) ⟨g, o + i * 2, none⟩ (c - i) (c - i) (by simp [Act.eval, Act.put]) (by simp [Act.eval, Act.put]) _ _ HG1.out (xs.drop (i * 2)) (c - i) (by show _ = min _ _; omega) HD.out (fun j v hj => by rw [addr_add, Nat.add_assoc]; have := HC.out _ _ (by rwa [List.getElem?_drop] at hj); exact (World.cell?_of_block (w := w) (w' := wA) (a := ⟨g, o + (i * 2 + j), none⟩) (HO1.out.trans HG.out.symm)).trans this) (by rw [List.size_toArray, HSZ.out, HD.out]; omega) (fun v hv => hx1 v (List.mem_of_mem_drop hv)) ?_; intro wB hG2 hg2)
  go_wp2_with fail
  go_ret
  have hs2 := hg2.size
  refine ⟨some ⟨w.heap.size, 0, none⟩, G, rfl, Row.of_block hG2.out hbase (by omega) (by unfold maxLen; omega) ?_ ?_, ⟨hg2.os.trans hg1.os, hg2.tape.trans hg1.tape, hg2.output.trans hg1.output, by have : w.heap.size + 1 ≤ wB.heap.size := Nat.le_trans hs1 hg2.size; omega, fun k hk hne => (hg2.block k (by show k < wA.heap.size; omega) (by simp; omega)).trans ((hg1.block k (by simp; omega) (by simp; omega)).trans (Below.heap_alloc w.drew _ k hk))⟩, .inr ⟨_, rfl, Nat.le_refl _⟩⟩
  · rw [List.size_toArray, length_splice _ _ _ (by rw [List.toList_toArray, HSZ.out, HD.out]; omega), List.toList_toArray, HSZ.out]; omega
  · simp only [List.toList_toArray]
    exact drop_grow Z.toList i c xs news HF.out hi HL.out (by simp [HZ.out]; omega) HXL.out
/-- Insert of one message at i -/
theorem ins_any (A : Option Addr) (n c i : Nat) (xs news : List Value) (vb : Nat) (base : Nat) (w : World) (hrow : Row w base 87 2 A n c xs) (hn : n ≤ 1000000) (hi : i ≤ n)
    (hv : w.heap[vb]? = some (.cells news.toArray 87 (0, 0))) (hnl : news.length = 2) (h1 : ∀ v ∈ news, v.oneCell' = true) (hx1 : ∀ v ∈ xs, v.oneCell' = true) (hne : blkOf A ≠ some vb) (hbase : base ≤ w.heap.size) :
    Calls Try.prog 48 #[.slice A n c, .int .i64 i, .slice (some ⟨vb, 0, none⟩) 1 1] w (InsPost base A n (xs.take (i * 2) ++ (news ++ xs.drop (i * 2))) w) := by
  rcases Nat.lt_or_ge i n with h | h
  · obtain ⟨g, o, cur, rfl, _⟩ := hrow.some_ (by omega)
    rcases Nat.lt_or_ge c (n + 1) with hc | hc
    · exact ins_grow g o n c i xs news vb base w hrow hn h hc hv hnl h1 hx1 hbase
    · exact ins_room g o n c i xs news vb base w hrow hn h hc hv hnl h1 hx1 (fun e => hne (by rw [e]; rfl))
  · obtain rfl : i = n := by omega
    have := ins_end A i c xs news vb base w hrow hn hv hnl h1 hbase
    rw [List.take_of_length_le (by rw [hrow.1]; omega), List.drop_eq_nil_of_le (by rw [hrow.1]; omega), List.append_nil]
    exact this
end Go.Proofs.Ytgdpoiapkaahfaa

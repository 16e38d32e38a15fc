/- Compacting in place: plain. -/
import Derived.Test.YtgmejplcdecmkaaLgMe
import Derived.Lib.SliceRun
import Derived.Deep.MidRow
namespace Go.Proofs.Ytgmejplcdecmkaa
open Go.RowKit
set_option linter.unusedSimpArgs false
set_option linter.unusedVariables false
namespace Lg
/-- the first records, without those that have the state of the one before -/
def cpn (us : List RV) : Nat → List RV
  | 0 => []
  | 1 => [us.getD 0 rv0]
  | j + 2 => if (us.getD (j + 1) rv0).x.s = (us.getD j rv0).x.s then cpn us (j + 1) else cpn us (j + 1) ++ [us.getD (j + 1) rv0]
theorem cpn_x (us : List RV) : ∀ n, n ≤ us.length → xs (cpn us n) = ((xs us).take n).foldl rstep [] ∧ (0 < n → 0 < (cpn us n).length ∧ (lastV (cpn us n)).x.s = (us.getD (n - 1) rv0).x.s)
  | 0, _ => ⟨by simp [cpn, xs], fun h => absurd h (by omega)⟩
  | 1, h => by
    have e : (xs us).take 1 = [(us.getD 0 rv0).x] := by
      rw [List.take_add_one, List.take_zero, List.nil_append, ← xs_at (by omega), List.getD, List.getElem?_eq_getElem (by rw [xs_len]; omega)]
      rfl
    refine ⟨?_, fun _ => ⟨by simp [cpn], by simp [cpn, lastV]⟩⟩
    rw [e, cpn]
    simp [xs, rstep]
  | j + 2, h => by
    obtain ⟨h1, h2⟩ := cpn_x us (j + 1) (by omega)
    obtain ⟨h3, h4⟩ := h2 (by omega)
    have e : (xs us).take (j + 2) = (xs us).take (j + 1) ++ [(us.getD (j + 1) rv0).x] := by
      rw [List.take_add_one, ← xs_at (by omega), List.getD, List.getElem?_eq_getElem (by rw [xs_len]; omega)]
      rfl
    rw [e, List.foldl_append, ← h1, List.foldl_cons, List.foldl_nil, cpn]
    have hl := lastV_x (cpn us (j + 1)) h3
    have h4' : (lastV (cpn us (j + 1))).x.s = (us.getD j rv0).x.s := by rw [h4]; simp
    have hn : ¬ (xs (cpn us (j + 1))).length = 0 := by rw [xs_len]; omega
    by_cases hs : (us.getD (j + 1) rv0).x.s = (us.getD j rv0).x.s
    · rw [if_pos hs]
      refine ⟨?_, fun _ => ⟨h3, by rw [h4', ← hs]; rfl⟩⟩
      unfold rstep
      rw [if_neg (fun hh => hh.elim hn (fun h5 => h5 (by rw [← hl, h4', hs])))]
    · rw [if_neg hs]
      refine ⟨?_, fun _ => ⟨by simp, by simp [lastV]⟩⟩
      unfold rstep
      rw [if_pos (.inr (fun h5 => hs (by rw [← hl, h4'] at h5; exact h5.symm))), xs_app1]
theorem cpn_cmp (us : List RV) : xs (cpn us us.length) = cmp (xs us) := by
  rw [(cpn_x us _ (Nat.le_refl _)).1, List.take_of_length_le (by rw [xs_len]; exact Nat.le_refl _), rstep_cmp]
theorem cpn_len (us : List RV) : ∀ n, (cpn us n).length ≤ n
  | 0 => by simp [cpn]
  | 1 => by simp [cpn]
  | j + 2 => by
    have := cpn_len us (j + 1)
    rw [cpn]
    split
    · omega
    · simp; omega
/-- none of the first is dropped: they stand as they are -/
theorem cpn_all (us : List RV) : ∀ n, n ≤ us.length → (∀ j, 1 ≤ j → j < n → (us.getD j rv0).x.s ≠ (us.getD (j - 1) rv0).x.s) → cpn us n = us.take n
  | 0, _, _ => by simp [cpn]
  | 1, h, _ => by
    rw [cpn, List.take_add_one, List.take_zero, List.nil_append, List.getD, List.getElem?_eq_getElem (by omega)]
    rfl
  | j + 2, h, hh => by
    rw [cpn, if_neg (show ¬ (us.getD (j + 1) rv0).x.s = (us.getD j rv0).x.s from hh (j + 1) (by omega) (by omega)), cpn_all us (j + 1) (by omega) (fun k h1 h2 => hh k h1 (by omega)), List.take_add_one (i := j + 1), List.getD, List.getElem?_eq_getElem (by omega)]
    rfl
theorem cpn_next {us : List RV} {j : Nat} (h : 1 ≤ j) : cpn us (j + 1) = if (us.getD j rv0).x.s = (us.getD (j - 1) rv0).x.s then cpn us j else cpn us j ++ [us.getD j rv0] := by
  obtain ⟨j, rfl⟩ : ∃ k, j = k + 1 := ⟨j - 1, by omega⟩
  rfl
/-- memory while it is compacted: what is kept, then the rest as it was -/
def cur (us : List RV) (j : Nat) : List RV := cpn us j ++ us.drop (cpn us j).length
theorem cur_len (us : List RV) (j : Nat) (h : j ≤ us.length) : (cur us j).length = us.length := by
  have := cpn_len us j
  simp [cur]
  omega
theorem cur_at (us : List RV) (j i : Nat) (h : (cpn us j).length ≤ i) : (cur us j).getD i rv0 = us.getD i rv0 := by
  unfold cur
  rw [List.getD, List.getElem?_append_right h, List.getElem?_drop, Nat.add_sub_cancel' h]
  rfl
theorem cur_put (us : List RV) (j : Nat) (x : RV) (h : (cpn us j).length < us.length) : (cur us j).set (cpn us j).length x = (cpn us j ++ [x]) ++ us.drop ((cpn us j).length + 1) := by
  unfold cur
  rw [List.set_append_right _ _ (Nat.le_refl _), Nat.sub_self, List.drop_eq_getElem_cons h, List.set_cons_zero]
  simp
end Lg
end Go.Proofs.Ytgmejplcdecmkaa
/- Compacting: the comparison. -/
namespace Go.Proofs.Ytgmejplcdecmkaa
open Go.RowKit
set_option maxHeartbeats 8000000
set_option maxRecDepth 100000
set_option linter.unusedSimpArgs false
set_option linter.unusedVariables false
attribute [local go_sem ↓] Go.wp_at_zero Go.wp_at_succ
theorem rep1_any (v u : Lg.RV) (w : World) : Calls Try.prog 64 #[v.val, u.val] w fun e w' => e = .returned (.bool (v.x.s == u.x.s)) ∧ Below w.heap.size w w' := by
  obtain ⟨C, hval, hC, hCs⟩ := rv_opaque v
  obtain ⟨D, hval2, hD, hDs⟩ := rv_opaque u
  have hC6 : C[6]? = some (.int .i64 v.x.s) := by rw [← hC]; rfl
  have hD6 : D[6]? = some (.int .i64 u.x.s) := by rw [← hD]; rfl
  have b1 := blk_alloc (heap_new w (.cells C 32 (0, 0))) (.cells D 32 (0, 0))
  have b2 := heap_new (w.alloc (.cells C 32 (0, 0))) (.cells D 32 (0, 0))
  have z1 : (w.alloc (.cells C 32 (0, 0))).heap.size = w.heap.size + 1 := by simp
  rw [z1] at b2
  have c1 := arr_cell b1 hC6
  have c2 := arr_cell b2 hD6
  rw [hval, hval2]
  clear hC hD hval hval2 b1 b2 z1 hC6 hD6
  generalize v.x.s = s at *
  generalize u.x.s = t at *
  go_enter Try.func64, Try.ntmps64
  go_wp2_with fail
  go_ret
  exact ⟨rfl, (by repeat (first | (with_reducible exact Below.refl _ _) | (with_reducible refine Below.drew ?_) | (with_reducible refine below_drewN ?_ _) | ((with_reducible refine Below.alloc ?_ ?_ _); rotate_left; (first | omega | (simp <;> omega)); rotate_right) | ((with_reducible refine Below.setCell ?_ ?_ _); rotate_left; (first | omega | (simp <;> omega)); rotate_right) | (with_reducible assumption) | (refine Below.trans ?_ (Below.mono (by assumption) ?_); rotate_left; (first | omega | (simp <;> omega)); rotate_right)))⟩
theorem zero_rec : ∀ w, (zeroValue 32).run Try.prog w = .ok Lg.rv0.val w := fun w => by kernel_rfl
theorem zeros_one (z : Array Value) (h : ∀ u ∈ z.toList, u.oneCell' = true) (n : Nat) : ∀ u ∈ (Builtin.zeroCells z n).toList, u.oneCell' = true := by
  intro u hu
  unfold Builtin.zeroCells at hu
  rw [Array.toList_map, List.mem_map] at hu
  obtain ⟨i, hi, rfl⟩ := hu
  have hi' : i < n * z.size := by simpa using hi
  have h0 : 0 < z.size := by
    rcases Nat.eq_zero_or_pos z.size with e | e
    · rw [e] at hi'; omega
    · exact e
  have hm : i % z.size < z.size := Nat.mod_lt _ h0
  rw [getElem!_pos z (i % z.size) hm]
  exact h _ (by rw [← Array.getElem_toList]; exact List.getElem_mem _)
/-- a slice of records is cleared: some cells are laid there -/
theorem run_clear_rec (w : World) (b o n c : Nat) (hn : 0 < n) (hc : ∀ j, j < n * 13 → (w.cell? ⟨b, o + j, none⟩).isSome = true) (hf : ∀ j, j < n * 13 → w.frozen? ⟨b, o + j, none⟩ = false) :
    ∃ L : List Value, L.length = n * 13 ∧ (∀ u ∈ L, u.oneCell' = true) ∧ ∀ ty, (Builtin.clear_ #[40] ty #[.slice (some ⟨b, o, none⟩) n c]).run Try.prog w = .ok (.tuple #[]) (w.setCells b o L) := by
  have hl : (Builtin.zeroCells Lg.rv0.cells.toArray n).toList.length = n * 13 := by
    unfold Builtin.zeroCells
    rw [Array.length_toList, Array.size_map, Array.size_range]
    rfl
  have h1 := zeros_one Lg.rv0.cells.toArray (by simpa using rv_oneL Lg.rv0) n
  refine ⟨(Builtin.zeroCells Lg.rv0.cells.toArray n).toList, hl, h1, fun ty => ?_⟩
  have hst := run_storeCells_cells (P := Try.prog) b o (Builtin.zeroCells Lg.rv0.cells.toArray n).toList 0 w (fun j hj => by simpa using hc j (by rw [← hl]; exact hj)) (fun j hj => by simpa using hf j (by rw [← hl]; exact hj)) h1
  simp only [Nat.add_zero] at hst
  obtain ⟨z, hz, hzv⟩ : ∃ z, (∀ w, (zeroValue 32).run Try.prog w = .ok z w) ∧ z.cells = Lg.rv0.cells.toArray := ⟨_, zero_rec, rfl⟩
  obtain ⟨m, rfl⟩ : ∃ m, n = m + 1 := ⟨n - 1, by omega⟩
  rw [← hzv] at hst ⊢
  generalize hZ : (Builtin.zeroCells z.cells (m + 1)).toList = Z at hst ⊢
  simp [Builtin.clear_, run_underlying Try.underlying40, hz, hZ, hst]
end Go.Proofs.Ytgmejplcdecmkaa
/- A record is stored in the middle of a row. -/
namespace Go.Proofs.Ytgmejplcdecmkaa
open Go.RowKit
set_option maxHeartbeats 4000000
set_option linter.unusedSimpArgs false
set_option linter.unusedVariables false
def lsetL (cur : Array Value) : Nat → List Value → Array Value
  | _, [] => cur
  | o, v :: r => lsetL (cur.setIfInBounds o v) (o + 1) r
theorem lsize_setL : ∀ (vs : List Value) (o : Nat) (cur : Array Value), (lsetL cur o vs).size = cur.size
  | [], _, _ => rfl
  | v :: r, o, cur => by rw [lsetL, lsize_setL r (o + 1), Array.size_setIfInBounds]
theorem lget_setL : ∀ (vs : List Value) (o : Nat) (cur : Array Value) (k : Nat), k < cur.size → (lsetL cur o vs)[k]? = if o ≤ k ∧ k < o + vs.length then vs[k - o]? else cur[k]?
  | [], o, cur, k, h => by rw [if_neg (by simp only [List.length_nil]; omega)]; rfl
  | v :: r, o, cur, k, h => by
    rw [lsetL, lget_setL r (o + 1) _ k (by simpa using h)]
    by_cases h1 : o + 1 ≤ k ∧ k < o + 1 + r.length
    · rw [if_pos h1, if_pos (by simp only [List.length_cons]; omega), show k - o = (k - (o + 1)) + 1 by omega, List.getElem?_cons_succ]
    · rw [if_neg h1]
      by_cases h2 : k = o
      · subst h2
        rw [if_pos (by simp), Nat.sub_self, Array.getElem?_setIfInBounds]
        simp [h]
      · rw [if_neg (by simp; omega), Array.getElem?_setIfInBounds, if_neg (by omega)]
theorem lsetCells_blk (b : Nat) (t : TypeId) : ∀ (vs : List Value) (o : Nat) (w : World) (cur : Array Value), w.heap[b]? = some (.cells cur t (0, 0)) → (w.setCells b o vs).heap[b]? = some (.cells (lsetL cur o vs) t (0, 0))
  | [], _, _, _, h => h
  | v :: r, o, w, cur, h => by rw [World.setCells, lsetL]; exact lsetCells_blk b t r (o + 1) _ _ (blk_set h o v)
theorem lsetCells_keeps (b : Nat) : ∀ (vs : List Value) (o : Nat) (w0 w : World), Keeps (fun i => i = b) w0 w → Keeps (fun i => i = b) w0 (w.setCells b o vs)
  | [], _, _, _, h => h
  | v :: r, o, w0, w, h => by rw [World.setCells]; exact lsetCells_keeps b r (o + 1) w0 _ (h.setCell (p := ⟨b, o, none⟩) (.inl rfl) v)
/-- a row of records of its own: the first l of room for c -/
def Lg.Cu (w : World) (g o c : Nat) (l : List Lg.RV) : Prop := ∃ C : Array Value, w.heap[g]? = some (.cells C 32 (0, 0)) ∧ l.length ≤ c ∧ o + c * 13 ≤ C.size ∧ ∀ i, i < l.length → ∀ j u, (l.getD i Lg.rv0).cells[j]? = some u → C[o + i * 13 + j]? = some u
theorem Lg.Cu.put {w : World} {g o c : Nat} {l : List Lg.RV} (h : Lg.Cu w g o c l) {i : Nat} (hi : i < l.length) (v : Lg.RV) : Lg.Cu (w.setCells g (o + i * 13) v.cells) g o c (l.set i v) := by
  obtain ⟨C, hb, hl, hc, hx⟩ := h
  have hv : v.cells.length = 13 := Lg.RV.len v
  refine ⟨_, lsetCells_blk g _ _ _ _ _ hb, by rw [List.length_set]; exact hl, by rw [lsize_setL]; exact hc, ?_⟩
  intro k hk j u hu
  rw [List.length_set] at hk
  have hj : j < 13 := by
    rcases Nat.lt_or_ge j 13 with h | h
    · exact h
    · rw [List.getElem?_eq_none (by rw [Lg.RV.len]; exact h)] at hu; cases hu
  rw [lget_setL _ _ _ _ (by omega), hv]
  by_cases e : k = i
  · subst e
    rw [if_pos (by omega), show o + k * 13 + j - (o + k * 13) = j by omega]
    rw [List.getD, List.getElem?_set_self hk] at hu
    exact hu
  · rw [if_neg (by omega)]
    rw [List.getD, List.getElem?_set_ne (fun h => e h.symm)] at hu
    exact hx k hk j u hu
theorem Lg.Cu.cell {w : World} {g o c : Nat} {l : List Lg.RV} (h : Lg.Cu w g o c l) {i : Nat} (hi : i < l.length) : ∀ j u, (l.getD i Lg.rv0).cells[j]? = some u → w.cell? ⟨g, o + i * 13 + j, none⟩ = some u := by
  obtain ⟨C, hb, hl, hc, hx⟩ := h
  intro j u hu
  exact arr_cell hb (hx i hi j u hu)
theorem Lg.Cu.of_row {w : World} {base g o n c : Nat} {us : List Lg.RV} {cur : Array Value} (hb : w.heap[g]? = some (.cells cur 32 (0, 0))) (hl : us.length = n) (hn : n ≤ c) (ho : o + c * 13 ≤ cur.size) (hx : (cur.toList.drop o).take (n * 13) = Lg.cs us) : Lg.Cu w g o c us := by
  refine ⟨cur, hb, by omega, ho, fun i hi j u hu => ?_⟩
  have hj : j < 13 := by
    rcases Nat.lt_or_ge j 13 with h | h
    · exact h
    · rw [List.getElem?_eq_none (by rw [Lg.RV.len]; exact h)] at hu; cases hu
  have e := Lg.cs_at us i j hi hj
  rw [hu, ← hx, List.getElem?_take, if_pos (by omega), List.getElem?_drop] at e
  rw [Nat.add_assoc, ← Array.getElem?_toList]
  exact e
theorem Lg.Cu.there {w : World} {g o c : Nat} {l : List Lg.RV} (h : Lg.Cu w g o c l) {i : Nat} (hi : i < c) {j : Nat} (hj : o + i * 13 + j < o + c * 13) : (w.cell? ⟨g, o + i * 13 + j, none⟩).isSome = true ∧ w.frozen? ⟨g, o + i * 13 + j, none⟩ = false := by
  obtain ⟨C, hb, hl, hc, hx⟩ := h
  have : w.cell? ⟨g, o + i * 13 + j, none⟩ = C[o + i * 13 + j]? := by simp [World.cell?, hb]
  rw [this, Array.getElem?_eq_getElem (by omega)]
  exact ⟨rfl, by simp [World.frozen?, hb]⟩
/-- what lies behind the first m is written over -/
theorem Lg.Cu.over {w : World} {g o c m : Nat} {l : List Lg.RV} (h : Lg.Cu w g o c l) (hm : m ≤ l.length) (L : List Value) : Lg.Cu (w.setCells g (o + m * 13) L) g o c (l.take m) := by
  obtain ⟨C, hb, hl, hc, hx⟩ := h
  refine ⟨_, lsetCells_blk g _ _ _ _ _ hb, by rw [List.length_take]; omega, by rw [lsize_setL]; exact hc, ?_⟩
  intro k hk j u hu
  rw [List.length_take] at hk
  have hj : j < 13 := by
    rcases Nat.lt_or_ge j 13 with h | h
    · exact h
    · rw [List.getElem?_eq_none (by rw [Lg.RV.len]; exact h)] at hu; cases hu
  rw [lget_setL _ _ _ _ (by omega), if_neg (by omega)]
  rw [List.getD, List.getElem?_take, if_pos (by omega)] at hu
  exact hx k (by omega) j u hu
/-- its first k, as a row -/
theorem Lg.Cu.row {w : World} {base g o c k : Nat} {l : List Lg.RV} (h : Lg.Cu w g o c l) (hb : base ≤ g) (hm : c ≤ maxLen) (hk : k ≤ l.length) : Row w base 32 13 (some ⟨g, o, none⟩) k c (Lg.cs (l.take k)) := by
  obtain ⟨C, hB, hl, hc, hx⟩ := h
  refine Row.of_block hB hb (by omega) hm hc ?_
  have hlen : (Lg.cs (l.take k)).length = k * 13 := by rw [Lg.cs_len, List.length_take, Nat.min_eq_left hk]
  refine List.ext_getElem? fun p => ?_
  rcases Nat.lt_or_ge p (k * 13) with hp | hp
  · obtain ⟨i, j, hj, rfl⟩ : ∃ i j, j < 13 ∧ p = i * 13 + j := ⟨p / 13, p % 13, Nat.mod_lt _ (by omega), by omega⟩
    have hi : i < k := by omega
    have e := Lg.cs_at (l.take k) i j (by rw [List.length_take]; omega) hj
    have e2 : (l.take k).getD i Lg.rv0 = l.getD i Lg.rv0 := by rw [List.getD, List.getElem?_take, if_pos hi]; rfl
    rw [e, e2, List.getElem?_take, if_pos hp, List.getElem?_drop]
    have hlt : j < (l.getD i Lg.rv0).cells.length := by rw [Lg.RV.len]; exact hj
    have := hx i (by omega) j _ (List.getElem?_eq_getElem hlt)
    rw [List.getElem?_eq_getElem hlt, ← Nat.add_assoc, Array.getElem?_toList]
    exact this
  · rw [List.getElem?_eq_none (by rw [List.length_take]; omega), List.getElem?_eq_none (by rw [hlen]; exact hp)]
end Go.Proofs.Ytgmejplcdecmkaa
/- slices.CompactFunc over records. -/
namespace Go.Proofs.Ytgmejplcdecmkaa
open Go.RowKit
set_option maxHeartbeats 3000000
set_option maxRecDepth 100000
set_option linter.unusedSimpArgs false
set_option linter.unusedVariables false
attribute [local go_sem ↓] Go.wp_at_zero Go.wp_at_succ
def Lg.CmpPost (w : World) (base : Nat) (A : Option Addr) (n c : Nat) (us : List Lg.RV) (e : Ending) (w' : World) : Prop := e = .returned (.slice A (Lg.cpn us n).length c) ∧ Row w' base 32 13 A (Lg.cpn us n).length c (Lg.cs (Lg.cpn us n)) ∧ Keeps (fun i => blkOf A = some i) w w'
theorem compact_few {w : World} {base n c : Nat} {A : Option Addr} {us : List Lg.RV} (h : Row w base 32 13 A n c (Lg.cs us)) (hl : us.length = n) (hn : n < 2) :
    Calls Try.prog 63 #[.slice A n c, .func (.func 64) #[] #[]] w (Lg.CmpPost w base A n c us) := by
  have E : Lg.cpn us n = us := by
    rcases n with _ | _ | n
    · rw [List.eq_nil_of_length_eq_zero hl]; rfl
    · obtain ⟨a, rfl⟩ := List.length_eq_one_iff.1 hl
      rfl
    · omega
  have P := Lib.hid (show Lg.CmpPost w base A n c us (.returned (.slice A n c)) w by unfold Lg.CmpPost; rw [E, hl]; exact ⟨rfl, h, Keeps.refl _ _⟩)
  have hn2 : (n : Int) < 2 := by omega
  clear h hl hn E
  go_enter Try.func63, Try.ntmps63
  go_wp2_with fail
  go_ret
  exact P.out
theorem compact_any {w : World} {base n c : Nat} {A : Option Addr} {us : List Lg.RV} (h : Row w base 32 13 A n c (Lg.cs us)) (hl : us.length = n) (hn : 2 ≤ n) (hn2 : n ≤ 1000000) :
    Calls Try.prog 63 #[.slice A n c, .func (.func 64) #[] #[]] w (Lg.CmpPost w base A n c us) := by
  obtain ⟨g, o, cur, rfl, hgb, hgs, hg, hnc, hcm, hoc, hcur, hcell, hfr⟩ := h.some_ (by omega)
  have CU := Lg.Cu.of_row (base := base) hg hl hnc hoc hcur
  have HL := Lib.hid hl
  have nn : ¬ ((n : Int) < 2) := by omega
  clear h hcur hcell hg
  go_enter Try.func63, Try.ntmps63
  go_wp2_with fail
  go_loopw [5] (fun s wr => ∃ (i : Nat), s = .int .i64 i ∧ 1 ≤ i ∧ i ≤ n ∧ Lg.Cu wr g o c us ∧ Below w.heap.size w wr ∧ Hid (∀ j, 1 ≤ j → j < i → (us.getD j Lg.rv0).x.s ≠ (us.getD (j - 1) Lg.rv0).x.s)) (fun s _ => n - (intOf s).toNat)
  case atStart => exact ⟨1, by go_num, by omega, by omega, CU, Below.refl _ _, Lib.hid (fun j h1 h2 => by omega)⟩
  case round =>
    obtain ⟨i, rfl, h1i, hin, hcu, hB, HA⟩ := hrel
    by_cases hlt : i < n
    · have HX := Lib.hid (hcu.cell (i := i) (by rw [HL.out]; exact hlt))
      have HY := Lib.hid (hcu.cell (i := i - 1) (by rw [HL.out]; omega))
      obtain ⟨x, hxe⟩ : ∃ x, x = us.getD i Lg.rv0 := ⟨_, rfl⟩
      obtain ⟨y, hye⟩ : ∃ y, y = us.getD (i - 1) Lg.rv0 := ⟨_, rfl⟩
      rw [← hxe] at HX
      rw [← hye] at HY
      have HXE := Lib.hid hxe
      have HYE := Lib.hid hye
      clear hxe hye
      have ik : (i : Int) < (n : Int) := by omega
      have wi : IntKind.i64.wrap ((i : Int) - 1) = ((i - 1 : Nat) : Int) := by rw [IntWalk.i64_in _ (by omega)]; omega
      have hgl : g < wr.heap.size := by have := hB.size; omega
      have RP := Lib.hid (fun (W : World) => (rep1_any x y W : Calls Try.prog 64 #[.agg x.cells.toArray, .agg y.cells.toArray] W _))
      have ij : ((i - 1 : Nat) : Int) < (n : Int) := by omega
      go_upto_region 6 with fail
      refine wp_region_held_drew (S := fun w' => (∀ (j : Nat) (u : Value), x.cells[j]? = some u → w'.cell? ⟨g, o + i * 13 + j, none⟩ = some u) ∧ (∀ (j : Nat) (u : Value), y.cells[j]? = some u → w'.cell? ⟨g, o + (i - 1) * 13 + j, none⟩ = some u)) (by kernel_rfl) ?_ (fun h0 => ?_)
      · exact ⟨HX.out, HY.out⟩
      refine wpAnyH_take (i := 0) (v := ?_) rfl (by kernel_rfl) (by kernel_rfl) (by kernel_rfl) (fun _ _ _ h => h) (Or.inl ⟨by rfl, ?_⟩) h0 ?_
      rotate_left
      focus (intro w' hSw; skip; go_simp; (try with_reducible rfl))
      (try simp only [List.getElem_toArray, List.getElem_cons_succ, List.getElem_cons_zero, Act.put, List.setIfInBounds_toArray, List.set_cons_zero, List.set_cons_succ])
      refine wpAnyH_take (i := 1) (v := ?_) rfl (by kernel_rfl) (by kernel_rfl) (by kernel_rfl) (fun _ _ _ h => h) (Or.inl ⟨by rfl, ?_⟩) h0 ?_
      rotate_left
      focus (intro w' hSw; skip; go_simp; (try with_reducible rfl))
      (try simp only [List.getElem_toArray, List.getElem_cons_succ, List.getElem_cons_zero, Act.put, List.setIfInBounds_toArray, List.set_cons_zero, List.set_cons_succ])
      refine wpAnyH_take (i := 2) (v := ?_) rfl (by kernel_rfl) (by kernel_rfl) (by kernel_rfl) (fun _ _ _ h => h) (Or.inl ⟨by rfl, ?_⟩) h0 ?_
      rotate_left
      focus (intro w' hSw; skip; go_simp; (try with_reducible rfl))
      (try simp only [List.getElem_toArray, List.getElem_cons_succ, List.getElem_cons_zero, Act.put, List.setIfInBounds_toArray, List.set_cons_zero, List.set_cons_succ])
      refine wpAnyH_take (i := 3) (v := ?_) rfl (by kernel_rfl) (by kernel_rfl) (by kernel_rfl) (fun _ _ _ h => h) (Or.inl ⟨by rfl, ?_⟩) h0 ?_
      rotate_left
      focus (intro w' hSw; skip; go_simp; (try with_reducible rfl))
      (try simp only [List.getElem_toArray, List.getElem_cons_succ, List.getElem_cons_zero, Act.put, List.setIfInBounds_toArray, List.set_cons_zero, List.set_cons_succ])
      refine wpAnyH_take (i := 4) (v := .agg (x).cells.toArray) rfl (by kernel_rfl) (by kernel_rfl) (by kernel_rfl) (fun _ _ _ h => h) (yields_load_at (by rfl) 32 _ rfl g (o + i * 13) rfl _ _ (fun w' hS => hS.1) Try.underlying32 rfl (by rw [Lg.RV.len]; kernel_rfl)) h0 ?_
      (try simp only [List.getElem_toArray, List.getElem_cons_succ, List.getElem_cons_zero, Act.put, List.setIfInBounds_toArray, List.set_cons_zero, List.set_cons_succ])
      refine wpAnyH_take (i := 5) (v := ?_) rfl (by kernel_rfl) (by kernel_rfl) (by kernel_rfl) (fun _ _ _ h => h) (Or.inl ⟨by rfl, ?_⟩) h0 ?_
      rotate_left
      focus (intro w' hSw; skip; go_simp; (try with_reducible rfl))
      (try simp only [List.getElem_toArray, List.getElem_cons_succ, List.getElem_cons_zero, Act.put, List.setIfInBounds_toArray, List.set_cons_zero, List.set_cons_succ])
      refine wpAnyH_take (i := 6) (v := ?_) rfl (by kernel_rfl) (by kernel_rfl) (by kernel_rfl) (fun _ _ _ h => h) (Or.inl ⟨by rfl, ?_⟩) h0 ?_
      rotate_left
      focus (intro w' hSw; skip; go_simp; (try with_reducible rfl))
      (try simp only [List.getElem_toArray, List.getElem_cons_succ, List.getElem_cons_zero, Act.put, List.setIfInBounds_toArray, List.set_cons_zero, List.set_cons_succ])
      refine wpAnyH_take (i := 7) (v := ?_) rfl (by kernel_rfl) (by kernel_rfl) (by kernel_rfl) (fun _ _ _ h => h) (Or.inl ⟨by rfl, ?_⟩) h0 ?_
      rotate_left
      focus (intro w' hSw; skip; go_simp; (try with_reducible rfl))
      (try simp only [List.getElem_toArray, List.getElem_cons_succ, List.getElem_cons_zero, Act.put, List.setIfInBounds_toArray, List.set_cons_zero, List.set_cons_succ])
      refine wpAnyH_take (i := 8) (v := ?_) rfl (by kernel_rfl) (by kernel_rfl) (by kernel_rfl) (fun _ _ _ h => h) (Or.inl ⟨by rfl, ?_⟩) h0 ?_
      rotate_left
      focus (intro w' hSw; skip; go_simp; (try with_reducible rfl))
      (try simp only [List.getElem_toArray, List.getElem_cons_succ, List.getElem_cons_zero, Act.put, List.setIfInBounds_toArray, List.set_cons_zero, List.set_cons_succ])
      refine wpAnyH_take (i := 9) (v := .agg (y).cells.toArray) rfl (by kernel_rfl) (by kernel_rfl) (by kernel_rfl) (fun _ _ _ h => h) (yields_load_at (by rfl) 32 _ rfl g (o + (i - 1) * 13) rfl _ _ (fun w' hS => hS.2) Try.underlying32 rfl (by rw [Lg.RV.len]; kernel_rfl)) h0 ?_
      (try simp only [List.getElem_toArray, List.getElem_cons_succ, List.getElem_cons_zero, Act.put, List.setIfInBounds_toArray, List.set_cons_zero, List.set_cons_succ])
      refine wpAnyH_ready (rs := [10]) (by kernel_rfl) (by simp) ?_
      refine AllReadyH.cons rfl (fun K hK => ?_) AllReadyH.nil
      go_simp
      refine (RP.out _).mono ?_
      rintro e w5 ⟨rfl, hb5⟩
      go_wp2_with fail
      have B5 : Below wr.heap.size wr w5 := (Below.refl wr.heap.size wr).drew.trans hb5
      refine hK.out _ _ ?_ (fun h1 => ?_)
      · exact ⟨fun j u hj => (B5.cell (p := ⟨g, o + i * 13 + j, none⟩) hgl).trans (HX.out j u hj), fun j u hj => (B5.cell (p := ⟨g, o + (i - 1) * 13 + j, none⟩) hgl).trans (HY.out j u hj)⟩
      clear hK K
      (try simp only [List.getElem_toArray, List.getElem_cons_succ, List.getElem_cons_zero, Act.put, List.setIfInBounds_toArray, List.set_cons_zero, List.set_cons_succ])
      refine wpAnyH_done (by kernel_rfl) ?_ _
      by_cases hs : x.x.s = y.x.s
      · have zs : (x.x.s == y.x.s) = true := by simp [hs]
        have hcu5 : Lg.Cu w5 g o c us := by
          obtain ⟨C, hC, r⟩ := hcu
          exact ⟨C, blk_below hC B5 hgl, r⟩
        have HB5 := Lib.hid (hB.trans (B5.mono hB.size))
        have CP := Lib.hid (show Lg.cpn us (i + 1) = us.take i by rw [Lg.cpn_next h1i, if_pos (by rw [← HXE.out, ← HYE.out]; exact hs), Lg.cpn_all us i (by rw [HL.out]; omega) HA.out])
        have i0 : (0 : Int) ≤ (i : Int) := by omega
        have ic : (i : Int) ≤ (c : Int) := by omega
        have ie : (i : Int) ≤ (n : Int) := by omega
        have ine : ¬ c = i := by omega
        clear hcu HX HY RP h0 hs
        have hB0 := HB5.out
        simp only [zs]
        go_wp2_with fail
        go_loopw [5, 7] (fun s5 s7 wr => ∃ (k : Nat), s7 = .int .i64 k ∧ 1 ≤ k ∧ i + k ≤ n ∧ s5 = .int .i64 (Lg.cpn us (i + k)).length ∧ (Lg.cpn us (i + k)).length < i + k ∧ Lg.Cu wr g o c (Lg.cur us (i + k)) ∧ Keeps (fun q => q = g) w wr) (fun _ s7 _ => n - i - (intOf s7).toNat)
        case atStart =>
          have e1 : (Lg.cpn us (i + 1)).length = i := by rw [CP.out, List.length_take, HL.out]; omega
          have e2 : Lg.cur us (i + 1) = us := by unfold Lg.cur; rw [e1, CP.out, List.take_append_drop]
          exact ⟨1, by go_num, by omega, by omega, by rw [e1], by rw [e1]; omega, by rw [e2]; exact hcu5, Keeps.of_below hB0⟩
        case round =>
          obtain ⟨k, rfl, k1, hk, rfl, hkl, hcu, hKp⟩ := hrel
          have hcl2 := Lg.cur_len us (i + k) (by rw [HL.out]; exact hk)
          by_cases hlt2 : i + k < n
          · have hgl : g < wr.heap.size := by have := hKp.size; omega
            have HX2 := hcu.cell (i := i + k) (by rw [hcl2, HL.out]; exact hlt2)
            have HY2 := hcu.cell (i := i + k - 1) (by rw [hcl2, HL.out]; omega)
            rw [Lg.cur_at _ _ _ (by omega)] at HX2 HY2
            have hnx := Lg.cpn_next (us := us) (j := i + k) (by omega)
            obtain ⟨x2, hx2⟩ : ∃ x2, x2 = us.getD (i + k) Lg.rv0 := ⟨_, rfl⟩
            obtain ⟨y2, hy2⟩ : ∃ y2, y2 = us.getD (i + k - 1) Lg.rv0 := ⟨_, rfl⟩
            rw [← hx2] at HX2 hnx
            rw [← hy2] at HY2 hnx
            rw [show o + (i + k) * 13 = o + i * 13 + k * 13 by omega] at HX2
            rw [show o + (i + k - 1) * 13 = o + i * 13 + (k - 1) * 13 by omega] at HY2
            replace HX2 := Lib.hid HX2
            replace HY2 := Lib.hid HY2
            have HNX := Lib.hid hnx
            have HX2E := Lib.hid hx2
            clear hx2 hy2 hnx
            have RP := Lib.hid (fun (W : World) => (rep1_any x2 y2 W : Calls Try.prog 64 #[.agg x2.cells.toArray, .agg y2.cells.toArray] W _))
            have kk : (k : Int) < ((n - i : Nat) : Int) := by omega
            have wk : IntKind.i64.wrap ((k : Int) - 1) = ((k - 1 : Nat) : Int) := by rw [IntWalk.i64_in _ (by omega)]; omega
            have kj : ((k - 1 : Nat) : Int) < ((n - i : Nat) : Int) := by omega
            clear hcu5 HB5 CP hB0
            go_upto_region 11 with fail
            refine wp_region_held_drew (S := fun w' => (∀ (j : Nat) (u : Value), x2.cells[j]? = some u → w'.cell? ⟨g, o + i * 13 + k * 13 + j, none⟩ = some u) ∧ (∀ (j : Nat) (u : Value), y2.cells[j]? = some u → w'.cell? ⟨g, o + i * 13 + (k - 1) * 13 + j, none⟩ = some u)) (by kernel_rfl) ?_ (fun h0 => ?_)
            · exact ⟨HX2.out, HY2.out⟩
            refine wpAnyH_take (i := 0) (v := ?_) rfl (by kernel_rfl) (by kernel_rfl) (by kernel_rfl) (fun _ _ _ h => h) (Or.inl ⟨by rfl, ?_⟩) h0 ?_
            rotate_left
            focus (intro w' hSw; skip; go_simp; (try with_reducible rfl))
            (try simp only [List.getElem_toArray, List.getElem_cons_succ, List.getElem_cons_zero, Act.put, List.setIfInBounds_toArray, List.set_cons_zero, List.set_cons_succ])
            refine wpAnyH_take (i := 1) (v := ?_) rfl (by kernel_rfl) (by kernel_rfl) (by kernel_rfl) (fun _ _ _ h => h) (Or.inl ⟨by rfl, ?_⟩) h0 ?_
            rotate_left
            focus (intro w' hSw; skip; go_simp; (try with_reducible rfl))
            (try simp only [List.getElem_toArray, List.getElem_cons_succ, List.getElem_cons_zero, Act.put, List.setIfInBounds_toArray, List.set_cons_zero, List.set_cons_succ])
            refine wpAnyH_take (i := 2) (v := ?_) rfl (by kernel_rfl) (by kernel_rfl) (by kernel_rfl) (fun _ _ _ h => h) (Or.inl ⟨by rfl, ?_⟩) h0 ?_
            rotate_left
            focus (intro w' hSw; skip; go_simp; (try with_reducible rfl))
            (try simp only [List.getElem_toArray, List.getElem_cons_succ, List.getElem_cons_zero, Act.put, List.setIfInBounds_toArray, List.set_cons_zero, List.set_cons_succ])
            refine wpAnyH_take (i := 3) (v := ?_) rfl (by kernel_rfl) (by kernel_rfl) (by kernel_rfl) (fun _ _ _ h => h) (Or.inl ⟨by rfl, ?_⟩) h0 ?_
            rotate_left
            focus (intro w' hSw; skip; go_simp; (try with_reducible rfl))
            (try simp only [List.getElem_toArray, List.getElem_cons_succ, List.getElem_cons_zero, Act.put, List.setIfInBounds_toArray, List.set_cons_zero, List.set_cons_succ])
            refine wpAnyH_take (i := 4) (v := .agg (x2).cells.toArray) rfl (by kernel_rfl) (by kernel_rfl) (by kernel_rfl) (fun _ _ _ h => h) (yields_load_at (by rfl) 32 _ rfl g (o + i * 13 + k * 13) rfl _ _ (fun w' hS => hS.1) Try.underlying32 rfl (by rw [Lg.RV.len]; kernel_rfl)) h0 ?_
            (try simp only [List.getElem_toArray, List.getElem_cons_succ, List.getElem_cons_zero, Act.put, List.setIfInBounds_toArray, List.set_cons_zero, List.set_cons_succ])
            refine wpAnyH_take (i := 5) (v := ?_) rfl (by kernel_rfl) (by kernel_rfl) (by kernel_rfl) (fun _ _ _ h => h) (Or.inl ⟨by rfl, ?_⟩) h0 ?_
            rotate_left
            focus (intro w' hSw; skip; go_simp; (try with_reducible rfl))
            (try simp only [List.getElem_toArray, List.getElem_cons_succ, List.getElem_cons_zero, Act.put, List.setIfInBounds_toArray, List.set_cons_zero, List.set_cons_succ])
            refine wpAnyH_take (i := 6) (v := ?_) rfl (by kernel_rfl) (by kernel_rfl) (by kernel_rfl) (fun _ _ _ h => h) (Or.inl ⟨by rfl, ?_⟩) h0 ?_
            rotate_left
            focus (intro w' hSw; skip; go_simp; (try with_reducible rfl))
            (try simp only [List.getElem_toArray, List.getElem_cons_succ, List.getElem_cons_zero, Act.put, List.setIfInBounds_toArray, List.set_cons_zero, List.set_cons_succ])
            refine wpAnyH_take (i := 7) (v := ?_) rfl (by kernel_rfl) (by kernel_rfl) (by kernel_rfl) (fun _ _ _ h => h) (Or.inl ⟨by rfl, ?_⟩) h0 ?_
            rotate_left
            focus (intro w' hSw; skip; go_simp; (try with_reducible rfl))
            (try simp only [List.getElem_toArray, List.getElem_cons_succ, List.getElem_cons_zero, Act.put, List.setIfInBounds_toArray, List.set_cons_zero, List.set_cons_succ])
            refine wpAnyH_take (i := 8) (v := ?_) rfl (by kernel_rfl) (by kernel_rfl) (by kernel_rfl) (fun _ _ _ h => h) (Or.inl ⟨by rfl, ?_⟩) h0 ?_
            rotate_left
            focus (intro w' hSw; skip; go_simp; (try with_reducible rfl))
            (try simp only [List.getElem_toArray, List.getElem_cons_succ, List.getElem_cons_zero, Act.put, List.setIfInBounds_toArray, List.set_cons_zero, List.set_cons_succ])
            refine wpAnyH_take (i := 9) (v := .agg (y2).cells.toArray) rfl (by kernel_rfl) (by kernel_rfl) (by kernel_rfl) (fun _ _ _ h => h) (yields_load_at (by rfl) 32 _ rfl g (o + i * 13 + (k - 1) * 13) rfl _ _ (fun w' hS => hS.2) Try.underlying32 rfl (by rw [Lg.RV.len]; kernel_rfl)) h0 ?_
            (try simp only [List.getElem_toArray, List.getElem_cons_succ, List.getElem_cons_zero, Act.put, List.setIfInBounds_toArray, List.set_cons_zero, List.set_cons_succ])
            refine wpAnyH_ready (rs := [10]) (by kernel_rfl) (by simp) ?_
            refine AllReadyH.cons rfl (fun K hK => ?_) AllReadyH.nil
            go_simp
            refine (RP.out _).mono ?_
            rintro e w6 ⟨rfl, hb6⟩
            go_wp2_with fail
            have B6 : Below wr.heap.size wr w6 := (Below.refl wr.heap.size wr).drew.trans hb6
            refine hK.out _ _ ?_ (fun h1 => ?_)
            · exact ⟨fun j u hj => (B6.cell (p := ⟨g, o + i * 13 + k * 13 + j, none⟩) hgl).trans (HX2.out j u hj), fun j u hj => (B6.cell (p := ⟨g, o + i * 13 + (k - 1) * 13 + j, none⟩) hgl).trans (HY2.out j u hj)⟩
            clear hK K
            (try simp only [List.getElem_toArray, List.getElem_cons_succ, List.getElem_cons_zero, Act.put, List.setIfInBounds_toArray, List.set_cons_zero, List.set_cons_succ])
            refine wpAnyH_take (i := 11) (v := ?_) rfl (by kernel_rfl) (by kernel_rfl) (by kernel_rfl) (fun _ _ _ h => h) (Or.inl ⟨by rfl, ?_⟩) h1 ?_
            rotate_left
            focus (intro w' hSw; skip; go_simp; (try with_reducible rfl))
            (try simp only [List.getElem_toArray, List.getElem_cons_succ, List.getElem_cons_zero, Act.put, List.setIfInBounds_toArray, List.set_cons_zero, List.set_cons_succ])
            refine wpAnyH_done (by kernel_rfl) ?_ _
            have hcu6 : Lg.Cu w6 g o c (Lg.cur us (i + k)) := by
              obtain ⟨C, hC, r⟩ := hcu
              exact ⟨C, blk_below hC B6 hgl, r⟩
            have hX6 : ∀ (j : Nat) (u : Value), x2.cells[j]? = some u → w6.cell? ⟨g, o + i * 13 + k * 13 + j, none⟩ = some u := fun j u hj => (B6.cell (p := ⟨g, o + i * 13 + k * 13 + j, none⟩) hgl).trans (HX2.out j u hj)
            replace hX6 := Lib.hid hX6
            have hK6 := hKp.trans (Keeps.of_below (S := fun q => q = g) B6) (fun _ _ h => h)
            have hz6 := B6.size
            clear hcu h0 h1 B6 hb6
            by_cases hs2 : x2.x.s = y2.x.s
            · have zs2 : (x2.x.s == y2.x.s) = true := by simp [hs2]
              simp only [zs2, Bool.not_true]
              have E3 : Lg.cpn us (i + (k + 1)) = Lg.cpn us (i + k) := by have := HNX.out; rw [if_pos hs2] at this; exact this
              have E4 : Lg.cur us (i + (k + 1)) = Lg.cur us (i + k) := by unfold Lg.cur; rw [E3]
              have E3' := Lib.hid E3
              have E4' := Lib.hid E4
              clear E3 E4 hs2
              go_wp2_with fail
              go_roundw
              case rel => exact ⟨k + 1, by go_num, by omega, by omega, by rw [E3'.out], by rw [E3'.out]; omega, by rw [E4'.out]; exact hcu6, hK6⟩
              case measure => simp [intOf]; omega
            · have zs2 : (x2.x.s == y2.x.s) = false := by simp [hs2]
              have E3 := Lib.hid (show Lg.cpn us (i + (k + 1)) = Lg.cpn us (i + k) ++ [x2] by have := HNX.out; rw [if_neg hs2] at this; exact this)
              clear hs2
              simp only [zs2, Bool.not_false]
              obtain ⟨m, hm⟩ : ∃ m, m = (Lg.cpn us (i + k)).length := ⟨_, rfl⟩
              have E4 := Lib.hid (show (Lg.cur us (i + k)).set m x2 = Lg.cur us (i + (k + 1)) by
                rw [hm, Lg.cur_put us (i + k) x2 (by rw [HL.out]; omega), Lg.cur, E3.out, List.length_append, List.length_singleton])
              have E5 := Lib.hid (show (Lg.cpn us (i + (k + 1))).length = m + 1 by rw [E3.out, List.length_append, List.length_singleton, hm])
              have HX6 := Lib.hid (show ∀ (j : Nat) (u : Value), x2.cells[j]? = some u → w6.cell? ⟨g, o + i * 13 + k * 13 + j, none⟩ = some u from fun j u hu => (hX6.out j u hu))
              have HTH := Lib.hid (show w6.there g (o + m * 13) x2.cells.toArray.size from fun j hj => hcu6.there (by omega) (by rw [show x2.cells.toArray.size = 13 from rfl] at hj; omega))
              have HCU := Lib.hid (show Lg.Cu (w6.setCells g (o + m * 13) x2.cells) g o c (Lg.cur us (i + (k + 1))) by rw [← E4.out]; exact hcu6.put (by rw [hcl2, HL.out]; omega) x2)
              have HK7 := Lib.hid (lsetCells_keeps g x2.cells (o + m * 13) w w6 hK6)
              rw [← hm] at hkl ⊢
              have HM := Lib.hid hm
              have mn : (m : Int) < (n : Int) := by omega
              clear hm hcu6 hK6 HX2 HY2 RP HNX
              have hst := run_storeCells_cells (P := Try.prog) g (o + m * 13) x2.cells 0 w6 (fun j hj => by simpa using (HTH.out j (by simpa using hj)).1) (fun j hj => by simpa using (HTH.out j (by simpa using hj)).2) (rv_oneL x2)
              simp only [Nat.add_zero] at hst
              go_upto_region 13 with (refine wpList_load_at rfl 32 (.tmp 54) rfl g (o + i * 13 + k * 13) rfl x2.cells _ HX6.out Try.underlying32 rfl (by rw [Lg.RV.len]; kernel_rfl) ?_; simp only [List.getElem_toArray, List.getElem_cons_succ, List.getElem_cons_zero, Act.put, List.setIfInBounds_toArray, List.set_cons_zero, List.set_cons_succ])
              generalize World.setCells _ _ _ _ = w7 at *
              go_wp2_with fail
              go_roundw
              case rel => exact ⟨k + 1, by go_num, by omega, by omega, by rw [E5.out]; go_num, by rw [E5.out]; omega, HCU.out, HK7.out⟩
              case measure => simp [intOf]; omega
          · have hkn : i + k = n := by omega
            have hxl : (Lg.cpn us (i + k)).length ≤ n := by omega
            obtain ⟨m, hm⟩ : ∃ m, m = (Lg.cpn us (i + k)).length := ⟨_, rfl⟩
            have hmn : m < n := by omega
            obtain ⟨L, hL, hL1, hcl⟩ := run_clear_rec wr g (o + m * 13) (n - m) (c - m) (by omega) (fun j hj => (hcu.there (i := m) (by omega) (j := j) (by omega)).1) (fun j hj => (hcu.there (i := m) (by omega) (j := j) (by omega)).2)
            have hov := hcu.over (m := m) (by rw [hcl2, HL.out]; omega) L
            have htk : (Lg.cur us (i + k)).take m = Lg.cpn us n := by rw [Lg.cur, hm, List.take_left', hkn]; rfl
            rw [htk] at hov
            have hmm : (Lg.cpn us n).length = m := by rw [hm, hkn]
            have ROW := hov.row (base := base) hgb hcm (k := m) (by rw [hmm]; exact Nat.le_refl _)
            rw [List.take_of_length_le (by rw [hmm]; exact Nat.le_refl _)] at ROW
            have P := Lib.hid (show Lg.CmpPost w base (some ⟨g, o, none⟩) n c us (.returned (.slice (some ⟨g, o, none⟩) m c)) (wr.setCells g (o + m * 13) L) by
              unfold Lg.CmpPost
              rw [hmm]
              exact ⟨rfl, ROW, (lsetCells_keeps g L (o + m * 13) w wr hKp).mono (fun q _ hq => by rw [hq]; rfl)⟩)
            have m0 : (0 : Int) ≤ (m : Int) := by omega
            have mc : (m : Int) ≤ (c : Int) := by omega
            have me : (m : Int) ≤ (n : Int) := by omega
            have mne : ¬ c = m := by omega
            have k9 : ¬ ((k : Int) < ((n - i : Nat) : Int)) := by omega
            rw [← hm]
            clear hcu hov htk hmm ROW hL hL1 hm hkl hkn hxl hcl2 hKp hcu5 HB5 CP hB0
            go_wp2_with fail
            go_ret
            exact P.out
      · have zs : (x.x.s == y.x.s) = false := by simp [hs]
        go_wp2_with fail
        have HA2 := Lib.hid (show ∀ j, 1 ≤ j → j < i + 1 → (us.getD j Lg.rv0).x.s ≠ (us.getD (j - 1) Lg.rv0).x.s from fun j j1 j2 => by
          rcases Nat.lt_or_ge j i with h | h
          · exact HA.out j j1 h
          · obtain rfl : j = i := by omega
            rw [← HXE.out, ← HYE.out]
            exact hs)
        have hcu5 : Lg.Cu w5 g o c us := by
          obtain ⟨C, hC, r⟩ := hcu
          exact ⟨C, blk_below hC B5 hgl, r⟩
        go_roundw
        case rel => exact ⟨i + 1, by go_num, by omega, by omega, hcu5, hB.trans (B5.mono hB.size), HA2⟩
        case measure => simp [intOf]; omega
    · obtain rfl : i = n := by omega
      have E := Lib.hid (show Lg.cpn us i = us by rw [Lg.cpn_all us i (by rw [HL.out]; exact Nat.le_refl _) HA.out, List.take_of_length_le (by rw [HL.out]; exact Nat.le_refl _)])
      have ROW := hcu.row (base := base) hgb hcm (k := i) (by rw [HL.out]; exact Nat.le_refl _)
      rw [List.take_of_length_le (by rw [HL.out]; exact Nat.le_refl _)] at ROW
      have P := Lib.hid (show Lg.CmpPost w base (some ⟨g, o, none⟩) i c us (.returned (.slice (some ⟨g, o, none⟩) i c)) wr by unfold Lg.CmpPost; rw [E.out, HL.out]; exact ⟨rfl, ROW, Keeps.of_below hB⟩)
      clear ROW
      go_wp2_with fail
      go_ret
      exact P.out
end Go.Proofs.Ytgmejplcdecmkaa

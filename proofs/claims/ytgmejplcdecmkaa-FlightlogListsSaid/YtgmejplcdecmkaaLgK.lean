/- add: a record is appended. -/
import Derived.Test.YtgmejplcdecmkaaLgI
namespace Go.Proofs.Ytgmejplcdecmkaa
open Go.RowKit
set_option maxHeartbeats 8000000
set_option maxRecDepth 100000
set_option linter.unusedSimpArgs false
set_option linter.unusedVariables false
attribute [local go_sem ↓] Go.wp_at_zero Go.wp_at_succ
theorem info_rec : (Try.prog.info? 32).map (fun i => (i.zero, i.size, i.bytes)) = some (some (.agg Lg.rv0.cells.toArray), 13, 120) := by kernel_rfl
/-- append onto a slice of the call's own: one law for nil, for room and for none -/
theorem run_append_row2 {P : Program} {w : World} (base : Nat) (t ty e : TypeId) (i : TypeInfo) (z : Value) (size bytes : Nat) (ht : P.underlying t = some (.slice e)) (hi : P.info? e = some i) (hz : i.zero = some z)
    (hsize : i.size = size) (hby : i.bytes = bytes) (hzs : z.cells.size = size) (A : Option Addr) (n c : Nat) (xs : List Value) (hown : Row w base e size A n c xs)
    (a : Addr) (m d : Nat) (news : List Value) (hl : news.length = m * size) (hnews : ∀ j u, news[j]? = some u → w.cell? (a.add j) = some u) (h1 : ∀ u ∈ news, u.oneCell' = true) (hm : 0 < m)
    (h63 : n + m ≤ maxLen) (hbytes : (n + m) * bytes ≤ 140737488355328) (hbase : base ≤ w.heap.size) :
    ∃ A' c' w', (Builtin.append_ #[t, t] ty #[.slice A n c, .slice (some a) m d]).run P w = .ok (.slice A' (n + m) c') w' ∧ Row w' base e size A' (n + m) c' (xs ++ news) ∧ w.grownBy w' (blkOf A) ∧
      (A' = A ∨ blkOf A' = some w.heap.size) ∧ Rds w' w'.heap.size size A n xs := by
  subst hsize
  have hlen := hown.1
  by_cases hroom : n + m ≤ c
  · rcases hown.2 with ⟨rfl, h0, h00⟩ | ⟨g, o, cur, rfl, hb, hg, hnc, hcm, hfit, htake⟩
    · omega
    · have hmul : (n + m) * i.size ≤ c * i.size := Nat.mul_le_mul_right _ hroom
      rw [Nat.add_mul] at hmul
      have hf := run_firstCells_some (P := P) w i.size m a m d news hl hnews
      have hst := run_storeCells_at P g (o + n * i.size) e news 0 cur w hg (by rw [hl]; omega) h1
      simp only [Nat.add_zero] at hst
      refine ⟨some ⟨g, o, none⟩, c, w.setRow g (splice cur.toList (o + n * i.size) news).toArray, ?_, ?_, ⟨rfl, rfl, rfl, by simp [World.setRow], fun k _ hk => setRow_other w g k _ (fun e => hk (by simp [e, blkOf]))⟩, .inl rfl, hlen, fun hn => ⟨g, o, rfl, by simpa [World.setRow] using lt_of_block hg, fun j u hu => ?_⟩⟩
      · simp [Builtin.append_, run_underlying ht, sizeOf, typeInfo, hi, Builtin.lenOf, hroom, hf, Addr.add_lit, hst, splice]
      · refine Row.of_block (setRow_heap w g cur _ e _ hg) hb hroom hcm ?_ ?_
        · simp [splice]; omega
        · have hsz : (cur.toList).length = cur.size := Array.length_toList
          simp only [splice]
          rw [List.drop_append_of_le_length (by rw [List.length_take, hsz]; omega), List.drop_take]
          rw [show o + n * i.size - o = n * i.size by omega, htake, ← List.append_assoc, List.take_append_of_le_length (by rw [List.length_append, hlen, hl, Nat.add_mul]; omega), List.take_of_length_le (by rw [List.length_append, hlen, hl, Nat.add_mul]; omega)]
      · have hj : j < xs.length := by
          rcases Nat.lt_or_ge j xs.length with h | h
          · exact h
          · rw [List.getElem?_eq_none h] at hu; cases hu
        have hb2 := setRow_heap w g cur (splice cur.toList (o + n * i.size) news).toArray e _ hg
        simp only [World.cell?, hb2]
        have hsz : (cur.toList).length = cur.size := Array.length_toList
        rw [List.getElem?_toArray, splice]
        simp only [Option.isSome_none, Bool.false_eq_true, if_false]
        rw [List.getElem?_append_left (by rw [List.length_take, hsz]; omega), List.getElem?_take_of_lt (by omega)]
        rw [← htake, List.getElem?_take_of_lt (by omega), List.getElem?_drop] at hu
        exact hu
  · have hsrc : Src P i.size t (.slice (some a) m d) m news w := Src.ofSlice w ht a m d news hl hnews h1
    have hold : (Builtin.firstCells i.size n (.slice A n c)).run P w.drew = .ok xs.toArray w.drew := by
      rcases hown.2 with ⟨rfl, h0, h00⟩ | ⟨g, o, cur, rfl, hb, hg, hnc, hcm, hfit, htake⟩
      · subst h0
        have hx : xs = [] := List.eq_nil_of_length_eq_zero (by simpa using hlen)
        subst hx
        exact run_firstCells_none w.drew i.size 0 0 c
      · refine run_firstCells_some (P := P) w.drew i.size n _ n c xs hlen (fun j u hu => ?_)
        rw [addr_add]
        have hn : 0 < n := by
          rcases Nat.eq_zero_or_pos n with h0 | h0
          · subst h0
            have hx : xs = [] := List.eq_nil_of_length_eq_zero (by simpa using hlen)
            subst hx
            simp at hu
          · exact h0
        obtain ⟨g', o', cur', he, _, _, _, _, _, _, _, hc, _⟩ := hown.some_ hn
        injection he with he; injection he with e1 e2
        subst e1; subst e2
        exact hc j u hu
    have hsmall : n + m ≤ 9223372036854775807 := by simp only [maxLen] at h63; omega
    have hfit : Builtin.nextslicecap (n + m) c * i.bytes ≤ 281474976710656 := by
      have := nextslicecap_le (need := n + m) (old := c) (by omega)
      rw [hby]
      exact Nat.le_trans (Nat.mul_le_mul_right _ this) (by rw [Nat.mul_assoc]; omega)
    have hr := run_append_grow_src (P := P) w t t ty e i z ht hi hz A n c xs hold _ m news hsrc (by omega) (by omega) hfit
    have hge := grownCap_ge w (n + m) c e
    have hcm : grownCap w (n + m) c e ≤ maxLen := grownCap_le_maxLen w (n + m) c e h63
    refine ⟨_, _, _, hr, ?_, ⟨rfl, rfl, rfl, by simp, fun k hk _ => Below.heap_alloc w.drew _ k hk⟩, .inr rfl, hlen, fun hn => ?_⟩
    · refine Row.of_block (heap_alloc_new w.drew _) hbase hge hcm ?_ ?_
      · simp only [Array.size_append, List.size_toArray, List.length_append, size_zeroCells, hzs, hlen, hl, ← Nat.add_mul, Nat.zero_add]
        have : n + m + (grownCap w (n + m) c e - (n + m)) = grownCap w (n + m) c e := by omega
        rw [this]
        exact Nat.le_refl _
      · simp only [Array.toList_append, List.drop_zero]
        rw [List.take_append_of_le_length (by simp [hlen, hl, Nat.add_mul]), List.take_of_length_le (by simp [hlen, hl, Nat.add_mul])]
    · obtain ⟨g', o', cur', rfl, _, hlt, _, _, _, _, _, hc, _⟩ := hown.some_ hn
      exact ⟨g', o', rfl, by simp; omega, fun j u hu => (World.cell?_alloc_lt w.drew _ ⟨g', o' + j, none⟩ hlt).trans (hc j u hu)⟩
theorem step_append_row2 {P : Program} {w : World} {ops : Array Oper} {o : Oper} {a : Act} {K : Act → World → Prop} {Q : Exit → Act → World → Prop} {E : Prop} (hgd : o.guard = none) (s x : Operand) (t : TypeId)
    (ho : o.op = .call { callee := .builtin .append, args := #[s, x], argTypes := #[t, t] })
    (base : Nat) (e : TypeId) (i : TypeInfo) (z : Value) (size bytes : Nat) (ht : P.underlying t = some (.slice e)) (hi : P.info? e = some i) (hz : i.zero = some z)
    (hsize : i.size = size) (hby : i.bytes = bytes) (hzs : z.cells.size = size) (A : Option Addr) (n c : Nat) (xs : List Value) (hs : a.eval s = .slice A n c) (hown : Row w base e size A n c xs)
    (ad : Addr) (m d : Nat) (news : List Value) (hx : a.eval x = .slice (some ad) m d) (hl : news.length = m * size) (hnews : ∀ j u, news[j]? = some u → w.cell? (ad.add j) = some u) (h1 : ∀ u ∈ news, u.oneCell' = true) (hm : 0 < m)
    (h63 : n + m ≤ maxLen) (hbytes : (n + m) * bytes ≤ 140737488355328) (hbase : base ≤ w.heap.size)
    (h : ∀ A' c' w', Row w' base e size A' (n + m) c' (xs ++ news) → w.grownBy w' (blkOf A) → (A' = A ∨ blkOf A' = some w.heap.size) → Rds w' w'.heap.size size A n xs → K (a.put o.dst (.slice A' (n + m) c')) w') :
    if Region.wanted o (yielded ops a.tmps) = true then Oper.wp P o a w K Q else E := by
  have hw : Region.wanted o (yielded ops a.tmps) = true := by simp [Region.wanted, hgd]
  rw [if_pos hw]
  obtain ⟨A', c', w', hrun, h2, h3, h4, h5⟩ := run_append_row2 (P := P) base t o.type e i z size bytes ht hi hz hsize hby hzs A n c xs hown ad m d news hl hnews h1 hm h63 hbytes hbase
  unfold Oper.wp execOp
  simp only [ho, resolve, invoke, builtin, Sem.run_bind, Sem.run_pure, Result.andThen_ok, List.map_toArray, List.map_cons, List.map_nil, hs, hx, hrun]
  exact h A' c' w' h2 h3 h4 h5
/-- behind a call that appends the record x -/
def AddPost (base p : Nat) (A : Option Addr) (vs : List Lg.RV) (X : Nat → Prop) (x : Lg.Rc) (w : World) (e : Ending) (w' : World) : Prop :=
  ∃ A' c' vs', e = .returned (.int .i64 (Lg.addE (Lg.xs vs) x)) ∧ Lg.IsLg w' base p A' c' vs' (fun i => X i ∨ w.heap.size ≤ i) ∧ Lg.xs vs' = Lg.add (Lg.xs vs) x ∧ Keeps (Lg.Two p A) w w' ∧
    (A' = A ∨ ∃ g, blkOf A' = some g ∧ w.heap.size ≤ g) ∧ Lg.Rr w' w'.heap.size A vs.length vs ∧ vs.length ≤ vs'.length
section
variable {w w' : World} {base p c n : Nat} {X X' : Nat → Prop} {A : Option Addr} {vs : List Lg.RV}
open Lg (IsLg)
theorem ladd_nil (v : Lg.RV) (w : World) : Calls Try.prog 47 #[.pointer none, v.val] w fun e w' => e = .returned (.int .i64 1) ∧ Below w.heap.size w w' := by
  obtain ⟨C, hval, hC, hCs⟩ := rv_opaque v
  rw [hval]
  clear hval hC
  go_enter Try.func47, Try.ntmps47
  go_wp2_with fail
  go_ret
  exact ⟨rfl, (by repeat (first | (with_reducible exact Below.refl _ _) | (with_reducible refine Below.drew ?_) | (with_reducible refine below_drewN ?_ _) | ((with_reducible refine Below.alloc ?_ ?_ _); rotate_left; (first | omega | (simp <;> omega)); rotate_right) | ((with_reducible refine Below.setCell ?_ ?_ _); rotate_left; (first | omega | (simp <;> omega)); rotate_right) | (with_reducible assumption) | (refine Below.trans ?_ (Below.mono (by assumption) ?_); rotate_left; (first | omega | (simp <;> omega)); rotate_right)))⟩
theorem ladd_no (h : IsLg w base p A c vs X) (hn : vs.length ≤ 1000000) (v : Lg.RV) (hv : Lg.Ok w w.heap.size v) (he : Lg.addE (Lg.xs vs) v.x ≠ 0) :
    Calls Try.prog 47 #[.pointer (some ⟨p, 0, none⟩), v.val] w fun e w' => e = .returned (.int .i64 (Lg.addE (Lg.xs vs) v.x)) ∧ Below w.heap.size w w' := by
  have M := Lib.hid (fun (W : World) (hW : Below w.heap.size w W) => lmay_any (h.below hW) hn v ((hv.below hW (Nat.le_refl _)).more hW.size))
  have c0 : w.cell? ⟨p, 0, none⟩ = some (.slice A vs.length c) := blk_cell (l := [_]) h.blk 0 rfl
  have hp := h.lt
  obtain ⟨C, hval, hC, hCs⟩ := rv_opaque v
  rw [hval] at M ⊢
  clear h hv hval hC
  obtain ⟨n, hvn⟩ : ∃ n, n = vs.length := ⟨_, rfl⟩
  have HN := Lib.hid (show (Lg.xs vs).length = n by rw [Lg.xs_len, hvn])
  rw [← hvn] at c0 hn
  clear hvn
  obtain ⟨m, hm⟩ : ∃ m, m = Lg.mayE (Lg.xs vs) v.x := ⟨_, rfl⟩
  rw [← hm] at M
  by_cases h0 : m = 0
  · have hfull : 10000 ≤ n := by
      rcases Nat.lt_or_ge n 10000 with h1 | h1
      · exact absurd (Lg.addE_ok (by rw [← hm]; exact h0) (by rw [HN.out]; exact h1)) he
      · exact h1
    have E := Lib.hid (show Lg.addE (Lg.xs vs) v.x = 7 by unfold Lg.addE; rw [if_neg (by rw [← hm]; simp [h0]), if_pos (by rw [HN.out]; exact hfull)])
    subst h0
    clear he hm
    rw [E.out]
    go_enter Try.func47, Try.ntmps47
    go_upto_region 3 with fail
    have hbx := heap_new w (.cells C 32 (0, 0))
    go_wp2_with (refine wpList_load_row rfl 32 _ rfl _ rfl 32 _ (0, 0) _ hbx Try.underlying32 rfl (by rw [hCs]; kernel_rfl) ?_)
    refine (M.out _ (by repeat (first | (with_reducible exact Below.refl _ _) | (with_reducible refine Below.drew ?_) | (with_reducible refine below_drewN ?_ _) | ((with_reducible refine Below.alloc ?_ ?_ _); rotate_left; (first | omega | (simp <;> omega)); rotate_right) | ((with_reducible refine Below.setCell ?_ ?_ _); rotate_left; (first | omega | (simp <;> omega)); rotate_right) | (with_reducible assumption) | (refine Below.trans ?_ (Below.mono (by assumption) ?_); rotate_left; (first | omega | (simp <;> omega)); rotate_right)))).mono ?_
    rintro e w1 ⟨rfl, hb1⟩
    have hz1 := hb1.size
    simp only [World.size_alloc] at hz1
    have q0 := ((bcell hb1).1 p 0 (by simp; omega)).trans ((World.cell?_alloc_lt w _ ⟨p, 0, none⟩ hp).trans c0)
    go_wp2_with fail
    go_ret
    exact ⟨rfl, (by repeat (first | (with_reducible exact Below.refl _ _) | (with_reducible refine Below.drew ?_) | (with_reducible refine below_drewN ?_ _) | ((with_reducible refine Below.alloc ?_ ?_ _); rotate_left; (first | omega | (simp <;> omega)); rotate_right) | ((with_reducible refine Below.setCell ?_ ?_ _); rotate_left; (first | omega | (simp <;> omega)); rotate_right) | (with_reducible assumption) | (refine Below.trans ?_ (Below.mono (by assumption) ?_); rotate_left; (first | omega | (simp <;> omega)); rotate_right)))⟩
  · have E := Lib.hid (show Lg.addE (Lg.xs vs) v.x = m by unfold Lg.addE; rw [if_pos (by rw [← hm]; exact h0), ← hm])
    have hmz : (m != 0) = true := by simp [h0]
    clear he hm
    rw [E.out]
    go_enter Try.func47, Try.ntmps47
    go_upto_region 3 with fail
    have hbx := heap_new w (.cells C 32 (0, 0))
    go_wp2_with (refine wpList_load_row rfl 32 _ rfl _ rfl 32 _ (0, 0) _ hbx Try.underlying32 rfl (by rw [hCs]; kernel_rfl) ?_)
    refine (M.out _ (by repeat (first | (with_reducible exact Below.refl _ _) | (with_reducible refine Below.drew ?_) | (with_reducible refine below_drewN ?_ _) | ((with_reducible refine Below.alloc ?_ ?_ _); rotate_left; (first | omega | (simp <;> omega)); rotate_right) | ((with_reducible refine Below.setCell ?_ ?_ _); rotate_left; (first | omega | (simp <;> omega)); rotate_right) | (with_reducible assumption) | (refine Below.trans ?_ (Below.mono (by assumption) ?_); rotate_left; (first | omega | (simp <;> omega)); rotate_right)))).mono ?_
    rintro e w1 ⟨rfl, hb1⟩
    have hz1 := hb1.size
    simp only [World.size_alloc] at hz1
    go_wp2_with fail
    go_ret
    exact ⟨rfl, (by repeat (first | (with_reducible exact Below.refl _ _) | (with_reducible refine Below.drew ?_) | (with_reducible refine below_drewN ?_ _) | ((with_reducible refine Below.alloc ?_ ?_ _); rotate_left; (first | omega | (simp <;> omega)); rotate_right) | ((with_reducible refine Below.setCell ?_ ?_ _); rotate_left; (first | omega | (simp <;> omega)); rotate_right) | (with_reducible assumption) | (refine Below.trans ?_ (Below.mono (by assumption) ?_); rotate_left; (first | omega | (simp <;> omega)); rotate_right)))⟩
end
end Go.Proofs.Ytgmejplcdecmkaa

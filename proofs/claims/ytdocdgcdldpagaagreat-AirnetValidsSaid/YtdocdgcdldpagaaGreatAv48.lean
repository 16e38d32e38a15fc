import Derived.Test.YtdocdgcdldpagaaGreatAp
import Derived.Test.YtdocdgcdldpagaaGreatAv42
import Derived.Test.YtdocdgcdldpagaaGreatAv46
import Derived.Test.YtdocdgcdldpagaaGreatAv47
import Derived.Test.YtdocdgcdldpagaaGreatAv30
namespace Go.Proofs.YtdocdgcdldpagaaGreat
open Go.RowKit
set_option maxHeartbeats 8000000
set_option maxRecDepth 100000
set_option linter.unusedSimpArgs false
set_option linter.unusedVariables false
attribute [local go_sem ↓] Go.wp_at_zero Go.wp_at_succ
section
variable {w w' w0 : World}
def RNewPost (r : Nt.Ru) (w : World) (e : Ending) (w' : World) : Prop := ∃ p m, e = .returned (.tuple #[.pointer (some ⟨p, 0, none⟩), .int .i64 0]) ∧ IsN w' w.heap.size p (fun i => w.heap.size ≤ i) m (Nt.new r) ∧ Below w.heap.size w w'
theorem info_rp : (Tryz.prog.info? 101).map (fun i => (i.zero, i.size, i.bytes)) = some (some (.agg #[.int .i64 0, .int .i64 0, .int .i64 0, .int .i64 0, .int .i64 0, .int .i64 0, .int .i64 0, .int .i64 0, .bool false, .int .i64 0, .int .i64 0, .int .i64 0, .bool false, .bool false, .bool false, .bool false, .int .i64 0, .int .i64 0, .int .i64 0, .int .i64 0, .int .i64 0, .int .i64 0, .int .i64 0, .int .i64 0]), 24, 168) := by kernel_rfl
theorem info_rl : (Tryz.prog.info? 136).map (fun i => (i.zero, i.size, i.bytes)) = some (some (.agg #[.int .i64 0, .int .i64 0, .int .i64 0, .int .i64 0, .int .i64 0, .int .u64 0, .int .i64 0, .slice none 0 0, .int .i64 0, .int .i64 0, .int .i64 0]), 11, 104) := by kernel_rfl
theorem rnnew_no (r : Nt.Ru) (n m : Nat) (OA : Option Addr) (oc : Nat) (TA : Option Addr) (tc : Nat) (w : World) (hv : Nt.vld r = false) (hn : r.offs.length = n) (hm : r.rates.length = m) (ho : Ri w w.heap.size OA n r.offs) (ht : Ri w w.heap.size TA m r.rates) :
    Calls Tryz.prog 37 #[rval r OA n oc TA m tc] w fun e w' => e = .returned (.tuple #[.pointer none, .int .i64 2]) ∧ Below w.heap.size w w' := by
  have VA := Lib.hid (fun (W : World) (hW : Below w.heap.size w W) => hv ▸ rnvalid_any r n m OA oc TA tc W hn hm ((ho.below hW (Nat.le_refl _)).more hW.size) ((ht.below hW (Nat.le_refl _)).more hW.size))
  clear hn hm ho ht hv
  rw [rval_rcl] at VA ⊢
  unfold rcl
  go_enter Tryz.func37, Tryz.ntmps37
  go_upto_region 1 with fail
  generalize hV : World.alloc _ _ = V
  have k0 : V.heap[w.heap.size]? = some (.cells (rcl r OA n oc TA m tc).toArray 28 (0, 0)) := Bd
  have HB := Lib.hid (show Below w.heap.size w V from by rw [← hV]; exact (Below.refl _ w).alloc (Nat.le_refl _) _)
  clear hV
  go_wp2_with (first | (go_at_call 10; refine (VA.out _ HB.out).mono ?_; rintro e w2 ⟨rfl, hb2⟩) | (refine wpList_load_row rfl 28 _ rfl w.heap.size rfl 28 _ (0, 0) _ k0 Tryz.underlying28 rfl (by as_aux_lemma => kernel_rfl) ?_))
  go_ret2
  exact ⟨rfl, HB.out.trans (hb2.mono HB.out.size)⟩
def RCutA (r : Nt.Ru) (n : Nat) (OA : Option Addr) (oc : Nat) (TA : Option Addr) (tc : Nat) (w2 : World) (v4 : Value) (wx : World) : Prop := ∃ p KA BA, v4 = .pointer (some ⟨p, 0, none⟩) ∧ wx.heap[p]? = some (.cells #[.int .i64 (n : Int), .int .i64 r.again, .int .i64 r.step, .int .i64 r.drift, .int .i64 r.lost, .int .i64 r.ret, .int .i64 r.desc, .int .i64 r.late, .int .i64 r.every, .int .i64 r.up.loss, .int .i64 r.up.twice, .int .i64 r.up.least, .int .i64 r.up.most, .int .i64 r.up.seed, .int .i64 r.dn.loss, .int .i64 r.dn.twice, .int .i64 r.dn.least, .int .i64 r.dn.most, .int .i64 r.dn.seed, .slice OA n oc, .slice TA n tc, .int .i64 0, .int .i64 0, .int .i64 0, .int .i64 0, .int .i64 0, .int .i64 0, .bool false, .int .i64 0, .int .i64 0, .slice none 0 0, .int .i64 0, .slice none 0 0, .slice none 0 0, .slice none 0 0, .slice none 0 0, .slice none 0 0, .slice (some ⟨KA, 0, none⟩) n n, .slice (some ⟨BA, 0, none⟩) (n + 1) (n + 1), .slice none 0 0] 55 (0, 0)) ∧
  wx.heap[KA]? = some (.cells (madeCells #[.bool false] (n * 1)) 4 (0, 0)) ∧ wx.heap[BA]? = some (.cells (madeCells #[.int .i64 0] ((n + 1) * 1)) 3 (0, 0)) ∧ (w2.heap.size ≤ p ∧ w2.heap.size ≤ KA ∧ w2.heap.size ≤ BA) ∧ Below w2.heap.size w2 wx
theorem Ep {p : Prop} (h : p := by
  refine wpAnyF_ready (rs := [23]) (by as_aux_lemma => kernel_rfl) (by simp) ?_
  refine AllReadyF.cons rfl (fun K hK => ?_) (AllReadyF.nil)
  · skip
    have hle := H5.out.w3.le
    refine step_append_row rfl (.tmp 111) (.tmp 113) 53 rfl U.heap.size 136 l0 _ 11 104 Tryz.underlying53 hl0 lza lzb lzc rfl VA j vc (ulcs r.dn (·.dn) 0 (Nt.newCrs r j) (List.replicate j (none, 0))) rfl H5.out.w3 ⟨β3, 0, none⟩ 1 1 [.int .i64 r.dn.loss, .int .i64 r.dn.twice, .int .i64 r.dn.least, .int .i64 r.dn.most, .int .i64 (r.dn.seed + ((j : Int) + 1)), .int .u64 (r.dn.seed + ((j : Int) + 1)), .int .i64 0, .slice none 0 0, .int .i64 0, .int .i64 0, .int .i64 0] rfl rfl (fun k u hu => by rw [addr_add, Nat.zero_add]; exact blk_cell (H5.out.f3 β3 rfl).1 k hu) Bt Cb Bn Cb H5.out.up ?_
    intro VB vd V6 hrow hg hat
    have h1 := H5.out.a3 hrow hg hat
    refine hK.out _ _ (fun _ => h1.s rfl rfl rfl) ?_
    clear hK K
    (try simp only [List.getElem_toArray, List.getElem_cons_succ, List.getElem_cons_zero, Act.put, List.setIfInBounds_toArray, List.set_cons_zero, List.set_cons_succ])
    have H6 := Lib.hid h1
    clear h1 hrow hg hat hle H5
    refine wpAnyF_pure (i := 24) (v := ?_) rfl (by as_aux_lemma => kernel_rfl) (by as_aux_lemma => kernel_rfl) (by as_aux_lemma => kernel_rfl) rfl (by as_aux_lemma => kernel_rfl) (fun _ _ _ h => h) (Or.inl ⟨by rfl, ?_⟩) ?_
    rotate_left
    focus (intro w' hSw; skip; go_simp; (try with_reducible rfl))
    (try simp only [List.getElem_toArray, List.getElem_cons_succ, List.getElem_cons_zero, Act.put, List.setIfInBounds_toArray, List.set_cons_zero, List.set_cons_succ])
    refine wpAnyF_pure (i := 25) (v := ?_) rfl (by as_aux_lemma => kernel_rfl) (by as_aux_lemma => kernel_rfl) (by as_aux_lemma => kernel_rfl) rfl (by as_aux_lemma => kernel_rfl) (fun _ _ _ h => h) (Or.inl ⟨by rfl, ?_⟩) ?_
    rotate_left
    focus (intro w' hSw; skip; go_simp; (try with_reducible rfl))
    (try simp only [List.getElem_toArray, List.getElem_cons_succ, List.getElem_cons_zero, Act.put, List.setIfInBounds_toArray, List.set_cons_zero, List.set_cons_succ])
    have dp := H6.out.hp
    have d34 := blk_cell dp 34 rfl; have f34 := blk_free dp 34
    refine wpAnyF_ready (rs := [26]) (by as_aux_lemma => kernel_rfl) (by simp) ?_
    refine AllReadyF.cons rfl (fun K hK => ?_) AllReadyF.nil
    go_simp
    refine hK.out _ _ (fun h => absurd h (by decide)) ?_
    clear hK K
    (try simp only [List.getElem_toArray, List.getElem_cons_succ, List.getElem_cons_zero, Act.put, List.setIfInBounds_toArray, List.set_cons_zero, List.set_cons_succ])
    refine wpAnyF_pure (i := 27) (v := ?_) rfl (by as_aux_lemma => kernel_rfl) (by as_aux_lemma => kernel_rfl) (by as_aux_lemma => kernel_rfl) rfl (by as_aux_lemma => kernel_rfl) (fun _ _ _ h => h) (Or.inl ⟨by rfl, ?_⟩) ?_
    rotate_left
    focus (intro w' hSw; skip; go_simp; (try with_reducible rfl))
    (try simp only [List.getElem_toArray, List.getElem_cons_succ, List.getElem_cons_zero, Act.put, List.setIfInBounds_toArray, List.set_cons_zero, List.set_cons_succ])
    refine wpAnyF_pure (i := 28) (v := ?_) rfl (by as_aux_lemma => kernel_rfl) (by as_aux_lemma => kernel_rfl) (by as_aux_lemma => kernel_rfl) rfl (by as_aux_lemma => kernel_rfl) (fun _ _ _ h => h) (Or.inl ⟨by rfl, ?_⟩) ?_
    rotate_left
    focus (intro w' hSw; skip; go_simp; (try with_reducible rfl))
    (try simp only [List.getElem_toArray, List.getElem_cons_succ, List.getElem_cons_zero, Act.put, List.setIfInBounds_toArray, List.set_cons_zero, List.set_cons_succ])
    have dp := blk_set dp 34 (.slice PB (j + 1) pd)
    rw [List.setIfInBounds_toArray] at dp
    have d35 := blk_cell dp 35 rfl; have f35 := blk_free dp 35
    refine wpAnyF_ready (rs := [29]) (by as_aux_lemma => kernel_rfl) (by simp) ?_
    refine AllReadyF.cons rfl (fun K hK => ?_) AllReadyF.nil
    go_simp
    refine hK.out _ _ (fun h => absurd h (by decide)) ?_
    clear hK K
    (try simp only [List.getElem_toArray, List.getElem_cons_succ, List.getElem_cons_zero, Act.put, List.setIfInBounds_toArray, List.set_cons_zero, List.set_cons_succ])
    refine wpAnyF_pure (i := 30) (v := ?_) rfl (by as_aux_lemma => kernel_rfl) (by as_aux_lemma => kernel_rfl) (by as_aux_lemma => kernel_rfl) rfl (by as_aux_lemma => kernel_rfl) (fun _ _ _ h => h) (Or.inl ⟨by rfl, ?_⟩) ?_
    rotate_left
    focus (intro w' hSw; skip; go_simp; (try with_reducible rfl))
    (try simp only [List.getElem_toArray, List.getElem_cons_succ, List.getElem_cons_zero, Act.put, List.setIfInBounds_toArray, List.set_cons_zero, List.set_cons_succ])
    refine wpAnyF_pure (i := 31) (v := ?_) rfl (by as_aux_lemma => kernel_rfl) (by as_aux_lemma => kernel_rfl) (by as_aux_lemma => kernel_rfl) rfl (by as_aux_lemma => kernel_rfl) (fun _ _ _ h => h) (Or.inl ⟨by rfl, ?_⟩) ?_
    rotate_left
    focus (intro w' hSw; skip; go_simp; (try with_reducible rfl))
    (try simp only [List.getElem_toArray, List.getElem_cons_succ, List.getElem_cons_zero, Act.put, List.setIfInBounds_toArray, List.set_cons_zero, List.set_cons_succ])
    have dp := blk_set dp 35 (.slice UB (j + 1) ud)
    rw [List.setIfInBounds_toArray] at dp
    have d36 := blk_cell dp 36 rfl; have f36 := blk_free dp 36
    refine wpAnyF_ready (rs := [32]) (by as_aux_lemma => kernel_rfl) (by simp) ?_
    refine AllReadyF.cons rfl (fun K hK => ?_) AllReadyF.nil
    go_simp
    refine hK.out _ _ (fun h => absurd h (by decide)) ?_
    clear hK K
    (try simp only [List.getElem_toArray, List.getElem_cons_succ, List.getElem_cons_zero, Act.put, List.setIfInBounds_toArray, List.set_cons_zero, List.set_cons_succ])
    refine wpAnyF_done (by as_aux_lemma => kernel_rfl) ?_ _
    have HN := Lib.hid (RLp.next H6.out)
    clear dp d34 f34 d35 f35 d36 f36
    (go_wp2_with fail; go_roundw; (case rel => exact ⟨j + 1, PB, pd, UB, ud, VB, vd, by go_num, by omega, HN⟩); (case measure => (simp [intOf]; omega)))
 ) : p := h
theorem Ex {p : Prop} (h : p := by
  refine wpAnyF_ready (rs := [16]) (by as_aux_lemma => kernel_rfl) (by simp) ?_
  refine AllReadyF.cons rfl (fun K hK => ?_) (AllReadyF.nil)
  · skip
    have hle := H4.out.w2.le
    refine step_append_row rfl (.tmp 104) (.tmp 106) 53 rfl U.heap.size 136 l0 _ 11 104 Tryz.underlying53 hl0 lza lzb lzc rfl UA j uc (ulcs r.up (·.up) 0 (Nt.newCrs r j) (List.replicate j (none, 0))) rfl H4.out.w2 ⟨β2, 0, none⟩ 1 1 [.int .i64 r.up.loss, .int .i64 r.up.twice, .int .i64 r.up.least, .int .i64 r.up.most, .int .i64 (r.up.seed + ((j : Int) + 1)), .int .u64 (r.up.seed + ((j : Int) + 1)), .int .i64 0, .slice none 0 0, .int .i64 0, .int .i64 0, .int .i64 0] rfl rfl (fun k u hu => by rw [addr_add, Nat.zero_add]; exact blk_cell (H4.out.f2 β2 rfl).1 k hu) Bt Cb Bn Cb H4.out.up ?_
    intro UB ud V5 hrow hg hat
    have h1 := H4.out.a2 hrow hg hat
    refine hK.out _ _ (fun _ => h1.s rfl rfl rfl) ?_
    clear hK K
    (try simp only [List.getElem_toArray, List.getElem_cons_succ, List.getElem_cons_zero, Act.put, List.setIfInBounds_toArray, List.set_cons_zero, List.set_cons_succ])
    have H5 := Lib.hid h1
    clear h1 hrow hg hat hle H4
    exact Ep
 ) : p := h
theorem Er {p : Prop} (h : p := by
  refine hK.out _ _ (fun _ => h1.s rfl rfl rfl) ?_
  clear hK K
  (try simp only [List.getElem_toArray, List.getElem_cons_succ, List.getElem_cons_zero, Act.put, List.setIfInBounds_toArray, List.set_cons_zero, List.set_cons_succ])
  rw [← hβ] at h1 ⊢
  generalize World.alloc V2 _ = V3 at h1 ⊢
  have H3 := Lib.hid h1
  clear h1 hβ H2
  refine wpAnyF_ready (rs := [9]) (by as_aux_lemma => kernel_rfl) (by simp) ?_
  refine AllReadyF.cons rfl (fun K hK => ?_) (AllReadyF.nil)
  · skip
    have hle := H3.out.w1.le
    refine step_append_row rfl (.tmp 97) (.tmp 99) 52 rfl U.heap.size 101 k0 _ 24 168 Tryz.underlying52 hk0 kza kzb kzc rfl PA j pc (pcls (Nt.newCrs r j)) rfl H3.out.w1 ⟨β1, 0, none⟩ 1 1 [.int .i64 ((j : Int) + 1), .int .i64 r.lost, .int .i64 r.ret, .int .i64 r.desc, .int .i64 r.late, .int .i64 r.every, .int .i64 r.drift, .int .i64 0, .bool false, .int .i64 0, .int .i64 0, .int .i64 0, .bool false, .bool false, .bool false, .bool false, .int .i64 0, .int .i64 0, .int .i64 0, .int .i64 0, .int .i64 0, .int .i64 0, .int .i64 0, .int .i64 0] rfl rfl (fun k u hu => by rw [addr_add, Nat.zero_add]; exact blk_cell (H3.out.f1 β1 rfl).1 k hu) Bt Cb Bn Cb H3.out.up ?_
    intro PB pd V4 hrow hg hat
    have h1 := H3.out.a1 hrow hg hat
    refine hK.out _ _ (fun _ => h1.s rfl rfl rfl) ?_
    clear hK K
    (try simp only [List.getElem_toArray, List.getElem_cons_succ, List.getElem_cons_zero, Act.put, List.setIfInBounds_toArray, List.set_cons_zero, List.set_cons_succ])
    have H4 := Lib.hid h1
    clear h1 hrow hg hat hle H3
    exact Ex
 ) : p := h
theorem Es {p : Prop} (h : p := by
  refine hK.out _ _ (fun _ => h1.s rfl rfl rfl) ?_
  clear hK K
  (try simp only [List.getElem_toArray, List.getElem_cons_succ, List.getElem_cons_zero, Act.put, List.setIfInBounds_toArray, List.set_cons_zero, List.set_cons_succ])
  rw [← hβ] at h1 ⊢
  generalize World.alloc V3 _ = V4 at h1 ⊢
  have H4 := Lib.hid h1
  clear h1 hβ H3
  exact Ex
 ) : p := h
theorem Et {p : Prop} (h : p := by
  refine wpAnyF_ready (rs := [16, 22]) (by as_aux_lemma => kernel_rfl) (by simp) ?_
  refine AllReadyF.cons rfl (fun K hK => ?_) (AllReadyF.cons rfl (fun K hK => ?_) (AllReadyF.nil))
  · skip
    have hle := H3.out.w2.le
    refine step_append_row rfl (.tmp 104) (.tmp 106) 53 rfl U.heap.size 136 l0 _ 11 104 Tryz.underlying53 hl0 lza lzb lzc rfl UA j uc (ulcs r.up (·.up) 0 (Nt.newCrs r j) (List.replicate j (none, 0))) rfl H3.out.w2 ⟨β2, 0, none⟩ 1 1 [.int .i64 r.up.loss, .int .i64 r.up.twice, .int .i64 r.up.least, .int .i64 r.up.most, .int .i64 (r.up.seed + ((j : Int) + 1)), .int .u64 (r.up.seed + ((j : Int) + 1)), .int .i64 0, .slice none 0 0, .int .i64 0, .int .i64 0, .int .i64 0] rfl rfl (fun k u hu => by rw [addr_add, Nat.zero_add]; exact blk_cell (H3.out.f2 β2 rfl).1 k hu) Bt Cb Bn Cb H3.out.up ?_
    intro UB ud V4 hrow hg hat
    have h1 := H3.out.a2 hrow hg hat
    refine hK.out _ _ (fun _ => h1.s rfl rfl rfl) ?_
    clear hK K
    (try simp only [List.getElem_toArray, List.getElem_cons_succ, List.getElem_cons_zero, Act.put, List.setIfInBounds_toArray, List.set_cons_zero, List.set_cons_succ])
    have H4 := Lib.hid h1
    clear h1 hrow hg hat hle H3
    refine wpAnyF_ready (rs := [22]) (by as_aux_lemma => kernel_rfl) (by simp) ?_
    refine AllReadyF.cons rfl (fun K hK => ?_) (AllReadyF.nil)
    · skip
      go_simp
      have h1 := H4.out.mk3
      obtain ⟨β3, hβ⟩ : ∃ b, b = V4.heap.size := ⟨_, rfl⟩
      refine hK.out _ _ (fun _ => h1.s rfl rfl rfl) ?_
      clear hK K
      (try simp only [List.getElem_toArray, List.getElem_cons_succ, List.getElem_cons_zero, Act.put, List.setIfInBounds_toArray, List.set_cons_zero, List.set_cons_succ])
      rw [← hβ] at h1 ⊢
      generalize World.alloc V4 _ = V5 at h1 ⊢
      have H5 := Lib.hid h1
      clear h1 hβ H4
      exact Ep
  · skip
    go_simp
    have h1 := H3.out.mk3
    obtain ⟨β3, hβ⟩ : ∃ b, b = V3.heap.size := ⟨_, rfl⟩
    exact Es
 ) : p := h
theorem Ez {p : Prop} (h : p := by
  refine wpAnyF_ready (rs := [15]) (by as_aux_lemma => kernel_rfl) (by simp) ?_
  refine AllReadyF.cons rfl (fun K hK => ?_) (AllReadyF.nil)
  · skip
    go_simp
    have h1 := H3.out.mk2
    obtain ⟨β2, hβ⟩ : ∃ b, b = V3.heap.size := ⟨_, rfl⟩
    exact Es
 ) : p := h
theorem Eu {p : Prop} (h : p := by
  refine hK.out _ _ (fun _ => h1.s rfl rfl rfl) ?_
  clear hK K
  (try simp only [List.getElem_toArray, List.getElem_cons_succ, List.getElem_cons_zero, Act.put, List.setIfInBounds_toArray, List.set_cons_zero, List.set_cons_succ])
  rw [← hβ] at h1 ⊢
  generalize World.alloc V1 _ = V2 at h1 ⊢
  have H2 := Lib.hid h1
  clear h1 hβ H1
  refine wpAnyF_ready (rs := [9, 15]) (by as_aux_lemma => kernel_rfl) (by simp) ?_
  refine AllReadyF.cons rfl (fun K hK => ?_) (AllReadyF.cons rfl (fun K hK => ?_) (AllReadyF.nil))
  · skip
    have hle := H2.out.w1.le
    refine step_append_row rfl (.tmp 97) (.tmp 99) 52 rfl U.heap.size 101 k0 _ 24 168 Tryz.underlying52 hk0 kza kzb kzc rfl PA j pc (pcls (Nt.newCrs r j)) rfl H2.out.w1 ⟨β1, 0, none⟩ 1 1 [.int .i64 ((j : Int) + 1), .int .i64 r.lost, .int .i64 r.ret, .int .i64 r.desc, .int .i64 r.late, .int .i64 r.every, .int .i64 r.drift, .int .i64 0, .bool false, .int .i64 0, .int .i64 0, .int .i64 0, .bool false, .bool false, .bool false, .bool false, .int .i64 0, .int .i64 0, .int .i64 0, .int .i64 0, .int .i64 0, .int .i64 0, .int .i64 0, .int .i64 0] rfl rfl (fun k u hu => by rw [addr_add, Nat.zero_add]; exact blk_cell (H2.out.f1 β1 rfl).1 k hu) Bt Cb Bn Cb H2.out.up ?_
    intro PB pd V3 hrow hg hat
    have h1 := H2.out.a1 hrow hg hat
    refine hK.out _ _ (fun _ => h1.s rfl rfl rfl) ?_
    clear hK K
    (try simp only [List.getElem_toArray, List.getElem_cons_succ, List.getElem_cons_zero, Act.put, List.setIfInBounds_toArray, List.set_cons_zero, List.set_cons_succ])
    have H3 := Lib.hid h1
    clear h1 hrow hg hat hle H2
    exact Ez
  · skip
    go_simp
    have h1 := H2.out.mk2
    obtain ⟨β2, hβ⟩ : ∃ b, b = V2.heap.size := ⟨_, rfl⟩
    exact Er
 ) : p := h
theorem Ew {p : Prop} (h : p := by
  refine hK.out _ _ (fun _ => h1.s rfl rfl rfl) ?_
  clear hK K
  (try simp only [List.getElem_toArray, List.getElem_cons_succ, List.getElem_cons_zero, Act.put, List.setIfInBounds_toArray, List.set_cons_zero, List.set_cons_succ])
  rw [← hβ] at h1 ⊢
  generalize World.alloc V1 _ = V2 at h1 ⊢
  have H2 := Lib.hid h1
  clear h1 hβ H1
  refine wpAnyF_ready (rs := [9, 22]) (by as_aux_lemma => kernel_rfl) (by simp) ?_
  refine AllReadyF.cons rfl (fun K hK => ?_) (AllReadyF.cons rfl (fun K hK => ?_) (AllReadyF.nil))
  · skip
    have hle := H2.out.w1.le
    refine step_append_row rfl (.tmp 97) (.tmp 99) 52 rfl U.heap.size 101 k0 _ 24 168 Tryz.underlying52 hk0 kza kzb kzc rfl PA j pc (pcls (Nt.newCrs r j)) rfl H2.out.w1 ⟨β1, 0, none⟩ 1 1 [.int .i64 ((j : Int) + 1), .int .i64 r.lost, .int .i64 r.ret, .int .i64 r.desc, .int .i64 r.late, .int .i64 r.every, .int .i64 r.drift, .int .i64 0, .bool false, .int .i64 0, .int .i64 0, .int .i64 0, .bool false, .bool false, .bool false, .bool false, .int .i64 0, .int .i64 0, .int .i64 0, .int .i64 0, .int .i64 0, .int .i64 0, .int .i64 0, .int .i64 0] rfl rfl (fun k u hu => by rw [addr_add, Nat.zero_add]; exact blk_cell (H2.out.f1 β1 rfl).1 k hu) Bt Cb Bn Cb H2.out.up ?_
    intro PB pd V3 hrow hg hat
    have h1 := H2.out.a1 hrow hg hat
    refine hK.out _ _ (fun _ => h1.s rfl rfl rfl) ?_
    clear hK K
    (try simp only [List.getElem_toArray, List.getElem_cons_succ, List.getElem_cons_zero, Act.put, List.setIfInBounds_toArray, List.set_cons_zero, List.set_cons_succ])
    have H3 := Lib.hid h1
    clear h1 hrow hg hat hle H2
    exact Et
  · skip
    go_simp
    have h1 := H2.out.mk3
    obtain ⟨β3, hβ⟩ : ∃ b, b = V2.heap.size := ⟨_, rfl⟩
    exact Er
 ) : p := h
theorem Ey {p : Prop} (h : p := by
  refine hK.out _ _ (fun _ => h1.s rfl rfl rfl) ?_
  clear hK K
  (try simp only [List.getElem_toArray, List.getElem_cons_succ, List.getElem_cons_zero, Act.put, List.setIfInBounds_toArray, List.set_cons_zero, List.set_cons_succ])
  rw [← hβ] at h1 ⊢
  generalize World.alloc V1 _ = V2 at h1 ⊢
  have H2 := Lib.hid h1
  clear h1 hβ H1
  refine wpAnyF_ready (rs := [8]) (by as_aux_lemma => kernel_rfl) (by simp) ?_
  refine AllReadyF.cons rfl (fun K hK => ?_) (AllReadyF.nil)
  · skip
    go_simp
    have h1 := H2.out.mk1
    obtain ⟨β1, hβ⟩ : ∃ b, b = V2.heap.size := ⟨_, rfl⟩
    exact Er
 ) : p := h
theorem rnnew_yes (r : Nt.Ru) (n : Nat) (OA : Option Addr) (oc : Nat) (TA : Option Addr) (tc : Nat) (w : World) (hv : Nt.vld r = true) (hn : r.offs.length = n) (hm : r.rates.length = n) (ho : Ri w w.heap.size OA n r.offs) (ht : Ri w w.heap.size TA n r.rates) :
    Calls Tryz.prog 37 #[rval r OA n oc TA n tc] w (RNewPost r w) := by
  obtain ⟨i0, hi0, hza, hzb, hzc⟩ := info_parts info_in
  obtain ⟨i1, hi1, hza1, hzb1, hzc1⟩ := info_parts info_bool
  obtain ⟨k0, hk0, kza, kzb, kzc⟩ := info_parts info_rp
  obtain ⟨l0, hl0, lza, lzb, lzc⟩ := info_parts info_rl
  obtain ⟨h0, h1, h2, h3, h4, h5, h6⟩ := Nt.vld_says hv
  have g := of_decide_eq_true h0
  obtain ⟨g1, g2, g3, g4, g5, g6⟩ := g
  rw [hn] at g5
  have hn64 : n ≤ 64 := by omega
  have hn1 : 1 ≤ n := by omega
  have VA := Lib.hid (fun (W : World) (hW : Below w.heap.size w W) => hv ▸ rnvalid_any r n n OA oc TA tc W hn hm ((ho.below hW (Nat.le_refl _)).more hW.size) ((ht.below hW (Nat.le_refl _)).more hW.size))
  have SN := Lib.hid (fun (W : World) => rsnew_yes n r.again W (by unfold Stn.newE; rw [if_pos Cb]))
  have PN := Lib.hid (fun (i : Nat) (hi : i < n) (W : World) => rpnew_yes ((i : Int) + 1) r.lost r.ret r.desc r.late r.every r.drift W At)
  have UN := Lib.hid (fun (i : Nat) (hi : i < n) (W : World) => rnew_yes (Nt.lru r.up i) W (Nt.lru_vld h3 i) B8)
  have DN := Lib.hid (fun (i : Nat) (hi : i < n) (W : World) => rnew_yes (Nt.lru r.dn i) W (Nt.lru_vld h4 i) B9)
  have hmk1 : ∀ W : World, (Instr.makeSlice 48 (.int .i64 (n : Int)) (.int .i64 (n : Int))).run Tryz.prog W = .ok (.slice (some ⟨W.heap.size, 0, none⟩) n n) (W.alloc (.cells (madeCells #[.bool false] (n * 1)) 4)) := fun W => by
    have := run_make (P := Tryz.prog) W 48 4 i1 _ Tryz.underlying48 hi1 hza1 .i64 .i64 n n Cb (Int.le_refl _) (by rw [hzc1]; omega) Cb
    rw [hzb1, Int.toNat_natCast] at this
    exact this
  have hmk2 : ∀ W : World, (Instr.makeSlice 26 (.int .i64 ((n : Int) + 1)) (.int .i64 ((n : Int) + 1))).run Tryz.prog W = .ok (.slice (some ⟨W.heap.size, 0, none⟩) (n + 1) (n + 1)) (W.alloc (.cells (madeCells #[.int .i64 0] ((n + 1) * 1)) 3)) := fun W => by
    have := run_make (P := Tryz.prog) W 26 3 i0 _ Tryz.underlying26 hi0 hza .i64 .i64 ((n + 1 : Nat) : Int) ((n + 1 : Nat) : Int) Cb (Int.le_refl _) (by rw [hzc]; omega) Cb
    rw [hzb, Int.toNat_natCast, show ((n + 1 : Nat) : Int) = (n : Int) + 1 by omega] at this
    exact this
  have wn : IntKind.i64.wrap ((n : Int) + 1) = (n : Int) + 1 := IntWalk.i64_in _ Cb
  have HN := Lib.hid (And.intro hn hm)
  have G5 := Lib.hid g5
  have HO := Lib.hid ho
  have HT := Lib.hid ht
  have H56 := Lib.hid (And.intro h5 h6)
  have HSD := Lib.hid (And.intro (Lnk.vld_iff.1 h3).2.2.2.2 (Lnk.vld_iff.1 h4).2.2.2.2)
  clear hn hm ho ht hv h0 h1 h2 h3 h4 g1 g2 g3 g4 g5 g6 h5 h6
  rw [rval_rcl] at VA ⊢
  unfold rcl
  go_enter Tryz.func37, Tryz.ntmps37
  go_upto_region 1 with fail
  generalize hV : World.alloc _ _ = V
  have k0 : V.heap[w.heap.size]? = some (.cells (rcl r OA n oc TA n tc).toArray 28 (0, 0)) := Bd
  have HB := Lib.hid (show Below w.heap.size w V from by rw [← hV]; exact (Below.refl _ w).alloc (Nat.le_refl _) _)
  have hzV : w.heap.size < V.heap.size := by rw [← hV, World.size_alloc]; omega
  clear hV
  go_upto_region 3 with (first | (go_at_call 10; refine (VA.out _ HB.out).mono ?_; rintro e w2 ⟨rfl, hb2⟩; have k2 := blk_below k0 hb2 hzV; clear k0) | (refine wpList_load_row rfl 28 _ rfl w.heap.size rfl 28 _ (0, 0) _ k0 Tryz.underlying28 rfl (by as_aux_lemma => kernel_rfl) ?_))
  have HB2 := Lib.hid (HB.out.trans (hb2.mono HB.out.size))
  clear hb2 HB VA hzV
  have q1 := blk_cell k2 1 rfl
  have q2 := blk_cell k2 2 rfl
  have q3 := blk_cell k2 3 rfl
  have q4 := blk_cell k2 4 rfl
  have q5 := blk_cell k2 5 rfl
  have q6 := blk_cell k2 6 rfl
  have q7 := blk_cell k2 7 rfl
  have q8 := blk_cell k2 8 rfl
  have q9 := blk_cell k2 9 rfl
  have q10 := blk_cell k2 10 rfl
  have q11 := blk_cell k2 11 rfl
  have q12 := blk_cell k2 12 rfl
  have q13 := blk_cell k2 13 rfl
  have q14 := blk_cell k2 14 rfl
  have q15 := blk_cell k2 15 rfl
  have q16 := blk_cell k2 16 rfl
  have q17 := blk_cell k2 17 rfl
  have q18 := blk_cell k2 18 rfl
  have q19 := blk_cell k2 19 rfl
  have q20 := blk_cell k2 20 rfl
  have q0 : w2.cell? ⟨w.heap.size, 0, none⟩ = some (.int .i64 (n : Int)) := by rw [G5.out]; exact blk_cell k2 0 rfl
  have hs2 : w.heap.size < w2.heap.size := lt_of_block k2
  have K2 := Lib.hid k2
  clear k2
  go_cut [4] from 5 to 122 (fun v4 wx => RCutA r n OA oc TA tc w2 v4 wx)
  case first =>
    have kS := Lib.hid (show w2.drew.heap[w.heap.size]? = some (.cells #[.int .i64 (n : Int), .int .i64 r.again, .int .i64 r.step, .int .i64 r.drift, .int .i64 r.lost, .int .i64 r.ret, .int .i64 r.desc, .int .i64 r.late, .int .i64 r.every, .int .i64 r.up.loss, .int .i64 r.up.twice, .int .i64 r.up.least, .int .i64 r.up.most, .int .i64 r.up.seed, .int .i64 r.dn.loss, .int .i64 r.dn.twice, .int .i64 r.dn.least, .int .i64 r.dn.most, .int .i64 r.dn.seed, .slice OA n oc, .slice TA n tc] 28 (0, 0)) by have := K2.out; simp only [rcl, ← G5.out] at this; exact this)
    clear SN PN UN DN q0 q1 q2 q3 q4 q5 q6 q7 q8 q9 q10 q11 q12 q13 q14 q15 q16 q17 q18 q19 q20 K2 HB2 G5 HN
    refine wp_region_F (S := fun V => V.heap[w.heap.size]? = some (.cells #[.int .i64 (n : Int), .int .i64 r.again, .int .i64 r.step, .int .i64 r.drift, .int .i64 r.lost, .int .i64 r.ret, .int .i64 r.desc, .int .i64 r.late, .int .i64 r.every, .int .i64 r.up.loss, .int .i64 r.up.twice, .int .i64 r.up.least, .int .i64 r.up.most, .int .i64 r.up.seed, .int .i64 r.dn.loss, .int .i64 r.dn.twice, .int .i64 r.dn.least, .int .i64 r.dn.most, .int .i64 r.dn.seed, .slice OA n oc, .slice TA n tc] 28 (0, 0))) (nd := fun _ => true) (by as_aux_lemma => kernel_rfl) ?_
    have hb0 : Below w2.heap.size w2 w2.drew := (Below.refl _ w2).drew
    have hz0 : w2.drew.heap.size = w2.heap.size := rfl
    generalize World.drew w2 = V0 at *
    have HBV := Lib.hid hb0
    have HZV := Lib.hid hz0
    clear hb0 hz0
    refine wpAnyF_take 0 0 (i := 0) (v := .agg #[.int .i64 (n : Int), .int .i64 r.again, .int .i64 r.step, .int .i64 r.drift, .int .i64 r.lost, .int .i64 r.ret, .int .i64 r.desc, .int .i64 r.late, .int .i64 r.every, .int .i64 r.up.loss, .int .i64 r.up.twice, .int .i64 r.up.least, .int .i64 r.up.most, .int .i64 r.up.seed, .int .i64 r.dn.loss, .int .i64 r.dn.twice, .int .i64 r.dn.least, .int .i64 r.dn.most, .int .i64 r.dn.seed, .slice OA n oc, .slice TA n tc]) rfl (by as_aux_lemma => kernel_rfl) (by as_aux_lemma => kernel_rfl) (by as_aux_lemma => kernel_rfl) (by as_aux_lemma => kernel_rfl) (by as_aux_lemma => kernel_rfl) (fun _ _ _ h => h) (yields_load_row (by rfl) 28 _ rfl w.heap.size rfl 28 _ (0, 0) _ (fun w' hS => hS) Tryz.underlying28 rfl (by as_aux_lemma => kernel_rfl)) kS.out ?_
    (try simp only [List.getElem_toArray, List.getElem_cons_succ, List.getElem_cons_zero, Act.put, List.setIfInBounds_toArray, List.set_cons_zero, List.set_cons_succ])
    refine wpAnyF_take 0 0 (i := 1) (v := ?_) rfl (by as_aux_lemma => kernel_rfl) (by as_aux_lemma => kernel_rfl) (by as_aux_lemma => kernel_rfl) (by as_aux_lemma => kernel_rfl) (by as_aux_lemma => kernel_rfl) (fun _ _ _ h => h) (Or.inl ⟨by rfl, ?_⟩) kS.out ?_
    rotate_left
    focus (intro w' hSw; skip; go_simp; (try with_reducible rfl))
    (try simp only [List.getElem_toArray, List.getElem_cons_succ, List.getElem_cons_zero, Act.put, List.setIfInBounds_toArray, List.set_cons_zero, List.set_cons_succ])
    refine wpAnyF_take 0 0 (i := 2) (v := ?_) rfl (by as_aux_lemma => kernel_rfl) (by as_aux_lemma => kernel_rfl) (by as_aux_lemma => kernel_rfl) (by as_aux_lemma => kernel_rfl) (by as_aux_lemma => kernel_rfl) (fun _ _ _ h => h) (Or.inl ⟨by rfl, ?_⟩) kS.out ?_
    rotate_left
    focus (intro w' hSw; have c0 := blk_cell hSw 0 rfl; go_simp; (try with_reducible rfl))
    (try simp only [List.getElem_toArray, List.getElem_cons_succ, List.getElem_cons_zero, Act.put, List.setIfInBounds_toArray, List.set_cons_zero, List.set_cons_succ])
    refine wpAnyF_take 0 0 (i := 4) (v := ?_) rfl (by as_aux_lemma => kernel_rfl) (by as_aux_lemma => kernel_rfl) (by as_aux_lemma => kernel_rfl) (by as_aux_lemma => kernel_rfl) (by as_aux_lemma => kernel_rfl) (fun _ _ _ h => h) (Or.inl ⟨by rfl, ?_⟩) kS.out ?_
    rotate_left
    focus (intro w' hSw; skip; go_simp; (try with_reducible rfl))
    (try simp only [List.getElem_toArray, List.getElem_cons_succ, List.getElem_cons_zero, Act.put, List.setIfInBounds_toArray, List.set_cons_zero, List.set_cons_succ])
    refine wpAnyF_take 0 0 (i := 5) (v := ?_) rfl (by as_aux_lemma => kernel_rfl) (by as_aux_lemma => kernel_rfl) (by as_aux_lemma => kernel_rfl) (by as_aux_lemma => kernel_rfl) (by as_aux_lemma => kernel_rfl) (fun _ _ _ h => h) (Or.inl ⟨by rfl, ?_⟩) kS.out ?_
    rotate_left
    focus (intro w' hSw; have c0 := blk_cell hSw 0 rfl; go_simp; (try with_reducible rfl))
    (try simp only [List.getElem_toArray, List.getElem_cons_succ, List.getElem_cons_zero, Act.put, List.setIfInBounds_toArray, List.set_cons_zero, List.set_cons_succ])
    refine wpAnyF_take 0 0 (i := 6) (v := ?_) rfl (by as_aux_lemma => kernel_rfl) (by as_aux_lemma => kernel_rfl) (by as_aux_lemma => kernel_rfl) (by as_aux_lemma => kernel_rfl) (by as_aux_lemma => kernel_rfl) (fun _ _ _ h => h) (Or.inl ⟨by rfl, ?_⟩) kS.out ?_
    rotate_left
    focus (intro w' hSw; skip; go_simp; (try with_reducible rfl))
    (try simp only [List.getElem_toArray, List.getElem_cons_succ, List.getElem_cons_zero, Act.put, List.setIfInBounds_toArray, List.set_cons_zero, List.set_cons_succ])
    refine wpAnyF_ready (rs := [3, 7]) (by as_aux_lemma => kernel_rfl) (by simp) ?_
    refine AllReadyF.cons rfl (fun K hK => ?_) (AllReadyF.cons rfl (fun K hK => ?_) AllReadyF.nil)
    · go_simp
      refine hK.out _ _ (fun _ => blk_alloc kS.out _) ?_
      clear hK K
      (try simp only [List.getElem_toArray, List.getElem_cons_succ, List.getElem_cons_zero, Act.put, List.setIfInBounds_toArray, List.set_cons_zero, List.set_cons_succ])
      refine wpAnyF_ready (rs := [7]) (by as_aux_lemma => kernel_rfl) (by simp) ?_
      refine AllReadyF.cons rfl (fun K hK => ?_) AllReadyF.nil
      go_simp
      refine hK.out _ _ (fun _ => blk_alloc (blk_alloc kS.out _) _) ?_
      clear hK K
      (try simp only [List.getElem_toArray, List.getElem_cons_succ, List.getElem_cons_zero, Act.put, List.setIfInBounds_toArray, List.set_cons_zero, List.set_cons_succ])
      refine wpAnyF_take 0 0 (i := 8) (v := ?_) rfl (by as_aux_lemma => kernel_rfl) (by as_aux_lemma => kernel_rfl) (by as_aux_lemma => kernel_rfl) (by as_aux_lemma => kernel_rfl) (by as_aux_lemma => kernel_rfl) (fun _ _ _ h => h) (Or.inl ⟨by rfl, ?_⟩) (blk_alloc (blk_alloc kS.out _) _) ?_
      rotate_left
      focus (intro w' hSw; skip; go_simp; (try with_reducible rfl))
      (try simp only [List.getElem_toArray, List.getElem_cons_succ, List.getElem_cons_zero, Act.put, List.setIfInBounds_toArray, List.set_cons_zero, List.set_cons_succ])
      refine wpAnyF_ready (rs := [9]) (by as_aux_lemma => kernel_rfl) (by simp) ?_
      refine AllReadyF.cons rfl (fun K hK => ?_) AllReadyF.nil
      go_simp
      refine hK.out _ _ (fun _ => blk_alloc (blk_alloc (blk_alloc kS.out _) _) _) ?_
      clear hK K
      (try simp only [List.getElem_toArray, List.getElem_cons_succ, List.getElem_cons_zero, Act.put, List.setIfInBounds_toArray, List.set_cons_zero, List.set_cons_succ])
      refine wpAnyF_take 0 0 (i := 10) (v := ?_) rfl (by as_aux_lemma => kernel_rfl) (by as_aux_lemma => kernel_rfl) (by as_aux_lemma => kernel_rfl) (by as_aux_lemma => kernel_rfl) (by as_aux_lemma => kernel_rfl) (fun _ _ _ h => h) (Or.inl ⟨by rfl, ?_⟩) (blk_alloc (blk_alloc (blk_alloc kS.out _) _) _) ?_
      rotate_left
      focus (intro w' hSw; skip; go_simp; (try with_reducible rfl))
      (try simp only [List.getElem_toArray, List.getElem_cons_succ, List.getElem_cons_zero, Act.put, List.setIfInBounds_toArray, List.set_cons_zero, List.set_cons_succ])
      refine wpAnyF_done (by as_aux_lemma => kernel_rfl) ?_ _
      go_wp2_with fail
      go_meet
      have hz := HZV.out
      unfold RCutA
      rw [Nat.mul_one, Nat.mul_one, ← hz]
      exact ⟨_, _, _, rfl, heap_new' _ _ _ (by simp), blk_alloc (blk_alloc (heap_new V0 _) _) _, blk_alloc (heap_new' _ _ _ (by simp)) _, ⟨by omega, by omega, by omega⟩, by rw [hz]; exact ((HBV.out.alloc Cb _).alloc C6 _).alloc C6 _⟩
    · go_simp
      refine hK.out _ _ (fun _ => blk_alloc kS.out _) ?_
      clear hK K
      (try simp only [List.getElem_toArray, List.getElem_cons_succ, List.getElem_cons_zero, Act.put, List.setIfInBounds_toArray, List.set_cons_zero, List.set_cons_succ])
      refine wpAnyF_ready (rs := [3]) (by as_aux_lemma => kernel_rfl) (by simp) ?_
      refine AllReadyF.cons rfl (fun K hK => ?_) AllReadyF.nil
      go_simp
      refine hK.out _ _ (fun _ => blk_alloc (blk_alloc kS.out _) _) ?_
      clear hK K
      (try simp only [List.getElem_toArray, List.getElem_cons_succ, List.getElem_cons_zero, Act.put, List.setIfInBounds_toArray, List.set_cons_zero, List.set_cons_succ])
      refine wpAnyF_take 0 0 (i := 8) (v := ?_) rfl (by as_aux_lemma => kernel_rfl) (by as_aux_lemma => kernel_rfl) (by as_aux_lemma => kernel_rfl) (by as_aux_lemma => kernel_rfl) (by as_aux_lemma => kernel_rfl) (fun _ _ _ h => h) (Or.inl ⟨by rfl, ?_⟩) (blk_alloc (blk_alloc kS.out _) _) ?_
      rotate_left
      focus (intro w' hSw; skip; go_simp; (try with_reducible rfl))
      (try simp only [List.getElem_toArray, List.getElem_cons_succ, List.getElem_cons_zero, Act.put, List.setIfInBounds_toArray, List.set_cons_zero, List.set_cons_succ])
      refine wpAnyF_ready (rs := [9]) (by as_aux_lemma => kernel_rfl) (by simp) ?_
      refine AllReadyF.cons rfl (fun K hK => ?_) AllReadyF.nil
      go_simp
      refine hK.out _ _ (fun _ => blk_alloc (blk_alloc (blk_alloc kS.out _) _) _) ?_
      clear hK K
      (try simp only [List.getElem_toArray, List.getElem_cons_succ, List.getElem_cons_zero, Act.put, List.setIfInBounds_toArray, List.set_cons_zero, List.set_cons_succ])
      refine wpAnyF_take 0 0 (i := 10) (v := ?_) rfl (by as_aux_lemma => kernel_rfl) (by as_aux_lemma => kernel_rfl) (by as_aux_lemma => kernel_rfl) (by as_aux_lemma => kernel_rfl) (by as_aux_lemma => kernel_rfl) (fun _ _ _ h => h) (Or.inl ⟨by rfl, ?_⟩) (blk_alloc (blk_alloc (blk_alloc kS.out _) _) _) ?_
      rotate_left
      focus (intro w' hSw; skip; go_simp; (try with_reducible rfl))
      (try simp only [List.getElem_toArray, List.getElem_cons_succ, List.getElem_cons_zero, Act.put, List.setIfInBounds_toArray, List.set_cons_zero, List.set_cons_succ])
      refine wpAnyF_done (by as_aux_lemma => kernel_rfl) ?_ _
      go_wp2_with fail
      go_meet
      have hz := HZV.out
      unfold RCutA
      rw [Nat.mul_one, Nat.mul_one, ← hz]
      exact ⟨_, _, _, rfl, heap_new' _ _ _ (by simp), blk_alloc (heap_new' _ _ _ (by simp)) _, blk_alloc (blk_alloc (heap_new V0 _) _) _, ⟨by omega, by omega, by omega⟩, by rw [hz]; exact ((HBV.out.alloc Cb _).alloc C6 _).alloc C6 _⟩
  case rest =>
    obtain ⟨p, KA, BA, rfl, gp0, gk0, gb0, hge, hb⟩ := hcut
    clear q0 q1 q2 q3 q4 q5 q6 q7 q8 q9 q10 q11 q12 q13 q14 q15 q16 q17 q18 q19 q20
    have gp := Lib.hid gp0
    have gk := Lib.hid gk0
    have gb := Lib.hid gb0
    have HGE := Lib.hid hge
    have HBW := Lib.hid (HB2.out.trans (hb.mono HB2.out.size))
    have kc := blk_below K2.out hb hs2
    have KC := Lib.hid kc
    have b19 : wc.cell? ⟨w.heap.size, 19, none⟩ = some (.slice OA n oc) := blk_cell kc 19 rfl
    have HWS := Lib.hid (show w.heap.size ≤ wc.heap.size from HBW.out.size)
    have RD := Lib.hid (Ri.reads ((HO.out.below HBW.out (Nat.le_refl _)).more HWS.out))
    have HSB := Lib.hid hs2
    clear gp0 gk0 gb0 hge hb kc hs2 K2
    go_upto_region 5 with (at_builtin; refine wpList_append_any _ rfl (.const (.slice none 0 0)) (.tmp 29) _ rfl w.heap.size 3 i0 _ 1 8 Tryz.underlying26 hi0 hza hzb hzc rfl Cb (.slice none 0 0) 0 [] rfl (World.ownsRow_nil _ _ _ _) wc.heap.size OA n oc (icl r.offs) rfl RD.out (icl_one _) Bn Cb (by have := HWS.out; first | exact this | omega) ?_; intro v1 wn hown1 hg1 hat1; obtain ⟨An, cn, rfl⟩ := own_formS hown1; simp only [Nat.zero_add, List.nil_append] at hown1; have HRn := Lib.hid (Row.of_own hown1); have HBn := Lib.hid (show Below wc.heap.size wc wn from (Below.refl _ _).grown hg1 (Nat.le_refl _) (fun k hk => by simp [Value.ownBlock] at hk)); have kn := blk_below gp.out HBn.out (lt_of_block gp.out); have fn := blk_free kn 19; have dn := blk_cell kn 19 rfl; have KN := Lib.hid kn; clear hown1 hg1 hat1 kn)
    generalize hY : World.setCell _ _ _ = Y
    have KY := Lib.hid (show Keeps (fun q => q = p) wc Y by rw [← hY]; exact (Keeps.of_below (S := fun q => q = p) HBn.out).setCell (p := ⟨p, 19, none⟩) (.inl rfl) _)
    have hset := blk_set KN.out 19 (.slice An n cn)
    rw [List.setIfInBounds_toArray] at hset
    have gpY := Lib.hid (show Y.heap[p]? = some (.cells #[.int .i64 (n : Int), .int .i64 r.again, .int .i64 r.step, .int .i64 r.drift, .int .i64 r.lost, .int .i64 r.ret, .int .i64 r.desc, .int .i64 r.late, .int .i64 r.every, .int .i64 r.up.loss, .int .i64 r.up.twice, .int .i64 r.up.least, .int .i64 r.up.most, .int .i64 r.up.seed, .int .i64 r.dn.loss, .int .i64 r.dn.twice, .int .i64 r.dn.least, .int .i64 r.dn.most, .int .i64 r.dn.seed, .slice An n cn, .slice TA n tc, .int .i64 0, .int .i64 0, .int .i64 0, .int .i64 0, .int .i64 0, .int .i64 0, .bool false, .int .i64 0, .int .i64 0, .slice none 0 0, .int .i64 0, .slice none 0 0, .slice none 0 0, .slice none 0 0, .slice none 0 0, .slice none 0 0, .slice (some ⟨KA, 0, none⟩) n n, .slice (some ⟨BA, 0, none⟩) (n + 1) (n + 1), .slice none 0 0] 55 (0, 0)) by rw [← hY]; exact hset)
    have HPB := Lib.hid (show p ≠ w.heap.size ∧ KA ≠ p ∧ BA ≠ p ∧ w.heap.size < p by
      have h1 := HGE.out; have h2 := HSB.out
      refine ⟨by omega, Ty.ne ⟨_, gk.out⟩ ⟨_, gp.out⟩ (by decide), Ty.ne ⟨_, gb.out⟩ ⟨_, gp.out⟩ (by decide), by omega⟩)
    have kY := Lib.hid (blk_keep KC.out KY.out (fun e => HPB.out.1 e.symm))
    have gkY := Lib.hid (blk_keep gk.out KY.out HPB.out.2.1)
    have gbY := Lib.hid (blk_keep gb.out KY.out HPB.out.2.2.1)
    have ROY := Lib.hid (show Row Y w.heap.size 3 1 An n cn (icl r.offs) by rw [← hY]; exact HRn.out.far (p := ⟨p, 19, none⟩) (fun g hg => (HRn.out.ty hg).ne ⟨_, KN.out⟩ (by decide)) _)
    have HBY := Lib.hid (show Below w.heap.size w Y from HBW.out.trans (KY.out.below (fun q _ hq => by have := HPB.out.2.2.2; omega) HWS.out))
    clear hY hset HRn HBn KN fn dn b19 RD HBW KC gp gk gb KY HWS
    have b20 : Y.cell? ⟨w.heap.size, 20, none⟩ = some (.slice TA n tc) := blk_cell kY.out 20 rfl
    have HWS := Lib.hid (show w.heap.size ≤ Y.heap.size from HBY.out.size)
    have RD := Lib.hid (Ri.reads ((HT.out.below HBY.out (Nat.le_refl _)).more HWS.out))
    obtain ⟨A4, hA4⟩ : ∃ A, A = An := ⟨_, rfl⟩
    obtain ⟨c4, hc4⟩ : ∃ c, c = cn := ⟨_, rfl⟩
    rw [← hA4, ← hc4] at gpY ROY
    clear hA4 hc4
    have gp := gpY
    clear gpY
    go_upto_region 6 with (at_builtin; refine wpList_append_any _ rfl (.const (.slice none 0 0)) (.tmp 36) _ rfl w.heap.size 3 i0 _ 1 8 Tryz.underlying26 hi0 hza hzb hzc rfl Cb (.slice none 0 0) 0 [] rfl (World.ownsRow_nil _ _ _ _) Y.heap.size TA n tc (icl r.rates) rfl RD.out (icl_one _) Bn Cb (by have := HWS.out; first | exact this | omega) ?_; intro v1 wn hown1 hg1 hat1; obtain ⟨An, cn, rfl⟩ := own_formS hown1; simp only [Nat.zero_add, List.nil_append] at hown1; have HRn := Lib.hid (Row.of_own hown1); have HBn := Lib.hid (show Below Y.heap.size Y wn from (Below.refl _ _).grown hg1 (Nat.le_refl _) (fun k hk => by simp [Value.ownBlock] at hk)); have kn := blk_below gp.out HBn.out (lt_of_block gp.out); have fn := blk_free kn 20; have dn := blk_cell kn 20 rfl; have KN := Lib.hid kn; clear hown1 hg1 hat1 kn)
    generalize hZ : World.setCell _ _ _ = Z
    have KZ := Lib.hid (show Keeps (fun q => q = p) Y Z by rw [← hZ]; exact (Keeps.of_below (S := fun q => q = p) HBn.out).setCell (p := ⟨p, 20, none⟩) (.inl rfl) _)
    have hset := blk_set KN.out 20 (.slice An n cn)
    rw [List.setIfInBounds_toArray] at hset
    have gpZ := Lib.hid (show Z.heap[p]? = some (.cells #[.int .i64 (n : Int), .int .i64 r.again, .int .i64 r.step, .int .i64 r.drift, .int .i64 r.lost, .int .i64 r.ret, .int .i64 r.desc, .int .i64 r.late, .int .i64 r.every, .int .i64 r.up.loss, .int .i64 r.up.twice, .int .i64 r.up.least, .int .i64 r.up.most, .int .i64 r.up.seed, .int .i64 r.dn.loss, .int .i64 r.dn.twice, .int .i64 r.dn.least, .int .i64 r.dn.most, .int .i64 r.dn.seed, .slice A4 n c4, .slice An n cn, .int .i64 0, .int .i64 0, .int .i64 0, .int .i64 0, .int .i64 0, .int .i64 0, .bool false, .int .i64 0, .int .i64 0, .slice none 0 0, .int .i64 0, .slice none 0 0, .slice none 0 0, .slice none 0 0, .slice none 0 0, .slice none 0 0, .slice (some ⟨KA, 0, none⟩) n n, .slice (some ⟨BA, 0, none⟩) (n + 1) (n + 1), .slice none 0 0] 55 (0, 0)) by rw [← hZ]; exact hset)
    have kZ := Lib.hid (blk_keep kY.out KZ.out (fun e => HPB.out.1 e.symm))
    have gkZ := Lib.hid (blk_keep gkY.out KZ.out HPB.out.2.1)
    have gbZ := Lib.hid (blk_keep gbY.out KZ.out HPB.out.2.2.1)
    have RTZ := Lib.hid (show Row Z w.heap.size 3 1 An n cn (icl r.rates) by rw [← hZ]; exact HRn.out.far (p := ⟨p, 20, none⟩) (fun g hg => (HRn.out.ty hg).ne ⟨_, KN.out⟩ (by decide)) _)
    have ROZ := Lib.hid (ROY.out.kept KZ.out (fun g hg => (ROY.out.ty hg).ne ⟨_, gp.out⟩ (by decide)))
    have HBZ := Lib.hid (show Below w.heap.size w Z from HBY.out.trans (KZ.out.below (fun q _ hq => by have := HPB.out.2.2.2; omega) HWS.out))
    obtain ⟨A5, hA5⟩ : ∃ A, A = An := ⟨_, rfl⟩
    obtain ⟨c5, hc5⟩ : ∃ c, c = cn := ⟨_, rfl⟩
    rw [← hA5, ← hc5] at gpZ RTZ
    clear hA5 hc5 hZ hset HRn HBn KN fn dn b20 RD HBY kY gkY gbY KZ HWS gp ROY
    have z0 : Z.cell? ⟨w.heap.size, 0, none⟩ = some (.int .i64 (n : Int)) := by rw [G5.out]; exact blk_cell kZ.out 0 rfl
    have z1 : Z.cell? ⟨w.heap.size, 1, none⟩ = some (.int .i64 r.again) := blk_cell kZ.out 1 rfl
    go_upto_region 7 with ((go_at_call 77; refine (SN.out _).mono ?_; rintro e w6 ⟨NA, NS, rfl, hst, hb6⟩; have HB6 := Lib.hid hb6; have HST := Lib.hid hst; have kn := blk_below gpZ.out hb6 (lt_of_block gpZ.out); have KN := Lib.hid kn; have f23 := blk_free kn 23; have d23 := blk_cell kn 23 rfl; have f24 := blk_free kn 24; have d24 := blk_cell kn 24 rfl; have f25 := blk_free kn 25; have d25 := blk_cell kn 25 rfl; have f26 := blk_free kn 26; have d26 := blk_cell kn 26 rfl; have f27 := blk_free kn 27; have d27 := blk_cell kn 27 rfl; have f28 := blk_free kn 28; have d28 := blk_cell kn 28 rfl; have f29 := blk_free kn 29; have d29 := blk_cell kn 29 rfl; have f30 := blk_free kn 30; have d30 := blk_cell kn 30 rfl; have f31 := blk_free kn 31; have d31 := blk_cell kn 31 rfl; have f32 := blk_free kn 32; have d32 := blk_cell kn 32 rfl; have f33 := blk_free kn 33; have d33 := blk_cell kn 33 rfl; clear hb6 hst kn))
    generalize hU : World.setCell _ _ _ = U
    have hset := (blk_set (blk_set (blk_set (blk_set (blk_set (blk_set (blk_set (blk_set (blk_set (blk_set (blk_set KN.out 23 (.int .i64 r.again)) 24 (.int .i64 0)) 25 (.int .i64 0)) 26 (.int .i64 0)) 27 (.bool false)) 28 (.int .i64 0)) 29 (.int .i64 0)) 30 (.slice none 0 0)) 31 (.int .i64 0)) 32 (.slice (some ⟨NA, 0, none⟩) n n)) 33 (.slice (some ⟨NS, 0, none⟩) n n))
    simp only [List.setIfInBounds_toArray] at hset
    have gpU := Lib.hid (show U.heap[p]? = some (.cells (rnet r n NA NS KA BA A4 c4 A5 c5 none 0 none 0 none 0 0).toArray 55 (0, 0)) by rw [← hU]; exact hset)
    have KWU := Lib.hid (show Keeps (fun q => q = p) w6 U by rw [← hU]; repeat (first | with_reducible exact Keeps.refl _ _ | (with_reducible refine Keeps.set1 ?_ _ _)))
    have KU := Lib.hid (show Keeps (fun q => q = p) Z U from (Keeps.of_below (S := fun q => q = p) HB6.out).trans KWU.out (fun _ _ h => h))
    have HSTU := Lib.hid (HST.out.keptT KWU.out (fun i hi _ => ⟨55, by rw [hi]; exact ⟨_, KN.out⟩, by decide, by decide, by decide⟩))
    have kU := Lib.hid (blk_keep kZ.out KU.out (fun e => HPB.out.1 e.symm))
    have gkU := Lib.hid (blk_keep gkZ.out KU.out HPB.out.2.1)
    have gbU := Lib.hid (blk_keep gbZ.out KU.out HPB.out.2.2.1)
    have ROU := Lib.hid (ROZ.out.kept KU.out (fun g hg => (ROZ.out.ty hg).ne ⟨_, gpZ.out⟩ (by decide)))
    have RTU := Lib.hid (RTZ.out.kept KU.out (fun g hg => (RTZ.out.ty hg).ne ⟨_, gpZ.out⟩ (by decide)))
    have HBU := Lib.hid (show Below w.heap.size w U from HBZ.out.trans (KU.out.below (fun q _ hq => by have := HPB.out.2.2.2; omega) HBZ.out.size))
    clear hU hset KWU KU HST kZ gkZ gbZ ROZ RTZ HBZ KN HB6 gpZ z0 z1 SN f23 d23 f24 d24 f25 d25 f26 d26 f27 d27 f28 d28 f29 d29 f30 d30 f31 d31 f32 d32 f33 d33
    have hpU := Lib.hid (lt_of_block gpU.out)
    go_wp2_with fail
    go_loopw [5] (fun s5 wr => ∃ (j : Nat) (PA : Option Addr) (pc : Nat) (UA : Option Addr) (uc : Nat) (VA : Option Addr) (vc : Nat), s5 = .int .i64 ((j : Int) + 1) ∧ j ≤ n ∧ Hid (RLp r n NA NS KA BA A4 c4 A5 c5 p U PA pc UA uc VA vc j wr)) (fun s5 _ => n + 1 - (intOf s5).toNat)
    case atStart => exact ⟨0, none, 0, none, 0, none, 0, rfl, by omega, Lib.hid ⟨gpU.out, Row.nil _ _ _ _, Row.nil _ _ _ _, Row.nil _ _ _ _, Keeps.refl _ _, fun q hq => by cases hq⟩⟩
    case round =>
      obtain ⟨j, PA, pc, UA, uc, VA, vc, rfl, hj, HL⟩ := hrel
      have kR := Lib.hid (blk_keep kU.out HL.out.2.2.2.2.1 (fun e => HPB.out.1 e.symm))
      have y0 : wr.cell? ⟨w.heap.size, 0, none⟩ = some (.int .i64 (n : Int)) := by rw [G5.out]; exact blk_cell kR.out 0 rfl
      by_cases hlt : j < n
      · have hji : (j : Int) + 1 ≤ (n : Int) := by omega
        have q3 : wr.cell? ⟨w.heap.size, 3, none⟩ = some (.int .i64 r.drift) := blk_cell kR.out 3 rfl
        have q4 : wr.cell? ⟨w.heap.size, 4, none⟩ = some (.int .i64 r.lost) := blk_cell kR.out 4 rfl
        have q5 : wr.cell? ⟨w.heap.size, 5, none⟩ = some (.int .i64 r.ret) := blk_cell kR.out 5 rfl
        have q6 : wr.cell? ⟨w.heap.size, 6, none⟩ = some (.int .i64 r.desc) := blk_cell kR.out 6 rfl
        have q7 : wr.cell? ⟨w.heap.size, 7, none⟩ = some (.int .i64 r.late) := blk_cell kR.out 7 rfl
        have q8 : wr.cell? ⟨w.heap.size, 8, none⟩ = some (.int .i64 r.every) := blk_cell kR.out 8 rfl
        have PNj := Lib.hid (PN.out j hlt)
        go_upto_region 11 with (first | (go_at_call 78; refine (PNj.out _).mono ?_; rintro e w7 ⟨rfl, hb7⟩; have HB7 := Lib.hid hb7; clear hb7) | (refine wpList_store_row rfl 101 _ _ rfl _ _ rfl rfl 101 _ (heap_new w7 _) (by as_aux_lemma => kernel_rfl) rfl (by as_aux_lemma => kernel_rfl) ?_))
        generalize hC : World.setRow _ _ _ = C
        have BC := Lib.hid (show Below wr.heap.size wr C by rw [← hC]; exact below_setRow (HB7.out.alloc HB7.out.size _) (by exact HB7.out.size) _)
        obtain ⟨x6, hx6⟩ : ∃ x, x = w7.heap.size := ⟨_, rfl⟩
        have g6C := Lib.hid (show C.heap[x6]? = some (.cells (rag (Nt.newCr r j).p).toArray 101 (0, 0)) by rw [← hC, hx6]; exact setRow_heap _ _ _ _ _ _ (heap_new w7 _))
        have h6C := Lib.hid (show wr.heap.size ≤ x6 ∧ x6 < C.heap.size from ⟨by rw [hx6]; exact HB7.out.size, lt_of_block g6C.out⟩)
        rw [← hx6]
        have kC := Lib.hid (blk_below kR.out BC.out (lt_of_block kR.out))
        clear hC hx6 q3 q4 q5 q6 q7 q8 y0 HB7 PNj
        have q9 : C.cell? ⟨w.heap.size, 9, none⟩ = some (.int .i64 r.up.loss) := blk_cell kC.out 9 rfl
        have q10 : C.cell? ⟨w.heap.size, 10, none⟩ = some (.int .i64 r.up.twice) := blk_cell kC.out 10 rfl
        have q11 : C.cell? ⟨w.heap.size, 11, none⟩ = some (.int .i64 r.up.least) := blk_cell kC.out 11 rfl
        have q12 : C.cell? ⟨w.heap.size, 12, none⟩ = some (.int .i64 r.up.most) := blk_cell kC.out 12 rfl
        have q13 : C.cell? ⟨w.heap.size, 13, none⟩ = some (.int .i64 r.up.seed) := blk_cell kC.out 13 rfl
        have q14 : C.cell? ⟨w.heap.size, 14, none⟩ = some (.int .i64 r.dn.loss) := blk_cell kC.out 14 rfl
        have q15 : C.cell? ⟨w.heap.size, 15, none⟩ = some (.int .i64 r.dn.twice) := blk_cell kC.out 15 rfl
        have q16 : C.cell? ⟨w.heap.size, 16, none⟩ = some (.int .i64 r.dn.least) := blk_cell kC.out 16 rfl
        have q17 : C.cell? ⟨w.heap.size, 17, none⟩ = some (.int .i64 r.dn.most) := blk_cell kC.out 17 rfl
        have q18 : C.cell? ⟨w.heap.size, 18, none⟩ = some (.int .i64 r.dn.seed) := blk_cell kC.out 18 rfl
        have hzC : w.heap.size < C.heap.size := lt_of_block kC.out
        go_cut [8, 9] from 67 to 120 (fun v8 v9 wx => NCutB r C v8 v9 wx)
        case first =>
          clear PN UN DN
          go_region_with fail
          all_goals
            go_wp2_with fail
            go_meet
            first
              | exact ⟨_, _, rfl, rfl, by omega, Nat.le_refl _, by omega, blk_alloc (heap_new C _) _, heap_new' _ _ _ (by simp), Below.drew (((Below.refl _ C).alloc (Nat.le_refl _) _).alloc (by simp) _)⟩
              | exact ⟨_, _, rfl, rfl, by omega, by omega, Nat.le_refl _, heap_new' _ _ _ (by simp), blk_alloc (heap_new C _) _, Below.drew (((Below.refl _ C).alloc (Nat.le_refl _) _).alloc (by simp) _)⟩
        case rest =>
          obtain ⟨p8, p9, rfl, rfl, hne, hp8, hp9, g8, g9, hbx⟩ := hcut
          clear q9 q10 q11 q12 q13 q14 q15 q16 q17 q18
          have wu : IntKind.i64.wrap (r.up.seed + ((j : Int) + 1)) = r.up.seed + ((j : Int) + 1) := IntWalk.i64_in _ (by have h1 := H56.out; have h2 := HSD.out; omega)
          have wd : IntKind.i64.wrap (r.dn.seed + ((j : Int) + 1)) = r.dn.seed + ((j : Int) + 1) := IntWalk.i64_in _ (by have h1 := H56.out; have h2 := HSD.out; omega)
          have a4 : wc.cell? ⟨p8, 4, none⟩ = some (.int .i64 r.up.seed) := blk_cell g8 4 rfl
          have a5 : wc.cell? ⟨p9, 4, none⟩ = some (.int .i64 r.dn.seed) := blk_cell g9 4 rfl
          have b4 := blk_free g8 4
          have b5 := blk_free g9 4
          have G8 := Lib.hid g8
          have G9 := Lib.hid g9
          have HBX := Lib.hid hbx
          clear g8 g9 hbx
          go_upto_region 14 with fail
          generalize hD : World.setCell _ _ _ = D
          have hD8 := Lib.hid (show D.heap[p8]? = some (.cells #[.int .i64 r.up.loss, .int .i64 r.up.twice, .int .i64 r.up.least, .int .i64 r.up.most, .int .i64 (r.up.seed + ((j : Int) + 1))] 25 (0, 0)) by
            rw [← hD]
            have := blk_set G8.out 4 (.int .i64 (r.up.seed + ((j : Int) + 1)))
            rw [List.setIfInBounds_toArray] at this
            exact blk_keep this ((Keeps.refl (fun q => q = p9) _).setCell (p := ⟨p9, 4, none⟩) (.inl rfl) _) hne)
          have hD9 := Lib.hid (show D.heap[p9]? = some (.cells #[.int .i64 r.dn.loss, .int .i64 r.dn.twice, .int .i64 r.dn.least, .int .i64 r.dn.most, .int .i64 (r.dn.seed + ((j : Int) + 1))] 25 (0, 0)) by
            rw [← hD]
            have := blk_set (blk_keep G9.out ((Keeps.refl (fun q => q = p8) _).setCell (p := ⟨p8, 4, none⟩) (.inl rfl) (.int .i64 (r.up.seed + ((j : Int) + 1)))) (fun e => hne e.symm)) 4 (.int .i64 (r.dn.seed + ((j : Int) + 1)))
            rw [List.setIfInBounds_toArray] at this
            exact this)
          have HBD := Lib.hid (show Below C.heap.size C D by rw [← hD]; exact (HBX.out.setCell (p := ⟨p8, 4, none⟩) hp8 _).setCell (p := ⟨p9, 4, none⟩) hp9 _)
          clear hD a4 a5 b4 b5 G8 G9 HBX
          have s0 := blk_cell hD8.out 0 rfl
          have s1 := blk_cell hD8.out 1 rfl
          have s2 := blk_cell hD8.out 2 rfl
          have s3 := blk_cell hD8.out 3 rfl
          have s4 := blk_cell hD8.out 4 rfl
          have UNj := Lib.hid (show ∀ W, Calls Tryz.prog 79 #[.agg #[.int .i64 r.up.loss, .int .i64 r.up.twice, .int .i64 r.up.least, .int .i64 r.up.most, .int .i64 (r.up.seed + ((j : Int) + 1))]] W fun e w' => e = .returned (.tuple #[.agg (rll (Nt.lru r.up j) (Lnk.new (Nt.lru r.up j)) none 0 0).toArray, .int .i64 0]) ∧ Below W.heap.size W w' from UN.out j hlt)
          have DNj := Lib.hid (show ∀ W, Calls Tryz.prog 79 #[.agg #[.int .i64 r.dn.loss, .int .i64 r.dn.twice, .int .i64 r.dn.least, .int .i64 r.dn.most, .int .i64 (r.dn.seed + ((j : Int) + 1))]] W fun e w' => e = .returned (.tuple #[.agg (rll (Nt.lru r.dn j) (Lnk.new (Nt.lru r.dn j)) none 0 0).toArray, .int .i64 0]) ∧ Below W.heap.size W w' from DN.out j hlt)
          go_upto_region 15 with (first | (go_at_call 79; refine (UNj.out _).mono ?_; rintro e w8 ⟨rfl, hb8⟩; have HB8 := Lib.hid hb8; clear hb8) | (refine wpList_store_row rfl 136 _ _ rfl _ _ rfl rfl 136 _ (heap_new w8 _) (by as_aux_lemma => kernel_rfl) rfl (by as_aux_lemma => kernel_rfl) ?_))
          generalize hE : World.setRow _ _ _ = E
          have BE := Lib.hid (show Below D.heap.size D E by rw [← hE]; exact below_setRow (HB8.out.alloc HB8.out.size _) (by exact HB8.out.size) _)
          obtain ⟨x10, hx10⟩ : ∃ x, x = w8.heap.size := ⟨_, rfl⟩
          have g10E := Lib.hid (show E.heap[x10]? = some (.cells (rll (Nt.lru r.up j) (Lnk.new (Nt.lru r.up j)) none 0 0).toArray 136 (0, 0)) by rw [← hE, hx10]; exact setRow_heap _ _ _ _ _ _ (heap_new w8 _))
          have h10E := Lib.hid (show D.heap.size ≤ x10 ∧ x10 < E.heap.size from ⟨by rw [hx10]; exact HB8.out.size, lt_of_block g10E.out⟩)
          rw [← hx10]
          have hE9 := Lib.hid (blk_below hD9.out BE.out (lt_of_block hD9.out))
          clear hE hx10 s0 s1 s2 s3 s4 HB8
          have s0 := blk_cell hE9.out 0 rfl
          have s1 := blk_cell hE9.out 1 rfl
          have s2 := blk_cell hE9.out 2 rfl
          have s3 := blk_cell hE9.out 3 rfl
          have s4 := blk_cell hE9.out 4 rfl
          go_cut [12, 13] from 52 to 120 (fun v12 v13 wx => v13 = .int .i64 0 ∧ ∃ x12, v12 = .pointer (some ⟨x12, 0, none⟩) ∧ E.heap.size ≤ x12 ∧ wx.heap[x12]? = some (.cells (rll (Nt.lru r.dn j) (Lnk.new (Nt.lru r.dn j)) none 0 0).toArray 136 (0, 0)) ∧ Below E.heap.size E wx)
          case first =>
            go_wp2_with (first | (go_at_call 79; refine (DNj.out _).mono ?_; rintro e w9 ⟨rfl, hb9⟩; have HB9 := Lib.hid hb9; clear hb9) | (refine wpList_store_row rfl 136 _ _ rfl _ _ rfl rfl 136 _ (heap_new w9 _) (by as_aux_lemma => kernel_rfl) rfl (by as_aux_lemma => kernel_rfl) ?_))
            go_meet
            exact ⟨rfl, _, rfl, HB9.out.size, setRow_heap _ _ _ _ _ _ (heap_new w9 _), below_setRow (HB9.out.alloc HB9.out.size _) (by exact HB9.out.size) _⟩
          obtain ⟨rfl, x12, rfl, hx12a, hx12b, hbF⟩ := hcut
          obtain ⟨F, hF⟩ : ∃ F, F = wc := ⟨_, rfl⟩
          rw [← hF] at hx12b hbF ⊢
          have BF := Lib.hid hbF
          have g12F := Lib.hid hx12b
          have h12F := Lib.hid (show E.heap.size ≤ x12 ∧ x12 < F.heap.size from ⟨hx12a, lt_of_block g12F.out⟩)
          clear hx12a hx12b hbF hF
          go_upto_region 16 with fail
          have g10F := Lib.hid (blk_below g10E.out BF.out h10E.out.2)
          have BWF := Lib.hid (show Below wr.heap.size wr F from BC.out.trans ((HBD.out.trans ((BE.out.trans (BF.out.mono BE.out.size)).mono HBD.out.size)).mono BC.out.size))
          have g6F := Lib.hid (blk_below g6C.out (HBD.out.trans ((BE.out.trans (BF.out.mono BE.out.size)).mono HBD.out.size)) h6C.out.2)
          have HLF := Lib.hid (show RLp r n NA NS KA BA A4 c4 A5 c5 p U PA pc UA uc VA vc j F from ⟨blk_below HL.out.1 BWF.out (lt_of_block HL.out.1), HL.out.2.1.below BWF.out (Nat.le_refl _), HL.out.2.2.1.below BWF.out (Nat.le_refl _), HL.out.2.2.2.1.below BWF.out (Nat.le_refl _), HL.out.2.2.2.2.1.trans (Keeps.of_below (S := fun _ => False) BWF.out) (fun _ _ h => h.elim), HL.out.2.2.2.2.2⟩)
          have hX := Lib.hid (show wr.heap.size ≤ x6 ∧ x6 < x10 ∧ x10 < x12 ∧ x12 < F.heap.size by
            have h1 := h6C.out; have h2 := h10E.out; have h3 := h12F.out; have h4 := HBD.out.size
            omega)
          clear s0 s1 s2 s3 s4 g10E g6C BC BE BF HBD hD8 hD9 hE9 kC h6C h10E h12F UNj DNj BWF hne hp8 hp9 wu wd hzC
          have h16 : W16 U F p (rnet r n NA NS KA BA A4 c4 A5 c5 PA pc UA uc VA vc j).toArray x6 x10 x12 [.int .i64 ((j : Int) + 1), .int .i64 r.lost, .int .i64 r.ret, .int .i64 r.desc, .int .i64 r.late, .int .i64 r.every, .int .i64 r.drift, .int .i64 0, .bool false, .int .i64 0, .int .i64 0, .int .i64 0, .bool false, .bool false, .bool false, .bool false, .int .i64 0, .int .i64 0, .int .i64 0, .int .i64 0, .int .i64 0, .int .i64 0, .int .i64 0, .int .i64 0] [.int .i64 r.up.loss, .int .i64 r.up.twice, .int .i64 r.up.least, .int .i64 r.up.most, .int .i64 (r.up.seed + ((j : Int) + 1)), .int .u64 (r.up.seed + ((j : Int) + 1)), .int .i64 0, .slice none 0 0, .int .i64 0, .int .i64 0, .int .i64 0] [.int .i64 r.dn.loss, .int .i64 r.dn.twice, .int .i64 r.dn.least, .int .i64 r.dn.most, .int .i64 (r.dn.seed + ((j : Int) + 1)), .int .u64 (r.dn.seed + ((j : Int) + 1)), .int .i64 0, .slice none 0 0, .int .i64 0, .int .i64 0, .int .i64 0] PA j pc (pcls (Nt.newCrs r j)) UA j uc (ulcs r.up (·.up) 0 (Nt.newCrs r j) (List.replicate j (none, 0))) VA j vc (ulcs r.dn (·.dn) 0 (Nt.newCrs r j) (List.replicate j (none, 0))) none none none := by
            have hx := hX.out
            obtain ⟨g1, g2, g3, g4, g5, g6⟩ := HL.out
            exact ⟨HLF.out.1, g6F.out, g10F.out, g12F.out, HLF.out.2.1, HLF.out.2.2.1, HLF.out.2.2.2.1, fun q hq => (by cases hq), fun q hq => (by cases hq), fun q hq => (by cases hq), g6, row_ne g2 Cb, ⟨row_ne g3 Cb, row_ne g4 Cb⟩, ⟨row_ne g3 Cb, row_ne g4 Cb⟩, HLF.out.2.2.2.2.1, HLF.out.2.2.2.2.1.size⟩
          have H0 := Lib.hid h16.drew
          have HS0 := Lib.hid (H0.out.s (v1 := .slice PA j pc) (v2 := .slice UA j uc) (v3 := .slice VA j vc) rfl rfl rfl)
          clear h16 HLF g6F g10F g12F HL PN UN DN kR
          refine wp_region_F (S := S16 p x6 x10 x12 [.int .i64 ((j : Int) + 1), .int .i64 r.lost, .int .i64 r.ret, .int .i64 r.desc, .int .i64 r.late, .int .i64 r.every, .int .i64 r.drift, .int .i64 0, .bool false, .int .i64 0, .int .i64 0, .int .i64 0, .bool false, .bool false, .bool false, .bool false, .int .i64 0, .int .i64 0, .int .i64 0, .int .i64 0, .int .i64 0, .int .i64 0, .int .i64 0, .int .i64 0] [.int .i64 r.up.loss, .int .i64 r.up.twice, .int .i64 r.up.least, .int .i64 r.up.most, .int .i64 (r.up.seed + ((j : Int) + 1)), .int .u64 (r.up.seed + ((j : Int) + 1)), .int .i64 0, .slice none 0 0, .int .i64 0, .int .i64 0, .int .i64 0] [.int .i64 r.dn.loss, .int .i64 r.dn.twice, .int .i64 r.dn.least, .int .i64 r.dn.most, .int .i64 (r.dn.seed + ((j : Int) + 1)), .int .u64 (r.dn.seed + ((j : Int) + 1)), .int .i64 0, .slice none 0 0, .int .i64 0, .int .i64 0, .int .i64 0] (.slice PA j pc) (.slice UA j uc) (.slice VA j vc)) (nd := fun i => [6, 7, 8, 9, 13, 14, 15, 16, 20, 21, 22, 23].contains i) (by as_aux_lemma => kernel_rfl) ?_
          generalize World.drew F = V0 at *
          refine wpAnyF_pure (i := 0) (v := ?_) rfl (by as_aux_lemma => kernel_rfl) (by as_aux_lemma => kernel_rfl) (by as_aux_lemma => kernel_rfl) rfl (by as_aux_lemma => kernel_rfl) (fun _ _ _ h => h) (Or.inl ⟨by rfl, ?_⟩) ?_
          rotate_left
          focus (intro w' hSw; skip; go_simp; (try with_reducible rfl))
          (try simp only [List.getElem_toArray, List.getElem_cons_succ, List.getElem_cons_zero, Act.put, List.setIfInBounds_toArray, List.set_cons_zero, List.set_cons_succ])
          refine wpAnyF_pure (i := 1) (v := ?_) rfl (by as_aux_lemma => kernel_rfl) (by as_aux_lemma => kernel_rfl) (by as_aux_lemma => kernel_rfl) rfl (by as_aux_lemma => kernel_rfl) (fun _ _ _ h => h) (Or.inl ⟨by rfl, ?_⟩) ?_
          rotate_left
          focus (intro w' hSw; skip; go_simp; (try with_reducible rfl))
          (try simp only [List.getElem_toArray, List.getElem_cons_succ, List.getElem_cons_zero, Act.put, List.setIfInBounds_toArray, List.set_cons_zero, List.set_cons_succ])
          refine wpAnyF_pure (i := 2) (v := ?_) rfl (by as_aux_lemma => kernel_rfl) (by as_aux_lemma => kernel_rfl) (by as_aux_lemma => kernel_rfl) rfl (by as_aux_lemma => kernel_rfl) (fun _ _ _ h => h) (Or.inl ⟨by rfl, ?_⟩) ?_
          rotate_left
          focus (intro w' hSw; skip; go_simp; (try with_reducible rfl))
          (try simp only [List.getElem_toArray, List.getElem_cons_succ, List.getElem_cons_zero, Act.put, List.setIfInBounds_toArray, List.set_cons_zero, List.set_cons_succ])
          refine wpAnyF_pure (i := 3) (v := ?_) rfl (by as_aux_lemma => kernel_rfl) (by as_aux_lemma => kernel_rfl) (by as_aux_lemma => kernel_rfl) rfl (by as_aux_lemma => kernel_rfl) (fun _ _ _ h => h) (Or.inl ⟨by rfl, ?_⟩) ?_
          rotate_left
          focus (intro w' hSw; skip; go_simp; (try with_reducible rfl))
          (try simp only [List.getElem_toArray, List.getElem_cons_succ, List.getElem_cons_zero, Act.put, List.setIfInBounds_toArray, List.set_cons_zero, List.set_cons_succ])
          refine wpAnyF_pure (i := 4) (v := ?_) rfl (by as_aux_lemma => kernel_rfl) (by as_aux_lemma => kernel_rfl) (by as_aux_lemma => kernel_rfl) rfl (by as_aux_lemma => kernel_rfl) (fun _ _ _ h => h) (Or.inl ⟨by rfl, ?_⟩) ?_
          rotate_left
          focus (intro w' hSw; skip; go_simp; (try with_reducible rfl))
          (try simp only [List.getElem_toArray, List.getElem_cons_succ, List.getElem_cons_zero, Act.put, List.setIfInBounds_toArray, List.set_cons_zero, List.set_cons_succ])
          refine wpAnyF_pure (i := 5) (v := ?_) rfl (by as_aux_lemma => kernel_rfl) (by as_aux_lemma => kernel_rfl) (by as_aux_lemma => kernel_rfl) rfl (by as_aux_lemma => kernel_rfl) (fun _ _ _ h => h) (Or.inl ⟨by rfl, ?_⟩) ?_
          rotate_left
          focus (intro w' hSw; skip; go_simp; (try with_reducible rfl))
          (try simp only [List.getElem_toArray, List.getElem_cons_succ, List.getElem_cons_zero, Act.put, List.setIfInBounds_toArray, List.set_cons_zero, List.set_cons_succ])
          refine wpAnyF_pure (i := 10) (v := ?_) rfl (by as_aux_lemma => kernel_rfl) (by as_aux_lemma => kernel_rfl) (by as_aux_lemma => kernel_rfl) rfl (by as_aux_lemma => kernel_rfl) (fun _ _ _ h => h) (Or.inl ⟨by rfl, ?_⟩) ?_
          rotate_left
          focus (intro w' hSw; skip; go_simp; (try with_reducible rfl))
          (try simp only [List.getElem_toArray, List.getElem_cons_succ, List.getElem_cons_zero, Act.put, List.setIfInBounds_toArray, List.set_cons_zero, List.set_cons_succ])
          refine wpAnyF_pure (i := 11) (v := ?_) rfl (by as_aux_lemma => kernel_rfl) (by as_aux_lemma => kernel_rfl) (by as_aux_lemma => kernel_rfl) rfl (by as_aux_lemma => kernel_rfl) (fun _ _ _ h => h) (Or.inl ⟨by rfl, ?_⟩) ?_
          rotate_left
          focus (intro w' hSw; skip; go_simp; (try with_reducible rfl))
          (try simp only [List.getElem_toArray, List.getElem_cons_succ, List.getElem_cons_zero, Act.put, List.setIfInBounds_toArray, List.set_cons_zero, List.set_cons_succ])
          refine wpAnyF_pure (i := 12) (v := ?_) rfl (by as_aux_lemma => kernel_rfl) (by as_aux_lemma => kernel_rfl) (by as_aux_lemma => kernel_rfl) rfl (by as_aux_lemma => kernel_rfl) (fun _ _ _ h => h) (Or.inl ⟨by rfl, ?_⟩) ?_
          rotate_left
          focus (intro w' hSw; skip; go_simp; (try with_reducible rfl))
          (try simp only [List.getElem_toArray, List.getElem_cons_succ, List.getElem_cons_zero, Act.put, List.setIfInBounds_toArray, List.set_cons_zero, List.set_cons_succ])
          refine wpAnyF_pure (i := 17) (v := ?_) rfl (by as_aux_lemma => kernel_rfl) (by as_aux_lemma => kernel_rfl) (by as_aux_lemma => kernel_rfl) rfl (by as_aux_lemma => kernel_rfl) (fun _ _ _ h => h) (Or.inl ⟨by rfl, ?_⟩) ?_
          rotate_left
          focus (intro w' hSw; skip; go_simp; (try with_reducible rfl))
          (try simp only [List.getElem_toArray, List.getElem_cons_succ, List.getElem_cons_zero, Act.put, List.setIfInBounds_toArray, List.set_cons_zero, List.set_cons_succ])
          refine wpAnyF_pure (i := 18) (v := ?_) rfl (by as_aux_lemma => kernel_rfl) (by as_aux_lemma => kernel_rfl) (by as_aux_lemma => kernel_rfl) rfl (by as_aux_lemma => kernel_rfl) (fun _ _ _ h => h) (Or.inl ⟨by rfl, ?_⟩) ?_
          rotate_left
          focus (intro w' hSw; skip; go_simp; (try with_reducible rfl))
          (try simp only [List.getElem_toArray, List.getElem_cons_succ, List.getElem_cons_zero, Act.put, List.setIfInBounds_toArray, List.set_cons_zero, List.set_cons_succ])
          refine wpAnyF_pure (i := 19) (v := ?_) rfl (by as_aux_lemma => kernel_rfl) (by as_aux_lemma => kernel_rfl) (by as_aux_lemma => kernel_rfl) rfl (by as_aux_lemma => kernel_rfl) (fun _ _ _ h => h) (Or.inl ⟨by rfl, ?_⟩) ?_
          rotate_left
          focus (intro w' hSw; skip; go_simp; (try with_reducible rfl))
          (try simp only [List.getElem_toArray, List.getElem_cons_succ, List.getElem_cons_zero, Act.put, List.setIfInBounds_toArray, List.set_cons_zero, List.set_cons_succ])
          refine wpAnyF_take 0 0 (i := 6) (v := ?_) rfl (by as_aux_lemma => kernel_rfl) (by as_aux_lemma => kernel_rfl) (by as_aux_lemma => kernel_rfl) (by as_aux_lemma => kernel_rfl) (by as_aux_lemma => kernel_rfl) (fun _ _ _ h => h) (Or.inl ⟨by rfl, ?_⟩) HS0.out ?_
          rotate_left
          focus (intro w' hSw; have c34 := hSw.1.1; go_simp; (try with_reducible rfl))
          (try simp only [List.getElem_toArray, List.getElem_cons_succ, List.getElem_cons_zero, Act.put, List.setIfInBounds_toArray, List.set_cons_zero, List.set_cons_succ])
          refine wpAnyF_take 0 0 (i := 7) (v := .agg [.int .i64 ((j : Int) + 1), .int .i64 r.lost, .int .i64 r.ret, .int .i64 r.desc, .int .i64 r.late, .int .i64 r.every, .int .i64 r.drift, .int .i64 0, .bool false, .int .i64 0, .int .i64 0, .int .i64 0, .bool false, .bool false, .bool false, .bool false, .int .i64 0, .int .i64 0, .int .i64 0, .int .i64 0, .int .i64 0, .int .i64 0, .int .i64 0, .int .i64 0].toArray) rfl (by as_aux_lemma => kernel_rfl) (by as_aux_lemma => kernel_rfl) (by as_aux_lemma => kernel_rfl) (by as_aux_lemma => kernel_rfl) (by as_aux_lemma => kernel_rfl) (fun _ _ _ h => h) (yields_load_row (by rfl) 101 _ rfl x6 rfl 101 _ (0, 0) _ (fun w' hS => hS.2.1) Tryz.underlying101 rfl (by as_aux_lemma => kernel_rfl)) HS0.out ?_
          (try simp only [List.getElem_toArray, List.getElem_cons_succ, List.getElem_cons_zero, Act.put, List.setIfInBounds_toArray, List.set_cons_zero, List.set_cons_succ])
          refine wpAnyF_take 0 0 (i := 13) (v := ?_) rfl (by as_aux_lemma => kernel_rfl) (by as_aux_lemma => kernel_rfl) (by as_aux_lemma => kernel_rfl) (by as_aux_lemma => kernel_rfl) (by as_aux_lemma => kernel_rfl) (fun _ _ _ h => h) (Or.inl ⟨by rfl, ?_⟩) HS0.out ?_
          rotate_left
          focus (intro w' hSw; have c35 := hSw.1.2.1; go_simp; (try with_reducible rfl))
          (try simp only [List.getElem_toArray, List.getElem_cons_succ, List.getElem_cons_zero, Act.put, List.setIfInBounds_toArray, List.set_cons_zero, List.set_cons_succ])
          refine wpAnyF_take 16 15 (i := 14) (v := .agg [.int .i64 r.up.loss, .int .i64 r.up.twice, .int .i64 r.up.least, .int .i64 r.up.most, .int .i64 (r.up.seed + ((j : Int) + 1)), .int .u64 (r.up.seed + ((j : Int) + 1)), .int .i64 0, .slice none 0 0, .int .i64 0, .int .i64 0, .int .i64 0].toArray) rfl (by as_aux_lemma => kernel_rfl) (by as_aux_lemma => kernel_rfl) (by as_aux_lemma => kernel_rfl) (by as_aux_lemma => kernel_rfl) (by as_aux_lemma => kernel_rfl) (fun _ _ _ h => h) (yields_load_row (by rfl) 136 _ rfl x10 rfl 136 _ (0, 0) _ (fun w' hS => hS.2.2.1) Tryz.underlying136 rfl (by as_aux_lemma => kernel_rfl)) HS0.out ?_
          (try simp only [List.getElem_toArray, List.getElem_cons_succ, List.getElem_cons_zero, Act.put, List.setIfInBounds_toArray, List.set_cons_zero, List.set_cons_succ])
          refine wpAnyF_take 0 0 (i := 20) (v := ?_) rfl (by as_aux_lemma => kernel_rfl) (by as_aux_lemma => kernel_rfl) (by as_aux_lemma => kernel_rfl) (by as_aux_lemma => kernel_rfl) (by as_aux_lemma => kernel_rfl) (fun _ _ _ h => h) (Or.inl ⟨by rfl, ?_⟩) HS0.out ?_
          rotate_left
          focus (intro w' hSw; have c36 := hSw.1.2.2; go_simp; (try with_reducible rfl))
          (try simp only [List.getElem_toArray, List.getElem_cons_succ, List.getElem_cons_zero, Act.put, List.setIfInBounds_toArray, List.set_cons_zero, List.set_cons_succ])
          refine wpAnyF_take 23 22 (i := 21) (v := .agg [.int .i64 r.dn.loss, .int .i64 r.dn.twice, .int .i64 r.dn.least, .int .i64 r.dn.most, .int .i64 (r.dn.seed + ((j : Int) + 1)), .int .u64 (r.dn.seed + ((j : Int) + 1)), .int .i64 0, .slice none 0 0, .int .i64 0, .int .i64 0, .int .i64 0].toArray) rfl (by as_aux_lemma => kernel_rfl) (by as_aux_lemma => kernel_rfl) (by as_aux_lemma => kernel_rfl) (by as_aux_lemma => kernel_rfl) (by as_aux_lemma => kernel_rfl) (fun _ _ _ h => h) (yields_load_row (by rfl) 136 _ rfl x12 rfl 136 _ (0, 0) _ (fun w' hS => hS.2.2.2) Tryz.underlying136 rfl (by as_aux_lemma => kernel_rfl)) HS0.out ?_
          (try simp only [List.getElem_toArray, List.getElem_cons_succ, List.getElem_cons_zero, Act.put, List.setIfInBounds_toArray, List.set_cons_zero, List.set_cons_succ])
          refine wpAnyF_ready (rs := [8, 15, 22]) (by as_aux_lemma => kernel_rfl) (by simp) ?_
          refine AllReadyF.cons rfl (fun K hK => ?_) (AllReadyF.cons rfl (fun K hK => ?_) (AllReadyF.cons rfl (fun K hK => ?_) (AllReadyF.nil)))
          · skip
            go_simp
            have h1 := H0.out.mk1
            obtain ⟨β1, hβ⟩ : ∃ b, b = V0.heap.size := ⟨_, rfl⟩
            refine hK.out _ _ (fun _ => h1.s rfl rfl rfl) ?_
            clear hK K
            (try simp only [List.getElem_toArray, List.getElem_cons_succ, List.getElem_cons_zero, Act.put, List.setIfInBounds_toArray, List.set_cons_zero, List.set_cons_succ])
            rw [← hβ] at h1 ⊢
            generalize World.alloc V0 _ = V1 at h1 ⊢
            have H1 := Lib.hid h1
            clear h1 hβ H0
            refine wpAnyF_ready (rs := [9, 15, 22]) (by as_aux_lemma => kernel_rfl) (by simp) ?_
            refine AllReadyF.cons rfl (fun K hK => ?_) (AllReadyF.cons rfl (fun K hK => ?_) (AllReadyF.cons rfl (fun K hK => ?_) (AllReadyF.nil)))
            · skip
              have hle := H1.out.w1.le
              refine step_append_row rfl (.tmp 97) (.tmp 99) 52 rfl U.heap.size 101 k0 _ 24 168 Tryz.underlying52 hk0 kza kzb kzc rfl PA j pc (pcls (Nt.newCrs r j)) rfl H1.out.w1 ⟨β1, 0, none⟩ 1 1 [.int .i64 ((j : Int) + 1), .int .i64 r.lost, .int .i64 r.ret, .int .i64 r.desc, .int .i64 r.late, .int .i64 r.every, .int .i64 r.drift, .int .i64 0, .bool false, .int .i64 0, .int .i64 0, .int .i64 0, .bool false, .bool false, .bool false, .bool false, .int .i64 0, .int .i64 0, .int .i64 0, .int .i64 0, .int .i64 0, .int .i64 0, .int .i64 0, .int .i64 0] rfl rfl (fun k u hu => by rw [addr_add, Nat.zero_add]; exact blk_cell (H1.out.f1 β1 rfl).1 k hu) Bt Cb Bn Cb H1.out.up ?_
              intro PB pd V2 hrow hg hat
              have h1 := H1.out.a1 hrow hg hat
              refine hK.out _ _ (fun _ => h1.s rfl rfl rfl) ?_
              clear hK K
              (try simp only [List.getElem_toArray, List.getElem_cons_succ, List.getElem_cons_zero, Act.put, List.setIfInBounds_toArray, List.set_cons_zero, List.set_cons_succ])
              have H2 := Lib.hid h1
              clear h1 hrow hg hat hle H1
              refine wpAnyF_ready (rs := [15, 22]) (by as_aux_lemma => kernel_rfl) (by simp) ?_
              refine AllReadyF.cons rfl (fun K hK => ?_) (AllReadyF.cons rfl (fun K hK => ?_) (AllReadyF.nil))
              · skip
                go_simp
                have h1 := H2.out.mk2
                obtain ⟨β2, hβ⟩ : ∃ b, b = V2.heap.size := ⟨_, rfl⟩
                refine hK.out _ _ (fun _ => h1.s rfl rfl rfl) ?_
                clear hK K
                (try simp only [List.getElem_toArray, List.getElem_cons_succ, List.getElem_cons_zero, Act.put, List.setIfInBounds_toArray, List.set_cons_zero, List.set_cons_succ])
                rw [← hβ] at h1 ⊢
                generalize World.alloc V2 _ = V3 at h1 ⊢
                have H3 := Lib.hid h1
                clear h1 hβ H2
                exact Et
              · skip
                go_simp
                have h1 := H2.out.mk3
                obtain ⟨β3, hβ⟩ : ∃ b, b = V2.heap.size := ⟨_, rfl⟩
                refine hK.out _ _ (fun _ => h1.s rfl rfl rfl) ?_
                clear hK K
                (try simp only [List.getElem_toArray, List.getElem_cons_succ, List.getElem_cons_zero, Act.put, List.setIfInBounds_toArray, List.set_cons_zero, List.set_cons_succ])
                rw [← hβ] at h1 ⊢
                generalize World.alloc V2 _ = V3 at h1 ⊢
                have H3 := Lib.hid h1
                clear h1 hβ H2
                exact Ez
            · skip
              go_simp
              have h1 := H1.out.mk2
              obtain ⟨β2, hβ⟩ : ∃ b, b = V1.heap.size := ⟨_, rfl⟩
              exact Ew
            · skip
              go_simp
              have h1 := H1.out.mk3
              obtain ⟨β3, hβ⟩ : ∃ b, b = V1.heap.size := ⟨_, rfl⟩
              exact Eu
          · skip
            go_simp
            have h1 := H0.out.mk2
            obtain ⟨β2, hβ⟩ : ∃ b, b = V0.heap.size := ⟨_, rfl⟩
            refine hK.out _ _ (fun _ => h1.s rfl rfl rfl) ?_
            clear hK K
            (try simp only [List.getElem_toArray, List.getElem_cons_succ, List.getElem_cons_zero, Act.put, List.setIfInBounds_toArray, List.set_cons_zero, List.set_cons_succ])
            rw [← hβ] at h1 ⊢
            generalize World.alloc V0 _ = V1 at h1 ⊢
            have H1 := Lib.hid h1
            clear h1 hβ H0
            refine wpAnyF_ready (rs := [8, 22]) (by as_aux_lemma => kernel_rfl) (by simp) ?_
            refine AllReadyF.cons rfl (fun K hK => ?_) (AllReadyF.cons rfl (fun K hK => ?_) (AllReadyF.nil))
            · skip
              go_simp
              have h1 := H1.out.mk1
              obtain ⟨β1, hβ⟩ : ∃ b, b = V1.heap.size := ⟨_, rfl⟩
              exact Ew
            · skip
              go_simp
              have h1 := H1.out.mk3
              obtain ⟨β3, hβ⟩ : ∃ b, b = V1.heap.size := ⟨_, rfl⟩
              exact Ey
          · skip
            go_simp
            have h1 := H0.out.mk3
            obtain ⟨β3, hβ⟩ : ∃ b, b = V0.heap.size := ⟨_, rfl⟩
            refine hK.out _ _ (fun _ => h1.s rfl rfl rfl) ?_
            clear hK K
            (try simp only [List.getElem_toArray, List.getElem_cons_succ, List.getElem_cons_zero, Act.put, List.setIfInBounds_toArray, List.set_cons_zero, List.set_cons_succ])
            rw [← hβ] at h1 ⊢
            generalize World.alloc V0 _ = V1 at h1 ⊢
            have H1 := Lib.hid h1
            clear h1 hβ H0
            refine wpAnyF_ready (rs := [8, 15]) (by as_aux_lemma => kernel_rfl) (by simp) ?_
            refine AllReadyF.cons rfl (fun K hK => ?_) (AllReadyF.cons rfl (fun K hK => ?_) (AllReadyF.nil))
            · skip
              go_simp
              have h1 := H1.out.mk1
              obtain ⟨β1, hβ⟩ : ∃ b, b = V1.heap.size := ⟨_, rfl⟩
              exact Eu
            · skip
              go_simp
              have h1 := H1.out.mk2
              obtain ⟨β2, hβ⟩ : ∃ b, b = V1.heap.size := ⟨_, rfl⟩
              exact Ey
      · obtain rfl : j = n := by omega
        have ik : ¬ ((j : Int) + 1 ≤ (j : Int)) := by omega
        go_wp2_with fail
        go_ret2
        obtain ⟨m, hm⟩ := HL.out.done HN.out.1 HN.out.2 G5.out Cb HBU.out.size (by have := HPB.out.2.2.2; omega) (by have h1 := HGE.out; have h2 := HSB.out; omega) (by have h1 := HGE.out; have h2 := HSB.out; omega) HSTU.out ROU.out RTU.out gkU.out gbU.out ⟨_, gpU.out⟩
        exact ⟨p, m, rfl, hm, HBU.out.trans (HL.out.2.2.2.2.1.below (fun q _ hq => by have := HPB.out.2.2.2; omega) HBU.out.size)⟩
end
end Go.Proofs.YtdocdgcdldpagaaGreat

/- Keep of a zero net. -/
import Derived.Test.YtgmejplcdecmkaaLgMh
namespace Go.Proofs.Ytgmejplcdecmkaa
open Go.RowKit Go.Shelf
set_option maxHeartbeats 4000000
set_option maxRecDepth 100000
set_option linter.unusedSimpArgs false
set_option linter.unusedVariables false
theorem net_none (q : Nat) (w : World) (h : w.cell? ⟨q, 25, none⟩ = some (.slice none 0 0)) : Calls Try.prog 76 #[.pointer (some ⟨q, 0, none⟩)] w fun e w' => e = .returned (.bool true) ∧ w = w' := by
  go_enter Try.func76, Try.ntmps76
  go_wp2_with fail
  go_ret
  exact ⟨rfl, rfl⟩
theorem evall_any (w : World) : Calls Try.prog 77 #[.slice none 0 0] w fun e w' => ∃ B, e = .returned (.func (.func 89) #[] #[.pointer (some ⟨B, 0, none⟩)]) ∧ w'.heap[B]? = some (.cells #[.slice none 0 0] 69 (0, 0)) ∧ Below w.heap.size w w' := by
  go_enter Try.func77, Try.ntmps77
  go_wp2_with fail
  go_ret
  exact ⟨_, rfl, heap_new _ _, (Below.refl _ w).alloc (Nat.le_refl _) _⟩
theorem netall_any (q : Nat) (w : World) (h : w.cell? ⟨q, 25, none⟩ = some (.slice none 0 0)) : Calls Try.prog 52 #[.pointer (some ⟨q, 0, none⟩)] w fun e w' => ∃ B, e = .returned (.func (.func 89) #[] #[.pointer (some ⟨B, 0, none⟩)]) ∧ w'.heap[B]? = some (.cells #[.slice none 0 0] 69 (0, 0)) ∧ Below w.heap.size w w' := by
  have N := Lib.hid (net_none q w h)
  have E := Lib.hid (evall_any w)
  clear h
  go_enter Try.func52, Try.ntmps52
  go_wp2_with fail
  refine N.out.mono ?_
  rintro _ _ ⟨rfl, rfl⟩
  go_wp2_with fail
  refine E.out.mono ?_
  rintro _ w1 ⟨B, rfl, hb, hb1⟩
  go_wp2_with fail
  go_ret
  exact ⟨B, rfl, hb, hb1⟩
theorem ev_seq (m B : Nat) (w : World) (hm : 1 ≤ m) (hbox : w.heap[B]? = some (.cells #[.slice none 0 0] 69 (0, 0))) :
    SeqP Fence.wide m Try.prog 89 #[.pointer (some ⟨B, 0, none⟩)] (fun (x : Empty) => x.elim) (fun _ _ _ => True) (fun A C => Below w.heap.size A C) (fun ys => ys.length = 0) (fun ys => True) 0 w := by
  intro l J Jx W hW hJ hJx hY h0
  have hbx := blk_below hbox hW (lt_of_block hbox)
  have c0 := blk_cell (l := [_]) hbx 0 rfl
  clear hY hJ hJx hbox hbx
  refine callsIn_of_wp Try.func89 rfl trivial ?_ rfl
  simp only [Try.ntmps89, List.size_toArray, List.length_cons, List.length_nil, Nat.reduceAdd, Nat.reduceSub, Array.replicate_succ, Array.replicate_zero, List.push_toArray, List.append_toArray, List.nil_append, List.cons_append]
  gi_wp2
  gi_loopw [7] (fun i wr => i = .int .i64 0 ∧ J [] wr) (fun i _ => 0)
  case atStart => exact ⟨rfl, h0⟩
  case round =>
    obtain ⟨rfl, hJs⟩ := hrel
    gi_wp2
    go_end0
    exact ⟨⟨_, rfl⟩, .inl ⟨[], rfl, hJs⟩⟩
attribute [local go_sem ↓] Go.wp_at_zero Go.wp_at_succ
theorem keep_zero {w : World} {base p : Nat} {K : List Lg.Rc} (h : KS w base p K) (hbase : base ≤ w.heap.size) (hn : K.length ≤ 1000000) (q : Nat) (hq : w.cell? ⟨q, 25, none⟩ = some (.slice none 0 0)) (hql : q < w.heap.size) :
    Calls Try.prog 24 #[.pointer (some ⟨p, 0, none⟩), .pointer (some ⟨q, 0, none⟩)] w fun e w' => e = .returned (.int .i64 0) ∧ KS w' base p K ∧ Kt base w w' := by
  obtain ⟨A, c, vs, X, hlg, hx⟩ := h
  have hvn : vs.length ≤ 1000000 := by rw [← hx, Lg.xs_len] at hn; exact hn
  have CP := Lib.hid (fun (W : World) (hW : Below w.heap.size w W) => lcopy_any (hlg.below hW) hvn)
  have NA := Lib.hid (fun (W : World) (hW : Below w.heap.size w W) => netall_any q W ((hW.cell (p := ⟨q, 25, none⟩) hql).trans hq))
  have HLG := Lib.hid hlg
  have HX := Lib.hid hx
  have hpl := hlg.lt
  clear hlg hx hq hn
  refine (callsIn_wide (n := 5)).1 (callsIn_of_wp_marks Try.func24 rfl trivial ?_ rfl)
  simp only [Try.ntmps24, List.size_toArray, List.length_cons, List.length_nil, Nat.reduceAdd, Nat.reduceSub, Array.replicate_succ, Array.replicate_zero, List.push_toArray, List.append_toArray, List.nil_append, List.cons_append]
  refine wpIn_wide.2 ?_
  go_upto_region 1 with fail
  generalize hW0 : World.alloc _ _ = W0
  obtain ⟨r, hr⟩ : ∃ r, r = w.heap.size := ⟨_, rfl⟩
  have r0 : W0.heap[r]? = some (.cells #[.int .i64 0] 34 (0, 0)) := by rw [← hW0, hr]; exact heap_new _ _
  have B0 : Below w.heap.size w W0 := by rw [← hW0]; exact (Below.refl _ w).alloc (Nat.le_refl _) _
  rw [← hr]
  clear hW0
  go_wp2_with fail
  refine (CP.out W0 B0).mono ?_
  rintro _ W1 ⟨p', A', c', rfl, hcp, hb1⟩
  have r0 := blk_below r0 hb1 (lt_of_block r0)
  have B1 := B0.trans (hb1.mono B0.size)
  have hrw : r < W1.heap.size := lt_of_block r0
  have hW0z : w.heap.size ≤ W0.heap.size := B0.size
  have CPY := Lib.hid hcp
  clear CP hcp hb1 B0
  go_upto_region 7 with fail
  generalize hW2 : World.alloc _ _ = W2
  obtain ⟨s5, hs5⟩ : ∃ s5, s5 = W1.heap.size := ⟨_, rfl⟩
  have hz2 : (W1.alloc (.cells #[.pointer (some ⟨p', 0, none⟩)] 42)).heap.size = s5 + 1 := by rw [hs5]; simp
  have g5 : W2.heap[s5]? = some (.cells #[.pointer (some ⟨p', 0, none⟩)] 42 (0, 0)) := by rw [← hW2, hs5]; exact blk_alloc (heap_new _ _) _
  have g6 : W2.heap[s5 + 1]? = some (.cells #[.bool false] 4 (0, 0)) := by rw [← hW2]; exact heap_new' _ _ _ hz2.symm
  have b2 : Below W1.heap.size W1 W2 := by rw [← hW2]; exact ((Below.refl _ W1).alloc (Nat.le_refl _) _).alloc (by simp) _
  have r0 := blk_below r0 b2 (lt_of_block r0)
  have CPY := Lib.hid (CPY.out.below b2)
  have B2 := B1.trans (b2.mono B1.size)
  rw [← hs5]
  clear hW2 hz2 b2 B1 hs5
  go_wp2_with fail
  refine (NA.out W2 B2).mono ?_
  rintro _ W3 ⟨B, rfl, hbB, hb3⟩
  have r0 := blk_below r0 hb3 (lt_of_block r0)
  have g5 := blk_below g5 hb3 (lt_of_block g5)
  have g6 := blk_below g6 hb3 (lt_of_block g6)
  have CPY := Lib.hid (CPY.out.below hb3)
  have B3 := B2.trans (hb3.mono B2.size)
  have LG3 := Lib.hid (HLG.out.below B3)
  clear NA hb3 B2
  go_wp2_with fail
  refine (wpIn_wide (n := 5)).1 ?_
  have hseq := ev_seq 4 B W3 (by omega) hbB
  have B3' := Lib.hid B3
  clear B3
  refine range_own (F := Fence.wide) rfl (by omega) (gf := 89) (lb := #[.pointer (some ⟨B, 0, none⟩)]) rfl trivial (enters_of Try.func89 (by kernel_rfl) rfl) hseq (fun h k => h.trans k)
    (fun V l' o o' hl h hc => (Below.refl _ V).grown (grownBy_putObj' V l' o') (by have := (Array.getElem?_eq_some_iff.1 h).1; omega) (fun k e => by cases e; omega)) (fun x => x.elim)
    (fun pre V => Below W3.heap.size W3 V) (fun c pre V => False) (fun x a' V => True)
    ?hI ?hIx ?hPr ?hAx ?h0 ?assign ?body ?done ?stop
  case hI => exact ownFrom_below (by omega) (by omega)
  case hIx => exact fun c s X Y row hs _ _ => hs.elim
  case hPr => exact fun pre s X Y row _ _ _ => trivial
  case hAx => exact fun a' s X Y row _ _ _ => trivial
  case h0 => exact Below.refl _ _
  case assign =>
    rintro l' pre x V K hBn hpr hK
    exact x.elim
  case body =>
    rintro l' pre x a' V _ _ _ hlt
    exact x.elim
  case stop =>
    rintro D c' pre V hD _ hf hK
    exact hf.elim
  case done =>
    rintro D ys V hD hys hBn hK
    subst hr
    have r0 := blk_below r0 hBn (lt_of_block r0)
    have g5 := blk_below g5 hBn (lt_of_block g5)
    have g6 := blk_below g6 hBn (lt_of_block g6)
    have CPY := Lib.hid (CPY.out.below hBn)
    have LGV := Lib.hid (LG3.out.below hBn)
    have BV := Lib.hid (B3'.out.trans (hBn.mono B3'.out.size))
    have e5 := blk_cell (l := [_]) g5 0 rfl
    have e6 := blk_cell (l := [_]) g6 0 rfl
    have cp := blk_cell (l := [_]) LGV.out.blk 0 rfl
    have fp := blk_free LGV.out.blk 0
    have cp' := blk_cell (l := [_]) CPY.out.blk 0 rfl
    have hpr : p ≠ w.heap.size := by omega
    have cr := blk_cell (l := [_]) (blk_far r0 (a := ⟨p, 0, none⟩) (by show w.heap.size ≠ p; omega) (.slice A' vs.length c')) 0 rfl
    have fr := blk_free (blk_far r0 (a := ⟨p, 0, none⟩) (by show w.heap.size ≠ p; omega) (.slice A' vs.length c')) 0
    clear LG3 hBn hseq g5 g6
    go_wp2_with fail
    have hDp : D ≠ p := by rintro rfl; have := LGV.out.blk; rw [hK] at this; cases this
    have hDr : D ≠ w.heap.size := by rintro rfl; rw [hK] at r0; cases r0
    have eD := blk_far (blk_far hK (a := ⟨p, 0, none⟩) hDp (.slice A' vs.length c')) (a := ⟨w.heap.size, 0, none⟩) hDr (.int .i64 0)
    have rT := blk_set (blk_far r0 (a := ⟨p, 0, none⟩) (by show w.heap.size ≠ p; omega) (.slice A' vs.length c')) 0 (.int .i64 0)
    have pT := blk_far (blk_set LGV.out.blk 0 (.slice A' vs.length c')) (a := ⟨w.heap.size, 0, none⟩) hpr (.int .i64 0)
    have KV : Keeps (fun i => i = p ∨ i = w.heap.size ∨ i = D) V (((V.setCell ⟨p, 0, none⟩ (.slice A' vs.length c')).setCell ⟨w.heap.size, 0, none⟩ (.int .i64 0)).putObj D (.deferred none)) :=
      (((Keeps.refl _ V).setCell (p := ⟨p, 0, none⟩) (.inl (.inl rfl)) _).setCell (p := ⟨w.heap.size, 0, none⟩) (.inl (.inr (.inl rfl))) _).trans (Keeps.of_grown (S := fun i => i = D) (grownBy_putObj' _ _ _) (fun g e => by injection e with e; exact e.symm)) (fun i _ e => .inr (.inr e))
    refine ⟨by simp, .inl ⟨_, _, rfl, run_takeDeferred eD, ?_⟩⟩
    refine ⟨_, results_c1 rfl _ _ w.heap.size (.int .i64 0) _ rfl (blk_cell (l := [_]) ((World.putObj_heap_other (fun e => hDr e.symm)).trans rT) 0 rfl) Try.underlying34 rfl, rfl, ⟨A', c', vs, X, ⟨(World.putObj_heap_other (fun e => hDp e.symm)).trans pT, ?_, fun y hy => ?_, HLG.out.ge⟩, HX.out⟩, ?_, fun i cs t h1 h2 e => ?_, fun i o ho e => ?_⟩
    · have := CPY.out.row
      refine (this.kept KV (fun g hg hs => ?_)).more (Nat.le_trans hbase (by omega))
      have ht := CPY.out.row.ty hg
      rcases hs with rfl | rfl | rfl
      · exact ht.ne ⟨_, LGV.out.blk⟩ (by decide) rfl
      · exact ht.ne ⟨_, r0⟩ (by decide) rfl
      · obtain ⟨cs, hc⟩ := ht; rw [hK] at hc; cases hc
    · refine (LGV.out.dat y hy).keep KV (fun i _ ht hs => ?_)
      rcases hs with rfl | rfl | rfl
      · exact ht.ne ⟨_, LGV.out.blk⟩ (by decide) rfl
      · exact ht.ne ⟨_, r0⟩ (by decide) rfl
      · obtain ⟨cs, hc⟩ := ht; rw [hK] at hc; cases hc
    · have hge := HLG.out.ge
      have hW3 := BV.out.size
      refine (BV.out.mono hbase).trans (KV.below (fun i hi hs => ?_) (by omega))
      rcases hs with rfl | rfl | rfl
      · exact hge
      · exact hbase
      · have := B3'.out.size; omega
    · have hi := lt_of_block e
      refine blk_keep (blk_below e BV.out hi) KV (fun hs => ?_)
      rcases hs with rfl | rfl | rfl
      · have := HLG.out.blk; rw [e] at this; cases this; exact h1 rfl
      · omega
      · have := B3'.out.size; omega
    · have hi := (Array.getElem?_eq_some_iff.1 e).1
      refine (KV.block i (by have := BV.out.size; omega) (fun hs => ?_)).trans ((BV.out.block i hi).trans e)
      rcases hs with rfl | rfl | rfl
      · have := HLG.out.blk; rw [e] at this; cases this; cases ho
      · omega
      · have := B3'.out.size; omega
end Go.Proofs.Ytgmejplcdecmkaa
/- A log with as many records as there may be: plain. -/
namespace Go.Proofs.Ytgmejplcdecmkaa
open Go.RowKit
set_option maxHeartbeats 4000000
set_option maxRecDepth 100000
set_option linter.unusedSimpArgs false
set_option linter.unusedVariables false
namespace Lg
def pz (a x y z : Int) : Nat → List Rc
  | 0 => []
  | i + 1 => add (pz a x y z i) (posR i a x y z)
structure PzOk (a x y z : Int) : Prop where
  a1 : 1 ≤ a
  a2 : a ≤ 64
  x : inP x = true
  y : inP y = true
  z : inP z = true
section
variable {a x y z : Int}
theorem pz_fine (h : PzOk a x y z) (t : Int) (ht : 0 ≤ t ∧ t ≤ 3600000) : fine (posR t a x y z) = true := by
  have h1 := h.a1
  have h2 := h.a2
  unfold fine posR
  simp only [h.x, h.y, h.z, if_true]
  rw [decide_eq_true (show 0 ≤ t ∧ t ≤ 3600000 ∧ 0 ≤ a ∧ a ≤ 64 by omega), decide_eq_true (show 0 < a by omega)]
  rfl
theorem pz_facts (h : PzOk a x y z) : ∀ i, i ≤ 10000 → (pz a x y z i).length = i ∧ (0 < i → (lastR (pz a x y z i)).t = (i : Int) - 1) ∧ (∀ r ∈ pz a x y z i, r.f.d = []) ∧ Good (pz a x y z i)
  | 0, _ => ⟨rfl, fun h => absurd h (by omega), (fun r hr => by cases hr), Good.nil⟩
  | i + 1, hi => by
    obtain ⟨h1, h2, h3, h4⟩ := pz_facts h i (by omega)
    have hm : mayE (pz a x y z i) (posR i a x y z) = 0 := by
      unfold mayE
      rw [if_pos (pz_fine h i (by omega)), if_neg]
      rintro ⟨h5, h6⟩
      have := h2 (by omega)
      rw [this] at h6
      simp only [posR] at h6
      omega
    have he := addE_ok hm (by omega : (pz a x y z i).length < 10000)
    have e : pz a x y z (i + 1) = pz a x y z i ++ [own (pz a x y z i) (posR i a x y z)] := by rw [pz, add, if_pos he]
    refine ⟨by rw [e, List.length_append, h1]; rfl, fun _ => ?_, fun r hr => ?_, by rw [pz]; exact good_add h4 _⟩
    · rw [e, lastR_app]
      show (i : Int) = _
      omega
    · rw [e] at hr
      rcases List.mem_append.1 hr with hr | hr
      · exact h3 r hr
      · rw [List.mem_singleton.1 hr]; rfl
theorem pz_add (h : PzOk a x y z) {i : Nat} (hi : i < 10000) : addE (pz a x y z i) (posR i a x y z) = 0 := by
  obtain ⟨h1, h2, _, _⟩ := pz_facts h i (by omega)
  refine addE_ok ?_ (by omega)
  unfold mayE
  rw [if_pos (pz_fine h i (by omega)), if_neg]
  rintro ⟨h5, h6⟩
  have := h2 (by omega)
  rw [this] at h6
  simp only [posR] at h6
  omega
theorem full7 {l : List Rc} {r : Rc} (hl : l.length = 10000) (ht : (lastR l).t = 9999) (hf : fine r = true) (hr : 9999 ≤ r.t) : mayE l r = 0 ∧ addE l r = 7 := by
  have hm : mayE l r = 0 := by
    unfold mayE
    rw [if_pos hf, if_neg (by rw [ht]; omega)]
  refine ⟨hm, ?_⟩
  unfold addE
  rw [if_neg (by omega), if_pos (by omega)]
theorem full8 {l : List Rc} {r : Rc} (hl : l.length = 10000) (ht : (lastR l).t = 9999) (hf : fine r = true) (hr : r.t < 9999) : addE l r = 8 := by
  have hm : mayE l r = 8 := by
    unfold mayE
    rw [if_pos hf, if_pos (by rw [ht]; omega)]
  unfold addE
  rw [if_pos (by omega), hm]
def moreR (s : Int) : Rc := { stR 9999 0 1 with sum := s }
theorem fine1 : fine (stR 10000 0 1) = true := by kernel_rfl
theorem fine2 : fine (stR 9998 0 1) = true := by kernel_rfl
theorem fine3 : fine (stR 9999 0 1) = true := by kernel_rfl
theorem fine_more (s : Int) : fine (moreR s) = true := by
  have h := fine3
  unfold fine at h ⊢
  exact h
theorem sumO_more (b s : Int) : sumO b (moreR s) = sumO b (stR 9999 0 1) := by
  unfold sumO
  rw [if_pos (fine_more s), if_pos fine3]
  exact sumN_sum b (stR 9999 0 1) s
theorem ld_more {l : List Rc} (hg : Good l) (hl : l.length = 10000) (ht : (lastR l).t = 9999) : (ld [] (l ++ [moreR (sumO (endS l) (stR 9999 0 1))])).2 = (10000, 7) := by
  obtain ⟨s, hs0⟩ : ∃ s, s = sumO (endS l) (stR 9999 0 1) := ⟨_, rfl⟩
  rw [← hs0]
  have hf : fine (moreR s) = true := fine_more s
  have hs : sumO (endS l) (moreR s) = (moreR s).sum := by
    rw [sumO_more, ← hs0]
    rfl
  obtain ⟨h1, h2⟩ := full7 (r := moreR s) hl ht hf (Int.le_refl _)
  have he : ldE l (moreR s) = 7 := by
    unfold ldE
    rw [if_neg (by omega), if_neg (fun h => h hs), h2]
  have e : ld l [moreR s] = (l, 0, 7) := by
    show (if ldE l _ = 0 then _ else _ : List Rc × Nat × Int) = _
    rw [he, if_neg (by decide)]
  rw [ld_app l [] _ (by rw [ld_good hg]), ld_good hg]
  simp only [e]
  rw [if_neg (by decide), hl]
end
end Lg
end Go.Proofs.Ytgmejplcdecmkaa

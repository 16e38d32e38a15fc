import Derived.Test.YtdocdgcdldpagaaGreatAp
import Derived.Test.YtdocdgcdldpagaaGreatAv37
import Derived.Test.YtdocdgcdldpagaaGreatAv45
import Derived.Test.YtdocdgcdldpagaaGreatAv48
import Derived.Test.YtdocdgcdldpagaaGreatAv32
namespace Go.Proofs.YtdocdgcdldpagaaGreat
open Go.RowKit
set_option maxHeartbeats 8000000
set_option maxRecDepth 100000
set_option linter.unusedSimpArgs false
set_option linter.unusedVariables false
attribute [local go_sem ↓] Go.wp_at_zero Go.wp_at_succ
def Nt.smallB (r : Nt.Ru) (n m : Nat) : Bool := decide (n ≤ 70) && (decide (m ≤ 70) && (decide (r.n ≤ 3) || decide (64 < r.n)))
theorem F0 {p : Prop} (h : p := by
  (go_enter Tryz.func11, Tryz.ntmps11; go_upto_region 1 with fail; generalize hV : World.alloc _ _ = V; have k0 : V.heap[w.heap.size]? = some (.cells (rcl r OA n oc TA m tc).toArray 28 (0, 0)) := Bd; have HB := Lib.hid (show Below w.heap.size w V from by rw [← hV]; exact (Below.refl _ w).alloc (Nat.le_refl _) _); clear hV; have q0 : V.cell? ⟨w.heap.size, 0, none⟩ = some (.int .i64 r.n) := blk_cell k0 0 rfl; have q19 : V.cell? ⟨w.heap.size, 19, none⟩ = some (.slice OA n oc) := blk_cell k0 19 rfl; have q20 : V.cell? ⟨w.heap.size, 20, none⟩ = some (.slice TA m tc) := blk_cell k0 20 rfl; clear k0; go_wp2_with fail; go_ret; exact ⟨ret_bool E.out.symm, HB.out⟩)
 ) : p := h
theorem small_any (r : Nt.Ru) (n m : Nat) (OA : Option Addr) (oc : Nat) (TA : Option Addr) (tc : Nat) (w : World) :
    Calls Tryz.prog 11 #[rval r OA n oc TA m tc] w fun e w' => e = .returned (.bool (Nt.smallB r n m)) ∧ Below w.heap.size w w' := by
  rw [rval_rcl]
  unfold rcl
  by_cases h1 : n ≤ 70
  · have i1 : (n : Int) ≤ 70 := by omega
    by_cases h2 : m ≤ 70
    · have i2 : (m : Int) ≤ 70 := by omega
      by_cases h3 : r.n ≤ 3
      · have E := Lib.hid (show Nt.smallB r n m = true by simp [Nt.smallB, h1, h2, h3])
        clear h1 h2
        exact F0
      · by_cases h4 : 64 < r.n
        · have E := Lib.hid (show Nt.smallB r n m = true by simp [Nt.smallB, h1, h2, h4])
          clear h1 h2
          exact F0
        · have E := Lib.hid (show Nt.smallB r n m = false by simp [Nt.smallB, h1, h2, h3, h4])
          clear h1 h2
          exact F0
    · have i2 : ¬ (m : Int) ≤ 70 := by omega
      have E := Lib.hid (show Nt.smallB r n m = false by simp [Nt.smallB, h1, h2])
      clear h1 h2
      exact F0
  · have i1 : ¬ (n : Int) ≤ 70 := by omega
    have E := Lib.hid (show Nt.smallB r n m = false by simp [Nt.smallB, h1])
    clear h1
    exact F0
end Go.Proofs.YtdocdgcdldpagaaGreat
namespace Go.Proofs.YtdocdgcdldpagaaGreat
open Go.RowKit
set_option maxHeartbeats 16000000
set_option maxRecDepth 100000
set_option linter.unusedSimpArgs false
set_option linter.unusedVariables false
attribute [local go_sem ↓] Go.wp_at_zero Go.wp_at_succ
def MadePost (r : Nt.Ru) (w : World) (e : Ending) (w' : World) : Prop := Below w.heap.size w w' ∧
  ((Nt.vld r = false ∧ e = .returned (.tuple #[.pointer none, .pointer none, .bool true])) ∨
   (Nt.vld r = true ∧ ∃ b m p m2 B C, e = .returned (.tuple #[.pointer (some ⟨b, 0, none⟩), .pointer (some ⟨p, 0, none⟩), .bool true]) ∧ w.heap.size ≤ B ∧ B ≤ C ∧ C ≤ w'.heap.size ∧ IsNet w' B b m 0 (Nt.new r) ∧ (∀ i, NF b m i → i < C) ∧ IsN w' C p (C ≤ ·) m2 (Nt.new r)))
theorem Row.riN {w : World} {base n c : Nat} {A : Option Addr} {l : List Int} (h : Row w base 3 1 A n c (icl l)) (hl : l.length = n) (hb : ∀ x ∈ l, -9223372036854775808 ≤ x ∧ x ≤ 9223372036854775807) : Ri w w.heap.size A n l := by
  refine ⟨hl, hb, fun hn => ?_⟩
  obtain ⟨g, o, cur, rfl, _, hg, _, _, _, _, _, hcell, _⟩ := h.some_ hn
  refine ⟨g, o, rfl, hg, fun i hi => hcell i _ ?_⟩
  rw [icl, List.getElem?_map, List.getElem?_eq_getElem Cb]
  simp [List.getD, List.getElem?_eq_getElem (show i < l.length by omega)]
theorem icl_set (l : List Int) (i : Nat) (z : Int) : (icl l).set i (.int .i64 z) = icl (l.set i z) := by
  simp [icl, List.map_set]
theorem IsN.keptI {w w' : World} {base p : Nat} {X S : Nat → Prop} {m : RN} {s : Nt.St} (h : IsN w base p X m s) (g : Keeps S w w') (hS : ∀ q, S q → q < base ∧ Ty w q 3) (hX : ∀ q, X q → base ≤ q) : IsN w' base p X m s where
  blk := blk_keep h.blk g (fun hs => by have := (hS _ hs).1; have := h.ge; omega)
  st := ⟨h.st.dr.kept g (fun q hq hs => (h.st.dr.ty hq).ne (hS q hs).2 C8 rfl), h.st.ar.kept g (fun q hq hs => (h.st.ar.ty hq).ne (hS q hs).2 C8 rfl), h.st.sr.kept g (fun q hq hs => (h.st.sr.ty hq).ne (hS q hs).2 C8 rfl)⟩
  offs := h.offs.kept g (fun q hq hs => by have := (hS _ hs).1; have := (h.offs.lt hq).1; omega)
  rates := h.rates.kept g (fun q hq hs => by have := (hS _ hs).1; have := (h.rates.lt hq).1; omega)
  prow := h.prow.kept g (fun q hq hs => by have := (hS _ hs).1; have := (h.prow.lt hq).1; omega)
  urow := h.urow.kept g (fun q hq hs => by have := (hS _ hs).1; have := (h.urow.lt hq).1; omega)
  vrow := h.vrow.kept g (fun q hq hs => by have := (hS _ hs).1; have := (h.vrow.lt hq).1; omega)
  krow := h.krow.kept g (fun q hq hs => by have := (hS _ hs).1; have := (h.krow.lt hq).1; omega)
  brow := h.brow.kept g (fun q hq hs => by have := (hS _ hs).1; have := (h.brow.lt hq).1; omega)
  erow := h.erow.kept g (fun q hq hs => by have := (hS _ hs).1; have := (h.erow.lt hq).1; omega)
  len := h.len
  uw := fun i hi => ⟨(h.uw i hi).1.keep g (fun q hx hs => by have := hX q hx; have := (hS _ hs).1; omega), (h.uw i hi).2⟩
  dw := fun i hi => ⟨(h.dw i hi).1.keep g (fun q hx hs => by have := hX q hx; have := (hS _ hs).1; omega), (h.dw i hi).2⟩
  ge := h.ge
theorem F2 {p : Prop} (h : p := by
  have hi0 : (0 : Int) ≤ (i : Int) := by omega
  have wi : IntKind.i64.wrap ((i : Int) + 1) = (i : Int) + 1 := IntWalk.i64_in _ Cb
  obtain ⟨z, hz⟩ : ∃ z, z = l'.getD i 0 := ⟨_, rfl⟩
  rw [← hz] at ci
  have HAA := Lib.hid hA
  rw [hA] at q19
  have HGB := Lib.hid hgb
  clear hA hz hcell hfree hcur hgh gq hgs hnc hcm hfit hgb
  go_wp2_with fail
  go_roundw
  case rel =>
    refine ⟨i + 1, l'.set i (wrap64 (z + 1)), by first | rfl | (rw [wi]; rfl), by omega, Lib.hid (by rw [List.length_set]; exact HLI.out), Lib.hid ?_, Lib.hid (HKE.out.setCell (p := ⟨g, o + i, none⟩) (.inl (by rw [HAA.out]; rfl)) _)⟩
    have hr := HRW.out
    rw [HAA.out] at hr ⊢
    rw [← icl_set]
    exact hr.setN Cb Cb rfl _
  case measure => simp [intOf, wi]; omega
 ) : p := h
theorem made_any (r : Nt.Ru) (n m : Nat) (OA : Option Addr) (oc : Nat) (TA : Option Addr) (tc : Nat) (w : World) (hn : r.offs.length = n) (hm : r.rates.length = m) (h7 : n ≤ 70) (h8 : m ≤ 70) (ho : Ri w w.heap.size OA n r.offs) (ht : Ri w w.heap.size TA m r.rates) :
    Calls Tryz.prog 12 #[rval r OA n oc TA m tc] w (MadePost r w) := by
  obtain ⟨i0, hi0, hza, hzb, hzc⟩ := info_parts info_in
  have NN := Lib.hid (show ∀ (A4 : Option Addr) (c4 : Nat) (A5 : Option Addr) (c5 : Nat) (W : World), Row W w.heap.size 3 1 A4 n c4 (icl r.offs) → Row W w.heap.size 3 1 A5 m c5 (icl r.rates) → Calls Tryz.prog 25 #[rval r A4 n c4 A5 m c5] W fun e w' => ∃ nv ev, e = .returned (.tuple #[nv, .int .i64 ev]) ∧ Below W.heap.size W w' ∧ ((Nt.vld r = false ∧ nv = .pointer none ∧ ev = 2) ∨ (Nt.vld r = true ∧ ev = 0 ∧ ∃ b m, nv = .pointer (some ⟨b, 0, none⟩) ∧ IsNet w' W.heap.size b m 0 (Nt.new r))) from fun A4 c4 A5 c5 W r4 r5 => by
    cases hv : Nt.vld r
    · exact (nnew_no r n m A4 c4 A5 c5 W hv hn hm (r4.riN hn ho.2.1) (r5.riN hm ht.2.1)).mono fun e w' ⟨h1, h2⟩ => ⟨_, _, h1, h2, .inl ⟨rfl, rfl, rfl⟩⟩
    · have g := of_decide_eq_true (Nt.vld_says hv).1
      have hmn : m = n := by have := g.2.2.2.2; omega
      subst hmn
      exact (nnew_yes r m A4 c4 A5 c5 W hv hn hm (fun e => by rcases r4.2 with ⟨_, h1, h2⟩ | ⟨g, o, cur, e', _⟩ <;> simp_all) (fun e => by rcases r5.2 with ⟨_, h1, h2⟩ | ⟨g, o, cur, e', _⟩ <;> simp_all) (r4.riN hn ho.2.1) (r5.riN hm ht.2.1)).mono fun e w' ⟨b, m, h1, h2, h3⟩ => ⟨_, _, h1, h3, .inr ⟨rfl, rfl, b, m, rfl, h2⟩⟩)
  have NR := Lib.hid (show ∀ (W : World), Below w.heap.size w W → Calls Tryz.prog 37 #[rval r OA n oc TA m tc] W fun e w' => ∃ rv fv, e = .returned (.tuple #[rv, .int .i64 fv]) ∧ Below W.heap.size W w' ∧ ((Nt.vld r = false ∧ rv = .pointer none ∧ fv = 2) ∨ (Nt.vld r = true ∧ fv = 0 ∧ ∃ p m2, rv = .pointer (some ⟨p, 0, none⟩) ∧ IsN w' W.heap.size p (W.heap.size ≤ ·) m2 (Nt.new r))) from fun W hW => by
    have ho' := (ho.below hW (Nat.le_refl _)).more hW.size
    have ht' := (ht.below hW (Nat.le_refl _)).more hW.size
    cases hv : Nt.vld r
    · exact (rnnew_no r n m OA oc TA tc W hv hn hm ho' ht').mono fun e w' ⟨h1, h2⟩ => ⟨_, _, h1, h2, .inl ⟨rfl, rfl, rfl⟩⟩
    · have g := of_decide_eq_true (Nt.vld_says hv).1
      have hmn : m = n := by have := g.2.2.2.2; omega
      subst hmn
      exact (rnnew_yes r m OA oc TA tc W hv hn hm ho' ht').mono fun e w' ⟨b, m, h1, h2, h3⟩ => ⟨_, _, h1, h3, .inr ⟨rfl, rfl, b, m, rfl, h2⟩⟩)
  have SH := Lib.hid (fun (W : World) (b k p base base2 : Nat) (X : Nat → Prop) (m1 : NM) (m2 : RN) (hv : Nt.vld r = true) (h1 : IsNet W base b m1 k (Nt.new r)) (h2 : IsN W base2 p X m2 (Nt.new r)) => shows_any h1 (Nt.new_inv hv) h2 Cb)
  have HO := Lib.hid ho
  have HT := Lib.hid ht
  have HL := Lib.hid (And.intro hn hm)
  clear hn hm ho ht
  rw [rval_rcl] at NR ⊢
  simp only [rval_rcl] at NN
  unfold rcl
  go_enter Tryz.func12, Tryz.ntmps12
  go_upto_region 1 with fail
  generalize hV : World.alloc _ _ = V
  have k0 : V.heap[w.heap.size]? = some (.cells (rcl r OA n oc TA m tc).toArray 28 (0, 0)) := Bd
  have HB := Lib.hid (show Below w.heap.size w V from by rw [← hV]; exact (Below.refl _ w).alloc (Nat.le_refl _) _)
  have HZV := Lib.hid (show V.heap.size = w.heap.size + 1 by rw [← hV, World.size_alloc])
  clear hV
  have z1 : (rcl r OA n oc TA m tc).toArray.size = 21 := rfl
  go_upto_region 2 with (first | (refine wpList_load_row rfl 28 _ rfl w.heap.size rfl 28 _ (0, 0) _ k0 Tryz.underlying28 rfl C7 ?_) | (refine wpList_store_row rfl 28 _ _ rfl V.heap.size (rcl r OA n oc TA m tc).toArray rfl rfl 28 _ (heap_new V (.cells #[.int .i64 0, .int .i64 0, .int .i64 0, .int .i64 0, .int .i64 0, .int .i64 0, .int .i64 0, .int .i64 0, .int .i64 0, .int .i64 0, .int .i64 0, .int .i64 0, .int .i64 0, .int .i64 0, .int .i64 0, .int .i64 0, .int .i64 0, .int .i64 0, .int .i64 0, .slice none 0 0, .slice none 0 0] 28 (0, 0))) C7 rfl C7 ?_))
  have gx0 := setRow_heap (V.alloc (.cells #[.int .i64 0, .int .i64 0, .int .i64 0, .int .i64 0, .int .i64 0, .int .i64 0, .int .i64 0, .int .i64 0, .int .i64 0, .int .i64 0, .int .i64 0, .int .i64 0, .int .i64 0, .int .i64 0, .int .i64 0, .int .i64 0, .int .i64 0, .int .i64 0, .int .i64 0, .slice none 0 0, .slice none 0 0] 28 (0, 0))) V.heap.size #[.int .i64 0, .int .i64 0, .int .i64 0, .int .i64 0, .int .i64 0, .int .i64 0, .int .i64 0, .int .i64 0, .int .i64 0, .int .i64 0, .int .i64 0, .int .i64 0, .int .i64 0, .int .i64 0, .int .i64 0, .int .i64 0, .int .i64 0, .int .i64 0, .int .i64 0, .slice none 0 0, .slice none 0 0] (rcl r OA n oc TA m tc).toArray 28 (0, 0) (heap_new V (.cells #[.int .i64 0, .int .i64 0, .int .i64 0, .int .i64 0, .int .i64 0, .int .i64 0, .int .i64 0, .int .i64 0, .int .i64 0, .int .i64 0, .int .i64 0, .int .i64 0, .int .i64 0, .int .i64 0, .int .i64 0, .int .i64 0, .int .i64 0, .int .i64 0, .int .i64 0, .slice none 0 0, .slice none 0 0] 28 (0, 0)))
  have bx : Below V.heap.size V ((V.alloc (.cells #[.int .i64 0, .int .i64 0, .int .i64 0, .int .i64 0, .int .i64 0, .int .i64 0, .int .i64 0, .int .i64 0, .int .i64 0, .int .i64 0, .int .i64 0, .int .i64 0, .int .i64 0, .int .i64 0, .int .i64 0, .int .i64 0, .int .i64 0, .int .i64 0, .int .i64 0, .slice none 0 0, .slice none 0 0] 28 (0, 0))).setRow V.heap.size (rcl r OA n oc TA m tc).toArray) := below_setRow ((Below.refl V.heap.size V).alloc (Nat.le_refl _) _) (Nat.le_refl _) _
  generalize World.setRow _ _ _ = W0 at *
  obtain ⟨Q, hQ⟩ : ∃ Q, Q = V.heap.size := ⟨_, rfl⟩
  rw [← hQ] at gx0 ⊢
  have hQw : Q = w.heap.size + 1 := by rw [hQ]; exact HZV.out
  have HBW0 := Lib.hid (HB.out.trans (bx.mono HB.out.size))
  have kc := Lib.hid (blk_below k0 bx (by rw [HZV.out]; omega))
  have gx := Lib.hid gx0
  clear bx k0 gx0 z1 hQ HB HZV V
  have HQ := Lib.hid hQw
  clear hQw
  have RD := Lib.hid (Ri.reads ((HO.out.below HBW0.out (Nat.le_refl _)).more HBW0.out.size))
  have src := blk_cell kc.out 19 rfl
  go_upto_region 3 with (at_builtin; refine wpList_append_any _ rfl (.const (.slice none 0 0)) (.tmp 14) _ rfl W0.heap.size 3 i0 _ 1 8 Tryz.underlying26 hi0 hza hzb hzc rfl Cb (.slice none 0 0) 0 [] rfl (World.ownsRow_nil _ _ _ _) W0.heap.size OA n oc (icl r.offs) rfl RD.out (icl_one _) Bn Cb (Nat.le_refl _) ?_; intro v1 wn hown1 hg1 hat1; obtain ⟨An, cn, rfl⟩ := own_formS hown1; simp only [Nat.zero_add, List.nil_append] at hown1; have HRn := Lib.hid (Row.of_own hown1); have HBn := Lib.hid (show Below W0.heap.size W0 wn from (Below.refl _ _).grown hg1 (Nat.le_refl _) (fun k hk => by simp [Value.ownBlock] at hk)); have kn := blk_below gx.out HBn.out (lt_of_block gx.out); have fn := blk_free kn 19; have dn := blk_cell kn 19 rfl; have KN := Lib.hid kn; clear hown1 hg1 hat1 kn)
  generalize hY : World.setCell _ _ _ = Y
  have KY := Lib.hid (show Keeps (fun q => q = Q) W0 Y by rw [← hY]; exact (Keeps.of_below (S := fun q => q = Q) HBn.out).setCell (p := ⟨Q, 19, none⟩) (.inl rfl) _)
  have gy := Lib.hid (show Y.heap[Q]? = some (.cells (rcl r An n cn TA m tc).toArray 28 (0, 0)) by rw [← hY]; exact blk_set KN.out 19 (.slice An n cn))
  have R4 := Lib.hid (show Row Y W0.heap.size 3 1 An n cn (icl r.offs) by rw [← hY]; exact HRn.out.far (p := ⟨Q, 19, none⟩) (fun g hg => (HRn.out.ty hg).ne ⟨_, KN.out⟩ C8) _)
  have HBW1 := Lib.hid (show Below w.heap.size w Y from HBW0.out.trans (KY.out.below (fun q _ hq => by have := HQ.out; omega) HBW0.out.size))
  have ky := Lib.hid (blk_keep kc.out KY.out (by have := HQ.out; omega))
  have HS0 := Lib.hid (show w.heap.size ≤ W0.heap.size ∧ W0.heap.size ≤ Y.heap.size from ⟨HBW0.out.size, KY.out.size⟩)
  clear hY KN HRn HBn KY gx kc RD src HBW0 fn dn
  have gx := gy
  have kc := ky
  obtain ⟨A4, hA4⟩ : ∃ A, A = An := ⟨_, rfl⟩
  obtain ⟨c4, hc4⟩ : ∃ c, c = cn := ⟨_, rfl⟩
  rw [← hA4, ← hc4] at gx R4
  clear gy ky
  have RD := Lib.hid (Ri.reads ((HT.out.below HBW1.out (Nat.le_refl _)).more HBW1.out.size))
  have src := blk_cell kc.out 20 rfl
  go_upto_region 4 with (at_builtin; refine wpList_append_any _ rfl (.const (.slice none 0 0)) (.tmp 18) _ rfl Y.heap.size 3 i0 _ 1 8 Tryz.underlying26 hi0 hza hzb hzc rfl Cb (.slice none 0 0) 0 [] rfl (World.ownsRow_nil _ _ _ _) Y.heap.size TA m tc (icl r.rates) rfl RD.out (icl_one _) Bn Cb (Nat.le_refl _) ?_; intro v1 wn hown1 hg1 hat1; obtain ⟨An, cn, rfl⟩ := own_formS hown1; simp only [Nat.zero_add, List.nil_append] at hown1; have HRn := Lib.hid (Row.of_own hown1); have HBn := Lib.hid (show Below Y.heap.size Y wn from (Below.refl _ _).grown hg1 (Nat.le_refl _) (fun k hk => by simp [Value.ownBlock] at hk)); have kn := blk_below gx.out HBn.out (lt_of_block gx.out); have fn := blk_free kn 20; have dn := blk_cell kn 20 rfl; have KN := Lib.hid kn; clear hown1 hg1 hat1 kn)
  generalize hZ : World.setCell _ _ _ = Z
  have KZ := Lib.hid (show Keeps (fun q => q = Q) Y Z by rw [← hZ]; exact (Keeps.of_below (S := fun q => q = Q) HBn.out).setCell (p := ⟨Q, 20, none⟩) (.inl rfl) _)
  have gz := Lib.hid (show Z.heap[Q]? = some (.cells (rcl r A4 n c4 An m cn).toArray 28 (0, 0)) by rw [← hZ]; exact blk_set KN.out 20 (.slice An m cn))
  have R5 := Lib.hid (show Row Z Y.heap.size 3 1 An m cn (icl r.rates) by rw [← hZ]; exact HRn.out.far (p := ⟨Q, 20, none⟩) (fun g hg => (HRn.out.ty hg).ne ⟨_, KN.out⟩ C8) _)
  have R4z := Lib.hid (R4.out.kept KZ.out (fun g hg => (R4.out.ty hg).ne ⟨_, gx.out⟩ C8))
  have HBW2 := Lib.hid (show Below w.heap.size w Z from HBW1.out.trans (KZ.out.below (fun q _ hq => by have := HQ.out; omega) HBW1.out.size))
  have kz := Lib.hid (blk_keep kc.out KZ.out (by have := HQ.out; omega))
  have H45 := Lib.hid (show ∀ g, blkOf A4 = some g → g < Y.heap.size from fun g hg => (R4.out.lt hg).2)
  have HYZ := Lib.hid (show Y.heap.size ≤ Z.heap.size from KZ.out.size)
  clear hZ KN HRn HBn KZ gx kc RD src HBW1 fn dn R4 HO HT
  obtain ⟨A5, hA5⟩ : ∃ A, A = An := ⟨_, rfl⟩
  obtain ⟨c5, hc5⟩ : ∃ c, c = cn := ⟨_, rfl⟩
  rw [← hA5, ← hc5] at gz R5
  clear hA4 hc4 hA5 hc5
  have k2 := gz.out
  go_upto_region 5 with (first | (refine wpList_load_row rfl 28 _ rfl Q rfl 28 _ (0, 0) _ k2 Tryz.underlying28 rfl C7 ?_) | (go_at_call 25; refine (NN.out _ _ _ _ Z (R4z.out.more HS0.out.1) (R5.out.more (Nat.le_trans HS0.out.1 HS0.out.2))).mono ?_; rintro _ w4 ⟨nv, ev, rfl, hb4, hc4⟩))
  have HB4 := Lib.hid hb4
  have HC4 := Lib.hid hc4
  have k4 := blk_below kz.out hb4 (lt_of_block kz.out)
  clear hb4 hc4 k2
  go_upto_region 6 with (first | (refine wpList_load_row rfl 28 _ rfl w.heap.size rfl 28 _ (0, 0) _ k4 Tryz.underlying28 rfl C7 ?_) | (go_at_call 37; refine (NR.out w4 (HBW2.out.trans (HB4.out.mono HBW2.out.size))).mono ?_; rintro _ w5 ⟨rv, fv, rfl, hb5, hc5⟩))
  have HB5 := Lib.hid hb5
  have HC5 := Lib.hid hc5
  clear hb5 hc5 k4
  have HZ4 := Lib.hid (show Below Z.heap.size Z w5 from HB4.out.trans (HB5.out.mono HB4.out.size))
  have gw5 := Lib.hid (blk_below gz.out HZ4.out (lt_of_block gz.out))
  have R4w := Lib.hid (R4z.out.below HZ4.out (Nat.le_refl _))
  have R5v := Lib.hid (R5.out.below HZ4.out (Nat.le_refl _))
  have H5Z := Lib.hid (show ∀ g, blkOf A5 = some g → g < Z.heap.size from fun g hg => (R5.out.lt hg).2)
  clear gz R4z R5 NN NR kz
  go_wp2_with fail
  go_loopw [10] (fun s10 wr => ∃ (i : Nat) (l' : List Int), s10 = .int .i64 i ∧ i ≤ n ∧ Hid (l'.length = n) ∧ Hid (Row wr W0.heap.size 3 1 A4 n c4 (icl l')) ∧ Hid (Keeps (fun q => blkOf A4 = some q) w5 wr)) (fun s10 _ => n - (intOf s10).toNat)
  case atStart => exact ⟨0, r.offs, rfl, Nat.zero_le _, Lib.hid HL.out.1, R4w, Lib.hid (Keeps.refl _ _)⟩
  case round =>
    obtain ⟨i, l', rfl, hi, HLI, HRW, HKE⟩ := hrel
    have gq := blk_keep gw5.out HKE.out (fun (e : blkOf A4 = some Q) => (R4w.out.ty e).ne ⟨_, gw5.out⟩ C8 rfl)
    have q19 := blk_cell gq 19 rfl
    by_cases hlt : i < n
    · obtain ⟨g, o, cur, hA, hgb, hgs, hgh, hnc, hcm, hfit, hcur, hcell, hfree⟩ := HRW.out.some_ Cb
      have ci : wr.cell? ⟨g, o + i, none⟩ = some (.int .i64 (l'.getD i 0)) := hcell i _ Aj
      have fi := hfree (o + i)
      have hin : (i : Int) < (n : Int) := by omega
      exact F2
    · obtain rfl : i = n := by omega
      have hin : ¬ ((i : Int) < (i : Int)) := by omega
      clear hlt hi
      obtain ⟨W6, hW6⟩ : ∃ W, W = wr := ⟨_, rfl⟩
      subst hW6
      have HK1 := HKE
      have gW6 := Lib.hid gq
      have R5w := Lib.hid (R5v.out.kept HKE.out (fun g hg hs => by have h1 := H45.out g hs; have h2 := (R5v.out.lt hg).1; omega))
      go_wp2_with fail
      clear q19 gq HRW HLI R5v HKE gw5
      go_loopw [11] (fun s10 wr => ∃ (i : Nat) (l' : List Int), s10 = .int .i64 i ∧ i ≤ m ∧ Hid (l'.length = m) ∧ Hid (Row wr Y.heap.size 3 1 A5 m c5 (icl l')) ∧ Hid (Keeps (fun q => blkOf A5 = some q) W6 wr)) (fun s10 _ => m - (intOf s10).toNat)
      case atStart => exact ⟨0, r.rates, rfl, Nat.zero_le _, Lib.hid HL.out.2, R5w, Lib.hid (Keeps.refl _ _)⟩
      case round =>
        obtain ⟨i, l', rfl, hi, HLI, HRW, HKE⟩ := hrel
        have gq := blk_keep gW6.out HKE.out (fun (e : blkOf A5 = some Q) => (R5w.out.ty e).ne ⟨_, gW6.out⟩ C8 rfl)
        have q19 := blk_cell gq 20 rfl
        by_cases hlt : i < m
        · obtain ⟨g, o, cur, hA, hgb, hgs, hgh, hnc, hcm, hfit, hcur, hcell, hfree⟩ := HRW.out.some_ Cb
          have ci : wr.cell? ⟨g, o + i, none⟩ = some (.int .i64 (l'.getD i 0)) := hcell i _ Aj
          have fi := hfree (o + i)
          have hin : (i : Int) < (m : Int) := by omega
          exact F2
        · obtain rfl : i = m := by omega
          have hin : ¬ ((i : Int) < (i : Int)) := by omega
          clear hlt hi
          obtain ⟨W7, hW7⟩ : ∃ W, W = wr := ⟨_, rfl⟩
          subst hW7
          have HBW := Lib.hid (show Below w.heap.size w W7 from by
            have h1 := HBW2.out.trans (HZ4.out.mono HBW2.out.size)
            have h2 := HK1.out.below (B := w.heap.size) (fun q _ (hq : blkOf A4 = some q) => Nat.le_trans HS0.out.1 (R4w.out.lt hq).1) h1.size
            have h3 := HKE.out.below (B := w.heap.size) (fun q _ (hq : blkOf A5 = some q) => Nat.le_trans (Nat.le_trans HS0.out.1 HS0.out.2) (R5w.out.lt hq).1) (h1.trans h2).size
            exact (h1.trans h2).trans h3)
          clear HRW HLI
          rcases HC4.out with ⟨hv, rfl, rfl⟩ | ⟨hv, rfl, b, m1, rfl, hnet⟩
          · have HV := Lib.hid hv
            rcases HC5.out with ⟨_, rfl, rfl⟩ | ⟨hv', _⟩
            · clear hv HC4 HC5
              go_wp2_with fail
              go_ret3
              exact ⟨HBW.out, .inl ⟨HV.out, rfl⟩⟩
            · rw [hv] at hv'; cases hv'
          · have HV := Lib.hid hv
            rcases HC5.out with ⟨hv', _⟩ | ⟨_, rfl, p, m2, rfl, href⟩
            · rw [hv] at hv'; cases hv'
            · have HNF := Lib.hid (show ∀ i, NF b m1 i → i < w4.heap.size from fun i hi => (hnet.lt hi).2)
              have HNT := Lib.hid (show IsNet W7 Z.heap.size b m1 0 (Nt.new r) from by
                refine ((hnet.below HB5.out).kept HK1.out (fun q hq (hs : blkOf A4 = some q) => ?_)).kept HKE.out (fun q hq (hs : blkOf A5 = some q) => ?_)
                · have h1 := H45.out q hs; have h2 := (hnet.lt hq).1; have h3 := HYZ.out; omega
                · have h1 := H5Z.out q hs; have h2 := (hnet.lt hq).1; omega)
              have HRF := Lib.hid (show IsN W7 w4.heap.size p (w4.heap.size ≤ ·) m2 (Nt.new r) from by
                refine (href.keptI HK1.out (fun q (hs : blkOf A4 = some q) => ⟨?_, R4w.out.ty hs⟩) (fun q hx => hx)).keptI HKE.out (fun q (hs : blkOf A5 = some q) => ⟨?_, R5w.out.ty hs⟩) (fun q hx => hx)
                · have h1 := H45.out q hs; have h2 := HB4.out.size; have h3 := HYZ.out; omega
                · have h1 := H5Z.out q hs; have h2 := HB4.out.size; omega)
              have HSZ := Lib.hid (show w.heap.size ≤ Z.heap.size ∧ Z.heap.size ≤ w4.heap.size ∧ w4.heap.size ≤ W7.heap.size from ⟨HBW2.out.size, HB4.out.size, Nat.le_trans HB5.out.size (Nat.le_trans HK1.out.size HKE.out.size)⟩)
              have SH7 := Lib.hid (SH.out W7 b 0 p _ _ _ m1 m2 hv HNT.out HRF.out)
              clear hv hnet href HC4 HC5 SH
              go_wp2_with ((go_at_call 14; refine SH7.out.mono ?_; rintro _ w8 ⟨rfl, hb8⟩))
              go_ret3
              exact ⟨HBW.out.trans (hb8.mono HBW.out.size), .inr ⟨HV.out, b, m1, p, m2, _, _, rfl, HSZ.out.1, HSZ.out.2.1, Nat.le_trans HSZ.out.2.2 hb8.size, HNT.out.below hb8, HNF.out, HRF.out.below hb8⟩⟩
end Go.Proofs.YtdocdgcdldpagaaGreat

import Derived.Test.YtdocdgcdldpagaaGreatAp
import Derived.Test.YtdocdgcdldpagaaGreatAv42
import Derived.Test.YtdocdgcdldpagaaGreatAv43
namespace Go.Proofs.YtdocdgcdldpagaaGreat
open Go.RowKit Go.Shelf
set_option maxHeartbeats 8000000
set_option maxRecDepth 100000
set_option linter.unusedSimpArgs false
set_option linter.unusedVariables false
attribute [local go_sem ↓] Go.wp_at_zero Go.wp_at_succ
attribute [local go_sem] Oper.semAt_some
theorem blkN_own {β : Type} (B q : Nat) (cs : Array Value) (t : TypeId) : OwnFrom B (fun (_ : β) W => W.heap[q]? = some (.cells cs t (0, 0))) := fun s X Y row hs hg hr =>
  (hg.block q (Array.getElem?_eq_some_iff.1 hs).1 (fun e => by
    obtain ⟨_, o', ho', hc'⟩ := hr q e.symm
    rw [hs] at ho'
    cases ho'
    simp [Obj.isCells] at hc')).trans hs
theorem kfN_setCell {B : Nat} {a : Addr} {W : World} {u : Value} (hg : a.block < B) : KeepsFrom B W (W.setCell a u) :=
  ⟨((Below.refl 0 W).setCell (Nat.zero_le _) u).size, fun k o hk h _ => blk_far h Cb u⟩
section
variable {w : World} {base base2 b k p N : Nat} {X : Nat → Prop} {m : NM} {m2 : RN} {s : Nt.St}
theorem En {p : Prop} (h : p := by
  go_wp2_with fail
  have hD := HD.out
  have rT := blk_set HB.out 0 (.bool true)
  have kT := blk_far HDF.out (a := ⟨w.heap.size + 1 + 1, 0, none⟩) (fun e => hD.2.2 e.symm) (.bool true)
  have hB7 := BV.out.setCell (p := ⟨w.heap.size + 1 + 1, 0, none⟩) (by show w.heap.size ≤ w.heap.size + 1 + 1; omega) (.bool true)
  refine ⟨by simp, .inl ⟨_, _, rfl, run_takeDeferred kT, ?_⟩⟩
  refine ⟨_, results_c1 rfl _ _ (w.heap.size + 1 + 1) (.bool true) _ rfl (blk_cell (l := [_]) ((World.putObj_heap_other (fun e => hD.2.2 e)).trans rT) 0 rfl) Tryz.underlying4 rfl, rfl, ?_⟩
  exact hB7.drew.grown (grownBy_putObj' _ _ _) (Nat.le_trans hD.1 (Nat.le_of_lt (Array.getElem?_eq_some_iff.1 kT).1)) (fun k e => by cases e; exact hD.1)
 ) : p := h
theorem revents_any (h : IsNet w base b m k s) (hs : Nt.Inv N s) (hr : IsN w base2 p X m2 s) (hN : N ≤ 1000000000000) (stop : Int) (h1 : 1 ≤ stop) :
    Calls Tryz.prog 16 #[.pointer (some ⟨b, 0, none⟩), .pointer (some ⟨p, 0, none⟩), .int .i64 stop] w fun e w' => e = .returned (.bool true) ∧ Below w.heap.size w w' := by
  obtain ⟨n, hn⟩ : ∃ n, n = s.ev.length := ⟨_, rfl⟩
  have hn12 : n ≤ 1000000000000 := by have := hs.ev; omega
  have NA := Lib.hid (show ∀ W : World, Below w.heap.size w W → Calls Tryz.prog 15 #[.pointer (some ⟨b, 0, none⟩)] W (EvPost m.EA n W) from fun W hW => by rw [hn]; exact nall_any (h.below hW) hs)
  have HE := Lib.hid (show EvR w w.heap.size m.EA n s.ev from by rw [hn]; exact h.erow.reads)
  have HO := Lib.hid (show ∀ a, m.EA = some a → a.spot = none from fun a e => by
    rcases h.erow.2 with ⟨e', _⟩ | ⟨g, o, cur, e', _⟩
    · rw [e] at e'; cases e'
    · rw [e] at e'; injection e' with e'; rw [e'])
  have HE2 := Lib.hid (show EvR w w.heap.size m2.EA n s.ev from by rw [hn]; exact hr.erow.reads)
  have HO2 := Lib.hid (show ∀ a, m2.EA = some a → a.spot = none from fun a e => by
    rcases hr.erow.2 with ⟨e', _⟩ | ⟨g, o, cur, e', _⟩
    · rw [e] at e'; cases e'
    · rw [e] at e'; injection e' with e'; rw [e'])
  have c39 : w.cell? ⟨p, 39, none⟩ = some (.slice m2.EA n m2.ec) := by rw [hn]; exact blk_cell hr.blk 39 rfl
  have hpl := lt_of_block hr.blk
  have P39 := Lib.hid (fun (W : World) (hW : Below w.heap.size w W) => (hW.cell (p := ⟨p, 39, none⟩) hpl).trans c39)
  clear h hs hr hn c39 hN
  refine (callsIn_wide (n := 5)).1 (callsIn_of_wp_marks Tryz.func16 rfl trivial ?_ rfl)
  simp only [Tryz.ntmps16, List.size_toArray, List.length_cons, List.length_nil, Nat.reduceAdd, Nat.reduceSub, Array.replicate_succ, Array.replicate_zero, List.push_toArray, List.append_toArray, List.nil_append, List.cons_append]
  refine wpIn_wide.2 ?_
  go_upto_region 1 with fail
  generalize hW0 : World.alloc _ _ = W0
  have r0 : W0.heap[w.heap.size]? = some (.cells #[.pointer (some ⟨p, 0, none⟩)] 32 (0, 0)) := by rw [← hW0]; exact blk_alloc (blk_alloc (heap_new _ _) _) _
  have s0 : W0.heap[w.heap.size + 1]? = some (.cells #[.int .i64 stop] 3 (0, 0)) := by rw [← hW0]; exact blk_alloc (show ((w.alloc (.cells #[.pointer (some ⟨p, 0, none⟩)] 32)).alloc (.cells #[.int .i64 stop] 3)).heap[w.heap.size + 1]? = _ from heap_new' _ _ _ C9) _
  have b0 : W0.heap[w.heap.size + 1 + 1]? = some (.cells #[.bool false] 4 (0, 0)) := by rw [← hW0]; exact heap_new' _ _ _ C9
  have B0 : Below w.heap.size w W0 := by rw [← hW0]; exact (((Below.refl _ w).alloc (Nat.le_refl _) _).alloc C9 _).alloc C6 _
  clear hW0
  go_wp2_with fail
  refine (NA.out W0 B0).mono ?_
  rintro _ W1 ⟨bx, rfl, hbx1, hbx2, hb1⟩
  have r1 := blk_below r0 hb1 (lt_of_block r0)
  have s1 := blk_below s0 hb1 (lt_of_block s0)
  have b1 := blk_below b0 hb1 (lt_of_block b0)
  have B1 : Below w.heap.size w W1 := B0.trans (hb1.mono B0.size)
  have hfn := nfnil 91 #[.pointer (some ⟨bx, 0, none⟩)]
  clear r0 s0 b0 B0 hb1 NA hbx1
  go_upto_region 5 with fail
  clear hfn
  generalize hW2 : World.alloc _ _ = W2
  obtain ⟨K, hK⟩ : ∃ K, K = W1.heap.size := ⟨_, rfl⟩
  have k2 : W2.heap[K]? = some (.cells #[.int .i64 0] 3 (0, 0)) := by rw [← hW2, hK]; exact heap_new _ _
  have b12 : Below W1.heap.size W1 W2 := by rw [← hW2]; exact (Below.refl _ W1).alloc (Nat.le_refl _) _
  have r2 := blk_below r1 b12 (lt_of_block r1)
  have s2 := blk_below s1 b12 (lt_of_block s1)
  have b2 := blk_below b1 b12 (lt_of_block b1)
  have hbx := blk_below hbx2 b12 (lt_of_block hbx2)
  have B2 := B1.trans (b12.mono B1.size)
  have hrK : w.heap.size + 1 + 1 < K := by rw [hK]; exact lt_of_block b1
  rw [← hK]
  clear hW2 hK b12 r1 s1 b1 B1 hbx2
  go_upto_region 6 with fail
  have hzK := lt_of_block k2
  refine (wpIn_wide (n := 5)).1 ?_
  have hseq := evs_seq 4 w.heap.size bx m.EA n n s.ev W2 Cb hn12 B2.size hbx (Reads.below HE.out B2) HO.out
  have HB2 := Lib.hid B2
  refine range_own (F := Fence.wide) rfl Cb (gf := 91) (lb := #[.pointer (some ⟨bx, 0, none⟩)]) rfl trivial (enters_of Tryz.func91 C7 rfl) hseq (fun h k => h.trans k)
    (fun V l' o o' hl h hc => (Below.refl _ V).grown (grownBy_putObj' V l' o') (by have := (Array.getElem?_eq_some_iff.1 h).1; omega) (fun k e => by cases e; omega)) (fun x => rfl)
    (fun pre V => Below w.heap.size W2 V ∧ (V.heap[w.heap.size]? = some (.cells #[.pointer (some ⟨p, 0, none⟩)] 32 (0, 0)) ∧ (V.heap[w.heap.size + 1]? = some (.cells #[.int .i64 stop] 3 (0, 0)) ∧ (V.heap[w.heap.size + 1 + 1]? = some (.cells #[.bool false] 4 (0, 0)) ∧ (V.heap[K]? = some (.cells #[.int .i64 (pre.length : Nat)] 3 (0, 0)) ∧ (pre.length : Int) < stop)))))
    (fun c pre V => c = .exit 0 ∧ (Below w.heap.size W2 V ∧ (V.heap[w.heap.size]? = some (.cells #[.pointer (some ⟨p, 0, none⟩)] 32 (0, 0)) ∧ (V.heap[w.heap.size + 1]? = some (.cells #[.int .i64 stop] 3 (0, 0)) ∧ (V.heap[w.heap.size + 1 + 1]? = some (.cells #[.bool false] 4 (0, 0)) ∧ (V.heap[K]? = some (.cells #[.int .i64 (pre.length : Nat)] 3 (0, 0)) ∧ (pre.length : Int) = stop))))))
    (fun x a' V => ∃ Bx, W2.heap.size ≤ Bx ∧ V.heap[Bx]? = some (.cells (evc x.2).toArray 58 (0, 0)) ∧ a' = { tmps := #[.pointer (some ⟨b, 0, none⟩), .pointer (some ⟨p, 0, none⟩), .int .i64 stop, undef, .pointer (some ⟨w.heap.size, 0, none⟩), .pointer (some ⟨(w.heap.size + 1), 0, none⟩), .pointer (some ⟨(w.heap.size + 1 + 1), 0, none⟩), .func (.func 91) #[] #[.pointer (some ⟨bx, 0, none⟩)], .pointer (some ⟨K, 0, none⟩), .int .i64 x.1, .pointer (some ⟨Bx, 0, none⟩), .pointer (some ⟨b, 0, none⟩), .func (.func 91) #[] #[.pointer (some ⟨bx, 0, none⟩)], .func (.func 91) #[] #[.pointer (some ⟨bx, 0, none⟩)], .bool false, .func (.func 91) #[] #[.pointer (some ⟨bx, 0, none⟩)], .int .i64 x.1, .agg (evc x.2).toArray, undef, undef, undef, undef, undef, undef, undef, undef, undef, undef, undef, undef, undef, undef, undef, undef, undef, undef, undef, undef, undef, undef, undef, undef, undef, undef, undef, undef, undef, undef, undef, undef, undef, undef, undef, undef, undef], defers := [] })
    ?hI ?hIx ?hPr ?hAx ?h0 ?assign ?body ?done ?stop
  case hI => exact OwnFrom.and (ownFrom_below B2.size B2.size) (OwnFrom.and (blkN_own _ _ _ _) (OwnFrom.and (blkN_own _ _ _ _) (OwnFrom.and (blkN_own _ _ _ _) (OwnFrom.and (fun s X Y row hs hg hr => blkN_own (β := Unit) _ K _ _ () X Y row hs hg hr) (ownFrom_pure _ _)))))
  case hIx => exact fun c => OwnFrom.and (ownFrom_pure _ _) (OwnFrom.and (ownFrom_below B2.size B2.size) (OwnFrom.and (blkN_own _ _ _ _) (OwnFrom.and (blkN_own _ _ _ _) (OwnFrom.and (blkN_own _ _ _ _) (OwnFrom.and (fun s X Y row hs hg hr => blkN_own (β := Unit) _ K _ _ () X Y row hs hg hr) (ownFrom_pure _ _))))))
  case hPr => exact fun pre => Nt.PrE.own _ s.ev pre
  case hAx =>
    rintro a' x X Y row ⟨Bx, e1, e2, e3⟩ hg hr
    exact ⟨Bx, e1, blkN_own (β := Unit) _ Bx _ _ () X Y row e2 hg hr, e3⟩
  case h0 => exact ⟨Below.refl _ _, r2, s2, b2, k2, by show ((0 : Nat) : Int) < stop; omega⟩
  case assign =>
    rintro l' pre ⟨xi, x1, x2, x3⟩ V Kt ⟨hBn, hr, hst, hb, hk, hlt⟩ hpr hKt
    have hzV := hBn.size
    have HPR := Lib.hid hpr
    clear hpr
    simp only [Nt.encNE, evc]
    have hwV : w.heap.size ≤ V.heap.size := Nat.le_trans B2.size hzV
    gi_wp2
    have kx : (V.alloc (.cells #[.int .i64 x1, .int .i64 x2, .int .i64 x3] 58)).heap[V.heap.size]? = some (.cells #[.int .i64 x1, .int .i64 x2, .int .i64 x3] 58 (0, 0)) := heap_new _ _
    have bx : Below V.heap.size V (V.alloc (.cells #[.int .i64 x1, .int .i64 x2, .int .i64 x3] 58)) := (Below.refl V.heap.size V).alloc (Nat.le_refl _) _
    exact hKt _ _ (keepsFrom_below bx) (bx.mono hwV) ⟨hBn.trans (bx.mono hwV), blk_below hr bx (lt_of_block hr), blk_below hst bx (lt_of_block hst), blk_below hb bx (lt_of_block hb), blk_below hk bx (lt_of_block hk), hlt⟩ HPR.out ⟨V.heap.size, hzV, kx, rfl⟩
  case body =>
    rintro l' pre x a' V ⟨hBn, hr, hst, hb, hk, hlt⟩ ⟨px1, px2⟩ ⟨Bx, hBx, hbx, rfl⟩ hpn
    obtain ⟨i, e⟩ := x
    simp only at px1 px2
    subst px1
    have hzV := hBn.size
    have hwV : w.heap.size ≤ V.heap.size := Nat.le_trans HB2.out.size hzV
    have BV : Below w.heap.size w V := HB2.out.trans hBn
    obtain ⟨k, hkk⟩ : ∃ k, k = pre.length := ⟨_, rfl⟩
    have hkn : k < n := by rw [hkk]; exact hpn
    obtain ⟨g2, o2, hEA, hg2, hcl⟩ := EvR.at_ (show EvR V w.heap.size m2.EA n s.ev from Reads.below HE2.out BV) HO2.out hkn
    have p39 := P39.out V BV
    rw [hEA] at p39
    have hg2V : g2 < V.heap.size := by omega
    have hcl : ∀ j u, (evc e)[j]? = some u → V.cell? ⟨g2, o2 + k * 3 + j, none⟩ = some u := by rw [px2, ← hkk]; exact hcl
    obtain ⟨x, y, z⟩ := e
    have HCL := Lib.hid (show ∀ j u, [Value.int .i64 x, .int .i64 y, .int .i64 z][j]? = some u → V.cell? ⟨g2, o2 + k * 3 + j, none⟩ = some u from hcl)
    rw [← hkk] at hk hlt
    rw [← hkk]
    have hbx : V.heap[Bx]? = some (.cells #[.int .i64 x, .int .i64 y, .int .i64 z] 58 (0, 0)) := hbx
    have HK := Lib.hid hkk
    have wk : IntKind.i64.wrap ((k : Int) + 1) = (k : Int) + 1 := IntWalk.i64_in _ Cb
    have kN : (k : Int) < (n : Int) := by omega
    have kN2 : ¬ (n : Int) ≤ (k : Int) := by omega
    have km3 : ¬ n ≤ k := by omega
    have kk1 : (0 : Int) ≤ (k : Int) := by omega
    have ck := blk_cell (l := [_]) hk 0 rfl
    have cr := blk_cell (l := [_]) hr 0 rfl
    clear hkk px2 hcl hEA hpn hseq
    simp only [evc]
    gi_wp2
    (try refine wpIn_block ?_)
    refine region_round (S := fun w' => w'.cell? ⟨K, 0, none⟩ = some (.int .i64 k) ∧ w'.cell? ⟨w.heap.size, 0, none⟩ = some (.pointer (some ⟨p, 0, none⟩)) ∧ w'.cell? ⟨p, 39, none⟩ = some (.slice (some ⟨g2, o2, none⟩) n m2.ec) ∧ w'.heap[Bx]? = some (.cells #[.int .i64 x, .int .i64 y, .int .i64 z] 58 (0, 0)) ∧ ∀ j u, [Value.int .i64 x, .int .i64 y, .int .i64 z][j]? = some u → w'.cell? ⟨g2, o2 + k * 3 + j, none⟩ = some u) C7 C7 (by rintro ⟨a, w, h⟩; exact h) ⟨ck, cr, p39, hbx, HCL.out⟩ ?_
    intro h0
    refine wpAnyH_take (i := 0) (v := ?_) rfl C7 C7 C7 (fun _ _ _ h => h) (Or.inl ⟨by rfl, ?_⟩) h0 ?_
    rotate_left
    focus (intro w' hSw; obtain ⟨c1, c2, c3, hbxS, hevS⟩ := hSw; skip; go_simp; (try with_reducible rfl))
    (try simp only [List.getElem_toArray, List.getElem_cons_succ, List.getElem_cons_zero, Act.put, List.setIfInBounds_toArray, List.set_cons_zero, List.set_cons_succ])
    refine wpAnyH_take (i := 1) (v := ?_) rfl C7 C7 C7 (fun _ _ _ h => h) (Or.inl ⟨by rfl, ?_⟩) h0 ?_
    rotate_left
    focus (intro w' hSw; obtain ⟨c1, c2, c3, hbxS, hevS⟩ := hSw; skip; go_simp; (try with_reducible rfl))
    (try simp only [List.getElem_toArray, List.getElem_cons_succ, List.getElem_cons_zero, Act.put, List.setIfInBounds_toArray, List.set_cons_zero, List.set_cons_succ])
    refine wpAnyH_take (i := 2) (v := .bool false) rfl C7 C7 C7 (fun _ _ _ h => h) (Or.inl ⟨by rfl, ?_⟩) h0 ?_
    focus (intro w' hSw; obtain ⟨c1, c2, c3, hbxS, hevS⟩ := hSw; skip; go_simp; (try simp only [decide_eq_false km3, Bool.not_true]); (try with_reducible rfl); (try simp); done)
    (try simp only [List.getElem_toArray, List.getElem_cons_succ, List.getElem_cons_zero, Act.put, List.setIfInBounds_toArray, List.set_cons_zero, List.set_cons_succ])
    refine wpAnyH_take (i := 3) (v := ?_) rfl C7 C7 C7 (fun _ _ _ h => h) (Or.inl ⟨by rfl, ?_⟩) h0 ?_
    rotate_left
    focus (intro w' hSw; obtain ⟨c1, c2, c3, hbxS, hevS⟩ := hSw; skip; go_simp; (try with_reducible rfl))
    (try simp only [List.getElem_toArray, List.getElem_cons_succ, List.getElem_cons_zero, Act.put, List.setIfInBounds_toArray, List.set_cons_zero, List.set_cons_succ])
    refine wpAnyH_take (i := 4) (v := ?_) rfl C7 C7 C7 (fun _ _ _ h => h) (Or.inl ⟨by rfl, ?_⟩) h0 ?_
    rotate_left
    focus (intro w' hSw; obtain ⟨c1, c2, c3, hbxS, hevS⟩ := hSw; skip; go_simp; (try with_reducible rfl))
    (try simp only [List.getElem_toArray, List.getElem_cons_succ, List.getElem_cons_zero, Act.put, List.setIfInBounds_toArray, List.set_cons_zero, List.set_cons_succ])
    refine wpAnyH_take (i := 5) (v := ?_) rfl C7 C7 C7 (fun _ _ _ h => h) (Or.inl ⟨by rfl, ?_⟩) h0 ?_
    rotate_left
    focus (intro w' hSw; obtain ⟨c1, c2, c3, hbxS, hevS⟩ := hSw; skip; go_simp; (try with_reducible rfl))
    (try simp only [List.getElem_toArray, List.getElem_cons_succ, List.getElem_cons_zero, Act.put, List.setIfInBounds_toArray, List.set_cons_zero, List.set_cons_succ])
    refine wpAnyH_take (i := 6) (v := ?_) rfl C7 C7 C7 (fun _ _ _ h => h) (Or.inl ⟨by rfl, ?_⟩) h0 ?_
    rotate_left
    focus (intro w' hSw; obtain ⟨c1, c2, c3, hbxS, hevS⟩ := hSw; skip; go_simp; (try with_reducible rfl))
    (try simp only [List.getElem_toArray, List.getElem_cons_succ, List.getElem_cons_zero, Act.put, List.setIfInBounds_toArray, List.set_cons_zero, List.set_cons_succ])
    refine wpAnyH_take (i := 7) (v := ?_) rfl C7 C7 C7 (fun _ _ _ h => h) (Or.inl ⟨by rfl, ?_⟩) h0 ?_
    rotate_left
    focus (intro w' hSw; obtain ⟨c1, c2, c3, hbxS, hevS⟩ := hSw; skip; go_simp; (try with_reducible rfl))
    (try simp only [List.getElem_toArray, List.getElem_cons_succ, List.getElem_cons_zero, Act.put, List.setIfInBounds_toArray, List.set_cons_zero, List.set_cons_succ])
    refine wpAnyH_take (i := 8) (v := ?_) rfl C7 C7 C7 (fun _ _ _ h => h) (Or.inl ⟨by rfl, ?_⟩) h0 ?_
    rotate_left
    focus (intro w' hSw; obtain ⟨c1, c2, c3, hbxS, hevS⟩ := hSw; skip; go_simp; (try with_reducible rfl))
    (try simp only [List.getElem_toArray, List.getElem_cons_succ, List.getElem_cons_zero, Act.put, List.setIfInBounds_toArray, List.set_cons_zero, List.set_cons_succ])
    refine wpAnyH_take (i := 9) (v := ?_) rfl C7 C7 C7 (fun _ _ _ h => h) (Or.inl ⟨by rfl, ?_⟩) h0 ?_
    rotate_left
    focus (intro w' hSw; obtain ⟨c1, c2, c3, hbxS, hevS⟩ := hSw; skip; go_simp; (try with_reducible rfl))
    (try simp only [List.getElem_toArray, List.getElem_cons_succ, List.getElem_cons_zero, Act.put, List.setIfInBounds_toArray, List.set_cons_zero, List.set_cons_succ])
    refine wpAnyH_take (i := 10) (v := .bool false) rfl C7 C7 C7 (fun _ _ _ h => h) (Or.inl ⟨by rfl, ?_⟩) h0 ?_
    focus (intro w' hSw; obtain ⟨c1, c2, c3, hbxS, hevS⟩ := hSw; skip; go_simp; (try simp only [decide_eq_false km3, Bool.not_true]); (try with_reducible rfl); (try simp); done)
    (try simp only [List.getElem_toArray, List.getElem_cons_succ, List.getElem_cons_zero, Act.put, List.setIfInBounds_toArray, List.set_cons_zero, List.set_cons_succ])
    refine wpAnyH_take (i := 11) (v := ?_) rfl C7 C7 C7 (fun _ _ _ h => h) (Or.inl ⟨by rfl, ?_⟩) h0 ?_
    rotate_left
    focus (intro w' hSw; obtain ⟨c1, c2, c3, hbxS, hevS⟩ := hSw; skip; go_simp; (try with_reducible rfl))
    (try simp only [List.getElem_toArray, List.getElem_cons_succ, List.getElem_cons_zero, Act.put, List.setIfInBounds_toArray, List.set_cons_zero, List.set_cons_succ])
    refine wpAnyH_take (i := 12) (v := ?_) rfl C7 C7 C7 (fun _ _ _ h => h) (Or.inl ⟨by rfl, ?_⟩) h0 ?_
    rotate_left
    focus (intro w' hSw; obtain ⟨c1, c2, c3, hbxS, hevS⟩ := hSw; skip; go_simp; (try with_reducible rfl))
    (try simp only [List.getElem_toArray, List.getElem_cons_succ, List.getElem_cons_zero, Act.put, List.setIfInBounds_toArray, List.set_cons_zero, List.set_cons_succ])
    refine wpAnyH_take (i := 13) (v := .agg #[.int .i64 x, .int .i64 y, .int .i64 z]) rfl C7 C7 C7 (fun _ _ _ h => h) (yields_load_row (by rfl) 58 _ rfl Bx rfl 58 _ (0, 0) _ (fun w' hS => hS.2.2.2.1) Tryz.underlying58 rfl C7) h0 ?_
    (try simp only [List.getElem_toArray, List.getElem_cons_succ, List.getElem_cons_zero, Act.put, List.setIfInBounds_toArray, List.set_cons_zero, List.set_cons_succ])
    refine wpAnyH_take (i := 14) (v := ?_) rfl C7 C7 C7 (fun _ _ _ h => h) (Or.inl ⟨by rfl, ?_⟩) h0 ?_
    rotate_left
    focus (intro w' hSw; obtain ⟨c1, c2, c3, hbxS, hevS⟩ := hSw; skip; go_simp; (try with_reducible rfl))
    (try simp only [List.getElem_toArray, List.getElem_cons_succ, List.getElem_cons_zero, Act.put, List.setIfInBounds_toArray, List.set_cons_zero, List.set_cons_succ])
    refine wpAnyH_take (i := 15) (v := ?_) rfl C7 C7 C7 (fun _ _ _ h => h) (Or.inl ⟨by rfl, ?_⟩) h0 ?_
    rotate_left
    focus (intro w' hSw; obtain ⟨c1, c2, c3, hbxS, hevS⟩ := hSw; skip; go_simp; (try with_reducible rfl))
    (try simp only [List.getElem_toArray, List.getElem_cons_succ, List.getElem_cons_zero, Act.put, List.setIfInBounds_toArray, List.set_cons_zero, List.set_cons_succ])
    refine wpAnyH_take (i := 16) (v := ?_) rfl C7 C7 C7 (fun _ _ _ h => h) (Or.inl ⟨by rfl, ?_⟩) h0 ?_
    rotate_left
    focus (intro w' hSw; obtain ⟨c1, c2, c3, hbxS, hevS⟩ := hSw; skip; go_simp; (try with_reducible rfl))
    (try simp only [List.getElem_toArray, List.getElem_cons_succ, List.getElem_cons_zero, Act.put, List.setIfInBounds_toArray, List.set_cons_zero, List.set_cons_succ])
    refine wpAnyH_take (i := 17) (v := ?_) rfl C7 C7 C7 (fun _ _ _ h => h) (Or.inl ⟨by rfl, ?_⟩) h0 ?_
    rotate_left
    focus (intro w' hSw; obtain ⟨c1, c2, c3, hbxS, hevS⟩ := hSw; skip; go_simp; (try with_reducible rfl))
    (try simp only [List.getElem_toArray, List.getElem_cons_succ, List.getElem_cons_zero, Act.put, List.setIfInBounds_toArray, List.set_cons_zero, List.set_cons_succ])
    refine wpAnyH_take (i := 18) (v := ?_) rfl C7 C7 C7 (fun _ _ _ h => h) (Or.inl ⟨by rfl, ?_⟩) h0 ?_
    rotate_left
    focus (intro w' hSw; obtain ⟨c1, c2, c3, hbxS, hevS⟩ := hSw; skip; go_simp; (try with_reducible rfl))
    (try simp only [List.getElem_toArray, List.getElem_cons_succ, List.getElem_cons_zero, Act.put, List.setIfInBounds_toArray, List.set_cons_zero, List.set_cons_succ])
    refine wpAnyH_take (i := 19) (v := ?_) rfl C7 C7 C7 (fun _ _ _ h => h) (Or.inl ⟨by rfl, ?_⟩) h0 ?_
    rotate_left
    focus (intro w' hSw; obtain ⟨c1, c2, c3, hbxS, hevS⟩ := hSw; skip; go_simp; (try with_reducible rfl))
    (try simp only [List.getElem_toArray, List.getElem_cons_succ, List.getElem_cons_zero, Act.put, List.setIfInBounds_toArray, List.set_cons_zero, List.set_cons_succ])
    refine wpAnyH_take (i := 20) (v := .agg #[.int .i64 x, .int .i64 y, .int .i64 z]) rfl C7 C7 C7 (fun _ _ _ h => h) (yields_load_at (by rfl) 58 _ rfl g2 (o2 + k * 3) rfl _ _ (fun w' hS => hS.2.2.2.2) Tryz.underlying58 rfl C7) h0 ?_
    (try simp only [List.getElem_toArray, List.getElem_cons_succ, List.getElem_cons_zero, Act.put, List.setIfInBounds_toArray, List.set_cons_zero, List.set_cons_succ])
    refine wpAnyH_take (i := 21) (v := .bool false) rfl C7 C7 C7 (fun _ _ _ h => h) (Or.inl ⟨by rfl, ?_⟩) h0 ?_
    focus (intro w' hSw; obtain ⟨c1, c2, c3, hbxS, hevS⟩ := hSw; have en := ev_neq3 x y z; go_simp; (try simp only [decide_eq_false km3, Bool.not_true]); (try with_reducible rfl); (try simp); done)
    (try simp only [List.getElem_toArray, List.getElem_cons_succ, List.getElem_cons_zero, Act.put, List.setIfInBounds_toArray, List.set_cons_zero, List.set_cons_succ])
    refine wpAnyH_take (i := 22) (v := ?_) rfl C7 C7 C7 (fun _ _ _ h => h) (Or.inl ⟨by rfl, ?_⟩) h0 ?_
    rotate_left
    focus (intro w' hSw; obtain ⟨c1, c2, c3, hbxS, hevS⟩ := hSw; skip; go_simp; (try with_reducible rfl))
    (try simp only [List.getElem_toArray, List.getElem_cons_succ, List.getElem_cons_zero, Act.put, List.setIfInBounds_toArray, List.set_cons_zero, List.set_cons_succ])
    refine wpAnyH_done C7 ?_ _
    have bV5 : Below V.heap.size V V.drew := (Below.refl _ V).drew
    generalize V.drew = w5 at bV5 ⊢
    have hg5 := blk_below hk bV5 (lt_of_block hk)
    have hs5 := blk_below hst bV5 (lt_of_block hst)
    have hr5 := blk_below hr bV5 (lt_of_block hr)
    have hb5 := blk_below hb bV5 (lt_of_block hb)
    have hB5 : Below w.heap.size W2 w5 := hBn.trans (bV5.mono hwV)
    have cG5 := blk_cell (l := [_]) hg5 0 rfl
    have fG5 := blk_free hg5 0
    have cS5 := blk_cell (l := [_]) (blk_far (a := ⟨K, 0, none⟩) hs5 (by show w.heap.size + 1 ≠ K; omega) (.int .i64 ((k : Int) + 1))) 0 rfl
    have cN5 := blk_cell (l := [_]) (blk_set hg5 0 (.int .i64 ((k : Int) + 1))) 0 rfl
    have hlen : ∀ e : Nt.NE, (((pre ++ [e]).length : Nat) : Int) = (k : Int) + 1 := fun e => by rw [List.length_append, List.length_singleton, ← HK.out]; omega
    have HLN := Lib.hid hlen
    have KB5 := Lib.hid (show Below w.heap.size V (w5.setCell ⟨K, 0, none⟩ (.int .i64 ((k : Int) + 1))) from (bV5.mono hwV).setCell (p := ⟨K, 0, none⟩) (by show w.heap.size ≤ K; omega) _)
    have K5 := Lib.hid (show KeepsFrom W2.heap.size V (w5.setCell ⟨K, 0, none⟩ (.int .i64 ((k : Int) + 1))) from (keepsFrom_below (B := W2.heap.size) bV5).trans (kfN_setCell (by show K < W2.heap.size; omega)))
    have I5 := Lib.hid (show Below w.heap.size W2 (w5.setCell ⟨K, 0, none⟩ (.int .i64 ((k : Int) + 1))) ∧ (w5.setCell ⟨K, 0, none⟩ (.int .i64 ((k : Int) + 1))).heap[w.heap.size]? = some (.cells #[.pointer (some ⟨p, 0, none⟩)] 32 (0, 0)) ∧ (w5.setCell ⟨K, 0, none⟩ (.int .i64 ((k : Int) + 1))).heap[w.heap.size + 1]? = some (.cells #[.int .i64 stop] 3 (0, 0)) ∧ (w5.setCell ⟨K, 0, none⟩ (.int .i64 ((k : Int) + 1))).heap[w.heap.size + 1 + 1]? = some (.cells #[.bool false] 4 (0, 0)) ∧ (w5.setCell ⟨K, 0, none⟩ (.int .i64 ((k : Int) + 1))).heap[K]? = some (.cells #[.int .i64 ((k : Int) + 1)] 3 (0, 0)) from ⟨hB5.setCell (p := ⟨K, 0, none⟩) (by show w.heap.size ≤ K; omega) _, blk_far hr5 (by show w.heap.size ≠ K; omega) _, blk_far hs5 (by show w.heap.size + 1 ≠ K; omega) _, blk_far hb5 (by show w.heap.size + 1 + 1 ≠ K; omega) _, blk_set hg5 0 _⟩)
    have HLT := Lib.hid hlt
    clear h0 p39 hbx hk hg5 hs5 hr5 hb5 hB5 hlen hst hr hb hlt ck cr
    by_cases hbr : (k : Int) + 1 = stop
    · have zb : (((k : Int) + 1) == stop) = true := by simp [hbr]
      have HBR := Lib.hid hbr
      clear hbr
      gi_wp2
      obtain ⟨i1, i2, i3, i4, i5⟩ := I5.out
      refine ⟨K5.out, rfl, i1, i2, i3, i4, ?_, ?_⟩
      · rw [HLN.out]; exact i5
      · rw [HLN.out]; exact HBR.out
    · have zb : (((k : Int) + 1) == stop) = false := by simp [hbr]
      have HBR := Lib.hid hbr
      clear hbr
      gi_wp2
      obtain ⟨i1, i2, i3, i4, i5⟩ := I5.out
      refine ⟨K5.out, KB5.out, i1, i2, i3, i4, ?_, ?_⟩
      · rw [HLN.out]; exact i5
      · rw [HLN.out]; have := HBR.out; have := HLT.out; omega
  case stop =>
    rintro D c' pre V hD hsp ⟨rfl, hBn, hr, hst, hb, hk, hlt⟩ hDf
    refine wpIn_wide.2 ?_
    have hc : ¬ ((n : Nat) : Int) < stop := by omega
    rw [hlt] at hk
    have BV := Lib.hid (show Below w.heap.size w V from HB2.out.trans hBn)
    have HD := Lib.hid (show w.heap.size ≤ D ∧ D < V.heap.size ∧ w.heap.size + 1 + 1 ≠ D from ⟨Nat.le_trans HB2.out.size hD, lt_of_block hDf, by omega⟩)
    have HB := Lib.hid hb
    have HDF := Lib.hid hDf
    have p39 := P39.out V BV.out
    have ck := blk_cell (l := [_]) hk 0 rfl
    have cr := blk_cell (l := [_]) hr 0 rfl
    have cst := blk_cell (l := [_]) hst 0 rfl
    have cb := blk_cell (l := [_]) hb 0 rfl
    have fb := blk_free hb 0
    have hne1 : ¬ (w.heap.size + 1 = w.heap.size + 1 + 1) := by omega
    have hne2 : ¬ (w.heap.size = w.heap.size + 1 + 1) := by omega
    have hne3 : ¬ (K = w.heap.size + 1 + 1) := by omega
    have hne4 : ¬ (p = w.heap.size + 1 + 1) := by omega
    clear hDf hk hr hst hb hlt hBn hseq
    go_wp2_with fail
    go_region_held3 (fun w' => w'.cell? ⟨K, 0, none⟩ = some (.int .i64 stop) ∧ w'.cell? ⟨w.heap.size + 1, 0, none⟩ = some (.int .i64 stop) ∧ w'.cell? ⟨w.heap.size, 0, none⟩ = some (.pointer (some ⟨p, 0, none⟩)) ∧ w'.cell? ⟨p, 39, none⟩ = some (.slice m2.EA n m2.ec)) (first | (refine ⟨?_, ?_, ?_, ?_⟩ <;> simp [go_sem, *]; done) | go_keep) (fail)
    exact En
  case done =>
    rintro D ys V hD hys ⟨hBn, hr, hst, hb, hk, hlt⟩ hDf
    rw [hys] at hk hlt
    have hc : ((n : Nat) : Int) < stop := hlt
    have BV := Lib.hid (show Below w.heap.size w V from HB2.out.trans hBn)
    have HD := Lib.hid (show w.heap.size ≤ D ∧ D < V.heap.size ∧ w.heap.size + 1 + 1 ≠ D from ⟨Nat.le_trans HB2.out.size hD, lt_of_block hDf, by omega⟩)
    have HB := Lib.hid hb
    have HDF := Lib.hid hDf
    have p39 := P39.out V BV.out
    have ck := blk_cell (l := [_]) hk 0 rfl
    have cr := blk_cell (l := [_]) hr 0 rfl
    have cst := blk_cell (l := [_]) hst 0 rfl
    have cb := blk_cell (l := [_]) hb 0 rfl
    have fb := blk_free hb 0
    have hne1 : ¬ (w.heap.size + 1 = w.heap.size + 1 + 1) := by omega
    have hne2 : ¬ (w.heap.size = w.heap.size + 1 + 1) := by omega
    have hne3 : ¬ (K = w.heap.size + 1 + 1) := by omega
    have hne4 : ¬ (p = w.heap.size + 1 + 1) := by omega
    clear hDf hk hr hst hb hlt hBn hseq
    go_wp2_with fail
    go_region_held3 (fun w' => w'.cell? ⟨K, 0, none⟩ = some (.int .i64 (n : Int)) ∧ w'.cell? ⟨w.heap.size + 1, 0, none⟩ = some (.int .i64 stop) ∧ w'.cell? ⟨w.heap.size, 0, none⟩ = some (.pointer (some ⟨p, 0, none⟩)) ∧ w'.cell? ⟨p, 39, none⟩ = some (.slice m2.EA n m2.ec)) (first | (refine ⟨?_, ?_, ?_, ?_⟩ <;> simp [go_sem, *]; done) | go_keep) (fail)
    exact En
end
end Go.Proofs.YtdocdgcdldpagaaGreat

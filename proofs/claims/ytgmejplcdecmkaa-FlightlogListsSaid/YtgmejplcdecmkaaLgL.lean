/- add: the record that goes in. -/
import Derived.Test.YtgmejplcdecmkaaLgM
namespace Go.Proofs.Ytgmejplcdecmkaa
open Go.RowKit
set_option maxHeartbeats 16000000
set_option maxRecDepth 100000
set_option linter.unusedSimpArgs false
set_option linter.unusedVariables false
attribute [local go_sem ↓] Go.wp_at_zero Go.wp_at_succ
theorem step_load_row {P : Program} {w : World} {ops : Array Oper} {o : Oper} {a : Act} {K : Act → World → Prop} {Q : Exit → Act → World → Prop} {E : Prop} (hgd : o.guard = none) (ty : TypeId) (x : Operand) (ho : o.op = .load ty x)
    (g : Nat) (hx : a.eval x = .pointer (some ⟨g, 0, none⟩)) (t : TypeId) (cs : Array Value) (fr : Nat × Nat) (d : TypeDesc) (hg : w.heap[g]? = some (.cells cs t fr))
    (hu : P.underlying ty = some d) (hd : (match d with | .struct _ | .array _ _ => true | _ => false) = true) (hi : (P.info? ty).map (·.size) = some cs.size)
    (h : K (a.put o.dst (.agg cs)) w) : if Region.wanted o (yielded ops a.tmps) = true then Oper.wp P o a w K Q else E := by
  have hw : Region.wanted o (yielded ops a.tmps) = true := by simp [Region.wanted, hgd]
  rw [if_pos hw]
  exact wp_load_row ty x ho g hx t cs fr d hg hu hd hi h
namespace Lg
/-- the log and the record's box, ahead of the append -/
def AddCut (w : World) (base p : Nat) (A : Option Addr) (c : Nat) (vs : List RV) (X : Nat → Prop) (y : RV) (wx : World) : Prop :=
  wx.heap[w.heap.size]? = some (.cells y.cells.toArray 32 (0, 0)) ∧ IsLg wx base p A c vs X ∧ Ow wx w.heap.size y.A y.x.f.d.length y.cap y.x.f.d ∧ Below w.heap.size w wx
theorem AddCut.of {w w3 w5 : World} {base p c : Nat} {A : Option Addr} {vs : List RV} {X : Nat → Prop} {x : Rc} {A1 : Option Addr} {c1 : Nat} (HB3 : Below w.heap.size w w3) (LG3 : IsLg w3 base p A c vs X) (HT : ∀ i, Two p A i → i < w.heap.size) (O3 : Ow w3 w.heap.size A1 x.f.d.length c1 x.f.d) (HB5 : Below w3.heap.size w3 w5)
    (k5 : w5.heap[w.heap.size]? = some (.cells (RV.cells ⟨x, A1, c1⟩).toArray 32 (0, 0))) (N0 : Int) :
    AddCut w base p A c vs X ⟨{ x with sum := N0 }, A1, c1⟩ (w5.setCell ⟨w.heap.size, 12, none⟩ (.int .u32 N0)) := by
  have LG5 := LG3.below HB5
  have K : Keeps (fun i => i = w.heap.size) w5 (w5.setCell ⟨w.heap.size, 12, none⟩ (.int .u32 N0)) := (Keeps.refl (fun i => i = w.heap.size) w5).setCell (p := ⟨w.heap.size, 12, none⟩) (.inl rfl) _
  refine ⟨?_, LG5.kept K (fun i hi e => by have := HT i hi; omega) (fun i _ ht e => ?_), Ow.kept (O3.below HB5 (Nat.le_refl _)) K (fun g e hg => ?_), ?_⟩
  · exact blk_set k5 12 _
  · exact (ht.ne ⟨_, k5⟩ (by decide)) e
  · have O5 := O3.below HB5 (Nat.le_refl _)
    simp only at e
    rw [e] at O5
    obtain ⟨cur, hc, _⟩ := O5.block
    exact (Ty.ne ⟨_, hc⟩ ⟨_, k5⟩ (by decide)) hg
  · exact ((HB3.trans (HB5.mono HB3.size))).setCell (p := ⟨w.heap.size, 12, none⟩) (Nat.le_refl _) _
end Lg
section
variable {w w' : World} {base p c n : Nat} {X X' : Nat → Prop} {A : Option Addr} {vs : List Lg.RV}
open Lg (IsLg)
theorem ladd_yes (h : IsLg w base p A c vs X) (hbase : base ≤ w.heap.size) (v : Lg.RV) (hv : Lg.Ok w w.heap.size v) (he : Lg.addE (Lg.xs vs) v.x = 0) (hd : v.x.f.d.length ≤ 1000) :
    Calls Try.prog 47 #[.pointer (some ⟨p, 0, none⟩), v.val] w fun e w' => AddPost base p A vs X v.x w e w' := by
  obtain ⟨hm0, hlen0⟩ := Lg.addE_zero he
  rw [Lg.xs_len] at hlen0
  have M := Lib.hid (fun (W : World) (hW : Below w.heap.size w W) => hm0 ▸ lmay_any (h.below hW) (by omega) v ((hv.below hW (Nat.le_refl _)).more hW.size))
  have OW := Lib.hid (fun (W : World) (hW : Below w.heap.size w W) => lown_any v W ((hv.below hW (Nat.le_refl _)).more hW.size) hd)
  have EN := Lib.hid (fun (W : World) (hW : IsLg W base p A c vs X) => lend_any hW (by omega))
  have SU := Lib.hid (fun (b : Int) (W : World) (A1 : Option Addr) (c1 : Nat) (hW : Lg.Ok W W.heap.size ⟨v.x, A1, c1⟩) => lsum_any b ⟨v.x, A1, c1⟩ W hW)
  have hs0 : Lg.sumO (Lg.endS (Lg.xs vs)) v.x = Lg.sumN (Lg.endS (Lg.xs vs)) v.x := by unfold Lg.sumO; rw [if_pos (Lg.mayE_fine hm0)]
  have c0 : w.cell? ⟨p, 0, none⟩ = some (.slice A vs.length c) := blk_cell (l := [_]) h.blk 0 rfl
  have hp := h.lt
  have LG := Lib.hid h
  obtain ⟨C, hval, hC, hCs⟩ := rv_opaque v
  rw [hval] at M OW ⊢
  have HA := Lib.hid (show Lg.addE (Lg.xs vs) v.x = 0 ∧ Lg.add (Lg.xs vs) v.x = Lg.xs vs ++ [Lg.own (Lg.xs vs) v.x] from ⟨he, by unfold Lg.add; rw [if_pos he]⟩)
  clear h hv hval hC hm0 he
  obtain ⟨n, hvn⟩ : ∃ n, n = vs.length := ⟨_, rfl⟩
  rw [← hvn] at c0 hlen0
  have HN := Lib.hid hvn
  clear hvn
  go_enter Try.func47, Try.ntmps47
  go_upto_region 3 with fail
  have hbx := heap_new w (.cells C 32 (0, 0))
  go_wp2_with (refine wpList_load_row rfl 32 _ rfl _ rfl 32 _ (0, 0) _ hbx Try.underlying32 rfl (by rw [hCs]; kernel_rfl) ?_)
  refine (M.out _ (by repeat (first | (with_reducible exact Below.refl _ _) | (with_reducible refine Below.drew ?_) | (with_reducible refine below_drewN ?_ _) | ((with_reducible refine Below.alloc ?_ ?_ _); rotate_left; (first | omega | (simp <;> omega)); rotate_right) | ((with_reducible refine Below.setCell ?_ ?_ _); rotate_left; (first | omega | (simp <;> omega)); rotate_right) | (with_reducible assumption) | (refine Below.trans ?_ (Below.mono (by assumption) ?_); rotate_left; (first | omega | (simp <;> omega)); rotate_right)))).mono ?_
  rintro e w1 ⟨rfl, hb1⟩
  have hz1 := hb1.size
  simp only [World.size_alloc] at hz1
  have q0 := ((bcell hb1).1 p 0 (by simp; omega)).trans ((World.cell?_alloc_lt w _ ⟨p, 0, none⟩ hp).trans c0)
  have hby := blk_below hbx hb1 (by simp)
  have HB1 := (show Below w.heap.size w w1 from (by repeat (first | (with_reducible exact Below.refl _ _) | (with_reducible refine Below.drew ?_) | (with_reducible refine below_drewN ?_ _) | ((with_reducible refine Below.alloc ?_ ?_ _); rotate_left; (first | omega | (simp <;> omega)); rotate_right) | ((with_reducible refine Below.setCell ?_ ?_ _); rotate_left; (first | omega | (simp <;> omega)); rotate_right) | (with_reducible assumption) | (refine Below.trans ?_ (Below.mono (by assumption) ?_); rotate_left; (first | omega | (simp <;> omega)); rotate_right))))
  clear hb1 hbx c0
  have hbx := hby
  clear hby
  go_wp2_with (refine wpList_load_row rfl 32 _ rfl _ rfl 32 _ (0, 0) _ hbx Try.underlying32 rfl (by rw [hCs]; kernel_rfl) ?_)
  refine (OW.out _ HB1).mono ?_
  rintro e w2 ⟨A1, c1, rfl, o2, hb2⟩
  have hz2 := hb2.size
  have hby := blk_below hbx hb2 (by omega)
  have HB2 := (show Below w.heap.size w w2 from (by repeat (first | (with_reducible exact Below.refl _ _) | (with_reducible refine Below.drew ?_) | (with_reducible refine below_drewN ?_ _) | ((with_reducible refine Below.alloc ?_ ?_ _); rotate_left; (first | omega | (simp <;> omega)); rotate_right) | ((with_reducible refine Below.setCell ?_ ?_ _); rotate_left; (first | omega | (simp <;> omega)); rotate_right) | (with_reducible assumption) | (refine Below.trans ?_ (Below.mono (by assumption) ?_); rotate_left; (first | omega | (simp <;> omega)); rotate_right))))
  have O2 := Lib.hid o2
  obtain ⟨C1, hval1, hC1, hCs1⟩ := rv_opaque ⟨v.x, A1, c1⟩
  rw [hval1]
  have HC1 := Lib.hid hC1
  have hon := rv_ones ⟨v.x, A1, c1⟩
  rw [hC1] at hon
  clear hb2 hbx o2 q0 hval1 hC1
  go_upto_region 9 with (refine wpList_store_row rfl 32 _ _ rfl _ _ rfl rfl 32 _ hby (by rw [hCs1]; kernel_rfl) (hCs.trans hCs1.symm) hon ?_)
  have hbz := setRow_heap w2 w.heap.size C C1 32 (0, 0) hby
  have hK3 : Keeps (fun i => i = w.heap.size) w2 (w2.setRow w.heap.size C1) := (Keeps.refl (fun i => i = w.heap.size) w2).setRow (g := w.heap.size) (.inl rfl) C1
  have HB3 := Lib.hid (below_setRow HB2 (Nat.le_refl _) C1)
  have O3 := Lib.hid ((Ow.kept O2.out hK3 (fun g e => by
    rcases O2.out.form with ⟨e', _⟩ | ⟨g', e', hh, _⟩
    · rw [e'] at e; cases e
    · rw [e'] at e; injection e with e; injection e with e; omega)).more (base' := w.heap.size) HB1.size)
  have LG3 := Lib.hid (LG.out.below HB3.out)
  have hsz3 : (w2.setRow w.heap.size C1).heap.size = w2.heap.size := by simp [World.setRow]
  generalize w2.setRow w.heap.size C1 = w3 at *
  rw [← HC1.out] at hbz
  have HT := Lib.hid (fun i (hi : Lg.Two p A i) => (LG.out.two_lt hi).2)
  clear hby hK3 O2 LG hon hCs1 HC1 HB2
  generalize hS : Lg.endS (Lg.xs vs) = S0 at *
  obtain ⟨⟨t, a, k, x, y, z, s, ⟨fk, ff, ft, fs, d⟩, sum⟩, A0, cap0⟩ := v
  simp only at SU hbz O3 hs0
  have NX := Lib.hid hs0
  clear hs0
  generalize hN : Lg.sumO S0 ⟨t, a, k, x, y, z, s, ⟨fk, ff, ft, fs, d⟩, sum⟩ = N0 at *
  have HS := Lib.hid hS
  have HNN := Lib.hid hN
  clear hS hN
  (try simp only [List.getElem_toArray, List.getElem_cons_succ, List.getElem_cons_zero, Act.put, List.setIfInBounds_toArray, List.set_cons_zero, List.set_cons_succ])
  go_cut [] from 22 to 29 (fun wx => Lg.AddCut w base p A c vs X ⟨⟨t, a, k, x, y, z, s, ⟨fk, ff, ft, fs, d⟩, N0⟩, A1, c1⟩ wx)
  case first =>
    simp only [Lg.RV.cells] at hbz
    have cz_0 := blk_cell hbz 0 rfl; have fz_0 := blk_free hbz 0; have cz_1 := blk_cell hbz 1 rfl; have fz_1 := blk_free hbz 1; have cz_2 := blk_cell hbz 2 rfl; have fz_2 := blk_free hbz 2; have cz_3 := blk_cell hbz 3 rfl; have fz_3 := blk_free hbz 3; have cz_4 := blk_cell hbz 4 rfl; have fz_4 := blk_free hbz 4; have cz_5 := blk_cell hbz 5 rfl; have fz_5 := blk_free hbz 5; have cz_6 := blk_cell hbz 6 rfl; have fz_6 := blk_free hbz 6; have cz_7 := blk_cell hbz 7 rfl; have fz_7 := blk_free hbz 7; have cz_8 := blk_cell hbz 8 rfl; have fz_8 := blk_free hbz 8; have cz_9 := blk_cell hbz 9 rfl; have fz_9 := blk_free hbz 9; have cz_10 := blk_cell hbz 10 rfl; have fz_10 := blk_free hbz 10; have cz_11 := blk_cell hbz 11 rfl; have fz_11 := blk_free hbz 11; have cz_12 := blk_cell hbz 12 rfl; have fz_12 := blk_free hbz 12; have lz := lt_of_block hbz
    go_region_with (first | (go_at_call 27; refine (EN.out _ (LG3.out.below (by repeat (first | (with_reducible exact Below.refl _ _) | (with_reducible refine Below.drew ?_) | (with_reducible refine below_drewN ?_ _) | ((with_reducible refine Below.alloc ?_ ?_ _); rotate_left; (first | omega | (simp <;> omega)); rotate_right) | ((with_reducible refine Below.setCell ?_ ?_ _); rotate_left; (first | omega | (simp <;> omega)); rotate_right) | (with_reducible assumption) | (refine Below.trans ?_ (Below.mono (by assumption) ?_); rotate_left; (first | omega | (simp <;> omega)); rotate_right))))).mono ?_; rintro e w4 ⟨rfl, q4, rfl⟩) | (go_at_call 12; refine (SU.out _ _ _ _ (Lg.Dt.ok (Lg.Dt.of_own (X := fun _ => True) (x := ⟨t, a, k, x, y, z, s, ⟨fk, ff, ft, fs, d⟩, sum⟩) (O3.out.below (B := w3.heap.size) (by repeat (first | (with_reducible exact Below.refl _ _) | (with_reducible refine Below.drew ?_) | (with_reducible refine below_drewN ?_ _) | ((with_reducible refine Below.alloc ?_ ?_ _); rotate_left; (first | omega | (simp <;> omega)); rotate_right) | ((with_reducible refine Below.setCell ?_ ?_ _); rotate_left; (first | omega | (simp <;> omega)); rotate_right) | (with_reducible assumption) | (refine Below.trans ?_ (Below.mono (by assumption) ?_); rotate_left; (first | omega | (simp <;> omega)); rotate_right))) (Nat.le_refl _)) (fun _ _ => trivial)))).mono ?_; rintro e w5 ⟨rfl, hb5⟩; have hz5 := hb5.size; (try simp at hz5); have k5 := blk_below (q := w.heap.size) (by repeat (first | (with_reducible assumption) | (with_reducible apply blk_drew) | (with_reducible apply blk_drewN) | ((with_reducible apply blk_far); rotate_left; (first | omega | (simp <;> omega)); rotate_right) | (with_reducible apply blk_alloc))) hb5 (by first | omega | (simp; done) | (simp; omega)); have cz := blk_cell k5 12 rfl; have fz := blk_free k5 12; have HB5 := Lib.hid (show Below w3.heap.size w3 w5 from (by repeat (first | (with_reducible exact Below.refl _ _) | (with_reducible refine Below.drew ?_) | (with_reducible refine below_drewN ?_ _) | ((with_reducible refine Below.alloc ?_ ?_ _); rotate_left; (first | omega | (simp <;> omega)); rotate_right) | ((with_reducible refine Below.setCell ?_ ?_ _); rotate_left; (first | omega | (simp <;> omega)); rotate_right) | (with_reducible assumption) | (refine Below.trans ?_ (Below.mono (by assumption) ?_); rotate_left; (first | omega | (simp <;> omega)); rotate_right))))))
    all_goals (go_wp2_with fail; rw [HNN.out]; go_meet; exact Lg.AddCut.of (x := ⟨t, a, k, x, y, z, s, ⟨fk, ff, ft, fs, d⟩, sum⟩) HB3.out LG3.out HT.out O3.out HB5.out k5 N0)
  case rest =>
    obtain ⟨hbx, hlg, ho, hB⟩ := hcut
    have LG4 := Lib.hid hlg
    have O4 := Lib.hid ho
    have HB4 := Lib.hid hB
    have LB := hlg.blk
    have RW := hlg.row
    have HP := Lib.hid (fun g (e : blkOf A = some g) => (hlg.ane e))
    rw [← HN.out] at LB RW
    have c0 : wc.cell? ⟨p, 0, none⟩ = some (.slice A n c) := blk_cell (l := [_]) LB 0 rfl
    have f0 : wc.frozen? ⟨p, 0, none⟩ = false := blk_free LB 0
    have hzx := hB.size
    have hpx := hlg.lt
    obtain ⟨i0, hi0, hza, hzb, hzc⟩ := info_parts info_rec
    simp only [Lg.RV.cells] at hbx
    have cy_0 := blk_cell hbx 0 rfl; have fy_0 := blk_free hbx 0; have cy_1 := blk_cell hbx 1 rfl; have fy_1 := blk_free hbx 1; have cy_2 := blk_cell hbx 2 rfl; have fy_2 := blk_free hbx 2; have cy_3 := blk_cell hbx 3 rfl; have fy_3 := blk_free hbx 3; have cy_4 := blk_cell hbx 4 rfl; have fy_4 := blk_free hbx 4; have cy_5 := blk_cell hbx 5 rfl; have fy_5 := blk_free hbx 5; have cy_6 := blk_cell hbx 6 rfl; have fy_6 := blk_free hbx 6; have cy_7 := blk_cell hbx 7 rfl; have fy_7 := blk_free hbx 7; have cy_8 := blk_cell hbx 8 rfl; have fy_8 := blk_free hbx 8; have cy_9 := blk_cell hbx 9 rfl; have fy_9 := blk_free hbx 9; have cy_10 := blk_cell hbx 10 rfl; have fy_10 := blk_free hbx 10; have cy_11 := blk_cell hbx 11 rfl; have fy_11 := blk_free hbx 11; have cy_12 := blk_cell hbx 12 rfl; have fy_12 := blk_free hbx 12; have ly := lt_of_block hbx
    have hbase2 : base ≤ wc.heap.size := by omega
    clear hlg ho LG3 O3 HB3 SU EN M OW hbz hB
    go_upto_region 10 with fail
    go_region_law (first | (refine step_append_row2 rfl (.tmp 34) (.tmp 36) 40 rfl base 32 i0 _ 13 120 Try.underlying40 hi0 hza hzb hzc rfl A n c (Lg.cs vs) rfl (by repeat (first | (with_reducible assumption) | (with_reducible apply Row.drew) | (with_reducible apply Row.drewN) | (with_reducible apply Row.alloc))) ⟨wc.heap.size, 0, none⟩ 1 1 [.int .i64 t, .int .i64 a, .int .i64 k, .int .i64 x, .int .i64 y, .int .i64 z, .int .i64 s, .int .i64 fk, .int .i64 ff, .int .i64 ft, .int .i64 fs, .slice A1 d.length c1, .int .u32 N0] rfl rfl (fun j u hu => by rw [addr_add, Nat.zero_add]; exact blk_cell (l := [_, _, _, _, _, _, _, _, _, _, _, _, _]) (by repeat (first | (with_reducible apply blk_drew) | (with_reducible apply blk_drewN) | (with_reducible exact heap_new _ _) | ((with_reducible apply heap_new'); (first | rfl | simp)))) j hu) (Lg.RV.one ⟨⟨t, a, k, x, y, z, s, ⟨fk, ff, ft, fs, d⟩, N0⟩, A1, c1⟩) (by omega) (by simp only [maxLen]; omega) (by omega) (by simp; try omega) ?_; intro A2 c2 w6 hrow hg hat hold; have K6 := Lib.hid (show Keeps (fun i => blkOf A = some i) wc w6 from Keeps.trans (S' := fun i => blkOf A = some i) (by repeat (first | exact Keeps.refl _ _ | (with_reducible refine Keeps.drew ?_) | (with_reducible refine Keeps.drewN ?_ _) | (with_reducible refine Keeps.alloc ?_ _))) (Keeps.of_grown hg (fun g e => e)) (fun _ _ h => h)); have kp := blk_keep LB K6.out (fun e => HP.out p e rfl); have c6 := blk_cell (l := [_]) kp 0 rfl; have f6 := blk_free kp 0; have AT := Lib.hid (show A2 = A ∨ ∃ g, blkOf A2 = some g ∧ wc.heap.size ≤ g from hat.imp id (fun e => ⟨_, e, by simp⟩)); have RO := Lib.hid hrow; have HO := Lib.hid hold; clear hrow hg hat hold))
    all_goals
      go_wp2_with fail
      go_ret
      exact add_done (x := ⟨t, a, k, x, y, z, s, ⟨fk, ff, ft, fs, d⟩, sum⟩) HN.out HA.out (by rw [HS.out]; exact NX.out) HB4.out LG4.out HT.out O4.out K6.out kp AT.out RO.out HO.out
/-- a record is appended, or refused -/
theorem ladd_any (h : IsLg w base p A c vs X) (hbase : base ≤ w.heap.size) (hn : vs.length ≤ 1000000) (v : Lg.RV) (hv : Lg.Ok w w.heap.size v) (hd : v.x.f.d.length ≤ 1000) :
    Calls Try.prog 47 #[.pointer (some ⟨p, 0, none⟩), v.val] w fun e w' => AddPost base p A vs X v.x w e w' := by
  by_cases he : Lg.addE (Lg.xs vs) v.x = 0
  · exact ladd_yes h hbase v hv he hd
  · refine (ladd_no h hn v hv he).mono ?_
    rintro e w' ⟨rfl, hb⟩
    have h' := h.below hb
    refine ⟨A, c, vs, rfl, h'.mono (fun i _ hi => .inl hi), ?_, Keeps.of_below hb, .inl rfl, h'.rr, Nat.le_refl _⟩
    unfold Lg.add
    rw [if_neg he]
end
end Go.Proofs.Ytgmejplcdecmkaa

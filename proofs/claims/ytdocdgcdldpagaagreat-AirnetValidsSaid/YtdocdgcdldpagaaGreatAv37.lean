import Derived.Test.YtdocdgcdldpagaaGreatAp
import Derived.Test.YtdocdgcdldpagaaGreatAv35
import Derived.Test.YtdocdgcdldpagaaGreatAv36
import Derived.Deep.DrawnRows
namespace Go.Proofs.YtdocdgcdldpagaaGreat
open Go.RowKit
set_option maxHeartbeats 8000000
set_option maxRecDepth 100000
set_option linter.unusedSimpArgs false
set_option linter.unusedVariables false
attribute [local go_sem ↓] Go.wp_at_zero Go.wp_at_succ
section
variable {w w' w0 : World}
theorem info_craft : (Tryz.prog.info? 108).map (fun i => (i.zero, i.size, i.bytes)) = some (some (.agg #[.pointer none, .pointer none, .pointer none, .int .i64 0]), 4, 32) := by kernel_rfl
def rcl (r : Nt.Ru) (OA : Option Addr) (n oc : Nat) (TA : Option Addr) (m tc : Nat) : List Value := [.int .i64 r.n, .int .i64 r.again, .int .i64 r.step, .int .i64 r.drift, .int .i64 r.lost, .int .i64 r.ret, .int .i64 r.desc, .int .i64 r.late, .int .i64 r.every, .int .i64 r.up.loss, .int .i64 r.up.twice, .int .i64 r.up.least, .int .i64 r.up.most, .int .i64 r.up.seed, .int .i64 r.dn.loss, .int .i64 r.dn.twice, .int .i64 r.dn.least, .int .i64 r.dn.most, .int .i64 r.dn.seed, .slice OA n oc, .slice TA m tc]
theorem rval_rcl (r : Nt.Ru) (OA : Option Addr) (n oc : Nat) (TA : Option Addr) (m tc : Nat) : rval r OA n oc TA m tc = .agg (rcl r OA n oc TA m tc).toArray := rfl
def NNewPost (r : Nt.Ru) (w : World) (e : Ending) (w' : World) : Prop := ∃ b m, e = .returned (.tuple #[.pointer (some ⟨b, 0, none⟩), .int .i64 0]) ∧ IsNet w' w.heap.size b m 0 (Nt.new r) ∧ Below w.heap.size w w'
def NCutA (r : Nt.Ru) (n : Nat) (w wx : World) : Prop := ∃ A4 c4 A5 c5, wx.heap[w.heap.size]? = some (.cells (rcl r A4 n c4 A5 n c5).toArray 28 (0, 0)) ∧ Row wx w.heap.size 3 1 A4 n c4 (icl r.offs) ∧ Row wx w.heap.size 3 1 A5 n c5 (icl r.rates) ∧ Below w.heap.size w wx
def NCutB (r : Nt.Ru) (C : World) (v7 v8 : Value) (wx : World) : Prop := ∃ p7 p8, v7 = .pointer (some ⟨p7, 0, none⟩) ∧ v8 = .pointer (some ⟨p8, 0, none⟩) ∧ p7 ≠ p8 ∧ C.heap.size ≤ p7 ∧ C.heap.size ≤ p8 ∧ wx.heap[p7]? = some (.cells #[.int .i64 r.up.loss, .int .i64 r.up.twice, .int .i64 r.up.least, .int .i64 r.up.most, .int .i64 r.up.seed] 25 (0, 0)) ∧ wx.heap[p8]? = some (.cells #[.int .i64 r.dn.loss, .int .i64 r.dn.twice, .int .i64 r.dn.least, .int .i64 r.dn.most, .int .i64 r.dn.seed] 25 (0, 0)) ∧ Below C.heap.size C wx
theorem nnew_no (r : Nt.Ru) (n m : Nat) (OA : Option Addr) (oc : Nat) (TA : Option Addr) (tc : Nat) (w : World) (hv : Nt.vld r = false) (hn : r.offs.length = n) (hm : r.rates.length = m) (ho : Ri w w.heap.size OA n r.offs) (ht : Ri w w.heap.size TA m r.rates) :
    Calls Tryz.prog 25 #[rval r OA n oc TA m tc] w fun e w' => e = .returned (.tuple #[.pointer none, .int .i64 2]) ∧ Below w.heap.size w w' := by
  have VA := Lib.hid (fun (W : World) (hW : Below w.heap.size w W) => hv ▸ nvalid_any r n m OA oc TA tc W hn hm ((ho.below hW (Nat.le_refl _)).more hW.size) ((ht.below hW (Nat.le_refl _)).more hW.size))
  clear hn hm ho ht hv
  rw [rval_rcl] at VA ⊢
  unfold rcl
  go_enter Tryz.func25, Tryz.ntmps25
  go_upto_region 1 with fail
  generalize hV : World.alloc _ _ = V
  have k0 : V.heap[w.heap.size]? = some (.cells (rcl r OA n oc TA m tc).toArray 28 (0, 0)) := Bd
  have HB := Lib.hid (show Below w.heap.size w V from by rw [← hV]; exact (Below.refl _ w).alloc (Nat.le_refl _) _)
  clear hV
  go_wp2_with (first | (go_at_call 9; refine (VA.out _ HB.out).mono ?_; rintro e w2 ⟨rfl, hb2⟩) | (refine wpList_load_row rfl 28 _ rfl w.heap.size rfl 28 _ (0, 0) _ k0 Tryz.underlying28 rfl C7 ?_))
  go_ret2
  exact ⟨rfl, HB.out.trans (hb2.mono HB.out.size)⟩
theorem nnew_yes (r : Nt.Ru) (n : Nat) (OA : Option Addr) (oc : Nat) (TA : Option Addr) (tc : Nat) (w : World) (hv : Nt.vld r = true) (hn : r.offs.length = n) (hm : r.rates.length = n) (hA : OA = none → n = 0 ∧ oc = 0) (hT : TA = none → n = 0 ∧ tc = 0) (ho : Ri w w.heap.size OA n r.offs) (ht : Ri w w.heap.size TA n r.rates) :
    Calls Tryz.prog 25 #[rval r OA n oc TA n tc] w (NNewPost r w) := by
  obtain ⟨j0, hj0, jza, jzb, jzc⟩ := info_parts info_craft
  obtain ⟨h0, h1, h2, h3, h4, h5, h6⟩ := Nt.vld_says hv
  have g := of_decide_eq_true h0
  obtain ⟨g1, g2, g3, g4, g5, g6⟩ := g
  rw [hn] at g5
  have hn64 : n ≤ 64 := by omega
  have hn1 : 1 ≤ n := by omega
  have VA := Lib.hid (fun (W : World) (hW : Below w.heap.size w W) => hv ▸ nvalid_any r n n OA oc TA tc W hn hm ((ho.below hW (Nat.le_refl _)).more hW.size) ((ht.below hW (Nat.le_refl _)).more hW.size))
  have CO := Lib.hid (fun (W : World) (hW : Below w.heap.size w W) => clonei_rd OA n oc (icl r.offs) W Cb hA ((ho.below hW (Nat.le_refl _)).more hW.size).reads (icl_one _))
  have CT := Lib.hid (fun (W : World) (hW : Below w.heap.size w W) => clonei_rd TA n tc (icl r.rates) W Cb hT ((ht.below hW (Nat.le_refl _)).more hW.size).reads (icl_one _))
  have SN := Lib.hid (fun (W : World) => snew_yes n r.again W (by unfold Stn.newE; rw [if_pos Cb]))
  have PN := Lib.hid (fun (i : Nat) (hi : i < n) (W : World) => pnew_yes ((i : Int) + 1) r.lost r.ret r.desc r.late r.every r.drift W At)
  have UN := Lib.hid (fun (i : Nat) (hi : i < n) (W : World) => lnew_yes (Nt.lru r.up i) W (Nt.lru_vld h3 i) B8)
  have DN := Lib.hid (fun (i : Nat) (hi : i < n) (W : World) => lnew_yes (Nt.lru r.dn i) W (Nt.lru_vld h4 i) B9)
  have u0 := (Lnk.vld_iff.1 h3).2.2.2.2
  have d0 := (Lnk.vld_iff.1 h4).2.2.2.2
  have HN := Lib.hid (And.intro hn hm)
  have G5 := Lib.hid g5
  clear hn hm hA hT ho ht hv h0 h1 h2 h3 h4 g1 g2 g3 g4 g5 g6
  rw [rval_rcl] at VA ⊢
  unfold rcl
  go_enter Tryz.func25, Tryz.ntmps25
  go_upto_region 1 with fail
  generalize hV : World.alloc _ _ = V
  have k0 : V.heap[w.heap.size]? = some (.cells (rcl r OA n oc TA n tc).toArray 28 (0, 0)) := Bd
  have HB := Lib.hid (show Below w.heap.size w V from by rw [← hV]; exact (Below.refl _ w).alloc (Nat.le_refl _) _)
  have hzV : w.heap.size < V.heap.size := by rw [← hV, World.size_alloc]; omega
  clear hV
  go_upto_region 3 with (first | (go_at_call 9; refine (VA.out _ HB.out).mono ?_; rintro e w2 ⟨rfl, hb2⟩; have hz2 := hb2.size; have k2 := blk_below k0 hb2 hzV; clear k0) | (refine wpList_load_row rfl 28 _ rfl w.heap.size rfl 28 _ (0, 0) _ k0 Tryz.underlying28 rfl C7 ?_))
  have HB2 := Lib.hid (HB.out.trans (hb2.mono HB.out.size))
  clear hb2 HB VA
  have q19 : w2.cell? ⟨w.heap.size, 19, none⟩ = some (.slice OA n oc) := blk_cell k2 19 rfl
  have q20 : w2.cell? ⟨w.heap.size, 20, none⟩ = some (.slice TA n tc) := blk_cell k2 20 rfl
  have hs2 : w.heap.size < w2.heap.size := lt_of_block k2
  have K2 := Lib.hid k2
  clear k2 hzV hz2
  go_cut [] from 9 to 91 (fun wx => NCutA r n w wx)
  case first =>
    go_region_with (first | (go_at_call 62; have _g := HB4; refine (CT.out _ (by first | exact HB4.out | exact HB4.out.drew | exact below_drewN HB4.out _)).mono ?_; rintro e w5 ⟨A5, c5, rfl, hr5, hb5⟩; have HB45 := Lib.hid (show Below w4.heap.size w4 w5 from by first | exact hb5 | exact (Below.refl _ _).drew.trans hb5 | exact (below_drewN (Below.refl _ _) _).trans hb5); have HB5 := Lib.hid (HB4.out.trans (HB45.out.mono HB4.out.size)); have k5 := blk_below K4.out HB45.out hs4; have K5 := Lib.hid k5; have hs5 : w.heap.size < w5.heap.size := lt_of_block k5; have e19 : w5.cell? ⟨w.heap.size, 19, none⟩ = some (.slice OA n oc) := blk_cell k5 19 rfl; have e20 : w5.cell? ⟨w.heap.size, 20, none⟩ = some (.slice TA n tc) := blk_cell k5 20 rfl; have HR5 := Lib.hid (hr5.more (base' := w.heap.size) (by have := HB4.out.size; first | exact this | (simp; exact this))); have HR45 := Lib.hid (HR4.out.below HB45.out (Nat.le_refl _)); have f19 := blk_free k5 19; have f20 := blk_free k5 20; clear hr5 hb5 k5) | (go_at_call 62; refine (CO.out _ (by first | exact HB2.out | exact HB2.out.drew | exact below_drewN HB2.out _)).mono ?_; rintro e w4 ⟨A4, c4, rfl, hr4, hb4⟩; have HB24 := Lib.hid (show Below w2.heap.size w2 w4 from by first | exact hb4 | exact (Below.refl _ _).drew.trans hb4 | exact (below_drewN (Below.refl _ _) _).trans hb4); have HB4 := Lib.hid (HB2.out.trans (HB24.out.mono HB2.out.size)); have k4 := blk_below K2.out HB24.out hs2; have K4 := Lib.hid k4; have hs4 : w.heap.size < w4.heap.size := lt_of_block k4; have e19 : w4.cell? ⟨w.heap.size, 19, none⟩ = some (.slice OA n oc) := blk_cell k4 19 rfl; have e20 : w4.cell? ⟨w.heap.size, 20, none⟩ = some (.slice TA n tc) := blk_cell k4 20 rfl; have HR4 := Lib.hid (hr4.more (base' := w.heap.size) (by have := HB2.out.size; first | exact this | (simp; exact this))); clear hr4 hb4 k4))
    all_goals
      go_wp2_with fail
      go_meet
      have kk := blk_set (blk_set K5.out 19 (.slice A4 n c4)) 20 (.slice A5 n c5)
      rw [List.setIfInBounds_toArray, List.setIfInBounds_toArray] at kk
      have ha : ∀ g, blkOf A4 = some g → g ≠ w.heap.size := fun g hg => (HR45.out.ty hg).ne ⟨_, K5.out⟩ C8
      have hb : ∀ g, blkOf A5 = some g → g ≠ w.heap.size := fun g hg => (HR5.out.ty hg).ne ⟨_, K5.out⟩ C8
      exact ⟨A4, c4, A5, c5, kk, (HR45.out.far (p := ⟨w.heap.size, 19, none⟩) ha _).far (p := ⟨w.heap.size, 20, none⟩) ha _, (HR5.out.far (p := ⟨w.heap.size, 19, none⟩) hb _).far (p := ⟨w.heap.size, 20, none⟩) hb _, (HB5.out.setCell (p := ⟨w.heap.size, 19, none⟩) (Nat.le_refl _) _).setCell (p := ⟨w.heap.size, 20, none⟩) (Nat.le_refl _) _⟩
  case rest =>
    obtain ⟨A4, c4, A5, c5, k0, hr4, hr5, hb⟩ := hcut
    have HRO := Lib.hid hr4
    have HRT := Lib.hid hr5
    have HBC := Lib.hid hb
    have hsc : w.heap.size < wc.heap.size := lt_of_block k0
    clear hr4 hr5 hb q19 q20 CO CT HB2 K2 hs2
    have k0 : wc.heap[w.heap.size]? = some (.cells #[.int .i64 r.n, .int .i64 r.again, .int .i64 r.step, .int .i64 r.drift, .int .i64 r.lost, .int .i64 r.ret, .int .i64 r.desc, .int .i64 r.late, .int .i64 r.every, .int .i64 r.up.loss, .int .i64 r.up.twice, .int .i64 r.up.least, .int .i64 r.up.most, .int .i64 r.up.seed, .int .i64 r.dn.loss, .int .i64 r.dn.twice, .int .i64 r.dn.least, .int .i64 r.dn.most, .int .i64 r.dn.seed, .slice A4 n c4, .slice A5 n c5] 28 (0, 0)) := k0
    have hmm := @run_makeMap Tryz.prog
    go_upto_region 5 with (first | (refine wpList_load_row rfl 28 _ rfl w.heap.size rfl 28 _ (0, 0) _ k0 Tryz.underlying28 rfl C7 ?_))
    clear hmm
    generalize hX : World.alloc _ _ = X
    have kx := Lib.hid (show X.heap[w.heap.size]? = some (.cells #[.int .i64 r.n, .int .i64 r.again, .int .i64 r.step, .int .i64 r.drift, .int .i64 r.lost, .int .i64 r.ret, .int .i64 r.desc, .int .i64 r.late, .int .i64 r.every, .int .i64 r.up.loss, .int .i64 r.up.twice, .int .i64 r.up.least, .int .i64 r.up.most, .int .i64 r.up.seed, .int .i64 r.dn.loss, .int .i64 r.dn.twice, .int .i64 r.dn.least, .int .i64 r.dn.most, .int .i64 r.dn.seed, .slice A4 n c4, .slice A5 n c5] 28 (0, 0)) by rw [← hX]; exact blk_alloc (blk_alloc k0 _) _)
    have kbn : X.heap[wc.heap.size + 1]? = some (.cells #[.int .i64 r.n, .int .i64 r.again, .int .i64 r.step, .int .i64 r.drift, .int .i64 r.lost, .int .i64 r.ret, .int .i64 r.desc, .int .i64 r.late, .int .i64 r.every, .int .i64 r.up.loss, .int .i64 r.up.twice, .int .i64 r.up.least, .int .i64 r.up.most, .int .i64 r.up.seed, .int .i64 r.dn.loss, .int .i64 r.dn.twice, .int .i64 r.dn.least, .int .i64 r.dn.most, .int .i64 r.dn.seed, .slice A4 n c4, .slice A5 n c5, .int .i64 0, .int .i64 0, .pointer none, .int .i64 0, .slice none 0 0, .map (some wc.heap.size), .slice none 0 0] 86 (0, 0)) := by rw [← hX]; exact heap_new' _ _ _ C9
    have hbX := lt_of_block kbn
    have HCU := Lib.hid (show IsCut X wc.heap.size 0 (List.replicate (n + 1) false) by
      rw [← hX]
      exact (cut_made wc _ (fun i => by rw [List.getD, List.getElem?_replicate]; split <;> rfl)).kept ((Keeps.refl (fun _ => False) _).alloc _) (fun h => h))
    have HROX := Lib.hid (show Row X w.heap.size 3 1 A4 n c4 (icl r.offs) by rw [← hX]; exact (HRO.out.alloc _).alloc _)
    have HRTX := Lib.hid (show Row X w.heap.size 3 1 A5 n c5 (icl r.rates) by rw [← hX]; exact (HRT.out.alloc _).alloc _)
    have HBX := Lib.hid (show Below w.heap.size w X by rw [← hX]; exact (HBC.out.alloc Cb _).alloc C6 _)
    have x0 : X.cell? ⟨w.heap.size, 0, none⟩ = some (.int .i64 (n : Int)) := by rw [G5.out]; exact blk_cell kx.out 0 rfl
    have x1 : X.cell? ⟨w.heap.size, 1, none⟩ = some (.int .i64 r.again) := blk_cell kx.out 1 rfl
    have HSC := Lib.hid hsc
    clear hX k0 hsc HRO HRT HBC
    go_upto_region 6 with ((go_at_call 63; refine (SN.out _).mono ?_; rintro e w5 ⟨sb, RA, rfl, hst, hb5⟩; have kb5 := blk_below kbn hb5 hbX; have f23 := blk_free kb5 23; have d23 : w5.cell? ⟨wc.heap.size + 1, 23, none⟩ = some (.pointer none) := blk_cell kb5 23 rfl; have HB5 := Lib.hid hb5; have HST := Lib.hid hst; have KB5 := Lib.hid kb5; clear hb5 hst kb5))
    generalize hY : World.setCell _ _ _ = Y
    have hset := blk_set KB5.out 23 (.pointer (some ⟨sb, 0, none⟩))
    rw [List.setIfInBounds_toArray] at hset
    have hbs := HB5.out.size
    have hsn : ∀ q, Three sb none RA q → q ≠ wc.heap.size + 1 := fun q hq => by have := (HST.out.three_lt hq).1; omega
    have HN0 := Lib.hid (show IsNet Y w.heap.size (wc.heap.size + 1) ⟨sb, none, 0, RA, n, A4, c4, A5, c5, none, 0, wc.heap.size, none, 0, []⟩ 0 (Nt.newK r 0) by
      have hks : Keeps (fun q => q = wc.heap.size + 1) w5 Y := by rw [← hY]; exact (Keeps.refl (fun q => q = wc.heap.size + 1) w5).setCell (p := ⟨wc.heap.size + 1, 23, none⟩) (.inl rfl) _
      have hk5 : Keeps (fun _ => False) X w5 := Keeps.of_below HB5.out
      refine IsNet.begin r HN.out.1 HN.out.2 ?_ ?_ ?_ ?_ ?_ ⟨by have := HSC.out; omega, by have := HSC.out; omega⟩ ?_
      · rw [← hY]
        refine hset.trans ?_
        simp only [ncl, Nt.newK, HN.out.1, HN.out.2]
        rfl
      · exact (HST.out.kept hks hsn).more (by have := HBX.out.size; omega)
      · exact (HROX.out.kept hk5 (fun _ _ h => h)).kept hks (fun g hg => by have := (HROX.out.ty hg).ne ⟨_, kbn⟩ C8; exact this)
      · exact (HRTX.out.kept hk5 (fun _ _ h => h)).kept hks (fun g hg => by have := (HRTX.out.ty hg).ne ⟨_, kbn⟩ C8; exact this)
      · exact (HCU.out.kept hk5 (fun h => h)).kept hks Cb
      · intro q hq h3
        have h4 := (HST.out.three_lt h3).1
        rcases hq with hq | hq
        · have := (HROX.out.lt hq).2; omega
        · have := (HRTX.out.lt hq).2; omega)
    have HKY := Lib.hid (show Y.heap[w.heap.size]? = some (.cells #[.int .i64 r.n, .int .i64 r.again, .int .i64 r.step, .int .i64 r.drift, .int .i64 r.lost, .int .i64 r.ret, .int .i64 r.desc, .int .i64 r.late, .int .i64 r.every, .int .i64 r.up.loss, .int .i64 r.up.twice, .int .i64 r.up.least, .int .i64 r.up.most, .int .i64 r.up.seed, .int .i64 r.dn.loss, .int .i64 r.dn.twice, .int .i64 r.dn.least, .int .i64 r.dn.most, .int .i64 r.dn.seed, .slice A4 n c4, .slice A5 n c5] 28 (0, 0)) by
      rw [← hY]
      exact blk_keep (blk_below kx.out HB5.out (lt_of_block kx.out)) ((Keeps.refl (fun q => q = wc.heap.size + 1) _).setCell (p := ⟨wc.heap.size + 1, 23, none⟩) (.inl rfl) _) (by have := HSC.out; omega))
    have HBY := Lib.hid (show Below w.heap.size w Y by rw [← hY]; exact (HBX.out.trans (HB5.out.mono HBX.out.size)).setCell (p := ⟨wc.heap.size + 1, 23, none⟩) (by have := HSC.out; show w.heap.size ≤ wc.heap.size + 1; omega) _)
    clear hY hset hsn hbs HST HCU HROX HRTX HBX HB5 KB5 f23 d23 kbn hbX x1 SN kx
    have y0 : Y.cell? ⟨w.heap.size, 0, none⟩ = some (.int .i64 (n : Int)) := by rw [G5.out]; exact blk_cell HKY.out 0 rfl
    clear x0
    go_wp2_with fail
    go_loopw [37] (fun s37 wr => ∃ (j : Nat) (m : NM), s37 = .int .i64 j ∧ j ≤ n ∧ Hid (IsNet wr w.heap.size (wc.heap.size + 1) m 0 (Nt.newK r j)) ∧ Hid (wr.heap[w.heap.size]? = some (.cells #[.int .i64 r.n, .int .i64 r.again, .int .i64 r.step, .int .i64 r.drift, .int .i64 r.lost, .int .i64 r.ret, .int .i64 r.desc, .int .i64 r.late, .int .i64 r.every, .int .i64 r.up.loss, .int .i64 r.up.twice, .int .i64 r.up.least, .int .i64 r.up.most, .int .i64 r.up.seed, .int .i64 r.dn.loss, .int .i64 r.dn.twice, .int .i64 r.dn.least, .int .i64 r.dn.most, .int .i64 r.dn.seed, .slice A4 n c4, .slice A5 n c5] 28 (0, 0))) ∧ Hid (Below w.heap.size w wr)) (fun s37 _ => n - (intOf s37).toNat)
    case atStart => exact ⟨0, _, by go_num, by omega, HN0, HKY, HBY⟩
    case round =>
      obtain ⟨j, m, rfl, hj, HI, HK, HB⟩ := hrel
      clear HN0 HKY HBY y0
      by_cases hlt : j < n
      · obtain ⟨b, hbq⟩ : ∃ b, b = wc.heap.size + 1 := ⟨_, rfl⟩
        have HSB := Lib.hid (show w.heap.size < b by have := HSC.out; omega)
        rw [← hbq] at HI ⊢
        clear hbq HSC
        have hji : (j : Int) < (n : Int) := by omega
        have wj : IntKind.i64.wrap ((j : Int) + 1) = (j : Int) + 1 := IntWalk.i64_in _ Cb
        have wu : IntKind.i64.wrap (r.up.seed + ((j : Int) + 1)) = r.up.seed + ((j : Int) + 1) := IntWalk.i64_in _ Cb
        have wd : IntKind.i64.wrap (r.dn.seed + ((j : Int) + 1)) = r.dn.seed + ((j : Int) + 1) := IntWalk.i64_in _ Cb
        have y0 : wr.cell? ⟨w.heap.size, 0, none⟩ = some (.int .i64 (n : Int)) := by rw [G5.out]; exact blk_cell HK.out 0 rfl
        go_upto_region 10 with fail
        generalize hC : World.alloc _ _ = C
        have hkC := Lib.hid (show C.heap[w.heap.size]? = some (.cells #[.int .i64 r.n, .int .i64 r.again, .int .i64 r.step, .int .i64 r.drift, .int .i64 r.lost, .int .i64 r.ret, .int .i64 r.desc, .int .i64 r.late, .int .i64 r.every, .int .i64 r.up.loss, .int .i64 r.up.twice, .int .i64 r.up.least, .int .i64 r.up.most, .int .i64 r.up.seed, .int .i64 r.dn.loss, .int .i64 r.dn.twice, .int .i64 r.dn.least, .int .i64 r.dn.most, .int .i64 r.dn.seed, .slice A4 n c4, .slice A5 n c5] 28 (0, 0)) by rw [← hC]; exact blk_alloc HK.out _)
        have hcC := Lib.hid (show C.heap[wr.heap.size]? = some (.cells #[.pointer none, .pointer none, .pointer none, .int .i64 0] 108 (0, 0)) by rw [← hC]; exact heap_new _ _)
        have HBC := Lib.hid (show Below wr.heap.size wr C by rw [← hC]; exact (Below.refl _ wr).alloc (Nat.le_refl _) _)
        have q9 : C.cell? ⟨w.heap.size, 9, none⟩ = some (.int .i64 r.up.loss) := blk_cell hkC.out 9 rfl
        have q10 : C.cell? ⟨w.heap.size, 10, none⟩ = some (.int .i64 r.up.twice) := blk_cell hkC.out 10 rfl
        have q11 : C.cell? ⟨w.heap.size, 11, none⟩ = some (.int .i64 r.up.least) := blk_cell hkC.out 11 rfl
        have q12 : C.cell? ⟨w.heap.size, 12, none⟩ = some (.int .i64 r.up.most) := blk_cell hkC.out 12 rfl
        have q13 : C.cell? ⟨w.heap.size, 13, none⟩ = some (.int .i64 r.up.seed) := blk_cell hkC.out 13 rfl
        have q14 : C.cell? ⟨w.heap.size, 14, none⟩ = some (.int .i64 r.dn.loss) := blk_cell hkC.out 14 rfl
        have q15 : C.cell? ⟨w.heap.size, 15, none⟩ = some (.int .i64 r.dn.twice) := blk_cell hkC.out 15 rfl
        have q16 : C.cell? ⟨w.heap.size, 16, none⟩ = some (.int .i64 r.dn.least) := blk_cell hkC.out 16 rfl
        have q17 : C.cell? ⟨w.heap.size, 17, none⟩ = some (.int .i64 r.dn.most) := blk_cell hkC.out 17 rfl
        have q18 : C.cell? ⟨w.heap.size, 18, none⟩ = some (.int .i64 r.dn.seed) := blk_cell hkC.out 18 rfl
        have hzC : w.heap.size < C.heap.size := lt_of_block hkC.out
        clear hC y0
        go_cut [7, 8] from 40 to 89 (fun v7 v8 wx => NCutB r C v7 v8 wx)
        case first =>
          go_region_with fail
          all_goals
            go_wp2_with fail
            go_meet
            first
              | exact ⟨_, _, rfl, rfl, by omega, Nat.le_refl _, by omega, blk_alloc (heap_new C _) _, heap_new' _ _ _ C9, Below.drew (((Below.refl _ C).alloc (Nat.le_refl _) _).alloc C9 _)⟩
              | exact ⟨_, _, rfl, rfl, by omega, by omega, Nat.le_refl _, heap_new' _ _ _ C9, blk_alloc (heap_new C _) _, Below.drew (((Below.refl _ C).alloc (Nat.le_refl _) _).alloc C9 _)⟩
              | exact ⟨_, _, rfl, rfl, by omega, Nat.le_refl _, by omega, blk_alloc (heap_new C _) _, heap_new' _ _ _ C9, below_drewN (((Below.refl _ C).alloc (Nat.le_refl _) _).alloc C9 _) _⟩
              | exact ⟨_, _, rfl, rfl, by omega, by omega, Nat.le_refl _, heap_new' _ _ _ C9, blk_alloc (heap_new C _) _, below_drewN (((Below.refl _ C).alloc (Nat.le_refl _) _).alloc C9 _) _⟩
        case rest =>
          obtain ⟨p7, p8, rfl, rfl, hne, hp7, hp8, g7, g8, hbx⟩ := hcut
          clear q9 q10 q11 q12 q13 q14 q15 q16 q17 q18
          have a4 : wc.cell? ⟨p7, 4, none⟩ = some (.int .i64 r.up.seed) := blk_cell g7 4 rfl
          have a5 : wc.cell? ⟨p8, 4, none⟩ = some (.int .i64 r.dn.seed) := blk_cell g8 4 rfl
          have b4 := blk_free g7 4
          have b5 := blk_free g8 4
          have G7 := Lib.hid g7
          have G8 := Lib.hid g8
          have HBX := Lib.hid hbx
          clear g7 g8 hbx
          go_upto_region 13 with fail
          generalize hD : World.setCell _ _ _ = D
          have hD7 := Lib.hid (show D.heap[p7]? = some (.cells #[.int .i64 r.up.loss, .int .i64 r.up.twice, .int .i64 r.up.least, .int .i64 r.up.most, .int .i64 (r.up.seed + ((j : Int) + 1))] 25 (0, 0)) by
            rw [← hD]
            have := blk_set G7.out 4 (.int .i64 (r.up.seed + ((j : Int) + 1)))
            rw [List.setIfInBounds_toArray] at this
            exact blk_keep this ((Keeps.refl (fun q => q = p8) _).setCell (p := ⟨p8, 4, none⟩) (.inl rfl) _) hne)
          have hD8 := Lib.hid (show D.heap[p8]? = some (.cells #[.int .i64 r.dn.loss, .int .i64 r.dn.twice, .int .i64 r.dn.least, .int .i64 r.dn.most, .int .i64 (r.dn.seed + ((j : Int) + 1))] 25 (0, 0)) by
            rw [← hD]
            have := blk_set (blk_keep G8.out ((Keeps.refl (fun q => q = p7) _).setCell (p := ⟨p7, 4, none⟩) (.inl rfl) (.int .i64 (r.up.seed + ((j : Int) + 1)))) (fun e => hne e.symm)) 4 (.int .i64 (r.dn.seed + ((j : Int) + 1)))
            rw [List.setIfInBounds_toArray] at this
            exact this)
          have HBD := Lib.hid (show Below C.heap.size C D by rw [← hD]; exact (HBX.out.setCell (p := ⟨p7, 4, none⟩) hp7 _).setCell (p := ⟨p8, 4, none⟩) hp8 _)
          clear hD a4 a5 b4 b5 G7 G8 HBX
          have kD := Lib.hid (blk_below hkC.out HBD.out hzC)
          have cD := Lib.hid (blk_below hcC.out HBD.out (lt_of_block hcC.out))
          have hzD := HBD.out.size
          have hcl := lt_of_block hcC.out
          have hwr := HB.out.size
          have HZD := Lib.hid hzD
          have HCL := Lib.hid hcl
          have HWR := Lib.hid hwr
          clear hzD hcl hwr
          have q3 : D.cell? ⟨w.heap.size, 3, none⟩ = some (.int .i64 r.drift) := blk_cell kD.out 3 rfl
          have q4 : D.cell? ⟨w.heap.size, 4, none⟩ = some (.int .i64 r.lost) := blk_cell kD.out 4 rfl
          have q5 : D.cell? ⟨w.heap.size, 5, none⟩ = some (.int .i64 r.ret) := blk_cell kD.out 5 rfl
          have q6 : D.cell? ⟨w.heap.size, 6, none⟩ = some (.int .i64 r.desc) := blk_cell kD.out 6 rfl
          have q7 : D.cell? ⟨w.heap.size, 7, none⟩ = some (.int .i64 r.late) := blk_cell kD.out 7 rfl
          have q8 : D.cell? ⟨w.heap.size, 8, none⟩ = some (.int .i64 r.every) := blk_cell kD.out 8 rfl
          have PNj := Lib.hid (PN.out j hlt)
          go_upto_region 14 with ((go_at_call 64; refine (PNj.out _).mono ?_; rintro e w6 ⟨pb, pc, rfl, hp6, hb6⟩; have k6 := blk_below cD.out hb6 (lt_of_block cD.out); have f6 := blk_free k6 0; have d6 : w6.cell? ⟨wr.heap.size, 0, none⟩ = some (.pointer none) := blk_cell k6 0 rfl; have HB6 := Lib.hid hb6; have HP6 := Lib.hid hp6; have K6 := Lib.hid k6; clear hb6 hp6 k6))
          generalize hE : World.setCell _ _ _ = E
          have KE := Lib.hid (show Keeps (fun q => q = wr.heap.size) w6 E by rw [← hE]; exact (Keeps.refl (fun q => q = wr.heap.size) w6).setCell (p := ⟨wr.heap.size, 0, none⟩) (.inl rfl) _)
          have cE := Lib.hid (show E.heap[wr.heap.size]? = some (.cells #[.pointer (some ⟨pb, 0, none⟩), .pointer none, .pointer none, .int .i64 0] 108 (0, 0)) by
            rw [← hE]
            have := blk_set K6.out 0 (.pointer (some ⟨pb, 0, none⟩))
            rw [List.setIfInBounds_toArray] at this
            exact this)
          have E7 := Lib.hid (blk_keep (blk_below hD7.out HB6.out (lt_of_block hD7.out)) KE.out (by have := HCL.out; omega))
          have E8 := Lib.hid (blk_keep (blk_below hD8.out HB6.out (lt_of_block hD8.out)) KE.out (by have := HCL.out; omega))
          have hpn : pb ≠ wr.heap.size ∧ pc ≠ wr.heap.size := by have h1 := HP6.out.ge; have h2 := HCL.out; have h3 := HZD.out; constructor <;> omega
          have PE := Lib.hid (HP6.out.kept KE.out hpn.1 hpn.2)
          have SE := Lib.hid (show D.heap.size ≤ w6.heap.size ∧ E.heap.size = w6.heap.size from ⟨HB6.out.size, by rw [← hE]; simp⟩)
          have hDp := Lib.hid HP6.out.ge
          have KDE := Lib.hid (show Keeps (fun q => q = wr.heap.size) D E from (Keeps.of_below HB6.out).trans KE.out (fun _ _ h => h))
          clear hE q3 q4 q5 q6 q7 q8 d6 f6 hpn K6
          have s0 := blk_cell E7.out 0 rfl
          have s1 := blk_cell E7.out 1 rfl
          have s2 := blk_cell E7.out 2 rfl
          have s3 := blk_cell E7.out 3 rfl
          have s4 := blk_cell E7.out 4 rfl
          have UNj := Lib.hid (show ∀ W, Calls Tryz.prog 65 #[.agg #[.int .i64 r.up.loss, .int .i64 r.up.twice, .int .i64 r.up.least, .int .i64 r.up.most, .int .i64 (r.up.seed + ((j : Int) + 1))]] W (NewPost (Nt.lru r.up j) W) from UN.out j hlt)
          have DNj := Lib.hid (show ∀ W, Calls Tryz.prog 65 #[.agg #[.int .i64 r.dn.loss, .int .i64 r.dn.twice, .int .i64 r.dn.least, .int .i64 r.dn.most, .int .i64 (r.dn.seed + ((j : Int) + 1))]] W (NewPost (Nt.lru r.dn j) W) from DN.out j hlt)
          go_upto_region 15 with ((go_at_call 65; refine (UNj.out _).mono ?_; rintro e w7 ⟨ub, rfl, hp7', hb7⟩; have k7 := blk_below cE.out hb7 (lt_of_block cE.out); have f7 := blk_free k7 1; have d7 : w7.cell? ⟨wr.heap.size, 1, none⟩ = some (.pointer none) := blk_cell k7 1 rfl; have HB7 := Lib.hid hb7; have HP7 := Lib.hid hp7'; have K7 := Lib.hid k7; clear hb7 hp7' k7))
          generalize hF : World.setCell _ _ _ = F
          have KF := Lib.hid (show Keeps (fun q => q = wr.heap.size) w7 F by rw [← hF]; exact (Keeps.refl (fun q => q = wr.heap.size) w7).setCell (p := ⟨wr.heap.size, 1, none⟩) (.inl rfl) _)
          have cF := Lib.hid (show F.heap[wr.heap.size]? = some (.cells #[.pointer (some ⟨pb, 0, none⟩), .pointer (some ⟨ub, 0, none⟩), .pointer none, .int .i64 0] 108 (0, 0)) by
            rw [← hF]
            have := blk_set K7.out 1 (.pointer (some ⟨ub, 0, none⟩))
            rw [List.setIfInBounds_toArray] at this
            exact this)
          have F8 := Lib.hid (blk_keep (blk_below E8.out HB7.out (lt_of_block E8.out)) KF.out (by have := HCL.out; omega))
          have SF := Lib.hid (show E.heap.size ≤ w7.heap.size ∧ F.heap.size = w7.heap.size from ⟨HB7.out.size, by rw [← hF]; simp⟩)
          have UF := Lib.hid (HP7.out.kept KF.out (fun q hq => by have h1 := HP7.out.two_ge q hq; have h2 := HCL.out; have h3 := HZD.out; have h4 := SE.out; omega))
          have KEF := Lib.hid (show Keeps (fun q => q = wr.heap.size) E F from (Keeps.of_below HB7.out).trans KF.out (fun _ _ h => h))
          clear hF s0 s1 s2 s3 s4 d7 f7 K7
          have s0 := blk_cell F8.out 0 rfl
          have s1 := blk_cell F8.out 1 rfl
          have s2 := blk_cell F8.out 2 rfl
          have s3 := blk_cell F8.out 3 rfl
          have s4 := blk_cell F8.out 4 rfl
          go_upto_region 16 with ((go_at_call 65; refine (DNj.out _).mono ?_; rintro e w8 ⟨db, rfl, hp8', hb8⟩; have k8 := blk_below cF.out hb8 (lt_of_block cF.out); have f8 := blk_free k8 2; have d8 : w8.cell? ⟨wr.heap.size, 2, none⟩ = some (.pointer none) := blk_cell k8 2 rfl; have HB8 := Lib.hid hb8; have HP8 := Lib.hid hp8'; have K8 := Lib.hid k8; clear hb8 hp8' k8))
          generalize hG : World.setCell _ _ _ = G
          have KG := Lib.hid (show Keeps (fun q => q = wr.heap.size) w8 G by rw [← hG]; exact (Keeps.refl (fun q => q = wr.heap.size) w8).setCell (p := ⟨wr.heap.size, 2, none⟩) (.inl rfl) _)
          have cG := Lib.hid (show G.heap[wr.heap.size]? = some (.cells #[.pointer (some ⟨pb, 0, none⟩), .pointer (some ⟨ub, 0, none⟩), .pointer (some ⟨db, 0, none⟩), .int .i64 0] 108 (0, 0)) by
            rw [← hG]
            have := blk_set K8.out 2 (.pointer (some ⟨db, 0, none⟩))
            rw [List.setIfInBounds_toArray] at this
            exact this)
          have SG := Lib.hid (show F.heap.size ≤ w8.heap.size ∧ G.heap.size = w8.heap.size from ⟨HB8.out.size, by rw [← hG]; simp⟩)
          have DG := Lib.hid (HP8.out.kept KG.out (fun q hq => by have h1 := HP8.out.two_ge q hq; have h2 := HCL.out; have h3 := HZD.out; have h4 := SE.out; have h5 := SF.out; omega))
          have KFG := Lib.hid (show Keeps (fun q => q = wr.heap.size) F G from (Keeps.of_below HB8.out).trans KG.out (fun _ _ h => h))
          have hsz := Lib.hid (show C.heap.size ≤ D.heap.size ∧ D.heap.size ≤ E.heap.size ∧ E.heap.size ≤ F.heap.size ∧ F.heap.size ≤ G.heap.size ∧ wr.heap.size < C.heap.size ∧ w.heap.size ≤ wr.heap.size by
            have h1 := SE.out; have h2 := SF.out; have h3 := SG.out; have h4 := HZD.out; have h5 := HCL.out; have h6 := HWR.out; omega)
          have KRG := Lib.hid (show Keeps (fun _ => False) wr G from
            (((Keeps.of_below (S := fun _ => False) (HBC.out.trans (HBD.out.mono HBC.out.size))).trans KDE.out (fun q h hq => by omega)).trans KEF.out (fun q h hq => by omega)).trans KFG.out (fun q h hq => by omega))
          have PG := Lib.hid ((PE.out.kept KEF.out B6 B6).kept KFG.out B6 B6)
          have UG := Lib.hid (UF.out.kept KFG.out (fun q hq => by have h1 := UF.out.two_ge q hq; have h2 := hsz.out; omega))
          clear hG s0 s1 s2 s3 s4 d8 f8 K8
          have IG := Lib.hid (HI.out.kept KRG.out (fun _ _ h => h))
          have ER := Lib.hid (show Row G w.heap.size 108 4 m.CA j m.cc (ccls m.cs (Nt.newCrs r j)) by
            have := IG.out.crow
            rw [show (Nt.newK r j).cr.length = j from Nt.newCrs_len r j] at this
            exact this)
          have c25 : G.cell? ⟨b, 25, none⟩ = some (.slice m.CA j m.cc) := by
            have : G.cell? ⟨b, 25, none⟩ = some (.slice m.CA (Nt.newK r j).cr.length m.cc) := blk_cell IG.out.blk 25 rfl
            rw [show (Nt.newK r j).cr.length = j from Nt.newCrs_len r j] at this
            exact this
          have HBL := Lib.hid (lt_of_block HI.out.blk)
          have HGB := Lib.hid (show w.heap.size ≤ G.heap.size by have := hsz.out; omega)
          have t0 := blk_cell (l := [.pointer (some ⟨pb, 0, none⟩), .pointer (some ⟨ub, 0, none⟩), .pointer (some ⟨db, 0, none⟩), .int .i64 0]) cG.out 0 rfl
          have t1 := blk_cell (l := [.pointer (some ⟨pb, 0, none⟩), .pointer (some ⟨ub, 0, none⟩), .pointer (some ⟨db, 0, none⟩), .int .i64 0]) cG.out 1 rfl
          have t2 := blk_cell (l := [.pointer (some ⟨pb, 0, none⟩), .pointer (some ⟨ub, 0, none⟩), .pointer (some ⟨db, 0, none⟩), .int .i64 0]) cG.out 2 rfl
          have t3 := blk_cell (l := [.pointer (some ⟨pb, 0, none⟩), .pointer (some ⟨ub, 0, none⟩), .pointer (some ⟨db, 0, none⟩), .int .i64 0]) cG.out 3 rfl
          have hgb := HGB.out
          have hbG : b < G.heap.size := lt_of_block IG.out.blk
          have ca := fun (o : Obj) => (World.cell?_alloc_lt G o ⟨b, 25, none⟩ hbG).trans c25
          clear PN UN DN PNj UNj DNj KE KF KG HBC HBD hcC cD cE cF E7 E8 F8 HB6 HB7 HB8 HP6 HP7 HP8 PE hD7 hD8 KDE KEF KFG h5 h6 wu wd u0 d0 hne hp7 hp8 hzC
          go_region_law (first | (refine step_append_row rfl (.tmp 83) (.tmp 85) 83 rfl w.heap.size 108 j0 _ 4 32 Tryz.underlying83 hj0 jza jzb jzc rfl m.CA j m.cc (ccls m.cs (Nt.newCrs r j)) rfl Ar ⟨G.heap.size, 0, none⟩ 1 1 [.pointer (some ⟨pb, 0, none⟩), .pointer (some ⟨ub, 0, none⟩), .pointer (some ⟨db, 0, none⟩), .int .i64 0] rfl rfl (fun k u hu => by rw [addr_add, Nat.zero_add]; exact blk_cell (l := [_, _, _, _]) Aw k hu) Bt Cb Bn Cb (by simp; try omega) ?_; intro CA2 cc2 w9 hrow hg hat; have K9 := Lib.hid (show Keeps (fun i => blkOf m.CA = some i) G w9 from Keeps.trans (S' := fun i => blkOf m.CA = some i) Ak (Keeps.of_grown hg (fun g e => e)) (fun _ _ h => h)); have kb9 := Lib.hid (blk_keep IG.out.blk K9.out (fun e => (IG.out.crow.ty e).ne ⟨_, IG.out.blk⟩ C8 rfl)); have f9 := blk_free kb9.out 25; have c9 := (show w9.cell? ⟨b, 25, none⟩ = some (.slice m.CA (Nt.newK r j).cr.length m.cc) from blk_cell kb9.out 25 rfl); have AT := Lib.hid (show blkOf CA2 = blkOf m.CA ∨ ∃ g, blkOf CA2 = some g ∧ G.heap.size ≤ g from hat.imp id (fun e => ⟨_, e, by simp⟩)); have RO := Lib.hid hrow; clear hrow hg hat; simp only [List.getElem_toArray, List.getElem_cons_succ, List.getElem_cons_zero, Act.put, List.setIfInBounds_toArray, List.set_cons_zero, List.set_cons_succ]))
          all_goals
            go_wp2_with fail
            go_roundw
            case rel =>
              have HSb := blk_set kb9.out 25 (.slice CA2 (j + 1) cc2)
              have hlen : (Nt.newCrs r j).length = j := Nt.newCrs_len r j
              have KW := (KRG.out.mono (S' := fun q => q = b ∨ blkOf m.CA = some q) (fun _ _ h => h.elim)).trans K9.out (fun q _ hq => .inr hq)
              have KWW := KW.setCell (p := ⟨b, 25, none⟩) (.inl (.inl rfl)) (.slice CA2 (j + 1) cc2)
              have KGG := ((K9.out.mono (S' := fun q => q < wr.heap.size) (fun q _ hq => (HI.out.crow.lt hq).2)).setCell (p := ⟨b, 25, none⟩) (.inl HBL.out) (.slice CA2 (j + 1) cc2))
              have hz := hsz.out
              have hdp := hDp.out
              have hub := UF.out.two _ (.inl rfl)
              have PW := PG.out.kept KGG (by show ¬ pb < wr.heap.size; omega) (by show ¬ pc < wr.heap.size; omega)
              have UW := UG.out.kept KGG (fun q hq => by have := UG.out.two_ge q hq; show ¬ q < wr.heap.size; omega)
              have DW := DG.out.kept KGG (fun q hq => by have := DG.out.two_ge q hq; show ¬ q < wr.heap.size; omega)
              refine ⟨j + 1, { m with CA := CA2, cc := cc2, cs := m.cs ++ [⟨pb, pc, ub, none, 0, db, none, 0⟩] }, by go_num, by omega, Lib.hid ?_, Lib.hid ?_, Lib.hid ?_⟩
              · have e : Nt.newK r (j + 1) = { Nt.newK r j with cr := (Nt.newK r j).cr ++ [Nt.newCr r j] } := by unfold Nt.newK; rw [Nt.newCrs_succ]
                rw [e]
                refine HI.out.push KWW ?_ ?_ ?_ ?_
                · rw [List.setIfInBounds_toArray] at HSb
                  rw [HSb]
                  simp [ncl, Nt.newK, hlen]
                · have hr := RO.out.far (p := ⟨b, 25, none⟩) (fun g hg e => by
                    have hge := HBL.out
                    rcases AT.out with h1 | ⟨q, h1, h2⟩
                    · exact (HI.out.crow.ty (h1 ▸ hg)).ne ⟨_, HI.out.blk⟩ C8 e
                    · rw [h1] at hg
                      injection hg with hg
                      have e : g = b := e
                      omega) (.slice CA2 (j + 1) cc2)
                  rw [ccls_snoc _ _ _ _ HI.out.len, List.length_append, List.length_singleton]
                  rw [show (Nt.newK r j).cr.length = j from hlen]
                  exact hr
                · rw [show (Nt.newK r j).cr.length = j from hlen]
                  exact ⟨⟨PW.blk, PW.clk, by show w.heap.size ≤ pb; omega, by show w.heap.size ≤ pc; omega⟩, ⟨UW.blk, UW.row.more (by show w.heap.size ≤ E.heap.size; omega), by have := UW.ge; show w.heap.size ≤ ub; omega⟩, ⟨DW.blk, DW.row.more (by show w.heap.size ≤ F.heap.size; omega), by have := DW.ge; show w.heap.size ≤ db; omega⟩, fun q hq hq' => by
                    have h1 := DG.out.two_ge q hq'
                    rcases hq with rfl | hq
                    · omega
                    · cases hq⟩
                · intro q hq
                  rcases hq with hq | hq | hq | hq
                  · have hq : q = pb := hq
                    omega
                  · have hq : q = pc := hq
                    omega
                  · have := UG.out.two_ge q hq; omega
                  · have := DG.out.two_ge q hq; omega
              · exact blk_keep HK.out KWW (fun hq => by
                  rcases hq with hq | hq
                  · have := HSB.out; omega
                  · exact (HI.out.crow.ty hq).ne ⟨_, HK.out⟩ C8 rfl)
              · exact HB.out.trans (KWW.below (fun q _ hq => by
                  rcases hq with hq | hq
                  · have := HSB.out; omega
                  · exact (HI.out.crow.lt hq).1) Cb)
            case measure => simp [intOf]; omega
      · obtain rfl : j = n := by omega
        have ik : ¬ ((j : Int) < (j : Int)) := by omega
        go_wp2_with fail
        go_ret2
        refine ⟨wc.heap.size + 1, m, rfl, ?_, HB.out⟩
        rw [Nt.new, HN.out.1]
        exact HI.out
end
end Go.Proofs.YtdocdgcdldpagaaGreat

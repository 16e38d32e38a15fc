import Derived.Test.YtdocdgcdldpagaaGreatAp
import Derived.Test.YtdocdgcdldpagaaGreatAv20
import Derived.Test.YtdocdgcdldpagaaGreatAv04
namespace Go.Proofs.YtdocdgcdldpagaaGreat
open Go.RowKit
set_option maxHeartbeats 8000000
set_option maxRecDepth 100000
set_option linter.unusedSimpArgs false
set_option linter.unusedVariables false
attribute [local go_sem ↓] Go.wp_at_zero Go.wp_at_succ
theorem Ri.newL (w : World) (l : List Int) (h : I64 l) : Ri (w.alloc (.cells (iv l).toArray 3)) (w.heap.size + 1) (some ⟨w.heap.size, 0, none⟩) l.length l := by
  refine ⟨rfl, h, fun _ => ⟨_, 0, rfl, by omega, fun i hi => ?_⟩⟩
  rw [Nat.zero_add]
  refine blk_cell (l := iv l) (heap_new _ _) i ?_
  simp [iv, List.getD, List.getElem?_eq_getElem hi]
theorem reps_set (cur : Array Value) (o n i : Nat) (l : List Stn.Rep) (x : Stn.Rep) (h : (cur.toList.drop o).take (n * 3) = repcs l) (hl : l.length = n) (hi : i < n) (hfit : o + n * 3 ≤ cur.size) :
    ((setL cur (o + i * 3) (repc x)).toList.drop o).take (n * 3) = repcs (l.set i x) := by
  apply List.ext_getElem?
  intro k
  rw [List.getElem?_take, List.getElem?_drop, Array.getElem?_toList]
  by_cases hk : k < n * 3
  · rw [if_pos hk, get_setL _ _ _ _ Cb]
    have hr := repcs_at (l.set i x) (k / 3) (k % 3) (by rw [List.length_set]; omega) Cb
    rw [show k / 3 * 3 + k % 3 = k by omega] at hr
    rw [hr]
    have hr0 := repcs_at l (k / 3) (k % 3) Cb Cb
    rw [show k / 3 * 3 + k % 3 = k by omega, ← h, List.getElem?_take, if_pos hk, List.getElem?_drop, Array.getElem?_toList] at hr0
    have h3 : (repc x).length = 3 := rfl
    by_cases hki : k / 3 = i
    · rw [if_pos (by rw [h3]; omega)]
      rw [List.getElem_set, if_pos hki.symm]
      congr 1; omega
    · rw [if_neg (by rw [h3]; omega), hr0, List.getElem_set, if_neg (fun e => hki e.symm)]
  · rw [if_neg hk, List.getElem?_eq_none]
    rw [length_repcs, List.length_set]; omega
section
variable {w w' : World} {base b mc rc : Nat} {MA RA : Option Addr} {s : Stn.St}
theorem recv_rep (h : IsSt w base b MA mc RA rc s) (hs : Stn.Inv s) (now k f t q : Int) (D : Option Addr) (n cap : Nat) (d : List Int) (hd : Rd w w.heap.size D n d) (hD : ∀ a, D = some a → a.block ≠ b) (he : Stn.recvE s now ⟨k, f, t, q, d⟩ = 0) (p : Int) (hr : readV ⟨k, f, t, q, d⟩ = .iface 232 (.agg #[.int .i64 p])) (i : Nat) (hfi : f = (i : Int) + 1) :
    Calls Tryz.prog 103 #[.pointer (some ⟨b, 0, none⟩), .int .i64 now, .agg #[.int .i64 k, .int .i64 f, .int .i64 t, .int .i64 q, .slice D n cap]] w (StPost base b MA RA rc (Stn.reported { s with now := now } (i + 1) p now) [⟨7, 0, f, q, Frm.num4 now ++ Frm.num4 now⟩] 0 w) := by
  obtain ⟨hv, ht, hf, hte⟩ := recvE_ok he
  simp only [hd.1] at hv ht hf
  have hn64 : n ≤ 64 := (Frm.vd_bd hv).2.2.2.2
  have HL := Lib.hid h
  have HD := Lib.hid hd
  have HDN := Lib.hid hD
  have N := Lib.hid (fun (W : World) (hW : Below w.heap.size w W) => (h.below hW (Nat.le_refl _)).none hs)
  have CH := Lib.hid (fun (W : World) (hW : Below w.heap.size w W) => stcheck_any (h.below hW (Nat.le_refl _)) now)
  have VA := Lib.hid (fun (W : World) => valid_any k f t q D n cap W Cb)
  have RD := Lib.hid (fun (W : World) (hW : Rd W W.heap.size D n d) => read_any k f t q D n cap d W hW hn64)
  rw [hr] at RD
  rw [hv] at VA
  rw [hte] at CH
  have c0 : w.cell? ⟨b, 0, none⟩ = some (.int .i64 s.n) := blk_cell h.blk 0 rfl
  have hb := h.lt
  have hsn := hs.n
  have z : (t != 0) = false := by simpa using ht
  have hf' : decide ((s.n : Int) < f) = false := by rw [decide_eq_false_iff_not]; omega
  have kx : (w.alloc (.cells #[.int .i64 k, .int .i64 f, .int .i64 t, .int .i64 q, .slice D n cap] 147)).heap[w.heap.size]? = _ := heap_new _ _
  have ta1 : ∀ W : World, (Instr.typeAssert (.iface 232 (.agg #[.int .i64 p])) 20 226 true).run Tryz.prog W = .ok (.tuple #[.agg #[.int .u8 0], .bool false]) W := fun W => by kernel_rfl
  have ta2 : ∀ W : World, (Instr.typeAssert (.iface 232 (.agg #[.int .i64 p])) 20 232 true).run Tryz.prog W = .ok (.tuple #[.agg #[.int .i64 p], .bool true]) W := fun W => by kernel_rfl
  have hnow := Stn.timeE_ok hte
  have hnow2 := hs.now
  have hin : i < s.n := by omega
  have hsl := hs.seen
  obtain ⟨g, o, cur, rfl, hge, hg, hgb, hnc, hcm, hfit, hcur, hcell, hfrz⟩ := h.rrow.some_ Cb
  have hgb0 : g ≠ b := h.rne rfl
  obtain ⟨v0, kk0⟩ : ∃ v, w.cell? ⟨g, o + (i * 3 + 0), none⟩ = some v := ⟨_, hcell (i * 3 + 0) _ B5⟩
  obtain ⟨v1, kk1⟩ : ∃ v, w.cell? ⟨g, o + (i * 3 + 1), none⟩ = some v := ⟨_, hcell (i * 3 + 1) _ B5⟩
  obtain ⟨v2, kk2⟩ : ∃ v, w.cell? ⟨g, o + (i * 3 + 2), none⟩ = some v := ⟨_, hcell (i * 3 + 2) _ B5⟩
  have HGB := Lib.hid hgb
  have HFT := Lib.hid hfit
  have HCU := Lib.hid hcur
  have HSL := Lib.hid hsl
  have HFI := Lib.hid hfi
  have HINV := Lib.hid hs
  have hok : Frm.okAll [now, now] = true := by simp [Frm.okAll, Frm.okN_iff]; omega
  have PN := Lib.hid (fun (W : World) (A : Option Addr) (hW : Ri W W.heap.size A 2 [now, now]) => put_yes A 2 2 [now, now] W hW Cb hok)
  have KK0 := Lib.hid kk0
  have KK1 := Lib.hid kk1
  have KK2 := Lib.hid kk2
  have HFF := Lib.hid hfit
  have HCM := Lib.hid (show s.n ≤ rc ∧ rc ≤ maxLen from ⟨hnc, hcm⟩)
  have HNW := Lib.hid (show 0 ≤ now ∧ now ≤ 3600000 by omega)
  clear h hs hd hD he hr hv ht hf hte hcell hgb hcur hsl hok hfrz hcm hfit hnc kk0 kk1 kk2 hnow hnow2 hfi
  go_enter Tryz.func103, Tryz.ntmps103; go_wp2_with fail; refine (N.out _ A9).mono ?_; rintro e w1 ⟨rfl, rfl⟩; go_wp2_with fail; (have cx_0 := blk_cell kx 0 rfl; have fx_0 := blk_free kx 0; have cx_1 := blk_cell kx 1 rfl; have fx_1 := blk_free kx 1; have cx_2 := blk_cell kx 2 rfl; have fx_2 := blk_free kx 2; have cx_3 := blk_cell kx 3 rfl; have fx_3 := blk_free kx 3; have cx_4 := blk_cell kx 4 rfl; have fx_4 := blk_free kx 4; have lx := lt_of_block kx); (first | (go_region_held3 (fun w' => w'.cell? ⟨w.heap.size, 0, none⟩ = some (.int .i64 k) ∧ w'.cell? ⟨w.heap.size, 1, none⟩ = some (.int .i64 f) ∧ w'.cell? ⟨w.heap.size, 2, none⟩ = some (.int .i64 t) ∧ w'.cell? ⟨w.heap.size, 3, none⟩ = some (.int .i64 q) ∧ w'.cell? ⟨w.heap.size, 4, none⟩ = some (.slice D n cap) ∧ w'.cell? ⟨b, 0, none⟩ = some (.int .i64 s.n)) (first | (refine ⟨?_, ?_, ?_, ?_, ?_, ?_⟩ <;> simp [go_sem, *]; done) | go_keep) (first | (go_at_call 133; refine (VA.out _).mono ?_; rintro e w4 ⟨rfl, hb4⟩; have hz4 := hb4.size; (try simp at hz4); have HB4 := (show Below w.heap.size w w4 from A9); have k4 := blk_below (q := w.heap.size) Ae hb4 Ba; (have cz_0 := blk_cell k4 0 rfl; have fz_0 := blk_free k4 0; have cz_1 := blk_cell k4 1 rfl; have fz_1 := blk_free k4 1; have cz_2 := blk_cell k4 2 rfl; have fz_2 := blk_free k4 2; have cz_3 := blk_cell k4 3 rfl; have fz_3 := blk_free k4 3; have cz_4 := blk_cell k4 4 rfl; have fz_4 := blk_free k4 4; have lz := lt_of_block k4); have e0 : w4.cell? ⟨b, 0, none⟩ = some (.int .i64 s.n) := ((bcell hb4).1 b _ Ba).trans Bz))) | fail); clear cx_0 fx_0 cx_1 fx_1 cx_2 fx_2 cx_3 fx_3 cx_4 fx_4 lx; go_wp2_with fail
  have hS4 := HL.out.below HB4 (Nat.le_refl _); have f3 := blk_free hS4.blk 3; have c3 : w4.cell? ⟨b, 3, none⟩ = some (.int .i64 s.now) := blk_cell hS4.blk 3 rfl; have HS4 := Lib.hid hS4; have hz44 := HB4.size; have hne : w.heap.size ≠ b := Cb; have HBB := Lib.hid HB4; clear hS4; refine (CH.out _ HB4).mono ?_; rintro e w5 ⟨rfl, rfl⟩; go_wp2_with fail; refine (RD.out _ (((HD.out.below HB4 (Nat.le_refl _)).far (p := ⟨b, 3, none⟩) HDN.out _).more Bk)).mono ?_; rintro e w6 ⟨rfl, hb6⟩; have hz6 := hb6.size; (try simp at hz6); have HS6 := Lib.hid ((HS4.out.set 3 (.int .i64 now) { s with now := now } rfl rfl rfl rfl).below hb6 (Nat.le_refl _)); have k6 := blk_below (q := w.heap.size) (blk_far k4 Bh _) hb6 Bk; have HK6 := Lib.hid (show Keeps (fun i => i = b) w w6 from (((Keeps.of_below (S := fun i => i = b) HB4).set1 3 _).trans (Keeps.of_below (S := fun i => i = b) hb6) (fun _ _ h => h))); have hz66 : w4.heap.size ≤ w6.heap.size := hz6; clear c3 f3 hb6 k4 cz_0 fz_0 cz_1 fz_1 cz_2 fz_2 cz_3 fz_3 cz_4 fz_4 lz e0 HB4; (have cy_0 := blk_cell k6 0 rfl; have fy_0 := blk_free k6 0; have cy_1 := blk_cell k6 1 rfl; have fy_1 := blk_free k6 1; have cy_2 := blk_cell k6 2 rfl; have fy_2 := blk_free k6 2; have cy_3 := blk_cell k6 3 rfl; have fy_3 := blk_free k6 3; have cy_4 := blk_cell k6 4 rfl; have fy_4 := blk_free k6 4; have ly := lt_of_block k6)
  have c10 : w6.cell? ⟨b, 10, none⟩ = some (.slice (some ⟨g, o, none⟩) s.n rc) := blk_cell HS6.out.blk 10 rfl
  have hb6 := HS6.out.lt
  have hgw : w6.heap[g]? = some (.cells cur 165 (0, 0)) := blk_keep HGB.out HK6.out hgb0
  have hg6 := lt_of_block hgw
  have e0 : w6.cell? ⟨g, o + i * 3, none⟩ = some v0 := ((World.cell?_of_block (a := ⟨g, o + i * 3, none⟩) (hgw.trans HGB.out.symm))).trans KK0.out
  have e1 : w6.cell? ⟨g, o + i * 3 + 1, none⟩ = some v1 := ((World.cell?_of_block (a := ⟨g, o + i * 3 + 1, none⟩) (hgw.trans HGB.out.symm))).trans (by rw [Nat.add_assoc]; exact KK1.out)
  have e2 : w6.cell? ⟨g, o + i * 3 + 2, none⟩ = some v2 := ((World.cell?_of_block (a := ⟨g, o + i * 3 + 2, none⟩) (hgw.trans HGB.out.symm))).trans (by rw [Nat.add_assoc]; exact KK2.out)
  have z0 := blk_free hgw (o + i * 3)
  have z1 := blk_free hgw (o + i * 3 + 1)
  have z2 := blk_free hgw (o + i * 3 + 2)
  have HGW := Lib.hid hgw
  have wf : IntKind.i64.wrap (f - 1) = (i : Int) := by rw [HFI.out]; rw [IntWalk.i64_in _ Cb]; omega
  have wi : (i : Int) < (s.n : Int) := by omega
  clear hgw
  go_wp2_with fail
  go_region
  go_wp2_with fail
  obtain ⟨V3, hV3⟩ : ∃ V3, V3 = ((w6.setCell ⟨g, o + i * 3, none⟩ (.bool true)).setCell ⟨g, o + i * 3 + 1, none⟩ (.int .i64 p)).setCell ⟨g, o + i * 3 + 2, none⟩ (.int .i64 now) := ⟨_, rfl⟩
  rw [← hV3]
  have hV3' : V3 = w6.setCells g (o + i * 3) (repc (true, p, now)) := hV3
  have hvg : V3.heap[g]? = some (.cells (setL cur (o + i * 3) (repc (true, p, now))) 165 (0, 0)) := by
    rw [hV3']; exact setCells_blk g _ _ _ _ _ HGW.out
  have hvk : Keeps (fun j => j = g) w6 V3 := by rw [hV3']; exact setCells_keeps g _ _ _ _ (Keeps.refl _ _)
  have hvs : V3.heap.size = w6.heap.size := by rw [hV3]; simp [World.setCell]
  have hvx : V3.heap[w.heap.size]? = some (.cells #[.int .i64 k, .int .i64 f, .int .i64 t, .int .i64 q, .slice D n cap] 147 (0, 0)) := blk_keep k6 hvk Cb
  have hSV : IsSt V3 base b MA mc (some ⟨g, o, none⟩) rc (Stn.reported { s with now := now } (i + 1) p now) := by
    refine ⟨blk_keep HS6.out.blk hvk (fun e => hgb0 e.symm), HS6.out.mrow.kept hvk (fun j hj e => (HS6.out.mrow.ty hj).ne (f := 165) ⟨_, HGW.out⟩ C8 e), ?_, HS6.out.ge⟩
    have hfit := HFF.out
    have hrc := HCM.out
    have hsz : s.n * 3 ≤ rc * 3 := Nat.mul_le_mul_right _ hrc.1
    refine Row.of_block hvg hge hrc.1 hrc.2 (by rw [size_setL]; exact hfit) ?_
    have := reps_set cur o s.n i s.seen (true, p, now) HCU.out HSL.out hin Cb
    exact this
  have HSV := Lib.hid hSV
  have HVK := Lib.hid hvk
  have HVX := Lib.hid hvx
  have HVS := Lib.hid hvs
  have hvs' : w6.heap.size ≤ V3.heap.size := by omega
  clear hV3 hV3' hvg hvk hvx hSV e0 e1 e2 z0 z1 z2 k6 cy_0 fy_0 cy_1 fy_1 cy_2 fy_2 cy_3 fy_3 cy_4 fy_4 ly c10
  refine (PN.out _ _ (by
    have h0 := HNW.out
    have := Ri.newL (V3.alloc (.cells #[.int .i64 p] 232)) [now, now] (by intro y hy; simp at hy; omega)
    have e1 : (V3.alloc (.cells #[.int .i64 p] 232)).heap.size = w6.heap.size + 1 := by simp [HVS.out]
    rw [e1] at this
    exact this.more (by simp [HVS.out]))).mono ?_
  rintro e wA ⟨A8, c8, rfl, hO8, hbA⟩
  have hzA := hbA.size
  (try simp at hzA)
  have kA := blk_below (q := w.heap.size) (blk_drew (blk_alloc (blk_alloc HVX.out _) _)) hbA (by have := lt_of_block HVX.out; simp; omega)
  have HBA := Lib.hid (show Below V3.heap.size V3 wA from A9)
  have HO8 := Lib.hid (show Ow wA w.heap.size A8 8 c8 (Frm.num4 now ++ Frm.num4 now) from hO8.more (by have := HVS.out; have := HK6.out.size; simp; omega))
  have cv_0 := blk_cell kA 0 rfl; have fv_0 := blk_free kA 0; have cv_1 := blk_cell kA 1 rfl; have fv_1 := blk_free kA 1; have cv_2 := blk_cell kA 2 rfl; have fv_2 := blk_free kA 2; have cv_3 := blk_cell kA 3 rfl; have fv_3 := blk_free kA 3; have cv_4 := blk_cell kA 4 rfl; have fv_4 := blk_free kA 4; have lv := lt_of_block kA
  clear hbA hO8 kA
  go_wp2_with fail
  go_ret2
  have hws : w.heap.size ≤ wA.heap.size := by have := HVS.out; have := HK6.out.size; omega
  have hfa := (HSV.out.below HBA.out (Nat.le_refl _)).alloc (.cells #[.int .i64 7, .int .i64 0, .int .i64 f, .int .i64 q, .slice A8 8 c8] 147)
  refine ⟨_, MA, mc, rfl, hfa, ?_, ⟨[⟨⟨7, 0, f, q, Frm.num4 now ++ Frm.num4 now⟩, A8, c8⟩], rfl, World.ownsRow_lit wA #[.int .i64 7, .int .i64 0, .int .i64 f, .int .i64 q, .slice A8 8 c8] 1 hws Bv rfl, fun y hy => ?_⟩, .inl rfl⟩
  · exact (((HK6.out.mono (fun i _ hi => .inl hi)).trans HVK.out (fun j _ hj => .inr (.inr (by rw [hj]; rfl)))).trans (Keeps.of_below (S := fun _ => False) HBA.out) (fun _ _ h => h.elim)).alloc _
  · rw [List.mem_singleton.1 hy]
    exact HO8.out.alloc _
end
end Go.Proofs.YtdocdgcdldpagaaGreat
namespace Go.Proofs.YtdocdgcdldpagaaGreat
open Go.RowKit
set_option linter.unusedSimpArgs false
set_option linter.unusedVariables false
section
variable {w w' : World} {base b mc rc : Nat} {MA RA : Option Addr} {s : Stn.St}
theorem recv_any (h : IsSt w base b MA mc RA rc s) (hs : Stn.Inv s) (now : Int) (y : Fr) (D : Option Addr) (cap : Nat) (hn : y.d.length ≤ 140737488355328) (hd : Rd w w.heap.size D y.d.length y.d) (hD : ∀ a, D = some a → a.block ≠ b) :
    Calls Tryz.prog 103 #[.pointer (some ⟨b, 0, none⟩), .int .i64 now, .agg #[.int .i64 y.k, .int .i64 y.f, .int .i64 y.t, .int .i64 y.s, .slice D y.d.length cap]] w (StPost base b MA RA rc (Stn.recv s now y) (Stn.recvF s now y) (Stn.recvE s now y) w) := by
  obtain ⟨k, f, t, q, d⟩ := y
  simp only at hn hd ⊢
  by_cases he : Stn.recvE s now ⟨k, f, t, q, d⟩ = 0
  · have e1 : Stn.recv s now ⟨k, f, t, q, d⟩ = Stn.recv1 s now ⟨k, f, t, q, d⟩ := by unfold Stn.recv; rw [if_pos he]
    have hok := recvE_ok he
    have hx0 := hd.2.1.at_ 0
    rw [he, e1]
    by_cases h1 : d.length = 1
    · by_cases h8 : k = 8
      · have hr : readV ⟨k, f, t, q, d⟩ = .iface 226 (.agg #[.int .u8 (d.getD 0 0)]) := by unfold readV; rw [if_pos h1, if_pos h8]
        have hrep : Stn.isRep ⟨k, f, t, q, d⟩ = false := by unfold Stn.isRep; simp [h8]
        have e2 : Stn.recvF s now ⟨k, f, t, q, d⟩ = [] := by unfold Stn.recvF; rw [if_neg (by simp [hrep])]
        rw [e2]
        by_cases ha : s.cmd ≠ 0 ∧ q = s.seq ∧ d.getD 0 0 = s.cmd
        · have hack : Stn.isAck s ⟨k, f, t, q, d⟩ = true := by unfold Stn.isAck; simp only [decide_eq_true h8, decide_eq_true ha.1, decide_eq_true ha.2.1, decide_eq_true ha.2.2]; rfl
          obtain ⟨m, hm⟩ : ∃ m : Nat, f = (m : Int) := ⟨f.toNat, by have := Frm.vd_iff.1 hok.1; simp only at this; omega⟩
          have hvd := Frm.vd_iff.1 hok.1
          have hfn := hok.2.2.1
          simp only at hvd hfn
          have hmn : 1 ≤ m ∧ m ≤ s.n := by omega
          have e3 : Stn.recv1 s now ⟨k, f, t, q, d⟩ = Stn.acked { s with now := now } m := by unfold Stn.recv1; rw [if_pos h1, if_pos hack]; simp only [hm, Int.toNat_natCast]
          rw [e3]
          by_cases hmem : m ∈ Stn.miss s
          · exact recv_ack h hs now k f t q D d.length cap d hd hD he _ hr ha.1 ha.2.1 ha.2.2 m hm hmn hmem
          · rw [acked_same { s with now := now } (Stn.inv_now hs hok.2.2.2) m ha.1 hmn hmem]
            exact recv_again h hs now k f t q D d.length cap d hd hD he _ hr ha.1 ha.2.1 ha.2.2 m hm hmem
        · have hack : Stn.isAck s ⟨k, f, t, q, d⟩ = false := by
            unfold Stn.isAck
            rw [Bool.eq_false_iff]
            intro hh
            simp only [Bool.and_eq_true, decide_eq_true_eq] at hh
            exact ha ⟨hh.1.1.2, hh.1.2, hh.2⟩
          have e3 : Stn.recv1 s now ⟨k, f, t, q, d⟩ = { s with now := now } := by unfold Stn.recv1; rw [if_pos h1, if_neg (by simp [hack]), if_neg (by simp [hrep])]
          rw [e3]
          exact recv_nack h hs now k f t q D d.length cap d hd hD he _ hr (by
            by_cases g1 : s.cmd = 0
            · exact .inl g1
            · by_cases g2 : q = s.seq
              · exact .inr (.inr (fun g3 => ha ⟨g1, g2, g3⟩))
              · exact .inr (.inl g2))
      · have hack : Stn.isAck s ⟨k, f, t, q, d⟩ = false := by unfold Stn.isAck; simp [h8]
        by_cases h7 : d.getD 0 0 ≤ 7
        · have hr : readV ⟨k, f, t, q, d⟩ = .iface 232 (.agg #[.int .i64 (d.getD 0 0)]) := by unfold readV; rw [if_pos h1, if_neg h8, if_pos h7]
          have hrep : Stn.isRep ⟨k, f, t, q, d⟩ = true := by unfold Stn.isRep; rw [decide_eq_true h8, decide_eq_true h7]; rfl
          have hvd := Frm.vd_iff.1 hok.1
          have ht := hok.2.1
          simp only at hvd ht
          obtain ⟨i, hi⟩ : ∃ i : Nat, f = (i : Int) + 1 := ⟨(f - 1).toNat, by omega⟩
          have e2 : Stn.recvF s now ⟨k, f, t, q, d⟩ = [⟨7, 0, f, q, Frm.num4 now ++ Frm.num4 now⟩] := by unfold Stn.recvF; rw [if_pos ⟨he, h1, hrep⟩]
          have e3 : Stn.recv1 s now ⟨k, f, t, q, d⟩ = Stn.reported { s with now := now } (i + 1) (d.getD 0 0) now := by unfold Stn.recv1; rw [if_pos h1, if_neg (by simp [hack]), if_pos hrep]; simp only [hi]; rw [show ((i : Int) + 1).toNat = i + 1 by omega]
          rw [e2, e3]
          exact recv_rep h hs now k f t q D d.length cap d hd hD he _ hr i hi
        · have hr : readV ⟨k, f, t, q, d⟩ = .nilIface := by unfold readV; rw [if_pos h1, if_neg h8, if_neg h7]
          have hrep : Stn.isRep ⟨k, f, t, q, d⟩ = false := by unfold Stn.isRep; rw [decide_eq_false h7]; simp
          have e2 : Stn.recvF s now ⟨k, f, t, q, d⟩ = [] := by unfold Stn.recvF; rw [if_neg (by simp [hrep])]
          have e3 : Stn.recv1 s now ⟨k, f, t, q, d⟩ = { s with now := now } := by unfold Stn.recv1; rw [if_pos h1, if_neg (by simp [hack]), if_neg (by simp [hrep])]
          rw [e2, e3]
          exact recv_none h hs now k f t q D d.length cap d hd hD he hr
    · have hr : readV ⟨k, f, t, q, d⟩ = .nilIface := by unfold readV; rw [if_neg h1]
      have e2 : Stn.recvF s now ⟨k, f, t, q, d⟩ = [] := by unfold Stn.recvF; rw [if_neg (fun hh => h1 hh.2.1)]
      have e3 : Stn.recv1 s now ⟨k, f, t, q, d⟩ = { s with now := now } := by unfold Stn.recv1; rw [if_neg h1]
      rw [e2, e3]
      exact recv_none h hs now k f t q D d.length cap d hd hD he hr
  · have e1 : Stn.recv s now ⟨k, f, t, q, d⟩ = s := by unfold Stn.recv; rw [if_neg he]
    have e2 : Stn.recvF s now ⟨k, f, t, q, d⟩ = [] := by unfold Stn.recvF; rw [if_neg (fun hh => he hh.1)]
    rw [e1, e2]
    refine (strecv_no h hs now k f t q D d.length cap d rfl hn he).mono ?_
    rintro e w' ⟨rfl, hB⟩
    exact StPost.same h hB _
end
end Go.Proofs.YtdocdgcdldpagaaGreat
namespace Go.Proofs.YtdocdgcdldpagaaGreat.Ck
open Go.RowKit
set_option maxHeartbeats 4000000
set_option linter.unusedSimpArgs false
set_option linter.unusedVariables false
set_option maxRecDepth 100000
def AddPost (w : World) (b : Nat) (d r : Int) (s : Bool) (lo hi a g k h : Int) (e : Ending) (w' : World) : Prop :=
  e = .returned (.int .i64 (Clk.addE d r s lo hi a g k h)) ∧ IsClk w' b d (Clk.addR d r s lo hi a g k h) true (Clk.addS d r s lo hi a g k h) (Clk.addLo d r s lo hi a g k h) (Clk.addHi d r s lo hi a g k h) ∧ w.grownBy w' (some b)
theorem post_err {w w' : World} {b : Nat} {d r : Int} {s : Bool} {lo hi a g k h n : Int} (hE : Clk.addE d r s lo hi a g k h = n) (hn : n ≠ 0) (hk : IsClk w' b d r true s lo hi) (hg : w.grownBy w' (some b)) : AddPost w b d r s lo hi a g k h (.returned (.int .i64 n)) w' := by
  have : ¬ Clk.addE d r s lo hi a g k h = 0 := by omega
  exact ⟨by rw [hE], by rw [Clk.addR, Clk.addS, Clk.addLo, Clk.addHi, if_neg this, if_neg this, if_neg this, if_neg this]; exact hk, hg⟩
theorem post_ok {w w' : World} {b : Nat} {d r : Int} {s : Bool} {lo hi a g k h x y : Int} (hE : Clk.addE d r s lo hi a g k h = 0) (h1 : Clk.nLo d r s lo hi k h = x) (h2 : Clk.nHi d r s hi a g h = y) (hk : IsClk w' b d h true true x y) (hg : w.grownBy w' (some b)) : AddPost w b d r s lo hi a g k h (.returned (.int .i64 0)) w' :=
  ⟨by rw [hE], by rw [Clk.addR, Clk.addS, Clk.addLo, Clk.addHi, if_pos hE, if_pos hE, if_pos hE, if_pos hE, h1, h2]; exact hk, hg⟩
def AddCut (w : World) (b : Nat) (d r : Int) (s : Bool) (lo hi a g k h : Int) (s5 s6 : Value) (wx : World) : Prop :=
  ∃ q : Nat, s5 = .pointer (some ⟨q, 0, none⟩) ∧ s6 = .int .i64 (Clk.rE g d (h - a)) ∧ IsClk wx b d r true s lo hi ∧ wx.heap[w.heap.size]? = some (.cells #[.int .i64 a, .int .i64 g, .int .i64 k, .int .i64 h] 246 (0, 0)) ∧
    wx.heap[q]? = some (.cells #[.int .i64 (Clk.rLo g g d (h - a)), .int .i64 (Clk.rHi g d (h - a))] 65 (0, 0)) ∧ w.heap.size < q ∧ Below w.heap.size w wx
def NextCut (wc : World) (b : Nat) (d r : Int) (lo hi a g k h : Int) (q z : Nat) (s8 s9 : Value) (wy : World) : Prop :=
  ∃ p : Nat, s8 = .pointer (some ⟨p, 0, none⟩) ∧ s9 = .int .i64 (Clk.rE hi d (h - r)) ∧ IsClk wy b d r true true lo hi ∧ wy.heap[z]? = some (.cells #[.int .i64 a, .int .i64 g, .int .i64 k, .int .i64 h] 246 (0, 0)) ∧
    wy.heap[q]? = some (.cells #[.int .i64 (Clk.rLo g g d (h - a)), .int .i64 (Clk.rHi g d (h - a))] 65 (0, 0)) ∧ wy.heap[wc.heap.size]? = some (.cells #[.int .i64 (Clk.rLo g g d (h - a)), .int .i64 (Clk.rHi g d (h - a))] 65 (0, 0)) ∧
    wy.heap[p]? = some (.cells #[.int .i64 (Clk.rLo lo hi d (h - r)), .int .i64 (Clk.rHi hi d (h - r))] 65 (0, 0)) ∧ wc.heap.size < p ∧ Below wc.heap.size wc wy
end Go.Proofs.YtdocdgcdldpagaaGreat.Ck
namespace Go.Proofs.YtdocdgcdldpagaaGreat.Ck
open Go.RowKit
set_option maxHeartbeats 4000000
set_option linter.unusedSimpArgs false
set_option linter.unusedVariables false
set_option maxRecDepth 100000
theorem add_bad (b : Nat) (d r : Int) (s : Bool) (lo hi a g k h : Int) (w : World) (hk : IsClk w b d r true s lo hi) (x : ¬ (-1073741824 ≤ a ∧ a ≤ h ∧ h ≤ 1073741824 ∧ 0 ≤ g ∧ g ≤ k ∧ k ≤ 3600000)) :
    Calls Tryz.prog 165 #[.pointer (some ⟨b, 0, none⟩), .agg #[.int .i64 a, .int .i64 g, .int .i64 k, .int .i64 h]] w fun e w' => AddPost w b d r s lo hi a g k h e w' := by
  have X := Clk.addE_bad (d := d) (r := r) (s := s) (lo := lo) (hi := hi) (show Clk.xOk a g k h = false from by have := (not_congr (Clk.xOk_iff (a := a) (g := g) (k := k) (h := h))).2 x; simpa using this)
  have X := Lib.hid X
  obtain ⟨q0, q1, q2, q3, q4, q5⟩ := clk_cells hk; obtain ⟨z0, z1, z2, z3, z4, z5⟩ := clk_free hk; have hlt := clk_lt hk
  have x' : (a < -1073741824) ∨ (-1073741824 ≤ a ∧ h < a) ∨ (-1073741824 ≤ a ∧ a ≤ h ∧ 1073741824 < h) ∨ (-1073741824 ≤ a ∧ a ≤ h ∧ h ≤ 1073741824 ∧ g < 0) ∨ (-1073741824 ≤ a ∧ a ≤ h ∧ h ≤ 1073741824 ∧ 0 ≤ g ∧ k < g) ∨ (-1073741824 ≤ a ∧ a ≤ h ∧ h ≤ 1073741824 ∧ 0 ≤ g ∧ g ≤ k ∧ 3600000 < k) := by omega
  clear x
  rcases x' with x | ⟨x1, x2⟩ | ⟨x1, x2, x3⟩ | ⟨x1, x2, x3, x4⟩ | ⟨x1, x2, x3, x4, x5⟩ | ⟨x1, x2, x3, x4, x5, x6⟩
  all_goals
    go_enter Tryz.func165, Tryz.ntmps165
    go_wp2_with (first | (go_at_call 125; refine (none_made b d r s lo hi _ Af).mono ?_; rintro e w' ⟨rfl, rfl⟩))
    go_ret
    exact post_err X.out C8 Af Ab
end Go.Proofs.YtdocdgcdldpagaaGreat.Ck
namespace Go.Proofs.YtdocdgcdldpagaaGreat.Ck
open Go.RowKit
set_option maxHeartbeats 4000000
set_option linter.unusedSimpArgs false
set_option linter.unusedVariables false
set_option maxRecDepth 100000
theorem add_first (b : Nat) (d r : Int) (lo hi a g k h : Int) (w : World) (hk : IsClk w b d r true false lo hi) (h0 : 0 ≤ d) (h1 : d ≤ 100000) (x1 : -1073741824 ≤ a) (x2 : a ≤ h) (x3 : h ≤ 1073741824) (x4 : 0 ≤ g) (x5 : g ≤ k) (x6 : k ≤ 3600000) :
    Calls Tryz.prog 165 #[.pointer (some ⟨b, 0, none⟩), .agg #[.int .i64 a, .int .i64 g, .int .i64 k, .int .i64 h]] w fun e w' => AddPost w b d r false lo hi a g k h e w' := by
  obtain ⟨q0, q1, q2, q3, q4, q5⟩ := clk_cells hk; obtain ⟨z0, z1, z2, z3, z4, z5⟩ := clk_free hk; have hlt := clk_lt hk
  have X := Clk.xOk_iff.2 ⟨x1, x2, x3, x4, x5, x6⟩
  have k1 := IntWalk.i64_in (h - a) Cb
  have hk1 : IsClk (w.alloc (.cells #[.int .i64 a, .int .i64 g, .int .i64 k, .int .i64 h] 50)) b d r true false lo hi := clk_alloc hk _
  go_enter Tryz.func165, Tryz.ntmps165
  go_upto_region 5 with (first | (go_at_call 125; refine (none_made b d r false lo hi _ Af).mono ?_; rintro e w' ⟨rfl, rfl⟩))
  go_cut [5, 6] (fun s5 s6 wx => AddCut w b d r false lo hi a g k h s5 s6 wx)
  case first =>
    go_region_held3 (fun w' => w'.cell? ⟨b, 0, none⟩ = some (.int .i64 d) ∧ w'.cell? ⟨w.heap.size, 0, none⟩ = some (.int .i64 a) ∧ w'.cell? ⟨w.heap.size, 1, none⟩ = some (.int .i64 g) ∧ w'.cell? ⟨w.heap.size, 3, none⟩ = some (.int .i64 h)) (first | (refine ⟨?_, ?_, ?_, ?_⟩ <;> simp [go_sem, *]) | go_keep) (first | (go_at_call 127; refine (grow_any g g d (h - a) _ Cb Cb Cb h0 h1 Cb Cb).mono ?_; rintro e w2 ⟨rfl, hb2⟩; have hz2 := hb2.size; simp at hz2; have hk2 := clk_below (show IsClk _ b d r true false lo hi from Af) hb2 C6; obtain ⟨q20, q21, q22, q23, q24, q25⟩ := clk_cells hk2; obtain ⟨z20, z21, z22, z23, z24, z25⟩ := clk_free hk2; have hlt2 := clk_lt hk2; have hx2 := blk_below (q := w.heap.size) Ae hb2 Ba; have cx2_0 := blk_cell hx2 0 rfl; have fx2_0 := blk_free hx2 0; have cx2_1 := blk_cell hx2 1 rfl; have fx2_1 := blk_free hx2 1; have cx2_2 := blk_cell hx2 2 rfl; have fx2_2 := blk_free hx2 2; have cx2_3 := blk_cell hx2 3 rfl; have fx2_3 := blk_free hx2 3; have lx2 := lt_of_block hx2; try (have hq2 := blk_below (q := w.heap.size + 1) Ae hb2 Ba; have cq2_0 := blk_cell hq2 0 rfl; have fq2_0 := blk_free hq2 0; have cq2_1 := blk_cell hq2 1 rfl; have fq2_1 := blk_free hq2 1; have lq2 := lt_of_block hq2)))
    all_goals (go_wp2_with fail; go_meet)
    all_goals refine ⟨_, rfl, rfl, Af, Aa, Aa, ?_, A9⟩
    all_goals (first | omega | (simp <;> omega))
  case rest =>
    obtain ⟨q, rfl, rfl, hk3, hx, hq, hlq, hbx⟩ := hcut
    have hz3 := hbx.size
    obtain ⟨q30, q31, q32, q33, q34, q35⟩ := clk_cells hk3; obtain ⟨z30, z31, z32, z33, z34, z35⟩ := clk_free hk3; have hlt3 := clk_lt hk3
    have cx_0 := blk_cell hx 0 rfl; have fx_0 := blk_free hx 0; have cx_1 := blk_cell hx 1 rfl; have fx_1 := blk_free hx 1; have cx_2 := blk_cell hx 2 rfl; have fx_2 := blk_free hx 2; have cx_3 := blk_cell hx 3 rfl; have fx_3 := blk_free hx 3; have lx := lt_of_block hx
    have cq_0 := blk_cell hq 0 rfl; have fq_0 := blk_free hq 0; have cq_1 := blk_cell hq 1 rfl; have fq_1 := blk_free hq 1; have lq := lt_of_block hq
    go_wp2_with fail
    · obtain ⟨e1, e2⟩ := Clk.first_said (r := r) (lo := lo) (hi := hi) X ‹_›
      go_ret
      exact post_err e1 e2 Af Ab
    · have e1 := Clk.first_check (r := r) (lo := lo) (hi := hi) X ‹_› ‹_›
      go_ret
      exact post_err e1 C8 Af Ab
    · have E1 := Lib.hid (Clk.first_ok (r := r) (lo := lo) (hi := hi) X ‹_› ‹_›)
      go_region
      all_goals go_wp2_with fail
      all_goals go_ret
      all_goals exact post_ok E1.out rfl rfl Ac Ab
end Go.Proofs.YtdocdgcdldpagaaGreat.Ck
namespace Go.Proofs.YtdocdgcdldpagaaGreat.Ck
open Go.RowKit
set_option maxHeartbeats 4000000
set_option linter.unusedSimpArgs false
set_option linter.unusedVariables false
set_option maxRecDepth 100000
theorem add_early (b : Nat) (d r : Int) (lo hi a g k h : Int) (w : World) (hk : IsClk w b d r true true lo hi) (h0 : 0 ≤ d) (h1 : d ≤ 100000) (x1 : -1073741824 ≤ a) (x2 : a ≤ h) (x3 : h ≤ 1073741824) (x4 : 0 ≤ g) (x5 : g ≤ k) (x6 : k ≤ 3600000) (y : h < r) :
    Calls Tryz.prog 165 #[.pointer (some ⟨b, 0, none⟩), .agg #[.int .i64 a, .int .i64 g, .int .i64 k, .int .i64 h]] w fun e w' => AddPost w b d r true lo hi a g k h e w' := by
  obtain ⟨q0, q1, q2, q3, q4, q5⟩ := clk_cells hk; obtain ⟨z0, z1, z2, z3, z4, z5⟩ := clk_free hk; have hlt := clk_lt hk
  have X := Clk.xOk_iff.2 ⟨x1, x2, x3, x4, x5, x6⟩
  have k1 := IntWalk.i64_in (h - a) Cb
  go_enter Tryz.func165, Tryz.ntmps165
  go_upto_region 5 with (first | (go_at_call 125; refine (none_made b d r true lo hi _ Af).mono ?_; rintro e w' ⟨rfl, rfl⟩))
  go_cut [5, 6] (fun s5 s6 wx => AddCut w b d r true lo hi a g k h s5 s6 wx)
  case first =>
    go_region_held3 (fun w' => w'.cell? ⟨b, 0, none⟩ = some (.int .i64 d) ∧ w'.cell? ⟨w.heap.size, 0, none⟩ = some (.int .i64 a) ∧ w'.cell? ⟨w.heap.size, 1, none⟩ = some (.int .i64 g) ∧ w'.cell? ⟨w.heap.size, 3, none⟩ = some (.int .i64 h)) (first | (refine ⟨?_, ?_, ?_, ?_⟩ <;> simp [go_sem, *]) | go_keep) (first | (go_at_call 127; refine (grow_any g g d (h - a) _ Cb Cb Cb h0 h1 Cb Cb).mono ?_; rintro e w2 ⟨rfl, hb2⟩; have hz2 := hb2.size; simp at hz2; have hk2 := clk_below (show IsClk _ b d r true true lo hi from Af) hb2 C6; obtain ⟨q20, q21, q22, q23, q24, q25⟩ := clk_cells hk2; obtain ⟨z20, z21, z22, z23, z24, z25⟩ := clk_free hk2; have hlt2 := clk_lt hk2; have hx2 := blk_below (q := w.heap.size) Ae hb2 Ba; have cx2_0 := blk_cell hx2 0 rfl; have fx2_0 := blk_free hx2 0; have cx2_1 := blk_cell hx2 1 rfl; have fx2_1 := blk_free hx2 1; have cx2_2 := blk_cell hx2 2 rfl; have fx2_2 := blk_free hx2 2; have cx2_3 := blk_cell hx2 3 rfl; have fx2_3 := blk_free hx2 3; have lx2 := lt_of_block hx2; try (have hq2 := blk_below (q := w.heap.size + 1) Ae hb2 Ba; have cq2_0 := blk_cell hq2 0 rfl; have fq2_0 := blk_free hq2 0; have cq2_1 := blk_cell hq2 1 rfl; have fq2_1 := blk_free hq2 1; have lq2 := lt_of_block hq2)))
    all_goals (go_wp2_with fail; go_meet)
    all_goals refine ⟨_, rfl, rfl, Af, Aa, Aa, ?_, A9⟩
    all_goals (first | omega | (simp <;> omega))
  case rest =>
    obtain ⟨q, rfl, rfl, hk3, hx, hq, hlq, hbx⟩ := hcut
    have hz3 := hbx.size
    obtain ⟨q30, q31, q32, q33, q34, q35⟩ := clk_cells hk3; obtain ⟨z30, z31, z32, z33, z34, z35⟩ := clk_free hk3; have hlt3 := clk_lt hk3
    have cx_0 := blk_cell hx 0 rfl; have fx_0 := blk_free hx 0; have cx_1 := blk_cell hx 1 rfl; have fx_1 := blk_free hx 1; have cx_2 := blk_cell hx 2 rfl; have fx_2 := blk_free hx 2; have cx_3 := blk_cell hx 3 rfl; have fx_3 := blk_free hx 3; have lx := lt_of_block hx
    have cq_0 := blk_cell hq 0 rfl; have fq_0 := blk_free hq 0; have cq_1 := blk_cell hq 1 rfl; have fq_1 := blk_free hq 1; have lq := lt_of_block hq
    go_wp2_with fail
    go_quiet (fail)
    go_wp2_with fail
    go_ret
    exact post_err (Clk.addE_early (lo := lo) (hi := hi) X y) C8 Af Ab
end Go.Proofs.YtdocdgcdldpagaaGreat.Ck

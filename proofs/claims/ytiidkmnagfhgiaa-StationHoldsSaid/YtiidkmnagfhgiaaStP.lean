/- Receive of a report. -/
import Derived.Test.YtiidkmnagfhgiaaStO
namespace Go.Proofs.Ytiidkmnagfhgiaa
open Go.RowKit
set_option maxHeartbeats 8000000
set_option maxRecDepth 100000
set_option linter.unusedSimpArgs false
set_option linter.unusedVariables false
attribute [local go_sem ↓] Go.wp_at_zero Go.wp_at_succ
theorem Ri.newL (w : World) (l : List Int) (h : I64 l) : Ri (w.alloc (.cells (iv l).toArray 3)) (w.heap.size + 1) (some ⟨w.heap.size, 0, none⟩) l.length l := by
  refine ⟨rfl, h, fun _ => ⟨_, 0, rfl, by omega, fun i hi => ?_⟩⟩
  rw [Nat.zero_add]
  refine blk_cell (l := iv l) (heap_new _ _) i ?_
  simp [iv, List.getD, List.getElem?_eq_getElem hi]
theorem reps_set (cur : Array Value) (o n i : Nat) (l : List Stn.Rep) (x : Stn.Rep) (h : (cur.toList.drop o).take (n * 3) = repcs l) (hl : l.length = n) (hi : i < n) (hfit : o + n * 3 ≤ cur.size) :
    ((setL cur (o + i * 3) (repc x)).toList.drop o).take (n * 3) = repcs (l.set i x) := by
  apply List.ext_getElem?
  intro k
  rw [List.getElem?_take, List.getElem?_drop, Array.getElem?_toList]
  by_cases hk : k < n * 3
  · rw [if_pos hk, get_setL _ _ _ _ (by omega)]
    have hr := repcs_at (l.set i x) (k / 3) (k % 3) (by rw [List.length_set]; omega) (by omega)
    rw [show k / 3 * 3 + k % 3 = k by omega] at hr
    rw [hr]
    have hr0 := repcs_at l (k / 3) (k % 3) (by omega) (by omega)
    rw [show k / 3 * 3 + k % 3 = k by omega, ← h, List.getElem?_take, if_pos hk, List.getElem?_drop, Array.getElem?_toList] at hr0
    have h3 : (repc x).length = 3 := rfl
    by_cases hki : k / 3 = i
    · rw [if_pos (by rw [h3]; omega)]
      rw [List.getElem_set, if_pos hki.symm]
      congr 1; omega
    · rw [if_neg (by rw [h3]; omega), hr0, List.getElem_set, if_neg (fun e => hki e.symm)]
  · rw [if_neg hk, List.getElem?_eq_none]
    rw [length_repcs, List.length_set]; omega
section
variable {w w' : World} {base b mc rc : Nat} {MA RA : Option Addr} {s : Stn.St}
theorem recv_rep (h : IsSt w base b MA mc RA rc s) (hs : Stn.Inv s) (now k f t q : Int) (D : Option Addr) (n cap : Nat) (d : List Int) (hd : Rd w w.heap.size D n d) (hD : ∀ a, D = some a → a.block ≠ b) (he : Stn.recvE s now ⟨k, f, t, q, d⟩ = 0) (p : Int) (hr : readV ⟨k, f, t, q, d⟩ = .iface 106 (.agg #[.int .i64 p])) (i : Nat) (hfi : f = (i : Int) + 1) :
    Calls Try.prog 24 #[.pointer (some ⟨b, 0, none⟩), .int .i64 now, .agg #[.int .i64 k, .int .i64 f, .int .i64 t, .int .i64 q, .slice D n cap]] w (StPost base b MA RA rc (Stn.reported { s with now := now } (i + 1) p now) [⟨7, 0, f, q, Frm.num4 now ++ Frm.num4 now⟩] 0 w) := by
  obtain ⟨hv, ht, hf, hte⟩ := recvE_ok he
  simp only [hd.1] at hv ht hf
  have hn64 : n ≤ 64 := (Frm.vd_bd hv).2.2.2.2
  have HL := Lib.hid h
  have HD := Lib.hid hd
  have HDN := Lib.hid hD
  have N := Lib.hid (fun (W : World) (hW : Below w.heap.size w W) => (h.below hW (Nat.le_refl _)).none hs)
  have CH := Lib.hid (fun (W : World) (hW : Below w.heap.size w W) => check_any (h.below hW (Nat.le_refl _)) now)
  have VA := Lib.hid (fun (W : World) => valid_any k f t q D n cap W (by omega))
  have RD := Lib.hid (fun (W : World) (hW : Rd W W.heap.size D n d) => read_any k f t q D n cap d W hW hn64)
  rw [hr] at RD
  rw [hv] at VA
  rw [hte] at CH
  have c0 : w.cell? ⟨b, 0, none⟩ = some (.int .i64 s.n) := blk_cell h.blk 0 rfl
  have hb := h.lt
  have hsn := hs.n
  have z : (t != 0) = false := by simpa using ht
  have hf' : decide ((s.n : Int) < f) = false := by rw [decide_eq_false_iff_not]; omega
  have kx : (w.alloc (.cells #[.int .i64 k, .int .i64 f, .int .i64 t, .int .i64 q, .slice D n cap] 40)).heap[w.heap.size]? = _ := heap_new _ _
  have ta1 : ∀ W : World, (Instr.typeAssert (.iface 106 (.agg #[.int .i64 p])) 20 98 true).run Try.prog W = .ok (.tuple #[.agg #[.int .u8 0], .bool false]) W := fun W => by kernel_rfl
  have ta2 : ∀ W : World, (Instr.typeAssert (.iface 106 (.agg #[.int .i64 p])) 20 106 true).run Try.prog W = .ok (.tuple #[.agg #[.int .i64 p], .bool true]) W := fun W => by kernel_rfl
  have hnow := Stn.timeE_ok hte
  have hnow2 := hs.now
  have hin : i < s.n := by omega
  have hsl := hs.seen
  obtain ⟨g, o, cur, rfl, hge, hg, hgb, hnc, hcm, hfit, hcur, hcell, hfrz⟩ := h.rrow.some_ (by omega)
  have hgb0 : g ≠ b := h.rne rfl
  obtain ⟨v0, kk0⟩ : ∃ v, w.cell? ⟨g, o + (i * 3 + 0), none⟩ = some v := ⟨_, hcell (i * 3 + 0) _ (by rw [repcs_at _ _ _ (by omega) (by omega)]; rfl)⟩
  obtain ⟨v1, kk1⟩ : ∃ v, w.cell? ⟨g, o + (i * 3 + 1), none⟩ = some v := ⟨_, hcell (i * 3 + 1) _ (by rw [repcs_at _ _ _ (by omega) (by omega)]; rfl)⟩
  obtain ⟨v2, kk2⟩ : ∃ v, w.cell? ⟨g, o + (i * 3 + 2), none⟩ = some v := ⟨_, hcell (i * 3 + 2) _ (by rw [repcs_at _ _ _ (by omega) (by omega)]; rfl)⟩
  have HGB := Lib.hid hgb
  have HFT := Lib.hid hfit
  have HCU := Lib.hid hcur
  have HSL := Lib.hid hsl
  have HFI := Lib.hid hfi
  have HINV := Lib.hid hs
  have hok : Frm.okAll [now, now] = true := by simp [Frm.okAll, Frm.okN_iff]; omega
  have PN := Lib.hid (fun (W : World) (A : Option Addr) (hW : Ri W W.heap.size A 2 [now, now]) => put_yes A 2 2 [now, now] W hW (by omega) hok)
  have KK0 := Lib.hid kk0
  have KK1 := Lib.hid kk1
  have KK2 := Lib.hid kk2
  have HFF := Lib.hid hfit
  have HCM := Lib.hid (show s.n ≤ rc ∧ rc ≤ maxLen from ⟨hnc, hcm⟩)
  have HNW := Lib.hid (show 0 ≤ now ∧ now ≤ 3600000 by omega)
  clear h hs hd hD he hr hv ht hf hte hcell hgb hcur hsl hok hfrz hcm hfit hnc kk0 kk1 kk2 hnow hnow2 hfi
  go_enter Try.func24, Try.ntmps24; go_wp2_with fail; refine (N.out _ (by repeat (first | (with_reducible exact Below.refl _ _) | (with_reducible refine Below.drew ?_) | (with_reducible refine below_drewN ?_ _) | ((with_reducible refine Below.alloc ?_ ?_ _); rotate_left; (first | omega | (simp <;> omega)); rotate_right) | ((with_reducible refine Below.setCell ?_ ?_ _); rotate_left; (first | omega | (simp <;> omega)); rotate_right) | (with_reducible assumption) | (refine Below.trans ?_ (Below.mono (by assumption) ?_); rotate_left; (first | omega | (simp <;> omega)); rotate_right)))).mono ?_; rintro e w1 ⟨rfl, rfl⟩; go_wp2_with fail; (have cx_0 := blk_cell kx 0 rfl; have fx_0 := blk_free kx 0; have cx_1 := blk_cell kx 1 rfl; have fx_1 := blk_free kx 1; have cx_2 := blk_cell kx 2 rfl; have fx_2 := blk_free kx 2; have cx_3 := blk_cell kx 3 rfl; have fx_3 := blk_free kx 3; have cx_4 := blk_cell kx 4 rfl; have fx_4 := blk_free kx 4; have lx := lt_of_block kx); (first | (go_region_held3 (fun w' => w'.cell? ⟨w.heap.size, 0, none⟩ = some (.int .i64 k) ∧ w'.cell? ⟨w.heap.size, 1, none⟩ = some (.int .i64 f) ∧ w'.cell? ⟨w.heap.size, 2, none⟩ = some (.int .i64 t) ∧ w'.cell? ⟨w.heap.size, 3, none⟩ = some (.int .i64 q) ∧ w'.cell? ⟨w.heap.size, 4, none⟩ = some (.slice D n cap) ∧ w'.cell? ⟨b, 0, none⟩ = some (.int .i64 s.n)) (first | (refine ⟨?_, ?_, ?_, ?_, ?_, ?_⟩ <;> simp [go_sem, *]; done) | go_keep) (first | (go_at_call 46; refine (VA.out _).mono ?_; rintro e w4 ⟨rfl, hb4⟩; have hz4 := hb4.size; (try simp at hz4); have HB4 := (show Below w.heap.size w w4 from (by repeat (first | (with_reducible exact Below.refl _ _) | (with_reducible refine Below.drew ?_) | (with_reducible refine below_drewN ?_ _) | ((with_reducible refine Below.alloc ?_ ?_ _); rotate_left; (first | omega | (simp <;> omega)); rotate_right) | ((with_reducible refine Below.setCell ?_ ?_ _); rotate_left; (first | omega | (simp <;> omega)); rotate_right) | (with_reducible assumption) | (refine Below.trans ?_ (Below.mono (by assumption) ?_); rotate_left; (first | omega | (simp <;> omega)); rotate_right)))); have k4 := blk_below (q := w.heap.size) (by repeat (first | (with_reducible assumption) | ((with_reducible apply blk_far); rotate_left; (first | omega | (simp <;> omega)); rotate_right) | (with_reducible apply blk_drew) | (with_reducible apply blk_drewN) | (with_reducible exact heap_new _ _) | ((with_reducible apply heap_new'); (first | rfl | (simp <;> fail))) | (with_reducible apply blk_alloc))) hb4 (by first | omega | (simp; done) | (simp; omega)); (have cz_0 := blk_cell k4 0 rfl; have fz_0 := blk_free k4 0; have cz_1 := blk_cell k4 1 rfl; have fz_1 := blk_free k4 1; have cz_2 := blk_cell k4 2 rfl; have fz_2 := blk_free k4 2; have cz_3 := blk_cell k4 3 rfl; have fz_3 := blk_free k4 3; have cz_4 := blk_cell k4 4 rfl; have fz_4 := blk_free k4 4; have lz := lt_of_block k4); have e0 : w4.cell? ⟨b, 0, none⟩ = some (.int .i64 s.n) := ((bcell hb4).1 b _ (by first | omega | (simp; done) | (simp; omega))).trans (by simp [go_sem, *])))) | fail); clear cx_0 fx_0 cx_1 fx_1 cx_2 fx_2 cx_3 fx_3 cx_4 fx_4 lx; go_wp2_with fail
  have hS4 := HL.out.below HB4 (Nat.le_refl _); have f3 := blk_free hS4.blk 3; have c3 : w4.cell? ⟨b, 3, none⟩ = some (.int .i64 s.now) := blk_cell hS4.blk 3 rfl; have HS4 := Lib.hid hS4; have hz44 := HB4.size; have hne : w.heap.size ≠ b := (by omega); have HBB := Lib.hid HB4; clear hS4; refine (CH.out _ HB4).mono ?_; rintro e w5 ⟨rfl, rfl⟩; go_wp2_with fail; refine (RD.out _ (((HD.out.below HB4 (Nat.le_refl _)).far (p := ⟨b, 3, none⟩) HDN.out _).more (by simp [World.setCell]; omega))).mono ?_; rintro e w6 ⟨rfl, hb6⟩; have hz6 := hb6.size; (try simp at hz6); have HS6 := Lib.hid ((HS4.out.set 3 (.int .i64 now) { s with now := now } rfl rfl rfl rfl).below hb6 (Nat.le_refl _)); have k6 := blk_below (q := w.heap.size) (blk_far k4 (by show w.heap.size ≠ b; omega) _) hb6 (by simp [World.setCell]; omega); have HK6 := Lib.hid (show Keeps (fun i => i = b) w w6 from (((Keeps.of_below (S := fun i => i = b) HB4).set1 3 _).trans (Keeps.of_below (S := fun i => i = b) hb6) (fun _ _ h => h))); have hz66 : w4.heap.size ≤ w6.heap.size := hz6; clear c3 f3 hb6 k4 cz_0 fz_0 cz_1 fz_1 cz_2 fz_2 cz_3 fz_3 cz_4 fz_4 lz e0 HB4; (have cy_0 := blk_cell k6 0 rfl; have fy_0 := blk_free k6 0; have cy_1 := blk_cell k6 1 rfl; have fy_1 := blk_free k6 1; have cy_2 := blk_cell k6 2 rfl; have fy_2 := blk_free k6 2; have cy_3 := blk_cell k6 3 rfl; have fy_3 := blk_free k6 3; have cy_4 := blk_cell k6 4 rfl; have fy_4 := blk_free k6 4; have ly := lt_of_block k6)
  have c10 : w6.cell? ⟨b, 10, none⟩ = some (.slice (some ⟨g, o, none⟩) s.n rc) := blk_cell HS6.out.blk 10 rfl
  have hb6 := HS6.out.lt
  have hgw : w6.heap[g]? = some (.cells cur 88 (0, 0)) := blk_keep HGB.out HK6.out hgb0
  have hg6 := lt_of_block hgw
  have e0 : w6.cell? ⟨g, o + i * 3, none⟩ = some v0 := ((World.cell?_of_block (a := ⟨g, o + i * 3, none⟩) (hgw.trans HGB.out.symm))).trans KK0.out
  have e1 : w6.cell? ⟨g, o + i * 3 + 1, none⟩ = some v1 := ((World.cell?_of_block (a := ⟨g, o + i * 3 + 1, none⟩) (hgw.trans HGB.out.symm))).trans (by rw [Nat.add_assoc]; exact KK1.out)
  have e2 : w6.cell? ⟨g, o + i * 3 + 2, none⟩ = some v2 := ((World.cell?_of_block (a := ⟨g, o + i * 3 + 2, none⟩) (hgw.trans HGB.out.symm))).trans (by rw [Nat.add_assoc]; exact KK2.out)
  have z0 := blk_free hgw (o + i * 3)
  have z1 := blk_free hgw (o + i * 3 + 1)
  have z2 := blk_free hgw (o + i * 3 + 2)
  have HGW := Lib.hid hgw
  have wf : IntKind.i64.wrap (f - 1) = (i : Int) := by rw [HFI.out]; rw [IntWalk.i64_in _ (by omega)]; omega
  have wi : (i : Int) < (s.n : Int) := by omega
  clear hgw
  go_wp2_with fail
  go_region
  go_wp2_with fail
  obtain ⟨V3, hV3⟩ : ∃ V3, V3 = ((w6.setCell ⟨g, o + i * 3, none⟩ (.bool true)).setCell ⟨g, o + i * 3 + 1, none⟩ (.int .i64 p)).setCell ⟨g, o + i * 3 + 2, none⟩ (.int .i64 now) := ⟨_, rfl⟩
  rw [← hV3]
  have hV3' : V3 = w6.setCells g (o + i * 3) (repc (true, p, now)) := hV3
  have hvg : V3.heap[g]? = some (.cells (setL cur (o + i * 3) (repc (true, p, now))) 88 (0, 0)) := by
    rw [hV3']; exact setCells_blk g _ _ _ _ _ HGW.out
  have hvk : Keeps (fun j => j = g) w6 V3 := by rw [hV3']; exact setCells_keeps g _ _ _ _ (Keeps.refl _ _)
  have hvs : V3.heap.size = w6.heap.size := by rw [hV3]; simp [World.setCell]
  have hvx : V3.heap[w.heap.size]? = some (.cells #[.int .i64 k, .int .i64 f, .int .i64 t, .int .i64 q, .slice D n cap] 40 (0, 0)) := blk_keep k6 hvk (by omega)
  have hSV : IsSt V3 base b MA mc (some ⟨g, o, none⟩) rc (Stn.reported { s with now := now } (i + 1) p now) := by
    refine ⟨blk_keep HS6.out.blk hvk (fun e => hgb0 e.symm), HS6.out.mrow.kept hvk (fun j hj e => (HS6.out.mrow.ty hj).ne (f := 88) ⟨_, HGW.out⟩ (by decide) e), ?_, HS6.out.ge⟩
    have hfit := HFF.out
    have hrc := HCM.out
    have hsz : s.n * 3 ≤ rc * 3 := Nat.mul_le_mul_right _ hrc.1
    refine Row.of_block hvg hge hrc.1 hrc.2 (by rw [size_setL]; exact hfit) ?_
    have := reps_set cur o s.n i s.seen (true, p, now) HCU.out HSL.out hin (by omega)
    exact this
  have HSV := Lib.hid hSV
  have HVK := Lib.hid hvk
  have HVX := Lib.hid hvx
  have HVS := Lib.hid hvs
  have hvs' : w6.heap.size ≤ V3.heap.size := by omega
  clear hV3 hV3' hvg hvk hvx hSV e0 e1 e2 z0 z1 z2 k6 cy_0 fy_0 cy_1 fy_1 cy_2 fy_2 cy_3 fy_3 cy_4 fy_4 ly c10
  refine (PN.out _ _ (by
    have h0 := HNW.out
    have := Ri.newL (V3.alloc (.cells #[.int .i64 p] 106)) [now, now] (by intro y hy; simp at hy; omega)
    have e1 : (V3.alloc (.cells #[.int .i64 p] 106)).heap.size = w6.heap.size + 1 := by simp [HVS.out]
    rw [e1] at this
    exact this.more (by simp [HVS.out]))).mono ?_
  rintro e wA ⟨A8, c8, rfl, hO8, hbA⟩
  have hzA := hbA.size
  (try simp at hzA)
  have kA := blk_below (q := w.heap.size) (blk_drew (blk_alloc (blk_alloc HVX.out _) _)) hbA (by have := lt_of_block HVX.out; simp; omega)
  have HBA := Lib.hid (show Below V3.heap.size V3 wA from (by repeat (first | (with_reducible exact Below.refl _ _) | (with_reducible refine Below.drew ?_) | (with_reducible refine below_drewN ?_ _) | ((with_reducible refine Below.alloc ?_ ?_ _); rotate_left; (first | omega | (simp <;> omega)); rotate_right) | ((with_reducible refine Below.setCell ?_ ?_ _); rotate_left; (first | omega | (simp <;> omega)); rotate_right) | (with_reducible assumption) | (refine Below.trans ?_ (Below.mono (by assumption) ?_); rotate_left; (first | omega | (simp <;> omega)); rotate_right))))
  have HO8 := Lib.hid (show Ow wA w.heap.size A8 8 c8 (Frm.num4 now ++ Frm.num4 now) from hO8.more (by have := HVS.out; have := HK6.out.size; simp; omega))
  have cv_0 := blk_cell kA 0 rfl; have fv_0 := blk_free kA 0; have cv_1 := blk_cell kA 1 rfl; have fv_1 := blk_free kA 1; have cv_2 := blk_cell kA 2 rfl; have fv_2 := blk_free kA 2; have cv_3 := blk_cell kA 3 rfl; have fv_3 := blk_free kA 3; have cv_4 := blk_cell kA 4 rfl; have fv_4 := blk_free kA 4; have lv := lt_of_block kA
  clear hbA hO8 kA
  go_wp2_with fail
  go_ret2
  have hws : w.heap.size ≤ wA.heap.size := by have := HVS.out; have := HK6.out.size; omega
  have hfa := (HSV.out.below HBA.out (Nat.le_refl _)).alloc (.cells #[.int .i64 7, .int .i64 0, .int .i64 f, .int .i64 q, .slice A8 8 c8] 40)
  refine ⟨_, MA, mc, rfl, hfa, ?_, ⟨[⟨⟨7, 0, f, q, Frm.num4 now ++ Frm.num4 now⟩, A8, c8⟩], rfl, World.ownsRow_lit wA #[.int .i64 7, .int .i64 0, .int .i64 f, .int .i64 q, .slice A8 8 c8] 1 hws (by unfold maxLen; omega) rfl, fun y hy => ?_⟩, .inl rfl⟩
  · exact (((HK6.out.mono (fun i _ hi => .inl hi)).trans HVK.out (fun j _ hj => .inr (.inr (by rw [hj]; rfl)))).trans (Keeps.of_below (S := fun _ => False) HBA.out) (fun _ _ h => h.elim)).alloc _
  · rw [List.mem_singleton.1 hy]
    exact HO8.out.alloc _
end
end Go.Proofs.Ytiidkmnagfhgiaa

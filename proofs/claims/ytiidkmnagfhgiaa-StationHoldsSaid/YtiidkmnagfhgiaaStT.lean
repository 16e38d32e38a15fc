/- The reference's frames and Next. -/
import Derived.Test.YtiidkmnagfhgiaaStS
namespace Go.Proofs.Ytiidkmnagfhgiaa
open Go.RowKit
set_option maxHeartbeats 8000000
set_option maxRecDepth 100000
set_option linter.unusedSimpArgs false
set_option linter.unusedVariables false
attribute [local go_sem ↓] Go.wp_at_zero Go.wp_at_succ
theorem stnext_any (s : Stn.St) (hs : Stn.Inv s) (D : Option Addr) (dl dc : Nat) (A : Option Addr) (ac : Nat) (S : Option Addr) (sl sc : Nat) (w : World) (ha : Row w 0 4 1 A s.n ac (bools s.ack)) :
    Calls Try.prog 37 #[.agg #[.int .i64 s.again, .int .i64 s.st, .int .i64 s.now, .int .i64 s.seq, .bool s.some, .int .i64 s.prog, .int .i64 s.cmd, .slice D dl dc, .int .i64 s.sent, .slice A s.n ac, .slice S sl sc]] w fun e w' => e = .returned (.tuple #[.int .i64 (nextN s), .int .i64 (nextE s)]) ∧ Below w.heap.size w w' := by
  have M := Lib.hid (fun (W : World) (hW : Row W 0 4 1 A s.n ac (bools s.ack)) => rmissing_any s hs D dl dc A ac S sl sc W hW)
  have HA := Lib.hid ha
  have hb1 := hs.sent
  have hb2 := hs.again
  have hb3 := hs.now
  have k0 : (w.alloc (.cells #[.int .i64 s.again, .int .i64 s.st, .int .i64 s.now, .int .i64 s.seq, .bool s.some, .int .i64 s.prog, .int .i64 s.cmd, .slice D dl dc, .int .i64 s.sent, .slice A s.n ac, .slice S sl sc] 29)).heap[w.heap.size]? = _ := heap_new _ _
  have hml := (miss_bd s hs).1
  by_cases hm : Stn.miss s = []
  · have E1 := Lib.hid (show nextN s = 0 by unfold nextN; rw [if_pos hm])
    have E2 := Lib.hid (show nextE s = 9 by unfold nextE; rw [if_pos hm])
    rw [hm] at M
    clear ha hs hm hml
    go_enter Try.func37, Try.ntmps37
    go_wp2_with fail
    refine (M.out _ (HA.out.alloc _)).mono ?_
    rintro e w1 ⟨A', c', rfl, _, hB⟩
    have hz1 := hB.size
    go_wp2_with fail
    go_ret2
    rw [E1.out, E2.out]
    exact ⟨rfl, (by repeat (first | (with_reducible exact Below.refl _ _) | (with_reducible refine Below.drew ?_) | (with_reducible refine below_drewN ?_ _) | ((with_reducible refine Below.alloc ?_ ?_ _); rotate_left; (first | omega | (simp <;> omega)); rotate_right) | ((with_reducible refine Below.setCell ?_ ?_ _); rotate_left; (first | omega | (simp <;> omega)); rotate_right) | (with_reducible assumption) | (refine Below.trans ?_ (Below.mono (by assumption) ?_); rotate_left; (first | omega | (simp <;> omega)); rotate_right)))⟩
  · have E1 := Lib.hid (show nextN s = s.sent + s.again by unfold nextN; rw [if_neg hm])
    have E2 := Lib.hid (show nextE s = 0 by unfold nextE; rw [if_neg hm])
    have hl : 0 < (Stn.miss s).length := List.length_pos_iff.2 hm
    have z : (((Stn.miss s).length : Int) == 0) = false := by rw [beq_eq_false_iff_ne]; omega
    obtain ⟨n9, hn9⟩ : ∃ n9, n9 = (Stn.miss s).length := ⟨_, rfl⟩
    rw [← hn9] at M z
    clear ha hs hm hml hl hn9
    go_enter Try.func37, Try.ntmps37
    go_wp2_with fail
    refine (M.out _ (HA.out.alloc _)).mono ?_
    rintro e w1 ⟨A', c', rfl, _, hB⟩
    have hz1 := hB.size
    (try simp at hz1)
    have k1 := blk_below (q := w.heap.size) k0 hB (by simp)
    have ca_0 := blk_cell k1 0 rfl; have fa_0 := blk_free k1 0; have ca_1 := blk_cell k1 1 rfl; have fa_1 := blk_free k1 1; have ca_2 := blk_cell k1 2 rfl; have fa_2 := blk_free k1 2; have ca_3 := blk_cell k1 3 rfl; have fa_3 := blk_free k1 3; have ca_4 := blk_cell k1 4 rfl; have fa_4 := blk_free k1 4; have ca_5 := blk_cell k1 5 rfl; have fa_5 := blk_free k1 5; have ca_6 := blk_cell k1 6 rfl; have fa_6 := blk_free k1 6; have ca_7 := blk_cell k1 7 rfl; have fa_7 := blk_free k1 7; have ca_8 := blk_cell k1 8 rfl; have fa_8 := blk_free k1 8; have ca_9 := blk_cell k1 9 rfl; have fa_9 := blk_free k1 9; have ca_10 := blk_cell k1 10 rfl; have fa_10 := blk_free k1 10; have la := lt_of_block k1
    go_wp2_with fail
    go_ret2
    rw [E1.out, E2.out]
    exact ⟨rfl, (by repeat (first | (with_reducible exact Below.refl _ _) | (with_reducible refine Below.drew ?_) | (with_reducible refine below_drewN ?_ _) | ((with_reducible refine Below.alloc ?_ ?_ _); rotate_left; (first | omega | (simp <;> omega)); rotate_right) | ((with_reducible refine Below.setCell ?_ ?_ _); rotate_left; (first | omega | (simp <;> omega)); rotate_right) | (with_reducible assumption) | (refine Below.trans ?_ (Below.mono (by assumption) ?_); rotate_left; (first | omega | (simp <;> omega)); rotate_right)))⟩
theorem rframes_any (s : Stn.St) (hs : Stn.Inv s) (hc : s.cmd ≠ 0) (D : Option Addr) (dl dc : Nat) (A : Option Addr) (ac : Nat) (S : Option Addr) (sl sc : Nat) (w : World) (hdl : dl = (Stn.data s).length) (hd : Row w 0 5 1 D dl dc (bv (Stn.data s))) (ha : Row w 0 4 1 A s.n ac (bools s.ack)) (hby : By (Stn.data s)) (hdn : dl ≤ 1000) :
    Calls Try.prog 57 #[.agg #[.int .i64 s.again, .int .i64 s.st, .int .i64 s.now, .int .i64 s.seq, .bool s.some, .int .i64 s.prog, .int .i64 s.cmd, .slice D dl dc, .int .i64 s.sent, .slice A s.n ac, .slice S sl sc]] w fun e w' => ∃ v, e = .returned v ∧ Rof w' w.heap.size v (Stn.frames s) ∧ Below w.heap.size w w' := by
  obtain ⟨i0, hi0, hz0, hz1, hz2⟩ := info_parts info_fr
  obtain ⟨i1, hj0, hj1, hj2, hj3⟩ := info_parts info_u8
  have HD := Lib.hid hd
  have HA := Lib.hid ha
  have HBY := Lib.hid hby
  have hn := hs.n
  have HAL := Lib.hid hs.ack
  have HDL := Lib.hid hdl
  have FE := Lib.hid (show Stn.frames s = (Stn.missFrom 1 s.ack).map (fun (i : Nat) => (⟨s.cmd, 0, (i : Int), s.seq, Stn.data s⟩ : Fr)) by unfold Stn.frames; rw [miss_cmd s hc])
  have k0 : (w.alloc (.cells #[.int .i64 s.again, .int .i64 s.st, .int .i64 s.now, .int .i64 s.seq, .bool s.some, .int .i64 s.prog, .int .i64 s.cmd, .slice D dl dc, .int .i64 s.sent, .slice A s.n ac, .slice S sl sc] 29)).heap[w.heap.size]? = _ := heap_new _ _
  have K0 := Lib.hid k0
  obtain ⟨dt, hdt⟩ : ∃ dt, dt = Stn.data s := ⟨_, rfl⟩
  rw [← hdt] at HD HBY HDL FE
  clear hd ha hby hs hc hdl k0 hdt
  go_enter Try.func57, Try.ntmps57
  go_wp2_with fail
  go_loopw [3, 4] (fun s3 s4 wr => ∃ (i : Nat) (l : List Nat), s4 = .int .i64 i ∧ i ≤ s.n ∧ Hid (l = Stn.missFrom 1 (s.ack.take i)) ∧ l.length ≤ i ∧ Hid (Rof wr (w.heap.size + 1) s3 (l.map (fun (i : Nat) => (⟨s.cmd, 0, (i : Int), s.seq, dt⟩ : Fr)))) ∧ Below (w.heap.size + 1) (w.alloc (.cells #[.int .i64 s.again, .int .i64 s.st, .int .i64 s.now, .int .i64 s.seq, .bool s.some, .int .i64 s.prog, .int .i64 s.cmd, .slice D dl dc, .int .i64 s.sent, .slice A s.n ac, .slice S sl sc] 29)) wr) (fun _ s4 _ => s.n - (intOf s4).toNat)
  case atStart => exact ⟨0, [], by go_num, by omega, Lib.hid (by simp [Stn.missFrom]), by simp, Lib.hid (Rof.nil _ _), Below.refl _ _⟩
  case round =>
    obtain ⟨i, l, rfl, hi, HL, hll, HR, hB⟩ := hrel
    have hzr := hB.size
    simp at hzr
    have kr := blk_below (q := w.heap.size) K0.out hB (by omega)
    have KR := Lib.hid kr
    have HB := Lib.hid hB
    have HB0 := Lib.hid (show Below w.heap.size w wr from ((Below.refl _ w).alloc (Nat.le_refl _) _).trans (HB.out.mono (by omega)))
    have HDW := Lib.hid (HD.out.below HB0.out (Nat.le_refl _))
    have ca_0 := blk_cell kr 0 rfl; have fa_0 := blk_free kr 0; have ca_1 := blk_cell kr 1 rfl; have fa_1 := blk_free kr 1; have ca_2 := blk_cell kr 2 rfl; have fa_2 := blk_free kr 2; have ca_3 := blk_cell kr 3 rfl; have fa_3 := blk_free kr 3; have ca_4 := blk_cell kr 4 rfl; have fa_4 := blk_free kr 4; have ca_5 := blk_cell kr 5 rfl; have fa_5 := blk_free kr 5; have ca_6 := blk_cell kr 6 rfl; have fa_6 := blk_free kr 6; have ca_7 := blk_cell kr 7 rfl; have fa_7 := blk_free kr 7; have ca_8 := blk_cell kr 8 rfl; have fa_8 := blk_free kr 8; have ca_9 := blk_cell kr 9 rfl; have fa_9 := blk_free kr 9; have ca_10 := blk_cell kr 10 rfl; have fa_10 := blk_free kr 10; have la := lt_of_block kr
    clear kr hB
    by_cases hlt : i < s.n
    · obtain ⟨g, o, cur, rfl, _, hg, _, _, _, _, _, hcell, _⟩ := HA.out.some_ (by omega)
      obtain ⟨x, hx⟩ : ∃ x, s.ack[i]? = some x := ⟨_, List.getElem?_eq_getElem (by rw [HAL.out]; exact hlt)⟩
      have k1 := hcell i (.bool x) (by rw [bools, List.getElem?_map, hx]; rfl)
      have d1 := ((bcell HB0.out).1 g (o + i) hg).trans k1
      have hin : (i : Int) < (s.n : Int) := by omega
      have hmt := missFrom_take s.ack i (by rw [HAL.out]; exact hlt)
      rw [show s.ack[i]'(by rw [HAL.out]; exact hlt) = x by have := hx; rw [List.getElem?_eq_getElem (by rw [HAL.out]; exact hlt)] at this; injection this] at hmt
      have HMT := Lib.hid hmt
      clear hcell k1 hx hmt
      cases x
      · obtain ⟨vs, hv1, hv2, hv3⟩ := HR.out
        rw [List.length_map] at hv2
        obtain ⟨A3, c3, rfl⟩ := own_formS hv2
        have HV1 := Lib.hid hv1
        have HV2 := Lib.hid hv2
        have HV3 := Lib.hid hv3
        have w1 : IntKind.i64.wrap ((i : Int) + 1) = (i : Int) + 1 := IntWalk.i64_in _ (by omega)
        clear hv1 hv2 hv3
        go_upto_region 6 with fail
        go_region_held3 (fun w' => w'.cell? ⟨w.heap.size, 6, none⟩ = some (.int .i64 s.cmd) ∧ w'.cell? ⟨w.heap.size, 3, none⟩ = some (.int .i64 s.seq) ∧ w'.cell? ⟨w.heap.size, 7, none⟩ = some (.slice D dl dc)) (first | (refine ⟨?_, ?_, ?_⟩ <;> simp [go_sem, *]; done) | go_keep) (first | (refine step_append_any _ rfl (.const (.slice none 0 0)) (.tmp 26) _ rfl (w.heap.size + 1) 5 i1 _ 1 1 Try.underlying25 hj0 hj1 hj2 hj3 rfl (by omega) (.slice none 0 0) 0 [] rfl (World.ownsRow_nil _ _ _ _) wr.heap.size D dl dc (bv dt) rfl (Reads.drew HDW.out.reads) (bv_one _) (by simp only [maxLen]; omega) (by omega) (by simp; omega) ?_; intro v5 w5 hown5 hg5 hat5; (have hz5 := hg5.size); (try simp at hz5); simp only [Nat.zero_add, List.nil_append] at hown5; obtain ⟨A5, cap5, rfl⟩ := own_formS hown5; have HB5 := Lib.hid (show Below wr.heap.size wr w5 from ⟨hg5.os, hg5.tape, hg5.output, hg5.size, fun j hj => hg5.block j hj (by simp [Value.ownBlock])⟩); have HO5 := Lib.hid (show Ow w5 (w.heap.size + 1) A5 dl cap5 dt from ⟨hown5, HBY.out⟩); have e6 : w5.cell? ⟨w.heap.size, 6, none⟩ = some (.int .i64 s.cmd) := ((bcell HB5.out).1 w.heap.size _ (by first | omega | (simp; done) | (simp; omega))).trans ca_6; have e3 : w5.cell? ⟨w.heap.size, 3, none⟩ = some (.int .i64 s.seq) := ((bcell HB5.out).1 w.heap.size _ (by first | omega | (simp; done) | (simp; omega))).trans ca_3; have e7 : w5.cell? ⟨w.heap.size, 7, none⟩ = some (.slice D dl dc) := ((bcell HB5.out).1 w.heap.size _ (by first | omega | (simp; done) | (simp; omega))).trans ca_7; clear hown5 hg5 hat5) | (refine step_append_any _ rfl (.tmp 18) (.tmp 29) _ rfl (w.heap.size + 1) 40 i0 _ 5 56 Try.underlying36 hi0 hz0 hz1 hz2 rfl (by omega) (.slice A3 l.length c3) l.length _ rfl ((own_below HV2.out HB5.out).alloc _) (w5.heap.size + 1) (some ⟨w5.heap.size, 0, none⟩) 1 1 (FV.cells ⟨⟨s.cmd, 0, (i : Int) + 1, s.seq, dt⟩, A5, cap5⟩) rfl (by have := Reads.newN w5 (FV.cells ⟨⟨s.cmd, 0, (i : Int) + 1, s.seq, dt⟩, A5, cap5⟩).toArray 40 1 5 rfl; simpa [FV.cells, ← HDL.out] using this) (FV.one _) (by simp only [maxLen]; omega) (by omega) (by simp; omega) ?_; intro v1 w7 hown1 hg1 hat1; have HO7 := Lib.hid hown1; have HG7 := Lib.hid hg1; have hz7 := hg1.size; (try simp at hz7); have e6 : w7.cell? ⟨w.heap.size, 6, none⟩ = some (.int .i64 s.cmd) := (World.cell?_of_block (hg1.block w.heap.size (by simp; omega) (fun e => by have := (HV2.out.lt _ e.symm).1; omega))).trans (by simp [go_sem, *]); have e3 : w7.cell? ⟨w.heap.size, 3, none⟩ = some (.int .i64 s.seq) := (World.cell?_of_block (hg1.block w.heap.size (by simp; omega) (fun e => by have := (HV2.out.lt _ e.symm).1; omega))).trans (by simp [go_sem, *]); have e7 : w7.cell? ⟨w.heap.size, 7, none⟩ = some (.slice D dl dc) := (World.cell?_of_block (hg1.block w.heap.size (by simp; omega) (fun e => by have := (HV2.out.lt _ e.symm).1; omega))).trans (by simp [go_sem, *]); clear hown1 hg1 hat1))
        have hO5' : Ow w5 (w.heap.size + 1) A5 dt.length cap5 dt := by rw [← HDL.out]; exact HO5.out
        have HR7 := Lib.hid (Rof.append (w' := w7) (v' := v1) (vs := vs) (y := ⟨⟨s.cmd, 0, (i : Int) + 1, s.seq, dt⟩, A5, cap5⟩) HV1.out (by rw [List.length_map]; exact (own_below HV2.out HB5.out).alloc _) (fun y hy => ((HV3.out y hy).below (B := wr.heap.size) HB5.out (Nat.le_refl _)).alloc _) (hO5'.alloc _) HG7.out (by rw [List.length_map]; exact HO7.out))
        have HB7 := Lib.hid (show Below (w.heap.size + 1) (w.alloc (.cells #[.int .i64 s.again, .int .i64 s.st, .int .i64 s.now, .int .i64 s.seq, .bool s.some, .int .i64 s.prog, .int .i64 s.cmd, .slice D dl dc, .int .i64 s.sent, .slice (some ⟨g, o, none⟩) s.n ac, .slice S sl sc] 29)) w7 from (((HB.out.trans (HB5.out.mono (by omega))).alloc (by omega) _).grown HG7.out (by simp; omega) (fun g hg => (HV2.out.lt g hg).1)))
        clear e6 e3 e7 hO5'
        go_wp2_with fail
        go_roundw
        case rel => exact ⟨i + 1, l ++ [i + 1], by go_num, by omega, Lib.hid (by rw [HMT.out, HL.out]; rfl), by simp; omega, Lib.hid (by rw [List.map_append]; exact HR7.out), HB7.out⟩
        case measure => simp [intOf]; omega
      · go_wp2_with fail
        go_roundw
        case rel => exact ⟨i + 1, l, by go_num, by omega, Lib.hid (by rw [HMT.out, HL.out]; simp), by omega, HR, HB.out⟩
        case measure => simp [intOf]; omega
    · obtain rfl : i = s.n := by omega
      have e := HL.out
      rw [List.take_of_length_le (by rw [HAL.out]; exact Nat.le_refl _)] at e
      have HE := Lib.hid e
      clear e
      go_wp2_with fail
      go_ret
      refine ⟨_, rfl, ?_, HB0.out⟩
      rw [FE.out, ← HE.out]
      exact HR.out.more (by omega)
end Go.Proofs.Ytiidkmnagfhgiaa

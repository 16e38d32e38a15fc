/- frames. -/
import Derived.Test.YtiidkmnagfhgiaaStC
namespace Go.Proofs.Ytiidkmnagfhgiaa
open Go.RowKit
set_option maxHeartbeats 8000000
set_option maxRecDepth 100000
set_option linter.unusedSimpArgs false
set_option linter.unusedVariables false
attribute [local go_sem ↓] Go.wp_at_zero Go.wp_at_succ
section
variable {w : World} {base b mc rc : Nat} {MA RA : Option Addr} {s : Stn.St}
theorem miss_bd (s : Stn.St) (hs : Stn.Inv s) : (Stn.miss s).length ≤ 64 ∧ ∀ x ∈ Stn.miss s, 1 ≤ x ∧ x ≤ 64 := by
  have hl := hs.ack
  have hn := hs.n
  unfold Stn.miss
  split
  · simp
  · have key : ∀ (l : List Bool) (lo : Nat), (Stn.missFrom lo l).length ≤ l.length := by
      intro l
      induction l with
      | nil => intro lo; simp [Stn.missFrom]
      | cons a l ih =>
        intro lo
        unfold Stn.missFrom
        split
        · have := ih (lo + 1); simp; omega
        · have := ih (lo + 1); simp; omega
    refine ⟨by have := key s.ack 1; omega, fun x hx => ?_⟩
    have := Stn.missFrom_ge _ _ _ hx
    omega
theorem frames_any (h : IsSt w base b MA mc RA rc s) (hs : Stn.Inv s) (hc : s.cmd ≠ 0) :
    Calls Try.prog 52 #[.pointer (some ⟨b, 0, none⟩)] w fun e w' => ∃ v, e = .returned v ∧ Rof w' w.heap.size v (Stn.frames s) ∧ Below w.heap.size w w' := by
  obtain ⟨i0, hi0, hz0, hz1, hz2⟩ := info_parts info_fr
  obtain ⟨T, cv, fk, fm, fs, fd, hcur, C⟩ := cmd_of s hs hc
  have c4 : w.cell? ⟨b, 4, none⟩ = some (.int .i64 s.seq) := blk_cell h.blk 4 rfl
  have c7 : w.cell? ⟨b, 7, none⟩ = some (.int .i64 s.prog) := blk_cell h.blk 7 rfl
  have c8 : w.cell? ⟨b, 8, none⟩ = some (.iface T cv) := by rw [← hcur]; exact blk_cell h.blk 8 rfl
  have c9 : w.cell? ⟨b, 9, none⟩ = some (.slice MA (Stn.miss s).length mc) := blk_cell h.blk 9 rfl
  obtain ⟨hml, hmx⟩ := miss_bd s hs
  have hblt := lt_of_block h.blk
  have M := Lib.hid h.mrow
  have HML := Lib.hid hmx
  have hp := hs.prog
  have CK := Lib.hid C.ck
  have hat9 := hs.at_
  have CD := Lib.hid (fun W => C.cd W s.prog hp (fun _ => by omega))
  clear hat9
  have m1 := C.ak.m
  have m2 := C.ad.m
  have n1 := C.ak.n
  have n2 := C.ad.n
  have q1 := C.ak.c
  have q2 := C.ad.c
  have FE := Lib.hid (show ∀ i, i < (Stn.miss s).length → (Stn.frames s).take (i + 1) = (Stn.frames s).take i ++ [⟨s.cmd, 0, (((Stn.miss s).getD i 0 : Nat) : Int), s.seq, cdat s.cmd s.at_ s.prog⟩] from fun i hi => by
    have hl : i < (Stn.frames s).length := by simpa [Stn.frames] using hi
    rw [List.take_succ_eq_append_getElem hl]
    simp [Stn.frames, data_is, List.getD, List.getElem?_eq_getElem hi])
  have FL := Lib.hid (show (Stn.frames s).length = (Stn.miss s).length by simp [Stn.frames])
  obtain ⟨n, hn⟩ : ∃ n, n = (Stn.miss s).length := ⟨_, rfl⟩
  obtain ⟨dl, hdl⟩ : ∃ dl, dl = cdat s.cmd s.at_ s.prog := ⟨_, rfl⟩
  rw [← hdl] at CD FE
  rw [← hn] at c9 hml FE FL M
  have HMN := Lib.hid hn
  clear hcur C hs h hmx hn hdl hc
  go_enter Try.func52, Try.ntmps52
  go_wp2_with fail
  go_loopw [3, 11] (fun s3 s11 wr => ∃ i : Nat, s11 = .int .i64 i ∧ i ≤ n ∧ Rof wr w.heap.size s3 ((Stn.frames s).take i) ∧ Below w.heap.size w wr) (fun _ s11 _ => n - (intOf s11).toNat)
  case atStart => exact ⟨0, by go_num, by omega, by simpa using Rof.nil w w.heap.size, (by repeat (first | (with_reducible exact Below.refl _ _) | (with_reducible refine Below.drew ?_) | (with_reducible refine below_drewN ?_ _) | ((with_reducible refine Below.alloc ?_ ?_ _); rotate_left; (first | omega | (simp <;> omega)); rotate_right) | ((with_reducible refine Below.setCell ?_ ?_ _); rotate_left; (first | omega | (simp <;> omega)); rotate_right) | (with_reducible assumption) | (refine Below.trans ?_ (Below.mono (by assumption) ?_); rotate_left; (first | omega | (simp <;> omega)); rotate_right)))⟩
  case round =>
    obtain ⟨i, rfl, hi, hR, hB⟩ := hrel
    have hzr := hB.size
    by_cases hlt : i < n
    · obtain ⟨g, o, cur, rfl, _, hg, _, _, _, _, _, hcell, _⟩ := M.out.some_ (by omega)
      obtain ⟨x, hx⟩ : ∃ x, x = (Stn.miss s).getD i 0 := ⟨_, rfl⟩
      have k0 : w.cell? ⟨g, o + i, none⟩ = some (.int .i64 x) := hcell i _ (by
        rw [List.getElem?_map, List.getElem?_eq_getElem (by rw [← HMN.out]; exact hlt), hx]
        simp [List.getD, List.getElem?_eq_getElem (show i < (Stn.miss s).length by rw [← HMN.out]; exact hlt)])
      have d0 := ((bcell hB).1 g (o + i) hg).trans k0
      have d4 := ((bcell hB).1 b 4 hblt).trans c4
      have d7 := ((bcell hB).1 b 7 hblt).trans c7
      have d8 := ((bcell hB).1 b 8 hblt).trans c8
      have FI := Lib.hid (FE.out i hlt)
      rw [← hx] at FI
      have hbr : b < wr.heap.size := by omega
      obtain ⟨vs, hv1, hv2, hv3⟩ := hR
      have hlen : ((Stn.frames s).take i).length = i := by rw [List.length_take, FL.out]; omega
      have HV1 := Lib.hid hv1
      rw [hlen] at hv2
      have HLEN := Lib.hid hlen
      obtain ⟨A3, cap3, rfl⟩ := own_formS hv2
      have HV3 := Lib.hid hv3
      have HV2 := Lib.hid hv2
      clear c4 c7 c8 c9 k0 hx hcell hv1 hv3 hlen hv2
      go_upto_region 5 with fail
      go_region_held3 (fun w' => w'.cell? ⟨b, 8, none⟩ = some (.iface T cv) ∧ w'.cell? ⟨b, 4, none⟩ = some (.int .i64 s.seq) ∧ w'.cell? ⟨b, 7, none⟩ = some (.int .i64 s.prog)) (first | (refine ⟨?_, ?_, ?_⟩ <;> simp [go_sem, *]; done) | go_keep) (first | (refine (CK.out _).mono ?_; rintro e w4 ⟨rfl, hb4⟩; have hz4 := hb4.size; (try simp at hz4); have e8 : w4.cell? ⟨b, 8, none⟩ = some (.iface T cv) := ((bcell hb4).1 b _ (by first | omega | (simp; done) | (simp; omega))).trans (by simp [go_sem, *]); have e4 : w4.cell? ⟨b, 4, none⟩ = some (.int .i64 s.seq) := ((bcell hb4).1 b _ (by first | omega | (simp; done) | (simp; omega))).trans (by simp [go_sem, *]); have e7 : w4.cell? ⟨b, 7, none⟩ = some (.int .i64 s.prog) := ((bcell hb4).1 b _ (by first | omega | (simp; done) | (simp; omega))).trans (by simp [go_sem, *])) | (refine (CD.out _).mono ?_; rintro e w5 ⟨A5, cap5, rfl, hO5, hb5⟩; have hz5 := hb5.size; (try simp at hz5); have HB5 := Lib.hid (show Below wr.heap.size wr w5 from (by repeat (first | (with_reducible exact Below.refl _ _) | (with_reducible refine Below.drew ?_) | (with_reducible refine below_drewN ?_ _) | ((with_reducible refine Below.alloc ?_ ?_ _); rotate_left; (first | omega | (simp <;> omega)); rotate_right) | ((with_reducible refine Below.setCell ?_ ?_ _); rotate_left; (first | omega | (simp <;> omega)); rotate_right) | (with_reducible assumption) | (refine Below.trans ?_ (Below.mono (by assumption) ?_); rotate_left; (first | omega | (simp <;> omega)); rotate_right)))); have HO5 := Lib.hid hO5; have hz54 : wr.heap.size ≤ w5.heap.size := (by omega); have e8 : w5.cell? ⟨b, 8, none⟩ = some (.iface T cv) := ((bcell hb5).1 b _ (by first | omega | (simp; done) | (simp; omega))).trans (by simp [go_sem, *]); have e4 : w5.cell? ⟨b, 4, none⟩ = some (.int .i64 s.seq) := ((bcell hb5).1 b _ (by first | omega | (simp; done) | (simp; omega))).trans (by simp [go_sem, *]); have e7 : w5.cell? ⟨b, 7, none⟩ = some (.int .i64 s.prog) := ((bcell hb5).1 b _ (by first | omega | (simp; done) | (simp; omega))).trans (by simp [go_sem, *]); clear hb5 hO5) | (refine step_append_any _ rfl (.tmp 15) (.tmp 38) _ rfl w.heap.size 40 i0 _ 5 56 Try.underlying36 hi0 hz0 hz1 hz2 rfl (by omega) (.slice A3 i cap3) i _ rfl ((own_below HV2.out HB5.out).alloc _) (w5.heap.size + 1) (some ⟨w5.heap.size, 0, none⟩) 1 1 (FV.cells ⟨⟨s.cmd, 0, x, s.seq, dl⟩, A5, cap5⟩) rfl (Reads.newN w5 #[.int .i64 s.cmd, .int .i64 0, .int .i64 x, .int .i64 s.seq, .slice A5 dl.length cap5] 40 1 5 rfl) (FV.one _) (by simp only [maxLen]; omega) (by omega) (by simp; omega) ?_; intro v1 w7 hown1 hg1 hat1; have HO7 := Lib.hid hown1; have HG7 := Lib.hid hg1; have hz7 := hg1.size; (try simp at hz7); have e8 : w7.cell? ⟨b, 8, none⟩ = some (.iface T cv) := (World.cell?_of_block (hg1.block b (by simp; omega) (fun e => by have := (HV2.out.lt _ e.symm).1; omega))).trans (by simp [go_sem, *]); have e4 : w7.cell? ⟨b, 4, none⟩ = some (.int .i64 s.seq) := (World.cell?_of_block (hg1.block b (by simp; omega) (fun e => by have := (HV2.out.lt _ e.symm).1; omega))).trans (by simp [go_sem, *]); have e7 : w7.cell? ⟨b, 7, none⟩ = some (.int .i64 s.prog) := (World.cell?_of_block (hg1.block b (by simp; omega) (fun e => by have := (HV2.out.lt _ e.symm).1; omega))).trans (by simp [go_sem, *]); clear hown1 hg1 hat1))
      have HR7 := Lib.hid (Rof.append (w' := w7) (v' := v1) (vs := vs) (y := ⟨⟨s.cmd, 0, x, s.seq, dl⟩, A5, cap5⟩) HV1.out (by rw [HLEN.out]; exact (own_below HV2.out HB5.out).alloc _) (fun y hy => ((HV3.out y hy).below (B := wr.heap.size) HB5.out (Nat.le_refl _)).alloc _) ((HO5.out.more (by omega)).alloc _) HG7.out (by rw [HLEN.out]; exact HO7.out))
      have hB7 : Below w.heap.size w w7 := (((hB.trans (HB5.out.mono hzr)).alloc (by omega) _).grown HG7.out (by simp; omega) (fun g hg => (HV2.out.lt g hg).1))
      have HB7 := Lib.hid hB7
      clear e8 e4 e7 hB7 hB
      go_wp2_with fail
      go_roundw
      case rel => exact ⟨i + 1, by go_num, by omega, by rw [FI.out]; exact HR7.out, HB7.out⟩
      case measure => simp [intOf]; omega
    · obtain rfl : i = n := by omega
      have E := Lib.hid (show (Stn.frames s).take i = Stn.frames s by rw [List.take_of_length_le (by rw [FL.out]; omega)])
      rw [E.out] at hR
      go_wp2_with fail
      go_ret
      exact ⟨_, rfl, hR, hB⟩
end
end Go.Proofs.Ytiidkmnagfhgiaa

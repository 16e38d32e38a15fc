import Derived.Test.YtdocdgcdldpagaaGreatAp
import Derived.Test.YtdocdgcdldpagaaGreatAv44
namespace Go.Proofs.YtdocdgcdldpagaaGreat
open Go.RowKit
set_option maxHeartbeats 16000000
set_option maxRecDepth 100000
set_option linter.unusedSimpArgs false
set_option linter.unusedVariables false
attribute [local go_sem ↓] Go.wp_at_zero Go.wp_at_succ
theorem Row.rin {w : World} {base n c : Nat} {A : Option Addr} {l : List Nat} (h : Row w base 3 1 A n c (l.map (fun (i : Nat) => .int .i64 i))) (hl : ∀ x ∈ l, x ≤ 64) : Ri w w.heap.size A n (l.map (fun (i : Nat) => (i : Int))) := by
  have hlen := h.1
  rw [List.length_map, Nat.mul_one] at hlen
  refine ⟨by rw [List.length_map]; exact hlen, fun y hy => ?_, fun hn => ?_⟩
  · simp only [List.mem_map] at hy
    obtain ⟨x, hx, rfl⟩ := hy
    have := hl x hx; omega
  · obtain ⟨g, o, cur, rfl, _, hg, _, _, _, _, _, hcell, _⟩ := h.some_ hn
    refine ⟨g, o, rfl, hg, fun i hi => hcell i _ ?_⟩
    rw [List.getElem?_map, List.getElem?_eq_getElem Cb]
    simp [List.getD, List.getElem?_eq_getElem (show i < l.length by omega)]
section
variable {w : World} {base base2 b k p N : Nat} {X : Nat → Prop} {m : NM} {m2 : RN} {s : Nt.St}
theorem shows_any (h : IsNet w base b m k s) (hs : Nt.Inv N s) (hr : IsN w base2 p X m2 s) (hN : N ≤ 1000000000000) :
    Calls Tryz.prog 14 #[.pointer (some ⟨b, 0, none⟩), .pointer (some ⟨p, 0, none⟩)] w fun e w' => e = .returned (.bool true) ∧ Below w.heap.size w w' := by
  obtain ⟨n, hn⟩ : ∃ n, n = s.cr.length := ⟨_, rfl⟩
  have hn1 : 1 ≤ n := by have := hs.n; omega
  have hn64 : n ≤ 64 := by have := hs.n; omega
  obtain ⟨L, hL⟩ : ∃ L, L = s.ev.length := ⟨_, rfl⟩
  have hL12 : L ≤ 1000000000000 := by have := hs.ev; omega
  have hml := miss_bd s.st hs.st
  obtain ⟨n9, hn9⟩ : ∃ n9, n9 = (Stn.miss s.st).length := ⟨_, rfl⟩
  have h964 : n9 ≤ 64 := by omega
  obtain ⟨dl, hdl⟩ : ∃ dl, dl = (Stn.data s.st).length := ⟨_, rfl⟩
  obtain ⟨sn, hsn⟩ : ∃ sn, sn = s.st.n := ⟨_, rfl⟩
  have NW := Lib.hid (fun (W : World) (hW : Below w.heap.size w W) => nnow_any (h.below hW) hs.n.1)
  have SA := Lib.hid (fun (W : World) (hW : Below w.heap.size w W) => nstation_any (h.below hW) hs)
  have MS := Lib.hid (show ∀ W : World, Below w.heap.size w W → Calls Tryz.prog 30 #[.pointer (some ⟨b, 0, none⟩)] W (ClPost 3 1 n9 ((Stn.miss s.st).map (fun (i : Nat) => .int .i64 i)) W) from fun W hW => by rw [hn9]; exact nmissing_any (h.below hW) hs)
  have RM := Lib.hid (show ∀ W : World, Below w.heap.size w W → Calls Tryz.prog 42 #[.agg #[.int .i64 s.st.again, .int .i64 s.st.st, .int .i64 s.st.now, .int .i64 s.st.seq, .bool s.st.some, .int .i64 s.st.prog, .int .i64 s.st.cmd, .slice m2.D dl m2.dc, .int .i64 s.st.sent, .slice m2.A sn m2.ac, .slice m2.S sn m2.sc]] W (ClPost 3 1 n9 ((Stn.miss s.st).map (fun (i : Nat) => .int .i64 i)) W) from fun W hW => by
    rw [hn9, hsn]
    exact rmissing_any s.st hs.st m2.D dl m2.dc m2.A m2.ac m2.S s.st.n m2.sc W (hr.below hW).st.ar)
  have SI := Lib.hid (fun (W : World) (A5 A6 : Option Addr) (c5 c6 : Nat) (h5 : Row W w.heap.size 3 1 A5 n9 c5 ((Stn.miss s.st).map (fun (i : Nat) => .int .i64 i))) (h6 : Row W w.heap.size 3 1 A6 n9 c6 ((Stn.miss s.st).map (fun (i : Nat) => .int .i64 i))) => show Calls Tryz.prog 41 #[.slice A5 n9 c5, .slice A6 n9 c6] W fun e w' => e = .returned (.bool true) ∧ ∃ q, w' = W.drewN q from by
    have := samei_any A5 A6 n9 n9 c5 c6 _ _ W Cb Cb (h5.rin (fun x hx => (hml.2 x hx).2)) (h6.rin (fun x hx => (hml.2 x hx).2))
    rw [decide_eq_true rfl] at this
    exact this)
  have PI := Lib.hid (fun (W : World) (hW : Below w.heap.size w W) (i : Nat) (hi : i < n) => npilot_yes (h.below hW) hs (i := i) Bu)
  have PO := Lib.hid (fun (W : World) (hW : Below w.heap.size w W) => npilot_no (h.below hW) hs 0 Cb)
  have LI := Lib.hid (fun (W : World) (hW : Below w.heap.size w W) (i : Nat) (hi : i < n) => nlocalx_yes (h.below hW) hs (i := i) Bu)
  have LO := Lib.hid (fun (W : World) (hW : Below w.heap.size w W) => nlocalx_no (h.below hW) hs ((n : Int) + 1) Cb)
  have BI := Lib.hid (fun (W : World) (hW : Below w.heap.size w W) (i : Nat) (hi : i < n) => nbounds_yes (h.below hW) hs (i := i) Bu)
  have RL := Lib.hid (fun (W : World) (hW : Below w.heap.size w W) (i : Nat) (hi : i < n) => rnlocal_any (hr.below hW) hs (i := i) Bu)
  have RA := Lib.hid (fun (W : World) (i : Nat) (hi : i < n) => rnat_any hs (i := i) Bu W)
  have EV := Lib.hid (fun (W : World) (hW : Below w.heap.size w W) => revents_any (h.below hW) hs (hr.below hW) hN ((L : Int) + 1) Cb)
  have hpl := lt_of_block hr.blk
  have HP := Lib.hid hpl
  have hrn : s.r.n = (n : Int) := by rw [hn]; exact hs.rn
  have q0 : w.cell? ⟨p, 0, none⟩ = some (.int .i64 n) := by rw [← hrn]; exact blk_cell hr.blk 0 rfl
  have q21 : w.cell? ⟨p, 21, none⟩ = some (.int .i64 s.now) := blk_cell hr.blk 21 rfl
  have q23 : w.cell? ⟨p, 23, none⟩ = some (.int .i64 s.st.again) := blk_cell hr.blk 23 rfl
  have q24 : w.cell? ⟨p, 24, none⟩ = some (.int .i64 s.st.st) := blk_cell hr.blk 24 rfl
  have q25 : w.cell? ⟨p, 25, none⟩ = some (.int .i64 s.st.now) := blk_cell hr.blk 25 rfl
  have q26 : w.cell? ⟨p, 26, none⟩ = some (.int .i64 s.st.seq) := blk_cell hr.blk 26 rfl
  have q27 : w.cell? ⟨p, 27, none⟩ = some (.bool s.st.some) := blk_cell hr.blk 27 rfl
  have q28 : w.cell? ⟨p, 28, none⟩ = some (.int .i64 s.st.prog) := blk_cell hr.blk 28 rfl
  have q29 : w.cell? ⟨p, 29, none⟩ = some (.int .i64 s.st.cmd) := blk_cell hr.blk 29 rfl
  have q30 : w.cell? ⟨p, 30, none⟩ = some (.slice m2.D dl m2.dc) := by rw [hdl]; exact blk_cell hr.blk 30 rfl
  have q31 : w.cell? ⟨p, 31, none⟩ = some (.int .i64 s.st.sent) := blk_cell hr.blk 31 rfl
  have q32 : w.cell? ⟨p, 32, none⟩ = some (.slice m2.A sn m2.ac) := by rw [hsn]; exact blk_cell hr.blk 32 rfl
  have q33 : w.cell? ⟨p, 33, none⟩ = some (.slice m2.S sn m2.sc) := by rw [hsn]; exact blk_cell hr.blk 33 rfl
  have q34 : w.cell? ⟨p, 34, none⟩ = some (.slice m2.PA n m2.pc) := by rw [hn]; exact blk_cell hr.blk 34 rfl
  have q39 : w.cell? ⟨p, 39, none⟩ = some (.slice m2.EA L m2.ec) := by rw [hL]; exact blk_cell hr.blk 39 rfl
  have Q0 := Lib.hid (fun (W : World) (hW : Below w.heap.size w W) => (hW.cell (p := ⟨p, 0, none⟩) hpl).trans q0)
  have Q34 := Lib.hid (fun (W : World) (hW : Below w.heap.size w W) => (hW.cell (p := ⟨p, 34, none⟩) hpl).trans q34)
  have Q39 := Lib.hid (fun (W : World) (hW : Below w.heap.size w W) => (hW.cell (p := ⟨p, 39, none⟩) hpl).trans q39)
  have PC := Lib.hid (show ∃ g o, m2.PA = some ⟨g, o, none⟩ ∧ g < w.heap.size ∧ ∀ i, i < n → ∀ j u, j < 24 → (rag (Nt.at_ s i).p)[j]? = some u → w.cell? ⟨g, o + (i * 24 + j), none⟩ = some u from by
    obtain ⟨g, o, e, hg, _⟩ := hr.pcells (i := 0) Cb
    refine ⟨g, o, e, hg, fun i hi => ?_⟩
    obtain ⟨g', o', e', _, hc⟩ := hr.pcells (i := i) Cb
    rw [e] at e'
    injection e' with e'
    injection e' with e1 e2 e3
    subst e1; subst e2
    exact hc)
  have e39 : (s.st.st == s.st.st) = true := by simp
  have QA := Lib.hid (show ∀ W : World, Below w.heap.size w W → W.cell? ⟨p, 21, none⟩ = some (.int .i64 s.now) ∧ W.cell? ⟨p, 23, none⟩ = some (.int .i64 s.st.again) ∧ W.cell? ⟨p, 24, none⟩ = some (.int .i64 s.st.st) ∧ W.cell? ⟨p, 25, none⟩ = some (.int .i64 s.st.now) ∧ W.cell? ⟨p, 26, none⟩ = some (.int .i64 s.st.seq) ∧ W.cell? ⟨p, 27, none⟩ = some (.bool s.st.some) ∧ W.cell? ⟨p, 28, none⟩ = some (.int .i64 s.st.prog) ∧ W.cell? ⟨p, 29, none⟩ = some (.int .i64 s.st.cmd) ∧ W.cell? ⟨p, 30, none⟩ = some (.slice m2.D dl m2.dc) ∧ W.cell? ⟨p, 31, none⟩ = some (.int .i64 s.st.sent) ∧ W.cell? ⟨p, 32, none⟩ = some (.slice m2.A sn m2.ac) ∧ W.cell? ⟨p, 33, none⟩ = some (.slice m2.S sn m2.sc) from fun W hW => ⟨(hW.cell (p := ⟨p, 21, none⟩) hpl).trans q21, (hW.cell (p := ⟨p, 23, none⟩) hpl).trans q23, (hW.cell (p := ⟨p, 24, none⟩) hpl).trans q24, (hW.cell (p := ⟨p, 25, none⟩) hpl).trans q25, (hW.cell (p := ⟨p, 26, none⟩) hpl).trans q26, (hW.cell (p := ⟨p, 27, none⟩) hpl).trans q27, (hW.cell (p := ⟨p, 28, none⟩) hpl).trans q28, (hW.cell (p := ⟨p, 29, none⟩) hpl).trans q29, (hW.cell (p := ⟨p, 30, none⟩) hpl).trans q30, (hW.cell (p := ⟨p, 31, none⟩) hpl).trans q31, (hW.cell (p := ⟨p, 32, none⟩) hpl).trans q32, (hW.cell (p := ⟨p, 33, none⟩) hpl).trans q33⟩)
  clear h hs hr hn hL hml hn9 hdl hsn hrn
  go_enter Tryz.func14, Tryz.ntmps14
  go_upto_region 1 with fail
  go_region_held3 (fun w' => w'.cell? ⟨p, 21, none⟩ = some (.int .i64 s.now) ∧ w'.cell? ⟨p, 23, none⟩ = some (.int .i64 s.st.again) ∧ w'.cell? ⟨p, 24, none⟩ = some (.int .i64 s.st.st) ∧ w'.cell? ⟨p, 25, none⟩ = some (.int .i64 s.st.now) ∧ w'.cell? ⟨p, 26, none⟩ = some (.int .i64 s.st.seq) ∧ w'.cell? ⟨p, 27, none⟩ = some (.bool s.st.some) ∧ w'.cell? ⟨p, 28, none⟩ = some (.int .i64 s.st.prog) ∧ w'.cell? ⟨p, 29, none⟩ = some (.int .i64 s.st.cmd) ∧ w'.cell? ⟨p, 30, none⟩ = some (.slice m2.D dl m2.dc) ∧ w'.cell? ⟨p, 31, none⟩ = some (.int .i64 s.st.sent) ∧ w'.cell? ⟨p, 32, none⟩ = some (.slice m2.A sn m2.ac) ∧ w'.cell? ⟨p, 33, none⟩ = some (.slice m2.S sn m2.sc)) (first | (refine ⟨?_, ?_, ?_, ?_, ?_, ?_, ?_, ?_, ?_, ?_, ?_, ?_⟩ <;> simp [go_sem, *]; done) | go_keep) (first | (go_at_call 21; refine (NW.out _ (Below.refl _ w).drew).mono ?_; rintro e w' ⟨rfl, rfl⟩) | (go_at_call 19; refine (SA.out _ (Below.refl _ w).drew).mono ?_; rintro e w' ⟨rfl, rfl⟩) | (go_at_call 30; refine (MS.out _ (Below.refl _ w).drew).mono ?_; rintro e w5 ⟨A5, c5, rfl, hr5, hb5⟩; have HB5 := Lib.hid (show Below w.heap.size w w5 from (Below.refl _ w).drew.trans hb5); obtain ⟨y21, y23, y24, y25, y26, y27, y28, y29, y30, y31, y32, y33⟩ := QA.out w5 HB5.out; have HR5 := Lib.hid (show Row w5 w.heap.size 3 1 A5 n9 c5 _ from hr5); clear hr5 hb5) | (go_at_call 42; refine (RM.out _ HB5.out).mono ?_; rintro e w6 ⟨A6, c6, rfl, hr6, hb6⟩; have HB6 := Lib.hid (HB5.out.trans (hb6.mono HB5.out.size)); obtain ⟨z21, z23, z24, z25, z26, z27, z28, z29, z30, z31, z32, z33⟩ := QA.out w6 HB6.out; have HR6 := Lib.hid (hr6.more (base' := w.heap.size) HB5.out.size); have HR56 := Lib.hid (HR5.out.below hb6 (Nat.le_refl _)); clear hr6 hb6) | (go_at_call 41; refine (SI.out _ _ _ _ _ HR56.out HR6.out).mono ?_; rintro e w7 ⟨rfl, q7, rfl⟩))
  go_wp2_with fail
  have HB7 := Lib.hid (show Below w.heap.size w (w6.drewN q7) from below_drewN HB6.out q7)
  clear q21 q23 q24 q25 q26 q27 q28 q29 q30 q31 q32 q33 y21 y23 y24 y25 y26 y27 y28 y29 y30 y31 y32 y33 z21 z23 z24 z25 z26 z27 z28 z29 z30 z31 z32 z33 q0 q34 q39 HR5 HR6 HR56 HB5 HB6 NW SA MS RM SI
  generalize w6.drewN q7 = W7 at *
  go_loopw [5] (fun s5 wr => ∃ (i : Nat), s5 = .int .i64 ((i : Int) + 1) ∧ i ≤ n ∧ Hid (Below w.heap.size w wr)) (fun s5 _ => n + 1 - (intOf s5).toNat)
  case atStart => exact ⟨0, rfl, by omega, HB7⟩
  case round =>
    obtain ⟨i, rfl, hi, HB⟩ := hrel
    have q0r := Q0.out wr HB.out
    have wi : IntKind.i64.wrap ((i : Int) + 1 - 1) = (i : Int) := by rw [IntWalk.i64_in _ Cb]; omega
    have wi2 : IntKind.i64.wrap ((i : Int) + 1 + 1) = (i : Int) + 1 + 1 := IntWalk.i64_in _ Cb
    have wi3 : IntKind.i64.wrap (i : Int) = (i : Int) := IntWalk.i64_in _ Cb
    by_cases hlt : i < n
    · have hin : (i : Int) + 1 ≤ (n : Int) := by omega
      have hin2 : (i : Int) < (n : Int) := by omega
      have hi0 : (0 : Int) ≤ (i : Int) := by omega
      obtain ⟨g, o, hPA, hg, hcl⟩ := PC.out
      have R34 := Lib.hid (show ∀ W : World, Below w.heap.size w W → W.cell? ⟨p, 34, none⟩ = some (.slice (some ⟨g, o, none⟩) n m2.pc) from fun W hW => by rw [← hPA]; exact Q34.out W hW)
      have CL := Lib.hid (fun (W : World) (hW : Below w.heap.size w W) (j : Nat) (u : Value) (hj : j < 24) (hu : (rag (Nt.at_ s i).p)[j]? = some u) => (hW.cell (p := ⟨g, o + (i * 24 + j), none⟩) hg).trans (hcl i hlt j u hj hu))
      clear hcl hPA
      go_upto_region 9 with (first | (go_at_call 22; refine (PI.out _ HB.out i hlt).mono ?_; rintro e w' ⟨rfl, rfl⟩) | (go_at_call 43; refine (LI.out _ HB.out i hlt).mono ?_; rintro e w' ⟨rfl, qq, rfl⟩) | (go_at_call 20; refine (BI.out _ (below_drewN HB.out qq) i hlt).mono ?_; rintro e w3 ⟨rfl, hb3⟩; have HB3 := Lib.hid (show Below w.heap.size w w3 from (below_drewN HB.out qq).trans (hb3.mono (below_drewN HB.out qq).size)); clear hb3))
      generalize hW9 : World.alloc w3 _ = W9
      obtain ⟨T10, hT10⟩ : ∃ T, T = w3.heap.size := ⟨_, rfl⟩
      have Q10' : W9.heap[T10]? = some (.cells #[.int .i64 (Nt.bLo s i), .int .i64 (Nt.bHi s i)] 65 (0, 0)) := by rw [← hW9, hT10]; exact heap_new _ _
      have HB9 := Lib.hid (show Below w.heap.size w W9 from by rw [← hW9]; exact HB3.out.alloc HB3.out.size _)
      rw [← hT10]
      clear hW9 hT10 HB3
      have SS := Lib.hid (show ∀ w' : World, Below w.heap.size w w' → w'.cell? ⟨p, 34, none⟩ = some (.slice (some ⟨g, o, none⟩) n m2.pc) ∧ w'.cell? ⟨g, o + i * 24 + 6, none⟩ = some (.int .i64 (Nt.at_ s i).p.d) ∧ w'.cell? ⟨g, o + i * 24 + 7, none⟩ = some (.int .i64 (Nt.at_ s i).p.r) ∧ w'.cell? ⟨g, o + i * 24 + 8, none⟩ = some (.bool (Nt.at_ s i).p.cs) ∧ w'.cell? ⟨g, o + i * 24 + 9, none⟩ = some (.int .i64 (Nt.at_ s i).p.lo) ∧ w'.cell? ⟨g, o + i * 24 + 10, none⟩ = some (.int .i64 (Nt.at_ s i).p.hi) from fun W hW => ⟨R34.out W hW, CL.out W hW 6 _ Cb rfl, CL.out W hW 7 _ Cb rfl, CL.out W hW 8 _ Cb rfl, CL.out W hW 9 _ Cb rfl, CL.out W hW 10 _ Cb rfl⟩)
      have ST := Lib.hid (fun (W : World) (hW : Below w.heap.size w W) => (show W.cell? ⟨g, o + i * 24 + 11, none⟩ = some (.int .i64 (Nt.at_ s i).p.st) from CL.out W hW 11 _ Cb rfl))
      clear CL
      have RA := Lib.hid (RA.out · i hlt)
      obtain ⟨pd, hpd⟩ : ∃ x, x = (Nt.at_ s i).p.d := ⟨_, rfl⟩
      obtain ⟨pr, hpr⟩ : ∃ x, x = (Nt.at_ s i).p.r := ⟨_, rfl⟩
      obtain ⟨pcs, hpcs⟩ : ∃ x, x = (Nt.at_ s i).p.cs := ⟨_, rfl⟩
      obtain ⟨plo, hplo⟩ : ∃ x, x = (Nt.at_ s i).p.lo := ⟨_, rfl⟩
      obtain ⟨phi, hphi⟩ : ∃ x, x = (Nt.at_ s i).p.hi := ⟨_, rfl⟩
      obtain ⟨bl, hbl⟩ : ∃ x, x = Nt.bLo s i := ⟨_, rfl⟩
      obtain ⟨bh, hbh⟩ : ∃ x, x = Nt.bHi s i := ⟨_, rfl⟩
      obtain ⟨be, hbe⟩ : ∃ x, x = Nt.bE s i := ⟨_, rfl⟩
      rw [← hpd, ← hpr, ← hpcs, ← hplo, ← hphi] at SS
      rw [← hpd, ← hpr, ← hpcs, ← hplo, ← hphi, ← hbl, ← hbh, ← hbe] at RA
      rw [← hbl, ← hbh] at Q10'
      rw [← hbe]
      clear hpd hpr hpcs hplo hphi hbl hbh hbe
      go_cut [12, 13] from 73 to 88 (fun v12 v13 wx => ∃ T12, v12 = .pointer (some ⟨T12, 0, none⟩) ∧ v13 = .int .i64 be ∧ wx.heap[T12]? = some (.cells #[.int .i64 bl, .int .i64 bh] 65 (0, 0)) ∧ wx.heap[T10]? = some (.cells #[.int .i64 bl, .int .i64 bh] 65 (0, 0)) ∧ Below w.heap.size w wx)
      case first =>
        have HT10 : T10 < W9.heap.size := lt_of_block Q10'
        refine wp_region_held_drew (S := fun w' => w'.cell? ⟨p, 34, none⟩ = some (.slice (some ⟨g, o, none⟩) n m2.pc) ∧ w'.cell? ⟨g, o + i * 24 + 6, none⟩ = some (.int .i64 pd) ∧ w'.cell? ⟨g, o + i * 24 + 7, none⟩ = some (.int .i64 pr) ∧ w'.cell? ⟨g, o + i * 24 + 8, none⟩ = some (.bool pcs) ∧ w'.cell? ⟨g, o + i * 24 + 9, none⟩ = some (.int .i64 plo) ∧ w'.cell? ⟨g, o + i * 24 + 10, none⟩ = some (.int .i64 phi)) C7 (SS.out _ HB9.out.drew) (fun hHeld => ?_)
        have HBV0 := Lib.hid (show Below w.heap.size w W9.drew from HB9.out.drew)
        have KBV0 := Lib.hid (show Below W9.heap.size W9 W9.drew from (Below.refl _ W9).drew)
        have Q10 := Lib.hid Q10'
        generalize W9.drew = V0 at *
        clear Q10'
        refine wpAnyH_take (i := 0) (v := ?_) rfl C7 C7 C7 (fun _ _ _ h => h) (Or.inl ⟨by rfl, ?_⟩) hHeld ?_
        rotate_left
        focus (intro w' hSw; obtain ⟨cp, c0, c1, c2, c3, c4⟩ := hSw; go_simp; (try with_reducible rfl))
        (try simp only [List.getElem_toArray, List.getElem_cons_succ, List.getElem_cons_zero, Act.put, List.setIfInBounds_toArray, List.set_cons_zero, List.set_cons_succ])
        refine wpAnyH_take (i := 1) (v := ?_) rfl C7 C7 C7 (fun _ _ _ h => h) (Or.inl ⟨by rfl, ?_⟩) hHeld ?_
        rotate_left
        focus (intro w' hSw; obtain ⟨cp, c0, c1, c2, c3, c4⟩ := hSw; go_simp; (try with_reducible rfl))
        (try simp only [List.getElem_toArray, List.getElem_cons_succ, List.getElem_cons_zero, Act.put, List.setIfInBounds_toArray, List.set_cons_zero, List.set_cons_succ])
        refine wpAnyH_take (i := 2) (v := ?_) rfl C7 C7 C7 (fun _ _ _ h => h) (Or.inl ⟨by rfl, ?_⟩) hHeld ?_
        rotate_left
        focus (intro w' hSw; obtain ⟨cp, c0, c1, c2, c3, c4⟩ := hSw; go_simp; (try with_reducible rfl))
        (try simp only [List.getElem_toArray, List.getElem_cons_succ, List.getElem_cons_zero, Act.put, List.setIfInBounds_toArray, List.set_cons_zero, List.set_cons_succ])
        refine wpAnyH_take (i := 3) (v := ?_) rfl C7 C7 C7 (fun _ _ _ h => h) (Or.inl ⟨by rfl, ?_⟩) hHeld ?_
        rotate_left
        focus (intro w' hSw; obtain ⟨cp, c0, c1, c2, c3, c4⟩ := hSw; go_simp; (try with_reducible rfl))
        (try simp only [List.getElem_toArray, List.getElem_cons_succ, List.getElem_cons_zero, Act.put, List.setIfInBounds_toArray, List.set_cons_zero, List.set_cons_succ])
        refine wpAnyH_take (i := 4) (v := ?_) rfl C7 C7 C7 (fun _ _ _ h => h) (Or.inl ⟨by rfl, ?_⟩) hHeld ?_
        rotate_left
        focus (intro w' hSw; obtain ⟨cp, c0, c1, c2, c3, c4⟩ := hSw; go_simp; (try with_reducible rfl))
        (try simp only [List.getElem_toArray, List.getElem_cons_succ, List.getElem_cons_zero, Act.put, List.setIfInBounds_toArray, List.set_cons_zero, List.set_cons_succ])
        refine wpAnyH_take (i := 5) (v := ?_) rfl C7 C7 C7 (fun _ _ _ h => h) (Or.inl ⟨by rfl, ?_⟩) hHeld ?_
        rotate_left
        focus (intro w' hSw; obtain ⟨cp, c0, c1, c2, c3, c4⟩ := hSw; go_simp; (try with_reducible rfl))
        (try simp only [List.getElem_toArray, List.getElem_cons_succ, List.getElem_cons_zero, Act.put, List.setIfInBounds_toArray, List.set_cons_zero, List.set_cons_succ])
        refine wpAnyH_take (i := 6) (v := ?_) rfl C7 C7 C7 (fun _ _ _ h => h) (Or.inl ⟨by rfl, ?_⟩) hHeld ?_
        rotate_left
        focus (intro w' hSw; obtain ⟨cp, c0, c1, c2, c3, c4⟩ := hSw; go_simp; (try with_reducible rfl))
        (try simp only [List.getElem_toArray, List.getElem_cons_succ, List.getElem_cons_zero, Act.put, List.setIfInBounds_toArray, List.set_cons_zero, List.set_cons_succ])
        refine wpAnyH_take (i := 7) (v := ?_) rfl C7 C7 C7 (fun _ _ _ h => h) (Or.inl ⟨by rfl, ?_⟩) hHeld ?_
        rotate_left
        focus (intro w' hSw; obtain ⟨cp, c0, c1, c2, c3, c4⟩ := hSw; go_simp; (try with_reducible rfl))
        (try simp only [List.getElem_toArray, List.getElem_cons_succ, List.getElem_cons_zero, Act.put, List.setIfInBounds_toArray, List.set_cons_zero, List.set_cons_succ])
        refine wpAnyH_take (i := 8) (v := .agg #[.int .i64 pd, .int .i64 pr, .bool pcs, .int .i64 plo, .int .i64 phi]) rfl C7 C7 C7 (fun _ _ _ h => h) (yields_load_at (by rfl) 99 _ rfl g (o + i * 24 + 6) rfl [Value.int .i64 pd, .int .i64 pr, .bool pcs, .int .i64 plo, .int .i64 phi] _ (fun w' hS => by obtain ⟨_, c0, c1, c2, c3, c4⟩ := hS; intro j u hu; match j with | 0 => cases hu; exact c0 | 1 => cases hu; exact c1 | 2 => cases hu; exact c2 | 3 => cases hu; exact c3 | 4 => cases hu; exact c4 | (j + 5) => simp at hu) Tryz.underlying99 rfl C7) hHeld ?_
        (try simp only [List.getElem_toArray, List.getElem_cons_succ, List.getElem_cons_zero, Act.put, List.setIfInBounds_toArray, List.set_cons_zero, List.set_cons_succ])
        refine wpAnyH_take (i := 9) (v := ?_) rfl C7 C7 C7 (fun _ _ _ h => h) (Or.inl ⟨by rfl, ?_⟩) hHeld ?_
        rotate_left
        focus (intro w' hSw; obtain ⟨cp, c0, c1, c2, c3, c4⟩ := hSw; go_simp; (try with_reducible rfl))
        (try simp only [List.getElem_toArray, List.getElem_cons_succ, List.getElem_cons_zero, Act.put, List.setIfInBounds_toArray, List.set_cons_zero, List.set_cons_succ])
        refine wpAnyH_take (i := 10) (v := ?_) rfl C7 C7 C7 (fun _ _ _ h => h) (Or.inl ⟨by rfl, ?_⟩) hHeld ?_
        rotate_left
        focus (intro w' hSw; obtain ⟨cp, c0, c1, c2, c3, c4⟩ := hSw; go_simp; (try with_reducible rfl))
        (try simp only [List.getElem_toArray, List.getElem_cons_succ, List.getElem_cons_zero, Act.put, List.setIfInBounds_toArray, List.set_cons_zero, List.set_cons_succ])
        refine wpAnyH_ready (rs := [11, 16]) C7 C9 ?_
        refine AllReadyH.cons rfl (fun K hK => ?_) (AllReadyH.cons rfl (fun K hK => ?_) AllReadyH.nil)
        · go_simp
          refine (RL.out _ HBV0.out i hlt).mono ?_
          rintro e wx ⟨rfl, qx, rfl⟩
          have hbx : Below V0.heap.size V0 (V0.drewN qx) := below_drewN (Below.refl _ V0) qx
          generalize V0.drewN qx = V1 at *
          have HBV1 := Lib.hid (HBV0.out.trans (hbx.mono HBV0.out.size))
          have KBV1 := Lib.hid (KBV0.out.trans (hbx.mono KBV0.out.size))
          clear hbx
          go_wp2_with fail
          clear hHeld
          refine hK.out _ _ ?_ (fun hHeld => ?_)
          · exact SS.out _ HBV1.out
          clear hK K
          (try simp only [List.getElem_toArray, List.getElem_cons_succ, List.getElem_cons_zero, Act.put, List.setIfInBounds_toArray, List.set_cons_zero, List.set_cons_succ])
          refine wpAnyH_ready (rs := [12, 16]) C7 C9 ?_
          refine AllReadyH.cons rfl (fun K hK => ?_) (AllReadyH.cons rfl (fun K hK => ?_) AllReadyH.nil)
          · go_simp
            refine (RA.out _).mono ?_
            rintro e V2 ⟨rfl, hbx⟩
            have HBV2 := Lib.hid (HBV1.out.trans (hbx.mono HBV1.out.size))
            have KBV2 := Lib.hid (KBV1.out.trans (hbx.mono KBV1.out.size))
            clear hbx
            go_wp2_with fail
            clear hHeld
            refine hK.out _ _ ?_ (fun hHeld => ?_)
            · exact SS.out _ HBV2.out
            clear hK K
            (try simp only [List.getElem_toArray, List.getElem_cons_succ, List.getElem_cons_zero, Act.put, List.setIfInBounds_toArray, List.set_cons_zero, List.set_cons_succ])
            refine wpAnyH_take (i := 13) (v := ?_) rfl C7 C7 C7 (fun _ _ _ h => h) (Or.inl ⟨by rfl, ?_⟩) hHeld ?_
            rotate_left
            focus (intro w' hSw; obtain ⟨cp, c0, c1, c2, c3, c4⟩ := hSw; go_simp; (try with_reducible rfl))
            (try simp only [List.getElem_toArray, List.getElem_cons_succ, List.getElem_cons_zero, Act.put, List.setIfInBounds_toArray, List.set_cons_zero, List.set_cons_succ])
            refine wpAnyH_take (i := 14) (v := ?_) rfl C7 C7 C7 (fun _ _ _ h => h) (Or.inl ⟨by rfl, ?_⟩) hHeld ?_
            rotate_left
            focus (intro w' hSw; obtain ⟨cp, c0, c1, c2, c3, c4⟩ := hSw; go_simp; (try with_reducible rfl))
            (try simp only [List.getElem_toArray, List.getElem_cons_succ, List.getElem_cons_zero, Act.put, List.setIfInBounds_toArray, List.set_cons_zero, List.set_cons_succ])
            refine wpAnyH_take (i := 15) (v := ?_) rfl C7 C7 C7 (fun _ _ _ h => h) (Or.inl ⟨by rfl, ?_⟩) hHeld ?_
            rotate_left
            focus (intro w' hSw; obtain ⟨cp, c0, c1, c2, c3, c4⟩ := hSw; go_simp; (try with_reducible rfl))
            (try simp only [List.getElem_toArray, List.getElem_cons_succ, List.getElem_cons_zero, Act.put, List.setIfInBounds_toArray, List.set_cons_zero, List.set_cons_succ])
            refine wpAnyH_ready (rs := [16]) C7 C9 ?_
            refine AllReadyH.cons rfl (fun K hK => ?_) AllReadyH.nil
            go_simp
            have hbx : Below V2.heap.size V2 (V2.alloc (.cells #[.int .i64 0, .int .i64 0] 65)) := (Below.refl _ V2).alloc (Nat.le_refl _) _
            have n12 := heap_new V2 (.cells #[.int .i64 0, .int .i64 0] 65)
            have hT12 : T10 < V2.heap.size := Nat.lt_of_lt_of_le HT10 KBV2.out.size
            have hzw : w.heap.size ≤ V2.heap.size := HBV2.out.size
            generalize V2.alloc (.cells #[.int .i64 0, .int .i64 0] 65) = V3 at *
            have HBV3 := Lib.hid (HBV2.out.trans (hbx.mono HBV2.out.size))
            have KBV3 := Lib.hid (KBV2.out.trans (hbx.mono KBV2.out.size))
            generalize V2.heap.size = T12 at n12 hT12 hzw ⊢
            have N12 := Lib.hid n12
            clear hbx n12
            clear hHeld
            refine hK.out _ _ ?_ (fun hHeld => ?_)
            · exact SS.out _ HBV3.out
            clear hK K
            (try simp only [List.getElem_toArray, List.getElem_cons_succ, List.getElem_cons_zero, Act.put, List.setIfInBounds_toArray, List.set_cons_zero, List.set_cons_succ])
            refine wpAnyH_ready (rs := [17]) C7 C9 ?_
            refine AllReadyH.cons rfl (fun K hK => ?_) AllReadyH.nil
            have c12a := blk_cell N12.out 0 rfl; have c12b := blk_cell N12.out 1 rfl; have f12a := blk_free N12.out 0; have f12b := blk_free N12.out 1
            go_simp
            have hb17 := (HBV3.out.setCell (p := ⟨T12, 0, none⟩) hzw (.int .i64 bl)).setCell (p := ⟨T12, 1, none⟩) hzw (.int .i64 bh)
            clear hHeld c12a c12b f12a f12b
            refine hK.out _ _ ?_ (fun hHeld => ?_)
            · exact SS.out _ hb17
            clear hK K
            (try simp only [List.getElem_toArray, List.getElem_cons_succ, List.getElem_cons_zero, Act.put, List.setIfInBounds_toArray, List.set_cons_zero, List.set_cons_succ])
            refine wpAnyH_take (i := 18) (v := ?_) rfl C7 C7 C7 (fun _ _ _ h => h) (Or.inl ⟨by rfl, ?_⟩) hHeld ?_
            rotate_left
            focus (intro w' hSw; obtain ⟨cp, c0, c1, c2, c3, c4⟩ := hSw; go_simp; (try with_reducible rfl))
            (try simp only [List.getElem_toArray, List.getElem_cons_succ, List.getElem_cons_zero, Act.put, List.setIfInBounds_toArray, List.set_cons_zero, List.set_cons_succ])
            refine wpAnyH_done C7 ?_ _
            go_wp2_with fail
            go_meet
            exact ⟨T12, rfl, rfl, blk_set (blk_set N12.out 0 (.int .i64 bl)) 1 (.int .i64 bh), blk_far (blk_far (blk_below Q10.out KBV3.out HT10) (a := ⟨T12, 0, none⟩) Br _) (a := ⟨T12, 1, none⟩) Br _, hb17⟩
          · go_simp
            have hbx : Below V1.heap.size V1 (V1.alloc (.cells #[.int .i64 0, .int .i64 0] 65)) := (Below.refl _ V1).alloc (Nat.le_refl _) _
            have n12 := heap_new V1 (.cells #[.int .i64 0, .int .i64 0] 65)
            have hT12 : T10 < V1.heap.size := Nat.lt_of_lt_of_le HT10 KBV1.out.size
            have hzw : w.heap.size ≤ V1.heap.size := HBV1.out.size
            generalize V1.alloc (.cells #[.int .i64 0, .int .i64 0] 65) = V4 at *
            have HBV4 := Lib.hid (HBV1.out.trans (hbx.mono HBV1.out.size))
            have KBV4 := Lib.hid (KBV1.out.trans (hbx.mono KBV1.out.size))
            generalize V1.heap.size = T12 at n12 hT12 hzw ⊢
            have N12 := Lib.hid n12
            clear hbx n12
            clear hHeld
            refine hK.out _ _ ?_ (fun hHeld => ?_)
            · exact SS.out _ HBV4.out
            clear hK K
            (try simp only [List.getElem_toArray, List.getElem_cons_succ, List.getElem_cons_zero, Act.put, List.setIfInBounds_toArray, List.set_cons_zero, List.set_cons_succ])
            refine wpAnyH_ready (rs := [12]) C7 C9 ?_
            refine AllReadyH.cons rfl (fun K hK => ?_) AllReadyH.nil
            go_simp
            refine (RA.out _).mono ?_
            rintro e V5 ⟨rfl, hbx⟩
            have HBV5 := Lib.hid (HBV4.out.trans (hbx.mono HBV4.out.size))
            have KBV5 := Lib.hid (KBV4.out.trans (hbx.mono KBV4.out.size))
            have N12 := Lib.hid (blk_below N12.out hbx (lt_of_block N12.out))
            clear hbx
            go_wp2_with fail
            clear hHeld
            refine hK.out _ _ ?_ (fun hHeld => ?_)
            · exact SS.out _ HBV5.out
            clear hK K
            (try simp only [List.getElem_toArray, List.getElem_cons_succ, List.getElem_cons_zero, Act.put, List.setIfInBounds_toArray, List.set_cons_zero, List.set_cons_succ])
            refine wpAnyH_take (i := 13) (v := ?_) rfl C7 C7 C7 (fun _ _ _ h => h) (Or.inl ⟨by rfl, ?_⟩) hHeld ?_
            rotate_left
            focus (intro w' hSw; obtain ⟨cp, c0, c1, c2, c3, c4⟩ := hSw; go_simp; (try with_reducible rfl))
            (try simp only [List.getElem_toArray, List.getElem_cons_succ, List.getElem_cons_zero, Act.put, List.setIfInBounds_toArray, List.set_cons_zero, List.set_cons_succ])
            refine wpAnyH_take (i := 14) (v := ?_) rfl C7 C7 C7 (fun _ _ _ h => h) (Or.inl ⟨by rfl, ?_⟩) hHeld ?_
            rotate_left
            focus (intro w' hSw; obtain ⟨cp, c0, c1, c2, c3, c4⟩ := hSw; go_simp; (try with_reducible rfl))
            (try simp only [List.getElem_toArray, List.getElem_cons_succ, List.getElem_cons_zero, Act.put, List.setIfInBounds_toArray, List.set_cons_zero, List.set_cons_succ])
            refine wpAnyH_take (i := 15) (v := ?_) rfl C7 C7 C7 (fun _ _ _ h => h) (Or.inl ⟨by rfl, ?_⟩) hHeld ?_
            rotate_left
            focus (intro w' hSw; obtain ⟨cp, c0, c1, c2, c3, c4⟩ := hSw; go_simp; (try with_reducible rfl))
            (try simp only [List.getElem_toArray, List.getElem_cons_succ, List.getElem_cons_zero, Act.put, List.setIfInBounds_toArray, List.set_cons_zero, List.set_cons_succ])
            refine wpAnyH_ready (rs := [17]) C7 C9 ?_
            refine AllReadyH.cons rfl (fun K hK => ?_) AllReadyH.nil
            have c12a := blk_cell N12.out 0 rfl; have c12b := blk_cell N12.out 1 rfl; have f12a := blk_free N12.out 0; have f12b := blk_free N12.out 1
            go_simp
            have hb17 := (HBV5.out.setCell (p := ⟨T12, 0, none⟩) hzw (.int .i64 bl)).setCell (p := ⟨T12, 1, none⟩) hzw (.int .i64 bh)
            clear hHeld c12a c12b f12a f12b
            refine hK.out _ _ ?_ (fun hHeld => ?_)
            · exact SS.out _ hb17
            clear hK K
            (try simp only [List.getElem_toArray, List.getElem_cons_succ, List.getElem_cons_zero, Act.put, List.setIfInBounds_toArray, List.set_cons_zero, List.set_cons_succ])
            refine wpAnyH_take (i := 18) (v := ?_) rfl C7 C7 C7 (fun _ _ _ h => h) (Or.inl ⟨by rfl, ?_⟩) hHeld ?_
            rotate_left
            focus (intro w' hSw; obtain ⟨cp, c0, c1, c2, c3, c4⟩ := hSw; go_simp; (try with_reducible rfl))
            (try simp only [List.getElem_toArray, List.getElem_cons_succ, List.getElem_cons_zero, Act.put, List.setIfInBounds_toArray, List.set_cons_zero, List.set_cons_succ])
            refine wpAnyH_done C7 ?_ _
            go_wp2_with fail
            go_meet
            exact ⟨T12, rfl, rfl, blk_set (blk_set N12.out 0 (.int .i64 bl)) 1 (.int .i64 bh), blk_far (blk_far (blk_below Q10.out KBV5.out HT10) (a := ⟨T12, 0, none⟩) Br _) (a := ⟨T12, 1, none⟩) Br _, hb17⟩
        · go_simp
          have hbx : Below V0.heap.size V0 (V0.alloc (.cells #[.int .i64 0, .int .i64 0] 65)) := (Below.refl _ V0).alloc (Nat.le_refl _) _
          have n12 := heap_new V0 (.cells #[.int .i64 0, .int .i64 0] 65)
          have hT12 : T10 < V0.heap.size := Nat.lt_of_lt_of_le HT10 KBV0.out.size
          have hzw : w.heap.size ≤ V0.heap.size := HBV0.out.size
          generalize V0.alloc (.cells #[.int .i64 0, .int .i64 0] 65) = V6 at *
          have HBV6 := Lib.hid (HBV0.out.trans (hbx.mono HBV0.out.size))
          have KBV6 := Lib.hid (KBV0.out.trans (hbx.mono KBV0.out.size))
          generalize V0.heap.size = T12 at n12 hT12 hzw ⊢
          have N12 := Lib.hid n12
          clear hbx n12
          clear hHeld
          refine hK.out _ _ ?_ (fun hHeld => ?_)
          · exact SS.out _ HBV6.out
          clear hK K
          (try simp only [List.getElem_toArray, List.getElem_cons_succ, List.getElem_cons_zero, Act.put, List.setIfInBounds_toArray, List.set_cons_zero, List.set_cons_succ])
          refine wpAnyH_ready (rs := [11]) C7 C9 ?_
          refine AllReadyH.cons rfl (fun K hK => ?_) AllReadyH.nil
          go_simp
          refine (RL.out _ HBV6.out i hlt).mono ?_
          rintro e wx ⟨rfl, qx, rfl⟩
          have hbx : Below V6.heap.size V6 (V6.drewN qx) := below_drewN (Below.refl _ V6) qx
          generalize V6.drewN qx = V7 at *
          have HBV7 := Lib.hid (HBV6.out.trans (hbx.mono HBV6.out.size))
          have KBV7 := Lib.hid (KBV6.out.trans (hbx.mono KBV6.out.size))
          have N12 := Lib.hid (blk_below N12.out hbx (lt_of_block N12.out))
          clear hbx
          go_wp2_with fail
          clear hHeld
          refine hK.out _ _ ?_ (fun hHeld => ?_)
          · exact SS.out _ HBV7.out
          clear hK K
          (try simp only [List.getElem_toArray, List.getElem_cons_succ, List.getElem_cons_zero, Act.put, List.setIfInBounds_toArray, List.set_cons_zero, List.set_cons_succ])
          refine wpAnyH_ready (rs := [12]) C7 C9 ?_
          refine AllReadyH.cons rfl (fun K hK => ?_) AllReadyH.nil
          go_simp
          refine (RA.out _).mono ?_
          rintro e V8 ⟨rfl, hbx⟩
          have HBV8 := Lib.hid (HBV7.out.trans (hbx.mono HBV7.out.size))
          have KBV8 := Lib.hid (KBV7.out.trans (hbx.mono KBV7.out.size))
          have N12 := Lib.hid (blk_below N12.out hbx (lt_of_block N12.out))
          clear hbx
          go_wp2_with fail
          clear hHeld
          refine hK.out _ _ ?_ (fun hHeld => ?_)
          · exact SS.out _ HBV8.out
          clear hK K
          (try simp only [List.getElem_toArray, List.getElem_cons_succ, List.getElem_cons_zero, Act.put, List.setIfInBounds_toArray, List.set_cons_zero, List.set_cons_succ])
          refine wpAnyH_take (i := 13) (v := ?_) rfl C7 C7 C7 (fun _ _ _ h => h) (Or.inl ⟨by rfl, ?_⟩) hHeld ?_
          rotate_left
          focus (intro w' hSw; obtain ⟨cp, c0, c1, c2, c3, c4⟩ := hSw; go_simp; (try with_reducible rfl))
          (try simp only [List.getElem_toArray, List.getElem_cons_succ, List.getElem_cons_zero, Act.put, List.setIfInBounds_toArray, List.set_cons_zero, List.set_cons_succ])
          refine wpAnyH_take (i := 14) (v := ?_) rfl C7 C7 C7 (fun _ _ _ h => h) (Or.inl ⟨by rfl, ?_⟩) hHeld ?_
          rotate_left
          focus (intro w' hSw; obtain ⟨cp, c0, c1, c2, c3, c4⟩ := hSw; go_simp; (try with_reducible rfl))
          (try simp only [List.getElem_toArray, List.getElem_cons_succ, List.getElem_cons_zero, Act.put, List.setIfInBounds_toArray, List.set_cons_zero, List.set_cons_succ])
          refine wpAnyH_take (i := 15) (v := ?_) rfl C7 C7 C7 (fun _ _ _ h => h) (Or.inl ⟨by rfl, ?_⟩) hHeld ?_
          rotate_left
          focus (intro w' hSw; obtain ⟨cp, c0, c1, c2, c3, c4⟩ := hSw; go_simp; (try with_reducible rfl))
          (try simp only [List.getElem_toArray, List.getElem_cons_succ, List.getElem_cons_zero, Act.put, List.setIfInBounds_toArray, List.set_cons_zero, List.set_cons_succ])
          refine wpAnyH_ready (rs := [17]) C7 C9 ?_
          refine AllReadyH.cons rfl (fun K hK => ?_) AllReadyH.nil
          have c12a := blk_cell N12.out 0 rfl; have c12b := blk_cell N12.out 1 rfl; have f12a := blk_free N12.out 0; have f12b := blk_free N12.out 1
          go_simp
          have hb17 := (HBV8.out.setCell (p := ⟨T12, 0, none⟩) hzw (.int .i64 bl)).setCell (p := ⟨T12, 1, none⟩) hzw (.int .i64 bh)
          clear hHeld c12a c12b f12a f12b
          refine hK.out _ _ ?_ (fun hHeld => ?_)
          · exact SS.out _ hb17
          clear hK K
          (try simp only [List.getElem_toArray, List.getElem_cons_succ, List.getElem_cons_zero, Act.put, List.setIfInBounds_toArray, List.set_cons_zero, List.set_cons_succ])
          refine wpAnyH_take (i := 18) (v := ?_) rfl C7 C7 C7 (fun _ _ _ h => h) (Or.inl ⟨by rfl, ?_⟩) hHeld ?_
          rotate_left
          focus (intro w' hSw; obtain ⟨cp, c0, c1, c2, c3, c4⟩ := hSw; go_simp; (try with_reducible rfl))
          (try simp only [List.getElem_toArray, List.getElem_cons_succ, List.getElem_cons_zero, Act.put, List.setIfInBounds_toArray, List.set_cons_zero, List.set_cons_succ])
          refine wpAnyH_done C7 ?_ _
          go_wp2_with fail
          go_meet
          exact ⟨T12, rfl, rfl, blk_set (blk_set N12.out 0 (.int .i64 bl)) 1 (.int .i64 bh), blk_far (blk_far (blk_below Q10.out KBV8.out HT10) (a := ⟨T12, 0, none⟩) Br _) (a := ⟨T12, 1, none⟩) Br _, hb17⟩
      case rest =>
        obtain ⟨T12, rfl, rfl, k12, k10, hBc⟩ := hcut
        have HBc := Lib.hid hBc
        have p34 := R34.out wc hBc
        have pst := ST.out wc hBc
        have a0 := blk_cell k10 0 rfl
        have a1 := blk_cell k10 1 rfl
        have b0 := blk_cell k12 0 rfl
        have b1 := blk_cell k12 1 rfl
        have bn := fun W => bd_neq bl bh W
        clear k10 k12 hBc SS RA
        go_wp2_with ((go_at_call 45; refine (RL.out _ HBc.out i hlt).mono ?_; rintro e wy ⟨rfl, qy, rfl⟩))
        have HBy := Lib.hid (show Below w.heap.size w (wc.drewN qy) from below_drewN HBc.out qy)
        go_roundw
        case rel => exact ⟨i + 1, by first | rfl | (rw [wi2]; rfl) | (simp; done), by omega, HBy⟩
        case measure => simp [intOf]; omega
    · obtain rfl : i = n := by omega
      have hin : ¬ ((i : Int) + 1 ≤ (i : Int)) := by omega
      have q39 := Q39.out wr HB.out
      have wi4 : IntKind.i64.wrap ((L : Int) + 1) = (L : Int) + 1 := IntWalk.i64_in _ Cb
      have wi5 : IntKind.i64.wrap ((i : Int) + 1) = (i : Int) + 1 := IntWalk.i64_in _ Cb
      clear PI LI BI RL RA PC Q34
      go_wp2_with (first | (go_at_call 22; refine (PO.out _ HB.out).mono ?_; rintro e w' ⟨rfl, rfl⟩) | (go_at_call 43; refine (LO.out _ HB.out).mono ?_; rintro e w' ⟨rfl, rfl⟩) | (go_at_call 16; refine (EV.out _ HB.out).mono ?_; rintro e w9 ⟨rfl, hb9⟩))
      go_ret
      exact ⟨rfl, HB.out.trans (hb9.mono HB.out.size)⟩
end
end Go.Proofs.YtdocdgcdldpagaaGreat

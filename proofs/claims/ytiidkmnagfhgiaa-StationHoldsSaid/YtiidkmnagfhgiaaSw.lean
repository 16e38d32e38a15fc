/- shows. -/
import Derived.Test.YtiidkmnagfhgiaaSv
namespace Go.Proofs.Ytiidkmnagfhgiaa
open Go.RowKit
set_option maxHeartbeats 16000000
set_option maxRecDepth 100000
set_option linter.unusedSimpArgs false
set_option linter.unusedVariables false
attribute [local go_sem ↓] Go.wp_at_zero Go.wp_at_succ
theorem shows_yes (base b mc rc : Nat) (MA RA : Option Addr) (s : Stn.St) (hs : Stn.Inv s) (hfit : Fit s) (sm : Bool) (pg : Int) (hsm : s.some = sm) (hpg : s.prog = pg) (D : Option Addr) (dl dc : Nat) (A : Option Addr) (ac : Nat) (S : Option Addr) (sc : Nat) (w : World) (h : IsSt w base b MA mc RA rc s) (hr : IsR w D dc A ac S sc s) :
    Calls Try.prog 12 #[.pointer (some ⟨b, 0, none⟩), .agg #[.int .i64 s.again, .int .i64 s.st, .int .i64 s.now, .int .i64 s.seq, .bool sm, .int .i64 pg, .int .i64 s.cmd, .slice D dl dc, .int .i64 s.sent, .slice A s.n ac, .slice S s.n sc]] w fun e w' => e = .returned (.bool true) ∧ Below w.heap.size w w' := by
  have HL := Lib.hid h
  have HRR := Lib.hid hr
  have HS := Lib.hid hs
  have HF := Lib.hid hfit
  have N1 := Lib.hid (fun (W : World) (hW : IsSt W base b MA mc RA rc s) => snext_any hW hs)
  have N2 := Lib.hid (fun (W : World) (ha : Row W 0 4 1 A s.n ac (bools s.ack)) => stnext_any s hs D dl dc A ac S s.n sc W ha)
  have PG := Lib.hid (fun (W : World) (hW : IsSt W base b MA mc RA rc s) => program_any hW hs)
  have ST := Lib.hid (fun (W : World) (hW : IsSt W base b MA mc RA rc s) => state_any hW hs)
  have MS := Lib.hid (fun (W : World) (hW : IsSt W base b MA mc RA rc s) => missing_any hW hs)
  have RM := Lib.hid (fun (W : World) (ha : Row W 0 4 1 A s.n ac (bools s.ack)) => rmissing_any s hs D dl dc A ac S s.n sc W ha)
  have SE := Lib.hid (fun (W : World) (hW : IsSt W base b MA mc RA rc s) (a : Int) => seen_any hW hs a)
  rw [hsm, hpg] at N2 PG RM
  have hn := hs.n
  have hml := miss_bd s hs
  have hsl := hs.seen
  obtain ⟨n9, hn9⟩ : ∃ n9, n9 = (Stn.miss s).length := ⟨_, rfl⟩
  obtain ⟨nx, hnx⟩ : ∃ nx, nx = nextN s := ⟨_, rfl⟩
  obtain ⟨ne, hne⟩ : ∃ ne, ne = nextE s := ⟨_, rfl⟩
  rw [← hn9] at MS RM
  rw [← hnx, ← hne] at N1 N2
  have SI := Lib.hid (fun (W : World) (A5 A6 : Option Addr) (c5 c6 : Nat) (h5 : Row W w.heap.size 3 1 A5 n9 c5 ((Stn.miss s).map (fun (i : Nat) => .int .i64 i))) (h6 : Row W w.heap.size 3 1 A6 n9 c6 ((Stn.miss s).map (fun (i : Nat) => .int .i64 i))) => show Calls Try.prog 23 #[.slice A5 n9 c5, .slice A6 n9 c6] W fun e w' => e = .returned (.bool true) ∧ ∃ q, w' = W.drewN q from by
    have := samei_any A5 A6 n9 n9 c5 c6 _ _ W (by omega) (by omega) (h5.ri (fun x hx => (hml.2 x hx).2)) (h6.ri (fun x hx => (hml.2 x hx).2))
    rw [decide_eq_true rfl] at this
    exact this)
  have HSL := Lib.hid hsl
  have k0 : (w.alloc (.cells #[.int .i64 s.again, .int .i64 s.st, .int .i64 s.now, .int .i64 s.seq, .bool sm, .int .i64 pg, .int .i64 s.cmd, .slice D dl dc, .int .i64 s.sent, .slice A s.n ac, .slice S s.n sc] 29)).heap[w.heap.size]? = _ := heap_new _ _
  have hpp : sm = false → pg = 0 := fun e => by rw [← hpg]; exact hfit.1 (by rw [hsm, e])
  have hb := h.lt
  clear h hr hs hfit hsm hpg hml hsl hn9 hnx hne
  cases sm
  · obtain rfl : pg = 0 := hpp rfl
    clear hpp
    go_enter Try.func12, Try.ntmps12
    go_wp2_with fail
    refine (N1.out _ (HL.out.alloc _)).mono ?_
    rintro e w1 ⟨rfl, q, rfl⟩
    go_wp2_with fail
    refine (N2.out _ ((HRR.out.ar.alloc _).drewN q)).mono ?_
    rintro e w2 ⟨rfl, hB2⟩
    have hB2' : Below w.heap.size w w2 := (by repeat (first | (with_reducible exact Below.refl _ _) | (with_reducible refine Below.drew ?_) | (with_reducible refine below_drewN ?_ _) | ((with_reducible refine Below.alloc ?_ ?_ _); rotate_left; (first | omega | (simp <;> omega)); rotate_right) | ((with_reducible refine Below.setCell ?_ ?_ _); rotate_left; (first | omega | (simp <;> omega)); rotate_right) | (with_reducible assumption) | (refine Below.trans ?_ (Below.mono (by assumption) ?_); rotate_left; (first | omega | (simp <;> omega)); rotate_right)))
    have k2 := blk_below (q := w.heap.size) (blk_drewN k0 q) hB2 (by simp)
    have HB2 := Lib.hid hB2'
    have H2 := Lib.hid (HL.out.below hB2' (Nat.le_refl _))
    have hz2 : w.heap.size + 1 ≤ w2.heap.size := lt_of_block k2
    clear hB2 hB2'
    have ca_0 := blk_cell k2 0 rfl; have fa_0 := blk_free k2 0; have ca_1 := blk_cell k2 1 rfl; have fa_1 := blk_free k2 1; have ca_2 := blk_cell k2 2 rfl; have fa_2 := blk_free k2 2; have ca_3 := blk_cell k2 3 rfl; have fa_3 := blk_free k2 3; have ca_4 := blk_cell k2 4 rfl; have fa_4 := blk_free k2 4; have ca_5 := blk_cell k2 5 rfl; have fa_5 := blk_free k2 5; have ca_6 := blk_cell k2 6 rfl; have fa_6 := blk_free k2 6; have ca_7 := blk_cell k2 7 rfl; have fa_7 := blk_free k2 7; have ca_8 := blk_cell k2 8 rfl; have fa_8 := blk_free k2 8; have ca_9 := blk_cell k2 9 rfl; have fa_9 := blk_free k2 9; have ca_10 := blk_cell k2 10 rfl; have fa_10 := blk_free k2 10; have la := lt_of_block k2
    go_wp2_with fail
    refine (PG.out _ H2.out).mono ?_
    rintro e w' ⟨rfl, rfl⟩
    go_wp2_with fail
    (first | (go_region_held3 (fun w' => w'.cell? ⟨w.heap.size, 0, none⟩ = some (.int .i64 s.again) ∧ w'.cell? ⟨w.heap.size, 1, none⟩ = some (.int .i64 s.st) ∧ w'.cell? ⟨w.heap.size, 2, none⟩ = some (.int .i64 s.now) ∧ w'.cell? ⟨w.heap.size, 3, none⟩ = some (.int .i64 s.seq) ∧ w'.cell? ⟨w.heap.size, 4, none⟩ = some (.bool false) ∧ w'.cell? ⟨w.heap.size, 5, none⟩ = some (.int .i64 0) ∧ w'.cell? ⟨w.heap.size, 6, none⟩ = some (.int .i64 s.cmd) ∧ w'.cell? ⟨w.heap.size, 7, none⟩ = some (.slice D dl dc) ∧ w'.cell? ⟨w.heap.size, 8, none⟩ = some (.int .i64 s.sent) ∧ w'.cell? ⟨w.heap.size, 9, none⟩ = some (.slice A s.n ac) ∧ w'.cell? ⟨w.heap.size, 10, none⟩ = some (.slice S s.n sc)) (first | (refine ⟨?_, ?_, ?_, ?_, ?_, ?_, ?_, ?_, ?_, ?_, ?_⟩ <;> simp [go_sem, *]; done) | go_keep) (first | (go_at_call 13; refine (ST.out _ (by first | exact H2.out | exact H2.out.drew)).mono ?_; rintro e w' ⟨rfl, rfl⟩) | (go_at_call 14; refine (MS.out _ (by first | exact H2.out | exact H2.out.drew)).mono ?_; rintro e w5 ⟨A5, c5, rfl, hr5, hb5⟩; (have hz5 := hb5.size); (try simp at hz5); have k5 := blk_below (q := w.heap.size) (by repeat (first | (with_reducible assumption) | ((with_reducible apply blk_far); rotate_left; (first | omega | (simp <;> omega)); rotate_right) | (with_reducible apply blk_drew) | (with_reducible apply blk_drewN) | (with_reducible exact heap_new _ _) | ((with_reducible apply heap_new'); (first | rfl | (simp <;> fail))) | (with_reducible apply blk_alloc))) hb5 (by first | omega | (simp; done) | (simp; omega)); have hb2 := HB2.out; have HB5 := Lib.hid (show Below w.heap.size w w5 from (by repeat (first | (with_reducible exact Below.refl _ _) | (with_reducible refine Below.drew ?_) | (with_reducible refine below_drewN ?_ _) | ((with_reducible refine Below.alloc ?_ ?_ _); rotate_left; (first | omega | (simp <;> omega)); rotate_right) | ((with_reducible refine Below.setCell ?_ ?_ _); rotate_left; (first | omega | (simp <;> omega)); rotate_right) | (with_reducible assumption) | (refine Below.trans ?_ (Below.mono (by assumption) ?_); rotate_left; (first | omega | (simp <;> omega)); rotate_right)))); have HR5 := Lib.hid (hr5.more (base' := w.heap.size) (by first | omega | (simp; done) | (simp; omega))); (have ce_0 := blk_cell k5 0 rfl; have fe_0 := blk_free k5 0; have ce_1 := blk_cell k5 1 rfl; have fe_1 := blk_free k5 1; have ce_2 := blk_cell k5 2 rfl; have fe_2 := blk_free k5 2; have ce_3 := blk_cell k5 3 rfl; have fe_3 := blk_free k5 3; have ce_4 := blk_cell k5 4 rfl; have fe_4 := blk_free k5 4; have ce_5 := blk_cell k5 5 rfl; have fe_5 := blk_free k5 5; have ce_6 := blk_cell k5 6 rfl; have fe_6 := blk_free k5 6; have ce_7 := blk_cell k5 7 rfl; have fe_7 := blk_free k5 7; have ce_8 := blk_cell k5 8 rfl; have fe_8 := blk_free k5 8; have ce_9 := blk_cell k5 9 rfl; have fe_9 := blk_free k5 9; have ce_10 := blk_cell k5 10 rfl; have fe_10 := blk_free k5 10; have le := lt_of_block k5); clear hr5 hb5 hb2) | (go_at_call 39; refine (RM.out _ (HRR.out.ar.below HB5.out (Nat.le_refl _))).mono ?_; rintro e w6 ⟨A6, c6, rfl, hr6, hb6⟩; (have hz6 := hb6.size); (try simp at hz6); have k6 := blk_below (q := w.heap.size) (by repeat (first | (with_reducible assumption) | ((with_reducible apply blk_far); rotate_left; (first | omega | (simp <;> omega)); rotate_right) | (with_reducible apply blk_drew) | (with_reducible apply blk_drewN) | (with_reducible exact heap_new _ _) | ((with_reducible apply heap_new'); (first | rfl | (simp <;> fail))) | (with_reducible apply blk_alloc))) hb6 (by first | omega | (simp; done) | (simp; omega)); have hb5 := HB5.out; have HB6 := Lib.hid (show Below w.heap.size w w6 from (by repeat (first | (with_reducible exact Below.refl _ _) | (with_reducible refine Below.drew ?_) | (with_reducible refine below_drewN ?_ _) | ((with_reducible refine Below.alloc ?_ ?_ _); rotate_left; (first | omega | (simp <;> omega)); rotate_right) | ((with_reducible refine Below.setCell ?_ ?_ _); rotate_left; (first | omega | (simp <;> omega)); rotate_right) | (with_reducible assumption) | (refine Below.trans ?_ (Below.mono (by assumption) ?_); rotate_left; (first | omega | (simp <;> omega)); rotate_right)))); have HR6 := Lib.hid (hr6.more (base' := w.heap.size) (by first | omega | (simp; done) | (simp; omega))); have HR56 := Lib.hid (HR5.out.below hb6 (Nat.le_refl _)); (have cg_0 := blk_cell k6 0 rfl; have fg_0 := blk_free k6 0; have cg_1 := blk_cell k6 1 rfl; have fg_1 := blk_free k6 1; have cg_2 := blk_cell k6 2 rfl; have fg_2 := blk_free k6 2; have cg_3 := blk_cell k6 3 rfl; have fg_3 := blk_free k6 3; have cg_4 := blk_cell k6 4 rfl; have fg_4 := blk_free k6 4; have cg_5 := blk_cell k6 5 rfl; have fg_5 := blk_free k6 5; have cg_6 := blk_cell k6 6 rfl; have fg_6 := blk_free k6 6; have cg_7 := blk_cell k6 7 rfl; have fg_7 := blk_free k6 7; have cg_8 := blk_cell k6 8 rfl; have fg_8 := blk_free k6 8; have cg_9 := blk_cell k6 9 rfl; have fg_9 := blk_free k6 9; have cg_10 := blk_cell k6 10 rfl; have fg_10 := blk_free k6 10; have lg := lt_of_block k6); clear hr6 hb6 hb5) | (go_at_call 23; refine (SI.out _ _ _ _ _ HR56.out HR6.out).mono ?_; rintro e w7 ⟨rfl, q7, rfl⟩))) | fail)
    go_wp2_with fail
    have H6 := Lib.hid ((HL.out.below HB6.out (Nat.le_refl _)).drewN q7)
    have HB7 := Lib.hid (show Below w.heap.size w (w6.drewN q7) from below_drewN HB6.out q7)
    have K6 := Lib.hid (blk_drewN k6 q7)
    have hz66 : w.heap.size + 1 ≤ w6.heap.size := lt_of_block k6
    clear ca_0 fa_0 ca_1 fa_1 ca_2 fa_2 ca_3 fa_3 ca_4 fa_4 ca_5 fa_5 ca_6 fa_6 ca_7 fa_7 ca_8 fa_8 ca_9 fa_9 ca_10 fa_10
    clear ce_0 fe_0 ce_1 fe_1 ce_2 fe_2 ce_3 fe_3 ce_4 fe_4 ce_5 fe_5 ce_6 fe_6 ce_7 fe_7 ce_8 fe_8 ce_9 fe_9 ce_10 fe_10
    clear cg_0 fg_0 cg_1 fg_1 cg_2 fg_2 cg_3 fg_3 cg_4 fg_4 cg_5 fg_5 cg_6 fg_6 cg_7 fg_7 cg_8 fg_8 cg_9 fg_9 cg_10 fg_10
    clear la le lg k2 k5 k6
    go_loopw [11] (fun s11 wr => ∃ (i : Nat), s11 = .int .i64 i ∧ i ≤ s.n ∧ Below w6.heap.size (w6.drewN q7) wr) (fun s11 _ => s.n - (intOf s11).toNat)
    case atStart => exact ⟨0, by go_num, by omega, Below.refl _ _⟩
    case round =>
      obtain ⟨i, rfl, hi, hB⟩ := hrel
      have hzr := hB.size
      have hzr' : w6.heap.size ≤ wr.heap.size := hzr
      have HR := Lib.hid (H6.out.below hB (Nat.le_refl _))
      have hk := blk_below K6.out hB (by omega)
      have HBr := Lib.hid (HB7.out.trans (hB.mono (by omega)))
      have HB := Lib.hid hB
      clear hB
      have ca_0 := blk_cell hk 0 rfl; have fa_0 := blk_free hk 0; have ca_1 := blk_cell hk 1 rfl; have fa_1 := blk_free hk 1; have ca_2 := blk_cell hk 2 rfl; have fa_2 := blk_free hk 2; have ca_3 := blk_cell hk 3 rfl; have fa_3 := blk_free hk 3; have ca_4 := blk_cell hk 4 rfl; have fa_4 := blk_free hk 4; have ca_5 := blk_cell hk 5 rfl; have fa_5 := blk_free hk 5; have ca_6 := blk_cell hk 6 rfl; have fa_6 := blk_free hk 6; have ca_7 := blk_cell hk 7 rfl; have fa_7 := blk_free hk 7; have ca_8 := blk_cell hk 8 rfl; have fa_8 := blk_free hk 8; have ca_9 := blk_cell hk 9 rfl; have fa_9 := blk_free hk 9; have ca_10 := blk_cell hk 10 rfl; have fa_10 := blk_free hk 10; have la := lt_of_block hk
      by_cases hlt : i < s.n
      · obtain ⟨x, hx⟩ : ∃ x, x = s.seen[i]'(by rw [HSL.out]; exact hlt) := ⟨_, rfl⟩
        obtain ⟨g, o, cur, hSe, _, hg, _, _, _, _, _, hcell, _⟩ := (HRR.out.sr.below HBr.out (Nat.le_refl _)).some_ (by omega)
        have m0 := hcell (i * 3 + 0) (.bool x.1) (by rw [repcs_at _ _ _ (by rw [HSL.out]; exact hlt) (by omega), ← hx]; rfl)
        have m1 := hcell (i * 3 + 1) (.int .i64 x.2.1) (by rw [repcs_at _ _ _ (by rw [HSL.out]; exact hlt) (by omega), ← hx]; rfl)
        have m2 := hcell (i * 3 + 2) (.int .i64 x.2.2) (by rw [repcs_at _ _ _ (by rw [HSL.out]; exact hlt) (by omega), ← hx]; rfl)
        simp only [← Nat.add_assoc, Nat.add_zero] at m0 m1 m2
        have E := show seenR s ((i : Int) + 1) = if x.1 then (x.2.1, x.2.2, 0) else (0, 0, 9) by
          unfold seenR
          rw [if_pos (by omega), show ((i : Int) + 1).toNat - 1 = i by omega, hx]
          simp [List.getD, List.getElem?_eq_getElem (show i < s.seen.length by rw [HSL.out]; exact hlt)]
        have hxf := HF.out.2 x (by rw [hx]; exact List.getElem_mem _)
        have SJ := Lib.hid (SE.out _ HR.out ((i : Int) + 1))
        have hin : (i : Int) < (s.n : Int) := by omega
        rw [E] at SJ
        obtain ⟨x1, x2, x3⟩ := x
        simp only at m0 m1 m2 SJ hxf
        have hgr : g < wr.heap.size := hg
        subst hSe
        clear hcell hx E hk
        cases x1
        · obtain ⟨rfl, rfl⟩ := hxf rfl
          rw [if_neg (by simp)] at SJ
          clear hxf
          go_wp2_with fail
          refine SJ.out.mono ?_
          rintro e w8 ⟨rfl, hB8⟩
          have k8 := blk_below (q := w.heap.size) (blk_below K6.out HB.out (by omega)) hB8 (by omega)
          have n0 := ((bcell hB8).1 g _ hgr).trans m0
          have n1 := ((bcell hB8).1 g _ hgr).trans m1
          have n2 := ((bcell hB8).1 g _ hgr).trans m2
          have HB8 := Lib.hid (HB.out.trans (hB8.mono hzr'))
          have hz8 : wr.heap.size ≤ w8.heap.size := hB8.size
          clear ca_0 fa_0 ca_1 fa_1 ca_2 fa_2 ca_3 fa_3 ca_4 fa_4 ca_5 fa_5 ca_6 fa_6 ca_7 fa_7 ca_8 fa_8 ca_9 fa_9 ca_10 fa_10
          clear la hB8 m0 m1 m2
          have ce_0 := blk_cell k8 0 rfl; have fe_0 := blk_free k8 0; have ce_1 := blk_cell k8 1 rfl; have fe_1 := blk_free k8 1; have ce_2 := blk_cell k8 2 rfl; have fe_2 := blk_free k8 2; have ce_3 := blk_cell k8 3 rfl; have fe_3 := blk_free k8 3; have ce_4 := blk_cell k8 4 rfl; have fe_4 := blk_free k8 4; have ce_5 := blk_cell k8 5 rfl; have fe_5 := blk_free k8 5; have ce_6 := blk_cell k8 6 rfl; have fe_6 := blk_free k8 6; have ce_7 := blk_cell k8 7 rfl; have fe_7 := blk_free k8 7; have ce_8 := blk_cell k8 8 rfl; have fe_8 := blk_free k8 8; have ce_9 := blk_cell k8 9 rfl; have fe_9 := blk_free k8 9; have ce_10 := blk_cell k8 10 rfl; have fe_10 := blk_free k8 10; have le := lt_of_block k8
          go_wp2_with fail
          go_roundw
          case rel => exact ⟨i + 1, by go_num, by omega, HB8.out.alloc (by omega) _⟩
          case measure => simp [intOf]; omega
        · rw [if_pos rfl] at SJ
          clear hxf
          go_wp2_with fail
          refine SJ.out.mono ?_
          rintro e w8 ⟨rfl, hB8⟩
          have k8 := blk_below (q := w.heap.size) (blk_below K6.out HB.out (by omega)) hB8 (by omega)
          have n0 := ((bcell hB8).1 g _ hgr).trans m0
          have n1 := ((bcell hB8).1 g _ hgr).trans m1
          have n2 := ((bcell hB8).1 g _ hgr).trans m2
          have HB8 := Lib.hid (HB.out.trans (hB8.mono hzr'))
          have hz8 : wr.heap.size ≤ w8.heap.size := hB8.size
          clear ca_0 fa_0 ca_1 fa_1 ca_2 fa_2 ca_3 fa_3 ca_4 fa_4 ca_5 fa_5 ca_6 fa_6 ca_7 fa_7 ca_8 fa_8 ca_9 fa_9 ca_10 fa_10
          clear la hB8 m0 m1 m2
          have ce_0 := blk_cell k8 0 rfl; have fe_0 := blk_free k8 0; have ce_1 := blk_cell k8 1 rfl; have fe_1 := blk_free k8 1; have ce_2 := blk_cell k8 2 rfl; have fe_2 := blk_free k8 2; have ce_3 := blk_cell k8 3 rfl; have fe_3 := blk_free k8 3; have ce_4 := blk_cell k8 4 rfl; have fe_4 := blk_free k8 4; have ce_5 := blk_cell k8 5 rfl; have fe_5 := blk_free k8 5; have ce_6 := blk_cell k8 6 rfl; have fe_6 := blk_free k8 6; have ce_7 := blk_cell k8 7 rfl; have fe_7 := blk_free k8 7; have ce_8 := blk_cell k8 8 rfl; have fe_8 := blk_free k8 8; have ce_9 := blk_cell k8 9 rfl; have fe_9 := blk_free k8 9; have ce_10 := blk_cell k8 10 rfl; have fe_10 := blk_free k8 10; have le := lt_of_block k8
          go_wp2_with fail
          go_roundw
          case rel => exact ⟨i + 1, by go_num, by omega, HB8.out.alloc (by omega) _⟩
          case measure => simp [intOf]; omega
      · obtain rfl : i = s.n := by omega
        have S0 := Lib.hid (SE.out _ HR.out 0)
        rw [show seenR s 0 = (0, 0, 2) by unfold seenR; rw [if_neg (by omega)]] at S0
        have SN := Lib.hid (fun (W : World) (hW : IsSt W base b MA mc RA rc s) => SE.out W hW ((s.n : Int) + 1))
        rw [show seenR s ((s.n : Int) + 1) = (0, 0, 2) by unfold seenR; rw [if_neg (by omega)]] at SN
        go_wp2_with fail
        refine S0.out.mono ?_
        rintro e w8 ⟨rfl, hB8⟩
        have k8 := blk_below (q := w.heap.size) hk hB8 (by omega)
        have H8 := Lib.hid (HR.out.below hB8 (Nat.le_refl _))
        have HB8 := Lib.hid (HBr.out.trans (hB8.mono (by omega)))
        have hz8 := HB8.out.size
        clear ca_0 fa_0 ca_1 fa_1 ca_2 fa_2 ca_3 fa_3 ca_4 fa_4 ca_5 fa_5 ca_6 fa_6 ca_7 fa_7 ca_8 fa_8 ca_9 fa_9 ca_10 fa_10
        clear la hB8 hk
        have ce_0 := blk_cell k8 0 rfl; have fe_0 := blk_free k8 0; have ce_1 := blk_cell k8 1 rfl; have fe_1 := blk_free k8 1; have ce_2 := blk_cell k8 2 rfl; have fe_2 := blk_free k8 2; have ce_3 := blk_cell k8 3 rfl; have fe_3 := blk_free k8 3; have ce_4 := blk_cell k8 4 rfl; have fe_4 := blk_free k8 4; have ce_5 := blk_cell k8 5 rfl; have fe_5 := blk_free k8 5; have ce_6 := blk_cell k8 6 rfl; have fe_6 := blk_free k8 6; have ce_7 := blk_cell k8 7 rfl; have fe_7 := blk_free k8 7; have ce_8 := blk_cell k8 8 rfl; have fe_8 := blk_free k8 8; have ce_9 := blk_cell k8 9 rfl; have fe_9 := blk_free k8 9; have ce_10 := blk_cell k8 10 rfl; have fe_10 := blk_free k8 10; have le := lt_of_block k8
        go_wp2_with fail
        refine (SN.out _ H8.out).mono ?_
        rintro e w9 ⟨rfl, hB9⟩
        have HB9 := Lib.hid (HB8.out.trans (hB9.mono hz8))
        clear hB9
        go_wp2_with fail
        go_ret
        exact ⟨rfl, HB9.out⟩
  · clear hpp
    go_enter Try.func12, Try.ntmps12
    go_wp2_with fail
    refine (N1.out _ (HL.out.alloc _)).mono ?_
    rintro e w1 ⟨rfl, q, rfl⟩
    go_wp2_with fail
    refine (N2.out _ ((HRR.out.ar.alloc _).drewN q)).mono ?_
    rintro e w2 ⟨rfl, hB2⟩
    have hB2' : Below w.heap.size w w2 := (by repeat (first | (with_reducible exact Below.refl _ _) | (with_reducible refine Below.drew ?_) | (with_reducible refine below_drewN ?_ _) | ((with_reducible refine Below.alloc ?_ ?_ _); rotate_left; (first | omega | (simp <;> omega)); rotate_right) | ((with_reducible refine Below.setCell ?_ ?_ _); rotate_left; (first | omega | (simp <;> omega)); rotate_right) | (with_reducible assumption) | (refine Below.trans ?_ (Below.mono (by assumption) ?_); rotate_left; (first | omega | (simp <;> omega)); rotate_right)))
    have k2 := blk_below (q := w.heap.size) (blk_drewN k0 q) hB2 (by simp)
    have HB2 := Lib.hid hB2'
    have H2 := Lib.hid (HL.out.below hB2' (Nat.le_refl _))
    have hz2 : w.heap.size + 1 ≤ w2.heap.size := lt_of_block k2
    clear hB2 hB2'
    have ca_0 := blk_cell k2 0 rfl; have fa_0 := blk_free k2 0; have ca_1 := blk_cell k2 1 rfl; have fa_1 := blk_free k2 1; have ca_2 := blk_cell k2 2 rfl; have fa_2 := blk_free k2 2; have ca_3 := blk_cell k2 3 rfl; have fa_3 := blk_free k2 3; have ca_4 := blk_cell k2 4 rfl; have fa_4 := blk_free k2 4; have ca_5 := blk_cell k2 5 rfl; have fa_5 := blk_free k2 5; have ca_6 := blk_cell k2 6 rfl; have fa_6 := blk_free k2 6; have ca_7 := blk_cell k2 7 rfl; have fa_7 := blk_free k2 7; have ca_8 := blk_cell k2 8 rfl; have fa_8 := blk_free k2 8; have ca_9 := blk_cell k2 9 rfl; have fa_9 := blk_free k2 9; have ca_10 := blk_cell k2 10 rfl; have fa_10 := blk_free k2 10; have la := lt_of_block k2
    go_wp2_with fail
    refine (PG.out _ H2.out).mono ?_
    rintro e w' ⟨rfl, rfl⟩
    go_wp2_with fail
    refine wp_region_held_drew (S := (fun w' => w'.cell? ⟨w.heap.size, 0, none⟩ = some (.int .i64 s.again) ∧ w'.cell? ⟨w.heap.size, 1, none⟩ = some (.int .i64 s.st) ∧ w'.cell? ⟨w.heap.size, 2, none⟩ = some (.int .i64 s.now) ∧ w'.cell? ⟨w.heap.size, 3, none⟩ = some (.int .i64 s.seq) ∧ w'.cell? ⟨w.heap.size, 4, none⟩ = some (.bool true) ∧ w'.cell? ⟨w.heap.size, 5, none⟩ = some (.int .i64 pg) ∧ w'.cell? ⟨w.heap.size, 6, none⟩ = some (.int .i64 s.cmd) ∧ w'.cell? ⟨w.heap.size, 7, none⟩ = some (.slice D dl dc) ∧ w'.cell? ⟨w.heap.size, 8, none⟩ = some (.int .i64 s.sent) ∧ w'.cell? ⟨w.heap.size, 9, none⟩ = some (.slice A s.n ac) ∧ w'.cell? ⟨w.heap.size, 10, none⟩ = some (.slice S s.n sc))) (by kernel_rfl) ?_ (fun hHeld => ?_)
    · (try dsimp only); (refine ⟨?_, ?_, ?_, ?_, ?_, ?_, ?_, ?_, ?_, ?_, ?_⟩ <;> simp [go_sem, *]; done)
    refine wpAnyH_take (i := 0) (v := ?_) rfl (by kernel_rfl) (by kernel_rfl) (by kernel_rfl) (fun _ _ _ h => h) (Or.inl ⟨by rfl, ?_⟩) (by assumption) ?_
    rotate_left
    focus (intro w' hSw; (try dsimp only at hSw); go_simp; (try with_reducible rfl))
    (try simp only [List.getElem_toArray, List.getElem_cons_succ, List.getElem_cons_zero, Act.put, List.setIfInBounds_toArray, List.set_cons_zero, List.set_cons_succ])
    refine wpAnyH_take (i := 2) (v := ?_) rfl (by kernel_rfl) (by kernel_rfl) (by kernel_rfl) (fun _ _ _ h => h) (Or.inl ⟨by rfl, ?_⟩) (by assumption) ?_
    rotate_left
    focus (intro w' hSw; (try dsimp only at hSw); go_simp; (try with_reducible rfl))
    (try simp only [List.getElem_toArray, List.getElem_cons_succ, List.getElem_cons_zero, Act.put, List.setIfInBounds_toArray, List.set_cons_zero, List.set_cons_succ])
    refine wpAnyH_take (i := 3) (v := ?_) rfl (by kernel_rfl) (by kernel_rfl) (by kernel_rfl) (fun _ _ _ h => h) (Or.inl ⟨by rfl, ?_⟩) (by assumption) ?_
    rotate_left
    focus (intro w' hSw; (try dsimp only at hSw); go_simp; (try with_reducible rfl))
    (try simp only [List.getElem_toArray, List.getElem_cons_succ, List.getElem_cons_zero, Act.put, List.setIfInBounds_toArray, List.set_cons_zero, List.set_cons_succ])
    refine wpAnyH_ready (rs := [1]) (by kernel_rfl) (by simp) ?_
    refine AllReadyH.cons rfl (fun K hK => ?_) AllReadyH.nil
    go_simp
    refine (ST.out _ (by first | exact H2.out | exact H2.out.drew)).mono ?_; rintro e w' ⟨rfl, rfl⟩
    go_wp2_with fail
    clear hHeld
    refine hK.out _ _ ?_ (fun hHeld => ?_)
    · (try dsimp only); (refine ⟨?_, ?_, ?_, ?_, ?_, ?_, ?_, ?_, ?_, ?_, ?_⟩ <;> simp [go_sem, *]; done)
    clear hK K
    (try simp only [List.getElem_toArray, List.getElem_cons_succ, List.getElem_cons_zero, Act.put, List.setIfInBounds_toArray, List.set_cons_zero, List.set_cons_succ])
    refine wpAnyH_take (i := 4) (v := ?_) rfl (by kernel_rfl) (by kernel_rfl) (by kernel_rfl) (fun _ _ _ h => h) (Or.inl ⟨by rfl, ?_⟩) (by assumption) ?_
    rotate_left
    focus (intro w' hSw; (try dsimp only at hSw); go_simp; (try with_reducible rfl))
    (try simp only [List.getElem_toArray, List.getElem_cons_succ, List.getElem_cons_zero, Act.put, List.setIfInBounds_toArray, List.set_cons_zero, List.set_cons_succ])
    refine wpAnyH_take (i := 5) (v := ?_) rfl (by kernel_rfl) (by kernel_rfl) (by kernel_rfl) (fun _ _ _ h => h) (Or.inl ⟨by rfl, ?_⟩) (by assumption) ?_
    rotate_left
    focus (intro w' hSw; (try dsimp only at hSw); go_simp; (try with_reducible rfl))
    (try simp only [List.getElem_toArray, List.getElem_cons_succ, List.getElem_cons_zero, Act.put, List.setIfInBounds_toArray, List.set_cons_zero, List.set_cons_succ])
    refine wpAnyH_take (i := 6) (v := ?_) rfl (by kernel_rfl) (by kernel_rfl) (by kernel_rfl) (fun _ _ _ h => h) (Or.inl ⟨by rfl, ?_⟩) (by assumption) ?_
    rotate_left
    focus (intro w' hSw; (try dsimp only at hSw); go_simp; (try with_reducible rfl))
    (try simp only [List.getElem_toArray, List.getElem_cons_succ, List.getElem_cons_zero, Act.put, List.setIfInBounds_toArray, List.set_cons_zero, List.set_cons_succ])
    refine wpAnyH_take (i := 7) (v := ?_) rfl (by kernel_rfl) (by kernel_rfl) (by kernel_rfl) (fun _ _ _ h => h) (Or.inl ⟨by rfl, ?_⟩) (by assumption) ?_
    rotate_left
    focus (intro w' hSw; (try dsimp only at hSw); go_simp; (try with_reducible rfl))
    (try simp only [List.getElem_toArray, List.getElem_cons_succ, List.getElem_cons_zero, Act.put, List.setIfInBounds_toArray, List.set_cons_zero, List.set_cons_succ])
    refine wpAnyH_take (i := 8) (v := ?_) rfl (by kernel_rfl) (by kernel_rfl) (by kernel_rfl) (fun _ _ _ h => h) (Or.inl ⟨by rfl, ?_⟩) (by assumption) ?_
    rotate_left
    focus (intro w' hSw; (try dsimp only at hSw); go_simp; (try with_reducible rfl))
    (try simp only [List.getElem_toArray, List.getElem_cons_succ, List.getElem_cons_zero, Act.put, List.setIfInBounds_toArray, List.set_cons_zero, List.set_cons_succ])
    refine wpAnyH_take (i := 9) (v := ?_) rfl (by kernel_rfl) (by kernel_rfl) (by kernel_rfl) (fun _ _ _ h => h) (Or.inl ⟨by rfl, ?_⟩) (by assumption) ?_
    rotate_left
    focus (intro w' hSw; (try dsimp only at hSw); go_simp; (try with_reducible rfl))
    (try simp only [List.getElem_toArray, List.getElem_cons_succ, List.getElem_cons_zero, Act.put, List.setIfInBounds_toArray, List.set_cons_zero, List.set_cons_succ])
    refine wpAnyH_take (i := 10) (v := ?_) rfl (by kernel_rfl) (by kernel_rfl) (by kernel_rfl) (fun _ _ _ h => h) (Or.inl ⟨by rfl, ?_⟩) (by assumption) ?_
    rotate_left
    focus (intro w' hSw; (try dsimp only at hSw); go_simp; (try with_reducible rfl))
    (try simp only [List.getElem_toArray, List.getElem_cons_succ, List.getElem_cons_zero, Act.put, List.setIfInBounds_toArray, List.set_cons_zero, List.set_cons_succ])
    refine wpAnyH_take (i := 11) (v := ?_) rfl (by kernel_rfl) (by kernel_rfl) (by kernel_rfl) (fun _ _ _ h => h) (Or.inl ⟨by rfl, ?_⟩) (by assumption) ?_
    rotate_left
    focus (intro w' hSw; (try dsimp only at hSw); go_simp; (try with_reducible rfl))
    (try simp only [List.getElem_toArray, List.getElem_cons_succ, List.getElem_cons_zero, Act.put, List.setIfInBounds_toArray, List.set_cons_zero, List.set_cons_succ])
    refine wpAnyH_take (i := 12) (v := ?_) rfl (by kernel_rfl) (by kernel_rfl) (by kernel_rfl) (fun _ _ _ h => h) (Or.inl ⟨by rfl, ?_⟩) (by assumption) ?_
    rotate_left
    focus (intro w' hSw; (try dsimp only at hSw); go_simp; (try with_reducible rfl))
    (try simp only [List.getElem_toArray, List.getElem_cons_succ, List.getElem_cons_zero, Act.put, List.setIfInBounds_toArray, List.set_cons_zero, List.set_cons_succ])
    refine wpAnyH_take (i := 13) (v := ?_) rfl (by kernel_rfl) (by kernel_rfl) (by kernel_rfl) (fun _ _ _ h => h) (Or.inl ⟨by rfl, ?_⟩) (by assumption) ?_
    rotate_left
    focus (intro w' hSw; (try dsimp only at hSw); go_simp; (try with_reducible rfl))
    (try simp only [List.getElem_toArray, List.getElem_cons_succ, List.getElem_cons_zero, Act.put, List.setIfInBounds_toArray, List.set_cons_zero, List.set_cons_succ])
    refine wpAnyH_take (i := 14) (v := ?_) rfl (by kernel_rfl) (by kernel_rfl) (by kernel_rfl) (fun _ _ _ h => h) (Or.inl ⟨by rfl, ?_⟩) (by assumption) ?_
    rotate_left
    focus (intro w' hSw; (try dsimp only at hSw); go_simp; (try with_reducible rfl))
    (try simp only [List.getElem_toArray, List.getElem_cons_succ, List.getElem_cons_zero, Act.put, List.setIfInBounds_toArray, List.set_cons_zero, List.set_cons_succ])
    refine wpAnyH_take (i := 15) (v := ?_) rfl (by kernel_rfl) (by kernel_rfl) (by kernel_rfl) (fun _ _ _ h => h) (Or.inl ⟨by rfl, ?_⟩) (by assumption) ?_
    rotate_left
    focus (intro w' hSw; (try dsimp only at hSw); go_simp; (try with_reducible rfl))
    (try simp only [List.getElem_toArray, List.getElem_cons_succ, List.getElem_cons_zero, Act.put, List.setIfInBounds_toArray, List.set_cons_zero, List.set_cons_succ])
    refine wpAnyH_take (i := 16) (v := ?_) rfl (by kernel_rfl) (by kernel_rfl) (by kernel_rfl) (fun _ _ _ h => h) (Or.inl ⟨by rfl, ?_⟩) (by assumption) ?_
    rotate_left
    focus (intro w' hSw; (try dsimp only at hSw); go_simp; (try with_reducible rfl))
    (try simp only [List.getElem_toArray, List.getElem_cons_succ, List.getElem_cons_zero, Act.put, List.setIfInBounds_toArray, List.set_cons_zero, List.set_cons_succ])
    refine wpAnyH_take (i := 18) (v := ?_) rfl (by kernel_rfl) (by kernel_rfl) (by kernel_rfl) (fun _ _ _ h => h) (Or.inl ⟨by rfl, ?_⟩) (by assumption) ?_
    rotate_left
    focus (intro w' hSw; (try dsimp only at hSw); go_simp; (try with_reducible rfl))
    (try simp only [List.getElem_toArray, List.getElem_cons_succ, List.getElem_cons_zero, Act.put, List.setIfInBounds_toArray, List.set_cons_zero, List.set_cons_succ])
    refine wpAnyH_ready (rs := [17]) (by kernel_rfl) (by simp) ?_
    refine AllReadyH.cons rfl (fun K hK => ?_) AllReadyH.nil
    go_simp
    refine (MS.out _ (by first | exact H2.out | exact H2.out.drew)).mono ?_; rintro e w5 ⟨A5, c5, rfl, hr5, hb5⟩; (have hz5 := hb5.size); (try simp at hz5); have k5 := blk_below (q := w.heap.size) (by repeat (first | (with_reducible assumption) | ((with_reducible apply blk_far); rotate_left; (first | omega | (simp <;> omega)); rotate_right) | (with_reducible apply blk_drew) | (with_reducible apply blk_drewN) | (with_reducible exact heap_new _ _) | ((with_reducible apply heap_new'); (first | rfl | (simp <;> fail))) | (with_reducible apply blk_alloc))) hb5 (by first | omega | (simp; done) | (simp; omega)); have hb2 := HB2.out; have HB5 := Lib.hid (show Below w.heap.size w w5 from (by repeat (first | (with_reducible exact Below.refl _ _) | (with_reducible refine Below.drew ?_) | (with_reducible refine below_drewN ?_ _) | ((with_reducible refine Below.alloc ?_ ?_ _); rotate_left; (first | omega | (simp <;> omega)); rotate_right) | ((with_reducible refine Below.setCell ?_ ?_ _); rotate_left; (first | omega | (simp <;> omega)); rotate_right) | (with_reducible assumption) | (refine Below.trans ?_ (Below.mono (by assumption) ?_); rotate_left; (first | omega | (simp <;> omega)); rotate_right)))); have HR5 := Lib.hid (hr5.more (base' := w.heap.size) (by first | omega | (simp; done) | (simp; omega))); (have ce_0 := blk_cell k5 0 rfl; have fe_0 := blk_free k5 0; have ce_1 := blk_cell k5 1 rfl; have fe_1 := blk_free k5 1; have ce_2 := blk_cell k5 2 rfl; have fe_2 := blk_free k5 2; have ce_3 := blk_cell k5 3 rfl; have fe_3 := blk_free k5 3; have ce_4 := blk_cell k5 4 rfl; have fe_4 := blk_free k5 4; have ce_5 := blk_cell k5 5 rfl; have fe_5 := blk_free k5 5; have ce_6 := blk_cell k5 6 rfl; have fe_6 := blk_free k5 6; have ce_7 := blk_cell k5 7 rfl; have fe_7 := blk_free k5 7; have ce_8 := blk_cell k5 8 rfl; have fe_8 := blk_free k5 8; have ce_9 := blk_cell k5 9 rfl; have fe_9 := blk_free k5 9; have ce_10 := blk_cell k5 10 rfl; have fe_10 := blk_free k5 10; have le := lt_of_block k5); clear hr5 hb5 hb2
    go_wp2_with fail
    clear hHeld
    refine hK.out _ _ ?_ (fun hHeld => ?_)
    · (try dsimp only); (refine ⟨?_, ?_, ?_, ?_, ?_, ?_, ?_, ?_, ?_, ?_, ?_⟩ <;> simp [go_sem, *]; done)
    clear hK K
    (try simp only [List.getElem_toArray, List.getElem_cons_succ, List.getElem_cons_zero, Act.put, List.setIfInBounds_toArray, List.set_cons_zero, List.set_cons_succ])
    refine wpAnyH_ready (rs := [19]) (by kernel_rfl) (by simp) ?_
    refine AllReadyH.cons rfl (fun K hK => ?_) AllReadyH.nil
    go_simp
    refine (RM.out _ (HRR.out.ar.below HB5.out (Nat.le_refl _))).mono ?_; rintro e w6 ⟨A6, c6, rfl, hr6, hb6⟩; (have hz6 := hb6.size); (try simp at hz6); have k6 := blk_below (q := w.heap.size) (by repeat (first | (with_reducible assumption) | ((with_reducible apply blk_far); rotate_left; (first | omega | (simp <;> omega)); rotate_right) | (with_reducible apply blk_drew) | (with_reducible apply blk_drewN) | (with_reducible exact heap_new _ _) | ((with_reducible apply heap_new'); (first | rfl | (simp <;> fail))) | (with_reducible apply blk_alloc))) hb6 (by first | omega | (simp; done) | (simp; omega)); have hb5 := HB5.out; have HB6 := Lib.hid (show Below w.heap.size w w6 from (by repeat (first | (with_reducible exact Below.refl _ _) | (with_reducible refine Below.drew ?_) | (with_reducible refine below_drewN ?_ _) | ((with_reducible refine Below.alloc ?_ ?_ _); rotate_left; (first | omega | (simp <;> omega)); rotate_right) | ((with_reducible refine Below.setCell ?_ ?_ _); rotate_left; (first | omega | (simp <;> omega)); rotate_right) | (with_reducible assumption) | (refine Below.trans ?_ (Below.mono (by assumption) ?_); rotate_left; (first | omega | (simp <;> omega)); rotate_right)))); have HR6 := Lib.hid (hr6.more (base' := w.heap.size) (by first | omega | (simp; done) | (simp; omega))); have HR56 := Lib.hid (HR5.out.below hb6 (Nat.le_refl _)); (have cg_0 := blk_cell k6 0 rfl; have fg_0 := blk_free k6 0; have cg_1 := blk_cell k6 1 rfl; have fg_1 := blk_free k6 1; have cg_2 := blk_cell k6 2 rfl; have fg_2 := blk_free k6 2; have cg_3 := blk_cell k6 3 rfl; have fg_3 := blk_free k6 3; have cg_4 := blk_cell k6 4 rfl; have fg_4 := blk_free k6 4; have cg_5 := blk_cell k6 5 rfl; have fg_5 := blk_free k6 5; have cg_6 := blk_cell k6 6 rfl; have fg_6 := blk_free k6 6; have cg_7 := blk_cell k6 7 rfl; have fg_7 := blk_free k6 7; have cg_8 := blk_cell k6 8 rfl; have fg_8 := blk_free k6 8; have cg_9 := blk_cell k6 9 rfl; have fg_9 := blk_free k6 9; have cg_10 := blk_cell k6 10 rfl; have fg_10 := blk_free k6 10; have lg := lt_of_block k6); clear hr6 hb6 hb5
    go_wp2_with fail
    clear hHeld
    refine hK.out _ _ ?_ (fun hHeld => ?_)
    · (try dsimp only); (refine ⟨?_, ?_, ?_, ?_, ?_, ?_, ?_, ?_, ?_, ?_, ?_⟩ <;> simp [go_sem, *]; done)
    clear hK K
    (try simp only [List.getElem_toArray, List.getElem_cons_succ, List.getElem_cons_zero, Act.put, List.setIfInBounds_toArray, List.set_cons_zero, List.set_cons_succ])
    refine wpAnyH_ready (rs := [20]) (by kernel_rfl) (by simp) ?_
    refine AllReadyH.cons rfl (fun K hK => ?_) AllReadyH.nil
    go_simp
    refine (SI.out _ _ _ _ _ HR56.out HR6.out).mono ?_; rintro e w7 ⟨rfl, q7, rfl⟩
    go_wp2_with fail
    clear hHeld
    refine hK.out _ _ ?_ (fun hHeld => ?_)
    · (try dsimp only); (refine ⟨?_, ?_, ?_, ?_, ?_, ?_, ?_, ?_, ?_, ?_, ?_⟩ <;> simp [go_sem, *]; done)
    clear hK K
    (try simp only [List.getElem_toArray, List.getElem_cons_succ, List.getElem_cons_zero, Act.put, List.setIfInBounds_toArray, List.set_cons_zero, List.set_cons_succ])
    refine wpAnyH_take (i := 21) (v := ?_) rfl (by kernel_rfl) (by kernel_rfl) (by kernel_rfl) (fun _ _ _ h => h) (Or.inl ⟨by rfl, ?_⟩) (by assumption) ?_
    rotate_left
    focus (intro w' hSw; (try dsimp only at hSw); go_simp; (try with_reducible rfl))
    (try simp only [List.getElem_toArray, List.getElem_cons_succ, List.getElem_cons_zero, Act.put, List.setIfInBounds_toArray, List.set_cons_zero, List.set_cons_succ])
    refine wpAnyH_take (i := 22) (v := ?_) rfl (by kernel_rfl) (by kernel_rfl) (by kernel_rfl) (fun _ _ _ h => h) (Or.inl ⟨by rfl, ?_⟩) (by assumption) ?_
    rotate_left
    focus (intro w' hSw; (try dsimp only at hSw); go_simp; (try with_reducible rfl))
    (try simp only [List.getElem_toArray, List.getElem_cons_succ, List.getElem_cons_zero, Act.put, List.setIfInBounds_toArray, List.set_cons_zero, List.set_cons_succ])
    refine wpAnyH_take (i := 23) (v := ?_) rfl (by kernel_rfl) (by kernel_rfl) (by kernel_rfl) (fun _ _ _ h => h) (Or.inl ⟨by rfl, ?_⟩) (by assumption) ?_
    rotate_left
    focus (intro w' hSw; (try dsimp only at hSw); go_simp; (try with_reducible rfl))
    (try simp only [List.getElem_toArray, List.getElem_cons_succ, List.getElem_cons_zero, Act.put, List.setIfInBounds_toArray, List.set_cons_zero, List.set_cons_succ])
    refine wpAnyH_take (i := 24) (v := ?_) rfl (by kernel_rfl) (by kernel_rfl) (by kernel_rfl) (fun _ _ _ h => h) (Or.inl ⟨by rfl, ?_⟩) (by assumption) ?_
    rotate_left
    focus (intro w' hSw; (try dsimp only at hSw); go_simp; (try with_reducible rfl))
    (try simp only [List.getElem_toArray, List.getElem_cons_succ, List.getElem_cons_zero, Act.put, List.setIfInBounds_toArray, List.set_cons_zero, List.set_cons_succ])
    refine wpAnyH_take (i := 25) (v := ?_) rfl (by kernel_rfl) (by kernel_rfl) (by kernel_rfl) (fun _ _ _ h => h) (Or.inl ⟨by rfl, ?_⟩) (by assumption) ?_
    rotate_left
    focus (intro w' hSw; (try dsimp only at hSw); go_simp; (try with_reducible rfl))
    (try simp only [List.getElem_toArray, List.getElem_cons_succ, List.getElem_cons_zero, Act.put, List.setIfInBounds_toArray, List.set_cons_zero, List.set_cons_succ])
    refine wpAnyH_take (i := 26) (v := ?_) rfl (by kernel_rfl) (by kernel_rfl) (by kernel_rfl) (fun _ _ _ h => h) (Or.inl ⟨by rfl, ?_⟩) (by assumption) ?_
    rotate_left
    focus (intro w' hSw; (try dsimp only at hSw); go_simp; (try with_reducible rfl))
    (try simp only [List.getElem_toArray, List.getElem_cons_succ, List.getElem_cons_zero, Act.put, List.setIfInBounds_toArray, List.set_cons_zero, List.set_cons_succ])
    refine wpAnyH_take (i := 27) (v := ?_) rfl (by kernel_rfl) (by kernel_rfl) (by kernel_rfl) (fun _ _ _ h => h) (Or.inl ⟨by rfl, ?_⟩) (by assumption) ?_
    rotate_left
    focus (intro w' hSw; (try dsimp only at hSw); go_simp; (try with_reducible rfl))
    (try simp only [List.getElem_toArray, List.getElem_cons_succ, List.getElem_cons_zero, Act.put, List.setIfInBounds_toArray, List.set_cons_zero, List.set_cons_succ])
    refine wpAnyH_take (i := 28) (v := ?_) rfl (by kernel_rfl) (by kernel_rfl) (by kernel_rfl) (fun _ _ _ h => h) (Or.inl ⟨by rfl, ?_⟩) (by assumption) ?_
    rotate_left
    focus (intro w' hSw; (try dsimp only at hSw); go_simp; (try with_reducible rfl))
    (try simp only [List.getElem_toArray, List.getElem_cons_succ, List.getElem_cons_zero, Act.put, List.setIfInBounds_toArray, List.set_cons_zero, List.set_cons_succ])
    refine wpAnyH_take (i := 29) (v := ?_) rfl (by kernel_rfl) (by kernel_rfl) (by kernel_rfl) (fun _ _ _ h => h) (Or.inl ⟨by rfl, ?_⟩) (by assumption) ?_
    rotate_left
    focus (intro w' hSw; (try dsimp only at hSw); go_simp; (try with_reducible rfl))
    (try simp only [List.getElem_toArray, List.getElem_cons_succ, List.getElem_cons_zero, Act.put, List.setIfInBounds_toArray, List.set_cons_zero, List.set_cons_succ])
    refine wpAnyH_take (i := 30) (v := ?_) rfl (by kernel_rfl) (by kernel_rfl) (by kernel_rfl) (fun _ _ _ h => h) (Or.inl ⟨by rfl, ?_⟩) (by assumption) ?_
    rotate_left
    focus (intro w' hSw; (try dsimp only at hSw); go_simp; (try with_reducible rfl))
    (try simp only [List.getElem_toArray, List.getElem_cons_succ, List.getElem_cons_zero, Act.put, List.setIfInBounds_toArray, List.set_cons_zero, List.set_cons_succ])
    refine wpAnyH_take (i := 31) (v := ?_) rfl (by kernel_rfl) (by kernel_rfl) (by kernel_rfl) (fun _ _ _ h => h) (Or.inl ⟨by rfl, ?_⟩) (by assumption) ?_
    rotate_left
    focus (intro w' hSw; (try dsimp only at hSw); go_simp; (try with_reducible rfl))
    (try simp only [List.getElem_toArray, List.getElem_cons_succ, List.getElem_cons_zero, Act.put, List.setIfInBounds_toArray, List.set_cons_zero, List.set_cons_succ])
    refine wpAnyH_take (i := 32) (v := ?_) rfl (by kernel_rfl) (by kernel_rfl) (by kernel_rfl) (fun _ _ _ h => h) (Or.inl ⟨by rfl, ?_⟩) (by assumption) ?_
    rotate_left
    focus (intro w' hSw; (try dsimp only at hSw); go_simp; (try with_reducible rfl))
    (try simp only [List.getElem_toArray, List.getElem_cons_succ, List.getElem_cons_zero, Act.put, List.setIfInBounds_toArray, List.set_cons_zero, List.set_cons_succ])
    refine wpAnyH_take (i := 33) (v := ?_) rfl (by kernel_rfl) (by kernel_rfl) (by kernel_rfl) (fun _ _ _ h => h) (Or.inl ⟨by rfl, ?_⟩) (by assumption) ?_
    rotate_left
    focus (intro w' hSw; (try dsimp only at hSw); go_simp; (try with_reducible rfl))
    (try simp only [List.getElem_toArray, List.getElem_cons_succ, List.getElem_cons_zero, Act.put, List.setIfInBounds_toArray, List.set_cons_zero, List.set_cons_succ])
    refine wpAnyH_take (i := 34) (v := ?_) rfl (by kernel_rfl) (by kernel_rfl) (by kernel_rfl) (fun _ _ _ h => h) (Or.inl ⟨by rfl, ?_⟩) (by assumption) ?_
    rotate_left
    focus (intro w' hSw; (try dsimp only at hSw); go_simp; (try with_reducible rfl))
    (try simp only [List.getElem_toArray, List.getElem_cons_succ, List.getElem_cons_zero, Act.put, List.setIfInBounds_toArray, List.set_cons_zero, List.set_cons_succ])
    refine wpAnyH_take (i := 35) (v := ?_) rfl (by kernel_rfl) (by kernel_rfl) (by kernel_rfl) (fun _ _ _ h => h) (Or.inl ⟨by rfl, ?_⟩) (by assumption) ?_
    rotate_left
    focus (intro w' hSw; (try dsimp only at hSw); go_simp; (try with_reducible rfl))
    (try simp only [List.getElem_toArray, List.getElem_cons_succ, List.getElem_cons_zero, Act.put, List.setIfInBounds_toArray, List.set_cons_zero, List.set_cons_succ])
    refine wpAnyH_take (i := 36) (v := ?_) rfl (by kernel_rfl) (by kernel_rfl) (by kernel_rfl) (fun _ _ _ h => h) (Or.inl ⟨by rfl, ?_⟩) (by assumption) ?_
    rotate_left
    focus (intro w' hSw; (try dsimp only at hSw); go_simp; (try with_reducible rfl))
    (try simp only [List.getElem_toArray, List.getElem_cons_succ, List.getElem_cons_zero, Act.put, List.setIfInBounds_toArray, List.set_cons_zero, List.set_cons_succ])
    refine wpAnyH_take (i := 37) (v := ?_) rfl (by kernel_rfl) (by kernel_rfl) (by kernel_rfl) (fun _ _ _ h => h) (Or.inl ⟨by rfl, ?_⟩) (by assumption) ?_
    rotate_left
    focus (intro w' hSw; (try dsimp only at hSw); go_simp; (try with_reducible rfl))
    (try simp only [List.getElem_toArray, List.getElem_cons_succ, List.getElem_cons_zero, Act.put, List.setIfInBounds_toArray, List.set_cons_zero, List.set_cons_succ])
    refine wpAnyH_take (i := 38) (v := ?_) rfl (by kernel_rfl) (by kernel_rfl) (by kernel_rfl) (fun _ _ _ h => h) (Or.inl ⟨by rfl, ?_⟩) (by assumption) ?_
    rotate_left
    focus (intro w' hSw; (try dsimp only at hSw); go_simp; (try with_reducible rfl))
    (try simp only [List.getElem_toArray, List.getElem_cons_succ, List.getElem_cons_zero, Act.put, List.setIfInBounds_toArray, List.set_cons_zero, List.set_cons_succ])
    refine wpAnyH_take (i := 39) (v := ?_) rfl (by kernel_rfl) (by kernel_rfl) (by kernel_rfl) (fun _ _ _ h => h) (Or.inl ⟨by rfl, ?_⟩) (by assumption) ?_
    rotate_left
    focus (intro w' hSw; (try dsimp only at hSw); go_simp; (try with_reducible rfl))
    (try simp only [List.getElem_toArray, List.getElem_cons_succ, List.getElem_cons_zero, Act.put, List.setIfInBounds_toArray, List.set_cons_zero, List.set_cons_succ])
    refine wpAnyH_take (i := 40) (v := ?_) rfl (by kernel_rfl) (by kernel_rfl) (by kernel_rfl) (fun _ _ _ h => h) (Or.inl ⟨by rfl, ?_⟩) (by assumption) ?_
    rotate_left
    focus (intro w' hSw; (try dsimp only at hSw); go_simp; (try with_reducible rfl))
    (try simp only [List.getElem_toArray, List.getElem_cons_succ, List.getElem_cons_zero, Act.put, List.setIfInBounds_toArray, List.set_cons_zero, List.set_cons_succ])
    refine wpAnyH_ready (rs := [41]) (by kernel_rfl) (by simp) ?_
    refine AllReadyH.cons rfl (fun K hK => ?_) AllReadyH.nil
    go_simp
    clear hHeld
    refine hK.out _ _ ?_ (fun hHeld => ?_)
    · (try dsimp only); (refine ⟨?_, ?_, ?_, ?_, ?_, ?_, ?_, ?_, ?_, ?_, ?_⟩ <;> simp [go_sem, *]; done)
    clear hK K
    (try simp only [List.getElem_toArray, List.getElem_cons_succ, List.getElem_cons_zero, Act.put, List.setIfInBounds_toArray, List.set_cons_zero, List.set_cons_succ])
    refine wpAnyH_ready (rs := [42]) (by kernel_rfl) (by simp) ?_
    refine AllReadyH.cons rfl (fun K hK => ?_) AllReadyH.nil
    go_simp
    clear hHeld
    refine hK.out _ _ ?_ (fun hHeld => ?_)
    · (try dsimp only); (refine ⟨?_, ?_, ?_, ?_, ?_, ?_, ?_, ?_, ?_, ?_, ?_⟩ <;> simp [go_sem, *]; done)
    clear hK K
    (try simp only [List.getElem_toArray, List.getElem_cons_succ, List.getElem_cons_zero, Act.put, List.setIfInBounds_toArray, List.set_cons_zero, List.set_cons_succ])
    refine wpAnyH_take (i := 43) (v := ?_) rfl (by kernel_rfl) (by kernel_rfl) (by kernel_rfl) (fun _ _ _ h => h) (Or.inl ⟨by rfl, ?_⟩) (by assumption) ?_
    rotate_left
    focus (intro w' hSw; (try dsimp only at hSw); go_simp; (try with_reducible rfl))
    (try simp only [List.getElem_toArray, List.getElem_cons_succ, List.getElem_cons_zero, Act.put, List.setIfInBounds_toArray, List.set_cons_zero, List.set_cons_succ])
    refine wpAnyH_take (i := 44) (v := ?_) rfl (by kernel_rfl) (by kernel_rfl) (by kernel_rfl) (fun _ _ _ h => h) (Or.inl ⟨by rfl, ?_⟩) (by assumption) ?_
    rotate_left
    focus (intro w' hSw; (try dsimp only at hSw); go_simp; (try with_reducible rfl))
    (try simp only [List.getElem_toArray, List.getElem_cons_succ, List.getElem_cons_zero, Act.put, List.setIfInBounds_toArray, List.set_cons_zero, List.set_cons_succ])
    refine wpAnyH_done (by kernel_rfl) ?_ _
    go_wp2_with fail
    have H6 := Lib.hid ((HL.out.below HB6.out (Nat.le_refl _)).drewN q7)
    have HB7 := Lib.hid (show Below w.heap.size w (w6.drewN q7) from below_drewN HB6.out q7)
    have K6 := Lib.hid (blk_drewN k6 q7)
    have hz66 : w.heap.size + 1 ≤ w6.heap.size := lt_of_block k6
    clear ca_0 fa_0 ca_1 fa_1 ca_2 fa_2 ca_3 fa_3 ca_4 fa_4 ca_5 fa_5 ca_6 fa_6 ca_7 fa_7 ca_8 fa_8 ca_9 fa_9 ca_10 fa_10
    clear ce_0 fe_0 ce_1 fe_1 ce_2 fe_2 ce_3 fe_3 ce_4 fe_4 ce_5 fe_5 ce_6 fe_6 ce_7 fe_7 ce_8 fe_8 ce_9 fe_9 ce_10 fe_10
    clear cg_0 fg_0 cg_1 fg_1 cg_2 fg_2 cg_3 fg_3 cg_4 fg_4 cg_5 fg_5 cg_6 fg_6 cg_7 fg_7 cg_8 fg_8 cg_9 fg_9 cg_10 fg_10
    clear la le lg k2 k5 k6
    go_loopw [11] (fun s11 wr => ∃ (i : Nat), s11 = .int .i64 i ∧ i ≤ s.n ∧ Below w6.heap.size (w6.drewN q7) wr) (fun s11 _ => s.n - (intOf s11).toNat)
    case atStart => exact ⟨0, by go_num, by omega, Below.refl _ _⟩
    case round =>
      obtain ⟨i, rfl, hi, hB⟩ := hrel
      have hzr := hB.size
      have hzr' : w6.heap.size ≤ wr.heap.size := hzr
      have HR := Lib.hid (H6.out.below hB (Nat.le_refl _))
      have hk := blk_below K6.out hB (by omega)
      have HBr := Lib.hid (HB7.out.trans (hB.mono (by omega)))
      have HB := Lib.hid hB
      clear hB
      have ca_0 := blk_cell hk 0 rfl; have fa_0 := blk_free hk 0; have ca_1 := blk_cell hk 1 rfl; have fa_1 := blk_free hk 1; have ca_2 := blk_cell hk 2 rfl; have fa_2 := blk_free hk 2; have ca_3 := blk_cell hk 3 rfl; have fa_3 := blk_free hk 3; have ca_4 := blk_cell hk 4 rfl; have fa_4 := blk_free hk 4; have ca_5 := blk_cell hk 5 rfl; have fa_5 := blk_free hk 5; have ca_6 := blk_cell hk 6 rfl; have fa_6 := blk_free hk 6; have ca_7 := blk_cell hk 7 rfl; have fa_7 := blk_free hk 7; have ca_8 := blk_cell hk 8 rfl; have fa_8 := blk_free hk 8; have ca_9 := blk_cell hk 9 rfl; have fa_9 := blk_free hk 9; have ca_10 := blk_cell hk 10 rfl; have fa_10 := blk_free hk 10; have la := lt_of_block hk
      by_cases hlt : i < s.n
      · obtain ⟨x, hx⟩ : ∃ x, x = s.seen[i]'(by rw [HSL.out]; exact hlt) := ⟨_, rfl⟩
        obtain ⟨g, o, cur, hSe, _, hg, _, _, _, _, _, hcell, _⟩ := (HRR.out.sr.below HBr.out (Nat.le_refl _)).some_ (by omega)
        have m0 := hcell (i * 3 + 0) (.bool x.1) (by rw [repcs_at _ _ _ (by rw [HSL.out]; exact hlt) (by omega), ← hx]; rfl)
        have m1 := hcell (i * 3 + 1) (.int .i64 x.2.1) (by rw [repcs_at _ _ _ (by rw [HSL.out]; exact hlt) (by omega), ← hx]; rfl)
        have m2 := hcell (i * 3 + 2) (.int .i64 x.2.2) (by rw [repcs_at _ _ _ (by rw [HSL.out]; exact hlt) (by omega), ← hx]; rfl)
        simp only [← Nat.add_assoc, Nat.add_zero] at m0 m1 m2
        have E := show seenR s ((i : Int) + 1) = if x.1 then (x.2.1, x.2.2, 0) else (0, 0, 9) by
          unfold seenR
          rw [if_pos (by omega), show ((i : Int) + 1).toNat - 1 = i by omega, hx]
          simp [List.getD, List.getElem?_eq_getElem (show i < s.seen.length by rw [HSL.out]; exact hlt)]
        have hxf := HF.out.2 x (by rw [hx]; exact List.getElem_mem _)
        have SJ := Lib.hid (SE.out _ HR.out ((i : Int) + 1))
        have hin : (i : Int) < (s.n : Int) := by omega
        rw [E] at SJ
        obtain ⟨x1, x2, x3⟩ := x
        simp only at m0 m1 m2 SJ hxf
        have hgr : g < wr.heap.size := hg
        subst hSe
        clear hcell hx E hk
        cases x1
        · obtain ⟨rfl, rfl⟩ := hxf rfl
          rw [if_neg (by simp)] at SJ
          clear hxf
          go_wp2_with fail
          refine SJ.out.mono ?_
          rintro e w8 ⟨rfl, hB8⟩
          have k8 := blk_below (q := w.heap.size) (blk_below K6.out HB.out (by omega)) hB8 (by omega)
          have n0 := ((bcell hB8).1 g _ hgr).trans m0
          have n1 := ((bcell hB8).1 g _ hgr).trans m1
          have n2 := ((bcell hB8).1 g _ hgr).trans m2
          have HB8 := Lib.hid (HB.out.trans (hB8.mono hzr'))
          have hz8 : wr.heap.size ≤ w8.heap.size := hB8.size
          clear ca_0 fa_0 ca_1 fa_1 ca_2 fa_2 ca_3 fa_3 ca_4 fa_4 ca_5 fa_5 ca_6 fa_6 ca_7 fa_7 ca_8 fa_8 ca_9 fa_9 ca_10 fa_10
          clear la hB8 m0 m1 m2
          have ce_0 := blk_cell k8 0 rfl; have fe_0 := blk_free k8 0; have ce_1 := blk_cell k8 1 rfl; have fe_1 := blk_free k8 1; have ce_2 := blk_cell k8 2 rfl; have fe_2 := blk_free k8 2; have ce_3 := blk_cell k8 3 rfl; have fe_3 := blk_free k8 3; have ce_4 := blk_cell k8 4 rfl; have fe_4 := blk_free k8 4; have ce_5 := blk_cell k8 5 rfl; have fe_5 := blk_free k8 5; have ce_6 := blk_cell k8 6 rfl; have fe_6 := blk_free k8 6; have ce_7 := blk_cell k8 7 rfl; have fe_7 := blk_free k8 7; have ce_8 := blk_cell k8 8 rfl; have fe_8 := blk_free k8 8; have ce_9 := blk_cell k8 9 rfl; have fe_9 := blk_free k8 9; have ce_10 := blk_cell k8 10 rfl; have fe_10 := blk_free k8 10; have le := lt_of_block k8
          go_wp2_with fail
          go_roundw
          case rel => exact ⟨i + 1, by go_num, by omega, HB8.out.alloc (by omega) _⟩
          case measure => simp [intOf]; omega
        · rw [if_pos rfl] at SJ
          clear hxf
          go_wp2_with fail
          refine SJ.out.mono ?_
          rintro e w8 ⟨rfl, hB8⟩
          have k8 := blk_below (q := w.heap.size) (blk_below K6.out HB.out (by omega)) hB8 (by omega)
          have n0 := ((bcell hB8).1 g _ hgr).trans m0
          have n1 := ((bcell hB8).1 g _ hgr).trans m1
          have n2 := ((bcell hB8).1 g _ hgr).trans m2
          have HB8 := Lib.hid (HB.out.trans (hB8.mono hzr'))
          have hz8 : wr.heap.size ≤ w8.heap.size := hB8.size
          clear ca_0 fa_0 ca_1 fa_1 ca_2 fa_2 ca_3 fa_3 ca_4 fa_4 ca_5 fa_5 ca_6 fa_6 ca_7 fa_7 ca_8 fa_8 ca_9 fa_9 ca_10 fa_10
          clear la hB8 m0 m1 m2
          have ce_0 := blk_cell k8 0 rfl; have fe_0 := blk_free k8 0; have ce_1 := blk_cell k8 1 rfl; have fe_1 := blk_free k8 1; have ce_2 := blk_cell k8 2 rfl; have fe_2 := blk_free k8 2; have ce_3 := blk_cell k8 3 rfl; have fe_3 := blk_free k8 3; have ce_4 := blk_cell k8 4 rfl; have fe_4 := blk_free k8 4; have ce_5 := blk_cell k8 5 rfl; have fe_5 := blk_free k8 5; have ce_6 := blk_cell k8 6 rfl; have fe_6 := blk_free k8 6; have ce_7 := blk_cell k8 7 rfl; have fe_7 := blk_free k8 7; have ce_8 := blk_cell k8 8 rfl; have fe_8 := blk_free k8 8; have ce_9 := blk_cell k8 9 rfl; have fe_9 := blk_free k8 9; have ce_10 := blk_cell k8 10 rfl; have fe_10 := blk_free k8 10; have le := lt_of_block k8
          go_wp2_with fail
          go_roundw
          case rel => exact ⟨i + 1, by go_num, by omega, HB8.out.alloc (by omega) _⟩
          case measure => simp [intOf]; omega
      · obtain rfl : i = s.n := by omega
        have S0 := Lib.hid (SE.out _ HR.out 0)
        rw [show seenR s 0 = (0, 0, 2) by unfold seenR; rw [if_neg (by omega)]] at S0
        have SN := Lib.hid (fun (W : World) (hW : IsSt W base b MA mc RA rc s) => SE.out W hW ((s.n : Int) + 1))
        rw [show seenR s ((s.n : Int) + 1) = (0, 0, 2) by unfold seenR; rw [if_neg (by omega)]] at SN
        go_wp2_with fail
        refine S0.out.mono ?_
        rintro e w8 ⟨rfl, hB8⟩
        have k8 := blk_below (q := w.heap.size) hk hB8 (by omega)
        have H8 := Lib.hid (HR.out.below hB8 (Nat.le_refl _))
        have HB8 := Lib.hid (HBr.out.trans (hB8.mono (by omega)))
        have hz8 := HB8.out.size
        clear ca_0 fa_0 ca_1 fa_1 ca_2 fa_2 ca_3 fa_3 ca_4 fa_4 ca_5 fa_5 ca_6 fa_6 ca_7 fa_7 ca_8 fa_8 ca_9 fa_9 ca_10 fa_10
        clear la hB8 hk
        have ce_0 := blk_cell k8 0 rfl; have fe_0 := blk_free k8 0; have ce_1 := blk_cell k8 1 rfl; have fe_1 := blk_free k8 1; have ce_2 := blk_cell k8 2 rfl; have fe_2 := blk_free k8 2; have ce_3 := blk_cell k8 3 rfl; have fe_3 := blk_free k8 3; have ce_4 := blk_cell k8 4 rfl; have fe_4 := blk_free k8 4; have ce_5 := blk_cell k8 5 rfl; have fe_5 := blk_free k8 5; have ce_6 := blk_cell k8 6 rfl; have fe_6 := blk_free k8 6; have ce_7 := blk_cell k8 7 rfl; have fe_7 := blk_free k8 7; have ce_8 := blk_cell k8 8 rfl; have fe_8 := blk_free k8 8; have ce_9 := blk_cell k8 9 rfl; have fe_9 := blk_free k8 9; have ce_10 := blk_cell k8 10 rfl; have fe_10 := blk_free k8 10; have le := lt_of_block k8
        go_wp2_with fail
        refine (SN.out _ H8.out).mono ?_
        rintro e w9 ⟨rfl, hB9⟩
        have HB9 := Lib.hid (HB8.out.trans (hB9.mono hz8))
        clear hB9
        go_wp2_with fail
        go_ret
        exact ⟨rfl, HB9.out⟩
end Go.Proofs.Ytiidkmnagfhgiaa

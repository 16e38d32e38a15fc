import Derived.Test.YtdocdgcdldpagaaGreatAp
import Derived.Test.YtdocdgcdldpagaaGreatAv27
import Derived.Test.YtdocdgcdldpagaaGreatAv14
import Derived.Test.YtdocdgcdldpagaaGreatAv15
import Derived.Test.YtdocdgcdldpagaaGreatAv17
import Derived.Test.YtdocdgcdldpagaaGreatAv21
namespace Go.Proofs.YtdocdgcdldpagaaGreat
open Go.RowKit
set_option maxHeartbeats 8000000
set_option maxRecDepth 100000
set_option linter.unusedSimpArgs false
set_option linter.unusedVariables false
attribute [local go_sem ↓] Go.wp_at_zero Go.wp_at_succ
attribute [local go_sem high] run_mn run_mx
section
variable {w w' : World} {base b c : Nat} {s : Plt.St}
theorem tickS_ask {s : Plt.St} {l : Int} (h : Plt.timE s l = 0) (ha : Plt.asks (Plt.pas s l) l = true) : Plt.tickS s l = Plt.pas s l ∧ Plt.tickF s l = [] := by
  unfold Plt.tickS Plt.tickF Plt.tick
  rw [if_pos h, if_pos ha, if_neg (by rw [ha]; simp)]
  exact ⟨rfl, rfl⟩
theorem tickS_rep {s : Plt.St} {l : Int} (h : Plt.timE s l = 0) (ha : Plt.asks (Plt.pas s l) l = false) : Plt.tickS s l = { Plt.pas s l with q := (Plt.pas s l).reports % 65536, asked := true, reports := (Plt.pas s l).reports + 1, rep := l } ∧ Plt.tickF s l = [⟨9, s.id, 0, (Plt.pas s l).reports % 65536, [(Plt.pas s l).st]⟩] := by
  unfold Plt.tickS Plt.tickF Plt.tick
  rw [if_pos h, if_neg (show ¬ (Plt.asks (Plt.pas s l) l = true) by rw [ha]; simp), if_pos ⟨h, ha⟩, (Plt.pas_same s l).2.2.1]
  exact ⟨rfl, rfl⟩
theorem ptick_any (h : IsP w base b c s) (hs : Plt.Inv s) (hrep : s.reports < 1000000000000000) (now : Int) :
    Calls Tryz.prog 105 #[.pointer (some ⟨b, 0, none⟩), .int .i64 now] w (PRPost base b c (Plt.tickS s now) (Plt.tickF s now) (Plt.timE s now) w) := by
  have HH := Lib.hid h
  have NO := Lib.hid (fun (W : World) (hW : IsP W base b c s) => pnone_any hW hs)
  rcases Plt.timE_cases s now with he | he
  case inr =>
    have E := Lib.hid he
    have ES := Lib.hid (show Plt.tickS s now = s ∧ Plt.tickF s now = [] by unfold Plt.tickS Plt.tickF; rw [if_neg (by rw [he]; omega), if_neg (by rw [he]; simp)]; exact ⟨rfl, rfl⟩)
    have CH := Lib.hid (fun (W : World) (hW : IsP W base b c s) => by have := check_any hW now; rw [he] at this; exact this)
    clear he h hs hrep
    go_enter Tryz.func105, Tryz.ntmps105
    go_wp2_with fail
    refine (NO.out _ HH.out).mono ?_
    rintro e w' ⟨rfl, rfl⟩
    go_wp2_with fail
    refine (CH.out _ HH.out).mono ?_
    rintro e w' ⟨rfl, rfl⟩
    go_wp2_with fail
    go_ret2
    exact PRPost.same HH.out (Below.refl _ _) ES.out.1 ES.out.2 E.out
  case inl =>
  have hl := (Plt.timE_ok he).1
  have CH := Lib.hid (fun (W : World) (hW : IsP W base b c s) => by have := check_any hW now; rw [he] at this; exact this)
  obtain ⟨p, hp⟩ : ∃ p, p = Plt.pas s now := ⟨_, rfl⟩
  have hpi : Plt.Inv p := by rw [hp]; exact Plt.pas_inv hs hl
  have hpr : p.reports = s.reports ∧ p.id = s.id := by rw [hp]; exact ⟨(Plt.pas_same s now).2.2.1, Plt.pas_id s now⟩
  have PA := Lib.hid (fun (W : World) (hW : IsP W base b c s) => by have := pass_any hW hs hl; rw [← hp] at this; exact this)
  have h1 := hpi.rep
  have h2 := hpi.every
  have h3 := hpi.rp
  have h4 := hpi.st
  have wr : IntKind.i64.wrap (now - p.rep) = now - p.rep := IntWalk.i64_in _ Cb
  rw [he]
  cases ha : Plt.asks p now
  case true =>
    have ES := Lib.hid (show Plt.tickS s now = p ∧ Plt.tickF s now = [] by have := tickS_ask he (by rw [← hp]; exact ha); rw [← hp] at this; exact this)
    unfold Plt.asks at ha
    rw [decide_eq_true_eq] at ha
    have z1 : decide (0 < p.reports) = true := decide_eq_true ha.1
    have z2 : decide (now - p.rep < p.every) = true := decide_eq_true ha.2
    clear ha he h hs hrep hp hpi hpr hl h1 h2 h3 h4
    rw [ES.out.1, ES.out.2]
    go_enter Tryz.func105, Tryz.ntmps105
    go_wp2_with fail
    refine (NO.out _ HH.out).mono ?_
    rintro e w' ⟨rfl, rfl⟩
    go_wp2_with fail
    refine (CH.out _ HH.out).mono ?_
    rintro e w' ⟨rfl, rfl⟩
    go_wp2_with fail
    refine (PA.out _ HH.out).mono ?_
    rintro e w2 ⟨rfl, hp2, hk2⟩
    have HP2 := Lib.hid hp2
    have HK2 := Lib.hid hk2
    have c17 := blk_cell hp2.blk 17 rfl
    have c18 := blk_cell hp2.blk 18 rfl
    have c5 := blk_cell hp2.blk 5 rfl
    clear hp2 hk2
    go_wp2_with fail
    go_quiet (fail)
    go_wp2_with fail
    go_ret2
    exact ⟨_, rfl, Rof.nil _ _, HP2.out.drewN _, (HK2.out.drewN _).mono (fun _ _ h => .inl h)⟩
  case false =>
    have ES := Lib.hid (show Plt.tickS s now = { p with q := p.reports % 65536, asked := true, reports := p.reports + 1, rep := now } ∧ Plt.tickF s now = [⟨9, s.id, 0, p.reports % 65536, [p.st]⟩] by have := tickS_rep he (by rw [← hp]; exact ha); rw [← hp] at this; exact this)
    unfold Plt.asks at ha
    rw [decide_eq_false_iff_not] at ha
    obtain ⟨u, hu⟩ : ∃ u, u = p.reports % 65536 := ⟨_, rfl⟩
    have wa : bits .and .i64 p.reports 65535 = u := by rw [hu]; exact pand_16 _ Cb
    have ws : IntKind.i64.wrap (p.reports + 1) = p.reports + 1 := IntWalk.i64_in _ Cb
    have wk : IntKind.u8.wrap p.st = p.st := by rw [IntKind.wrap_u8]; omega
    have hst255 : 0 ≤ p.st ∧ p.st < 256 := by omega
    have HID := Lib.hid hpr.2
    rw [← hu] at ES
    obtain ⟨n, hn⟩ : ∃ n, n = ({ p with q := u, asked := true, reports := p.reports + 1, rep := now } : Plt.St) := ⟨_, rfl⟩
    rw [← hn] at ES
    have HN := Lib.hid hn
    rw [ES.out.1, ES.out.2]
    have key : (decide (0 < p.reports) = false) ∨ (decide (0 < p.reports) = true ∧ decide (now - p.rep < p.every) = false) := by
      by_cases h0 : 0 < p.reports
      · exact .inr ⟨decide_eq_true h0, decide_eq_false (fun hh => ha ⟨h0, hh⟩)⟩
      · exact .inl (decide_eq_false h0)
    clear ha he h hs hrep hp hpi hpr hl h1 h2 h3 h4 hu hn
    rcases key with z1 | ⟨z1, z2⟩
    all_goals
      go_enter Tryz.func105, Tryz.ntmps105
      go_wp2_with fail
      refine (NO.out _ HH.out).mono ?_
      rintro e w' ⟨rfl, rfl⟩
      go_wp2_with fail
      refine (CH.out _ HH.out).mono ?_
      rintro e w' ⟨rfl, rfl⟩
      go_wp2_with fail
      refine (PA.out _ HH.out).mono ?_
      rintro e w2 ⟨rfl, hp2, hk2⟩
      have HP2 := Lib.hid hp2
      have HK2 := Lib.hid hk2
      have hzk : w.heap.size ≤ w2.heap.size := hk2.size
      have hk := hp2.blk
      simp only [pcl] at hk
      clear hp2 hk2
      have ca_0 := blk_cell hk 0 rfl; have fa_0 := blk_free hk 0; have ca_1 := blk_cell hk 1 rfl; have fa_1 := blk_free hk 1; have ca_2 := blk_cell hk 2 rfl; have fa_2 := blk_free hk 2; have ca_3 := blk_cell hk 3 rfl; have fa_3 := blk_free hk 3; have ca_4 := blk_cell hk 4 rfl; have fa_4 := blk_free hk 4; have ca_5 := blk_cell hk 5 rfl; have fa_5 := blk_free hk 5; have ca_6 := blk_cell hk 6 rfl; have fa_6 := blk_free hk 6; have ca_7 := blk_cell hk 7 rfl; have fa_7 := blk_free hk 7; have ca_8 := blk_cell hk 8 rfl; have fa_8 := blk_free hk 8; have ca_9 := blk_cell hk 9 rfl; have fa_9 := blk_free hk 9; have ca_10 := blk_cell hk 10 rfl; have fa_10 := blk_free hk 10; have ca_11 := blk_cell hk 11 rfl; have fa_11 := blk_free hk 11; have ca_12 := blk_cell hk 12 rfl; have fa_12 := blk_free hk 12; have ca_13 := blk_cell hk 13 rfl; have fa_13 := blk_free hk 13; have ca_14 := blk_cell hk 14 rfl; have fa_14 := blk_free hk 14; have ca_15 := blk_cell hk 15 rfl; have fa_15 := blk_free hk 15; have ca_16 := blk_cell hk 16 rfl; have fa_16 := blk_free hk 16; have ca_17 := blk_cell hk 17 rfl; have fa_17 := blk_free hk 17; have ca_18 := blk_cell hk 18 rfl; have fa_18 := blk_free hk 18; have la := lt_of_block hk
      clear hk
      go_wp2_with fail
      go_quiet (fail)
      (try clear z1)
      (try clear z2)
      clear wr
      go_wp2_with fail
      generalize hD : World.drewN _ _ = w3
      have HP3 := Lib.hid (show IsP w3 base b c p by rw [← hD]; exact HP2.out.drewN _)
      have HK3 := Lib.hid (show Keeps (fun i => i = b) w w3 by rw [← hD]; exact HK2.out.drewN _)
      have hz3 : w3.heap.size = w2.heap.size := by rw [← hD]; rfl
      have hzk3 : w.heap.size ≤ w3.heap.size := by omega
      clear hD hz3 hzk
      clear ca_0 fa_0 ca_1 fa_1 ca_2 fa_2 ca_3 fa_3 ca_4 fa_4 ca_5 fa_5 ca_6 fa_6 ca_7 fa_7 ca_8 fa_8 ca_9 fa_9 ca_10 fa_10 ca_11 fa_11 ca_12 fa_12 ca_13 fa_13 ca_14 fa_14 ca_15 fa_15 ca_16 fa_16 ca_17 fa_17 ca_18 fa_18
      clear la HP2 HK2
      have hk := HP3.out.blk
      simp only [pcl] at hk
      have ca_0 := blk_cell hk 0 rfl; have fa_0 := blk_free hk 0; have ca_1 := blk_cell hk 1 rfl; have fa_1 := blk_free hk 1; have ca_2 := blk_cell hk 2 rfl; have fa_2 := blk_free hk 2; have ca_3 := blk_cell hk 3 rfl; have fa_3 := blk_free hk 3; have ca_4 := blk_cell hk 4 rfl; have fa_4 := blk_free hk 4; have ca_5 := blk_cell hk 5 rfl; have fa_5 := blk_free hk 5; have ca_6 := blk_cell hk 6 rfl; have fa_6 := blk_free hk 6; have ca_7 := blk_cell hk 7 rfl; have fa_7 := blk_free hk 7; have ca_8 := blk_cell hk 8 rfl; have fa_8 := blk_free hk 8; have ca_9 := blk_cell hk 9 rfl; have fa_9 := blk_free hk 9; have ca_10 := blk_cell hk 10 rfl; have fa_10 := blk_free hk 10; have ca_11 := blk_cell hk 11 rfl; have fa_11 := blk_free hk 11; have ca_12 := blk_cell hk 12 rfl; have fa_12 := blk_free hk 12; have ca_13 := blk_cell hk 13 rfl; have fa_13 := blk_free hk 13; have ca_14 := blk_cell hk 14 rfl; have fa_14 := blk_free hk 14; have ca_15 := blk_cell hk 15 rfl; have fa_15 := blk_free hk 15; have ca_16 := blk_cell hk 16 rfl; have fa_16 := blk_free hk 16; have ca_17 := blk_cell hk 17 rfl; have fa_17 := blk_free hk 17; have ca_18 := blk_cell hk 18 rfl; have fa_18 := blk_free hk 18; have la := lt_of_block hk
      clear hk
      have hbn : b ≠ w3.heap.size := by omega
      have hnb : w3.heap.size ≠ b := by omega
      (go_region_held3 (fun w' => w'.cell? ⟨b, 0, none⟩ = some (.int .i64 p.id) ∧ w'.cell? ⟨b, 17, none⟩ = some (.int .i64 p.reports) ∧ w'.cell? ⟨b, 7, none⟩ = some (.int .i64 p.st)) (first | (refine ⟨?_, ?_, ?_⟩ <;> simp [go_sem, *]; done) | go_keep) (fail))
      all_goals
        go_upto_region 12 with fail
        generalize hX : World.setCell _ _ _ = X
        have hK : Keeps (fun i => i = b) w3 X := by rw [← hX]; (repeat (first | with_reducible exact Keeps.refl _ _ | (with_reducible refine Keeps.set1 ?_ _ _) | (with_reducible refine Keeps.drew ?_) | (with_reducible refine Keeps.drewN ?_ _) | (with_reducible refine Keeps.alloc ?_ _)))
        have kP : IsP X base b c n := ⟨by rw [HN.out]; simp only [pcl]; rw [← hX]; have hk := HP3.out.blk; simp only [pcl] at hk; exact Aa, by rw [HN.out]; exact HP3.out.clk_kept hK, HP3.out.ge⟩
        have hzX : X.heap.size = w3.heap.size := by rw [← hX]; simp
        clear hX
        generalize hY : World.alloc _ _ = Y
        have KP := Lib.hid (show IsP Y base b c n by rw [← hY]; exact (kP.alloc _).alloc _)
        have HKX := Lib.hid (show Keeps (fun i => i = b ∨ i = c) w Y by rw [← hY]; exact (((HK3.out.trans hK (fun _ _ h => h)).mono (fun _ _ h => Or.inl h)).alloc _).alloc _)
        have hzY : w.heap.size ≤ Y.heap.size := HKX.out.size
        clear hK kP
        first
        | (have kB : Y.heap[w3.heap.size]? = some (.cells #[.int .u8 p.st] 5 (0, 0)) := (by rw [← hY]; exact blk_alloc (heap_new' _ _ _ Cb) _); have kF : Y.heap[w3.heap.size + 1]? = some (.cells #[.int .i64 9, .int .i64 p.id, .int .i64 0, .int .i64 u, .slice (some ⟨w3.heap.size, 0, none⟩) 1 1] 147 (0, 0)) := (by rw [← hY]; exact heap_new' _ _ _ C6); have KB := Lib.hid kB; clear hY kB hzX; (clear ca_0 fa_0 ca_1 fa_1 ca_2 fa_2 ca_3 fa_3 ca_4 fa_4 ca_5 fa_5 ca_6 fa_6 ca_7 fa_7 ca_8 fa_8 ca_9 fa_9 ca_10 fa_10 ca_11 fa_11 ca_12 fa_12 ca_13 fa_13 ca_14 fa_14 ca_15 fa_15 ca_16 fa_16 ca_17 fa_17 ca_18 fa_18); (have cr_0 := blk_cell kF 0 rfl; have fr_0 := blk_free kF 0; have cr_1 := blk_cell kF 1 rfl; have fr_1 := blk_free kF 1; have cr_2 := blk_cell kF 2 rfl; have fr_2 := blk_free kF 2; have cr_3 := blk_cell kF 3 rfl; have fr_3 := blk_free kF 3; have cr_4 := blk_cell kF 4 rfl; have fr_4 := blk_free kF 4; have lr := lt_of_block kF); (go_wp2_with fail); go_ret2; rw [← HID.out]; refine ⟨_, rfl, ?_, ?_, ?_⟩; (first | exact rof_one (g1 := w3.heap.size) (g2 := Y.heap.size) (blk_alloc KB.out _) (heap_new _ _) hst255 Cb Cb | exact Rof.drew (rof_one (g1 := w3.heap.size) (g2 := Y.heap.size) (blk_alloc KB.out _) (heap_new _ _) hst255 Cb Cb)); (first | exact KP.out.alloc _ | exact (KP.out.alloc _).drew); (first | exact HKX.out.alloc _ | exact (HKX.out.alloc _).drew))
        | (have kB : Y.heap[w3.heap.size + 1]? = some (.cells #[.int .u8 p.st] 5 (0, 0)) := (by rw [← hY]; exact heap_new' _ _ _ C6); have kF : Y.heap[w3.heap.size]? = some (.cells #[.int .i64 9, .int .i64 p.id, .int .i64 0, .int .i64 u, .slice (some ⟨w3.heap.size + 1, 0, none⟩) 1 1] 147 (0, 0)) := (by rw [← hY]; exact blk_alloc (heap_new' _ _ _ Cb) _); have KB := Lib.hid kB; clear hY kB hzX; (clear ca_0 fa_0 ca_1 fa_1 ca_2 fa_2 ca_3 fa_3 ca_4 fa_4 ca_5 fa_5 ca_6 fa_6 ca_7 fa_7 ca_8 fa_8 ca_9 fa_9 ca_10 fa_10 ca_11 fa_11 ca_12 fa_12 ca_13 fa_13 ca_14 fa_14 ca_15 fa_15 ca_16 fa_16 ca_17 fa_17 ca_18 fa_18); (have cr_0 := blk_cell kF 0 rfl; have fr_0 := blk_free kF 0; have cr_1 := blk_cell kF 1 rfl; have fr_1 := blk_free kF 1; have cr_2 := blk_cell kF 2 rfl; have fr_2 := blk_free kF 2; have cr_3 := blk_cell kF 3 rfl; have fr_3 := blk_free kF 3; have cr_4 := blk_cell kF 4 rfl; have fr_4 := blk_free kF 4; have lr := lt_of_block kF); (go_wp2_with fail); go_ret2; rw [← HID.out]; refine ⟨_, rfl, ?_, ?_, ?_⟩; (first | exact rof_one (g1 := w3.heap.size + 1) (g2 := Y.heap.size) (blk_alloc KB.out _) (heap_new _ _) hst255 Cb Cb | exact Rof.drew (rof_one (g1 := w3.heap.size + 1) (g2 := Y.heap.size) (blk_alloc KB.out _) (heap_new _ _) hst255 Cb Cb)); (first | exact KP.out.alloc _ | exact (KP.out.alloc _).drew); (first | exact HKX.out.alloc _ | exact (HKX.out.alloc _).drew))
end
end Go.Proofs.YtdocdgcdldpagaaGreat
namespace Go.Proofs.YtdocdgcdldpagaaGreat
open Go.RowKit
set_option maxHeartbeats 8000000
set_option maxRecDepth 100000
set_option linter.unusedSimpArgs false
set_option linter.unusedVariables false
attribute [local go_sem ↓] Go.wp_at_zero Go.wp_at_succ
attribute [local go_sem high] run_mn run_mx
section
variable {w w' : World} {base b c : Nat} {s : Plt.St}
theorem pstate_any (h : IsP w base b c s) (hs : Plt.Inv s) :
    Calls Tryz.prog 56 #[.pointer (some ⟨b, 0, none⟩)] w fun e w' => e = .returned (.int .i64 s.st) ∧ w = w' := by
  have N := Lib.hid (pnone_any h hs)
  have c7 : w.cell? ⟨b, 7, none⟩ = some (.int .i64 s.st) := blk_cell h.blk 7 rfl
  clear h hs
  go_enter Tryz.func56, Tryz.ntmps56
  go_wp2_with fail
  refine N.out.mono ?_
  rintro e w' ⟨rfl, rfl⟩
  go_wp2_with fail
  go_returns
  exact ⟨rfl, rfl⟩
def PNewPost (base : Nat) (s : Plt.St) (w : World) (e : Ending) (w' : World) : Prop := ∃ b c, e = .returned (.tuple #[.pointer (some ⟨b, 0, none⟩), .int .i64 0]) ∧ IsP w' base b c s ∧ Below w.heap.size w w'
theorem pnew_yes (id lost ret desc late every d : Int) (w : World) (h : Plt.newE id lost ret desc late every d = 0) :
    Calls Tryz.prog 64 #[.int .i64 id, .agg #[.int .i64 lost, .int .i64 ret, .int .i64 desc, .int .i64 late, .int .i64 every], .int .i64 d] w (PNewPost w.heap.size (Plt.new id lost ret desc late every d) w) := by
  have hh : Ck.Clk.inB id 1 64 = true ∧ Plt.ruOk lost ret desc late every = true ∧ (0 ≤ d ∧ d ≤ 100000) := by
    unfold Plt.newE at h
    split at h
    · assumption
    · omega
  obtain ⟨hi, hr, hd⟩ := hh
  have WI := Lib.hid (fun W : World => pwithin_yes id 1 64 W (Ck.Clk.inB_iff.1 hi))
  have VA := Lib.hid (fun W : World => by have := pvalid_any lost ret desc late every W; rw [hr] at this; exact this)
  have CN := Lib.hid (fun W : World => Ck.new_yes d W hd)
  clear h hi hr hd
  go_enter Tryz.func64, Tryz.ntmps64
  go_upto_region 1 with fail
  generalize hV : World.alloc _ _ = V; have k0 : V.heap[w.heap.size]? = some (.cells #[.int .i64 lost, .int .i64 ret, .int .i64 desc, .int .i64 late, .int .i64 every] 23 (0, 0)) := Bd; have HB := Lib.hid (show Below w.heap.size w V by rw [← hV]; exact (Below.refl _ _).alloc (Nat.le_refl _) _); clear hV
  have hzV : w.heap.size < V.heap.size := lt_of_block k0
  go_wp2_with fail
  refine (CN.out _).mono ?_
  rintro e w1 ⟨rfl, hk1, hb1⟩
  have HK1 := Lib.hid hk1
  clear hk1
  have HJ := Lib.hid (blk_below k0 hb1 (lt_of_block k0))
  have hz1 := hb1.size
  have j0 := blk_below k0 hb1 (lt_of_block k0); have HB1 := Lib.hid (HB.out.trans (hb1.mono HB.out.size)); clear k0 hb1 HB; (have cf_0 := blk_cell j0 0 rfl; have ff_0 := blk_free j0 0; have cf_1 := blk_cell j0 1 rfl; have ff_1 := blk_free j0 1; have cf_2 := blk_cell j0 2 rfl; have ff_2 := blk_free j0 2; have cf_3 := blk_cell j0 3 rfl; have ff_3 := blk_free j0 3; have cf_4 := blk_cell j0 4 rfl; have ff_4 := blk_free j0 4; have lf := lt_of_block j0); clear j0; go_wp2_with fail
  refine (WI.out _).mono ?_
  rintro e w' ⟨rfl, rfl⟩
  go_wp2_with fail
  refine (VA.out _).mono ?_
  rintro e w2 ⟨rfl, hb2⟩
  have HB2 := Lib.hid (HB1.out.trans (hb2.mono HB1.out.size))
  have HK2 := Lib.hid (Ck.clk_below HK1.out hb2 (Ck.clk_lt HK1.out))
  have j2 := blk_below HJ.out hb2 (lt_of_block HJ.out)
  clear hb2 HB1 HK1 HJ
  clear cf_0 ff_0 cf_1 ff_1 cf_2 ff_2 cf_3 ff_3 cf_4 ff_4
  have cg_0 := blk_cell j2 0 rfl; have fg_0 := blk_free j2 0; have cg_1 := blk_cell j2 1 rfl; have fg_1 := blk_free j2 1; have cg_2 := blk_cell j2 2 rfl; have fg_2 := blk_free j2 2; have cg_3 := blk_cell j2 3 rfl; have fg_3 := blk_free j2 3; have cg_4 := blk_cell j2 4 rfl; have fg_4 := blk_free j2 4; have lg := lt_of_block j2
  clear j2
  go_wp2_with fail
  go_returns
  exact ⟨_, V.heap.size, rfl, ⟨heap_new _ _, Ck.clk_alloc HK2.out _, HB2.out.size, by omega⟩, HB2.out.alloc HB2.out.size _⟩
end
end Go.Proofs.YtdocdgcdldpagaaGreat
namespace Go.Proofs.YtdocdgcdldpagaaGreat
open Go.RowKit
set_option maxHeartbeats 2000000
set_option maxRecDepth 100000
set_option linter.unusedSimpArgs false
set_option linter.unusedVariables false
attribute [local go_sem ↓] Go.wp_at_zero Go.wp_at_succ
attribute [local go_sem high] run_mn run_mx
section
variable {w w' : World} {base b c : Nat} {s : Plt.St}
theorem pbounds_any (h : IsP w base b c s) (hs : Plt.Inv s) (x : Int) :
    Calls Tryz.prog 54 #[.pointer (some ⟨b, 0, none⟩), .int .i64 x] w fun e w' => e = .returned (.tuple #[.agg #[.int .i64 (Ck.aLo s.d s.r s.cs s.lo s.hi x), .int .i64 (Ck.aHi s.d s.r s.cs s.hi x)], .int .i64 (Ck.aE s.d s.r s.cs s.hi x)]) ∧ Below w.heap.size w w' := by
  have HH := Lib.hid h
  have NO := Lib.hid (fun (W : World) (hW : IsP W base b c s) => pnone_any hW hs)
  have AT := Lib.hid (fun (W : World) (hW : Ck.IsClk W c s.d s.r true s.cs s.lo s.hi) => Ck.at_any c s.d s.r s.cs s.lo s.hi x W hW hs.clk)
  obtain ⟨e1, h1⟩ : ∃ y, y = Ck.aLo s.d s.r s.cs s.lo s.hi x := ⟨_, rfl⟩
  obtain ⟨e2, h2⟩ : ∃ y, y = Ck.aHi s.d s.r s.cs s.hi x := ⟨_, rfl⟩
  obtain ⟨e3, h3⟩ : ∃ y, y = Ck.aE s.d s.r s.cs s.hi x := ⟨_, rfl⟩
  rw [← h1, ← h2, ← h3] at AT
  rw [← h1, ← h2, ← h3]
  clear h hs h1 h2 h3
  go_enter Tryz.func54, Tryz.ntmps54
  go_upto_region 1 with fail
  generalize hV : World.alloc _ _ = V
  have HB := Lib.hid (show Below w.heap.size w V by rw [← hV]; exact (Below.refl _ _).alloc (Nat.le_refl _) _)
  have HP := Lib.hid (HH.out.below HB.out (Nat.le_refl _))
  have k0 : V.heap[w.heap.size]? = some (.cells #[.int .i64 0, .int .i64 0] 65 (0, 0)) := by rw [← hV]; exact heap_new _ _
  clear hV
  have K0 := Lib.hid k0
  clear k0
  go_wp2_with fail
  refine (NO.out _ HP.out).mono ?_
  rintro e w' ⟨rfl, rfl⟩
  have c6 : V.cell? ⟨b, 6, none⟩ = some (.pointer (some ⟨c, 0, none⟩)) := blk_cell HP.out.blk 6 rfl
  go_wp2_with fail
  refine (AT.out _ HP.out.clk).mono ?_
  rintro e w2 ⟨rfl, hb2⟩
  have j0 := blk_below K0.out hb2 (lt_of_block K0.out)
  have HB2 := Lib.hid (HB.out.trans (hb2.mono HB.out.size))
  clear hb2 c6
  have cf_0 := blk_cell j0 0 rfl; have ff_0 := blk_free j0 0; have cf_1 := blk_cell j0 1 rfl; have ff_1 := blk_free j0 1; have lf := lt_of_block j0
  have J0 := Lib.hid j0
  clear j0
  go_wp2_with fail
  generalize hW : World.setCell _ _ _ = W
  have kW : W.heap[w.heap.size]? = some (.cells #[.int .i64 e1, .int .i64 e2] 65 (0, 0)) := by rw [← hW]; have := J0.out; exact Aa
  have hW2 := Lib.hid (show Below w.heap.size w W by rw [← hW]; have := HB2.out; exact A9)
  clear hW
  clear cf_0 ff_0 cf_1 ff_1
  have cg_0 := blk_cell kW 0 rfl; have fg_0 := blk_free kW 0; have cg_1 := blk_cell kW 1 rfl; have fg_1 := blk_free kW 1; have lg := lt_of_block kW
  clear kW
  refine bodyPost_ret (v := .tuple #[.agg #[.int .i64 e1, .int .i64 e2], .int .i64 e3]) ?_ rfl ⟨rfl, hW2.out⟩
  simp [results, Tryz.results54, go_sem, cg_0, cg_1]
end
end Go.Proofs.YtdocdgcdldpagaaGreat
namespace Go.Proofs.YtdocdgcdldpagaaGreat
open Go.RowKit
set_option maxHeartbeats 4000000
set_option maxRecDepth 100000
set_option linter.unusedSimpArgs false
set_option linter.unusedVariables false
structure CM where
  pb : Nat
  pc : Nat
  ub : Nat
  uA : Option Addr
  uc : Nat
  db : Nat
  dA : Option Addr
  dc : Nat
def cm0 : CM := ⟨0, 0, 0, none, 0, 0, none, 0⟩
structure NM where
  sb : Nat
  MA : Option Addr
  mc : Nat
  RA : Option Addr
  rc : Nat
  OA : Option Addr
  oc : Nat
  TA : Option Addr
  tc : Nat
  CA : Option Addr
  cc : Nat
  mb : Nat
  EA : Option Addr
  ec : Nat
  cs : List CM
def ncl (m : NM) (s : Nt.St) : List Value :=
  [.int .i64 s.r.n, .int .i64 s.r.again, .int .i64 s.r.step, .int .i64 s.r.drift, .int .i64 s.r.lost, .int .i64 s.r.ret, .int .i64 s.r.desc, .int .i64 s.r.late, .int .i64 s.r.every,
   .int .i64 s.r.up.loss, .int .i64 s.r.up.twice, .int .i64 s.r.up.least, .int .i64 s.r.up.most, .int .i64 s.r.up.seed, .int .i64 s.r.dn.loss, .int .i64 s.r.dn.twice, .int .i64 s.r.dn.least, .int .i64 s.r.dn.most, .int .i64 s.r.dn.seed,
   .slice m.OA s.r.offs.length m.oc, .slice m.TA s.r.rates.length m.tc, .int .i64 s.now, .int .i64 s.steps, .pointer (some ⟨m.sb, 0, none⟩), .int .i64 s.ss, .slice m.CA s.cr.length m.cc, .map (some m.mb), .slice m.EA s.ev.length m.ec]
def ccl (m : CM) (c : Nt.Cr) : List Value := [.pointer (some ⟨m.pb, 0, none⟩), .pointer (some ⟨m.ub, 0, none⟩), .pointer (some ⟨m.db, 0, none⟩), .int .i64 c.s]
def ccls : List CM → List Nt.Cr → List Value
  | m :: ms, c :: cs => ccl m c ++ ccls ms cs
  | _, _ => []
def evc (e : Int × Int × Int) : List Value := [.int .i64 e.1, .int .i64 e.2.1, .int .i64 e.2.2]
def evcs (l : List (Int × Int × Int)) : List Value := l.flatMap evc
def icl (l : List Int) : List Value := l.map (Value.int .i64)
theorem ccls_at : ∀ (ms : List CM) (cs : List Nt.Cr) (i j : Nat), ms.length = cs.length → i < cs.length → j < 4 → (ccls ms cs)[i * 4 + j]? = (ccl (ms.getD i cm0) (cs.getD i Nt.c0))[j]?
  | m :: ms, c :: cs, 0, j, h, hi, hj => by
    rw [ccls, Nat.zero_mul, Nat.zero_add, List.getElem?_append_left (by simpa [ccl] using hj)]
    rfl
  | m :: ms, c :: cs, i + 1, j, h, hi, hj => by
    rw [ccls, List.getElem?_append_right (by simp [ccl]; omega)]
    have e : (i + 1) * 4 + j - (ccl m c).length = i * 4 + j := by simp [ccl]; omega
    rw [e, ccls_at ms cs i j C4 (by simpa using hi) hj]
    rfl
  | [], _ :: _, _, _, h, _, _ => by simp at h
  | _, [], _, _, _, hi, _ => by simp at hi
theorem ccls_put : ∀ (ms : List CM) (cs : List Nt.Cr) (i : Nat) (c : Nt.Cr), c.s = (cs.getD i Nt.c0).s → ccls ms (cs.set i c) = ccls ms cs
  | [], cs, _, _, _ => by cases cs <;> rfl
  | m :: ms, [], _, _, _ => rfl
  | m :: ms, d :: cs, 0, c, h => by
    have h' : c.s = d.s := h
    simp only [List.set_cons_zero, ccls, ccl, h']
  | m :: ms, d :: cs, i + 1, c, h => by
    rw [List.set_cons_succ, ccls, ccls, ccls_put ms cs i c h]
theorem ccls_cm : ∀ (ms : List CM) (cs : List Nt.Cr) (i : Nat) (m : CM), m.pb = (ms.getD i cm0).pb → m.ub = (ms.getD i cm0).ub → m.db = (ms.getD i cm0).db → ccls (ms.set i m) cs = ccls ms cs
  | [], cs, _, _, _, _, _ => by cases cs <;> rfl
  | n :: ms, [], i, _, _, _, _ => by cases i <;> rfl
  | n :: ms, d :: cs, 0, m, h1, h2, h3 => by
    have h1 : m.pb = n.pb := h1
    have h2 : m.ub = n.ub := h2
    have h3 : m.db = n.db := h3
    simp only [List.set_cons_zero, ccls, ccl, h1, h2, h3]
  | n :: ms, d :: cs, i + 1, m, h1, h2, h3 => by
    rw [List.set_cons_succ, ccls, ccls, ccls_cm ms cs i m h1 h2 h3]
theorem ccls_s : ∀ (ms : List CM) (cs : List Nt.Cr) (i : Nat) (x : Int), ms.length = cs.length → i < cs.length → ccls ms (cs.set i { cs.getD i Nt.c0 with s := x }) = (ccls ms cs).set (i * 4 + 3) (.int .i64 x)
  | m :: ms, c :: cs, 0, x, h, hi => by
    rw [List.set_cons_zero, ccls, ccls, List.set_append_left _ _ (by simp [ccl])]
    rfl
  | m :: ms, c :: cs, i + 1, x, h, hi => by
    rw [List.set_cons_succ, ccls, ccls, List.set_append_right _ _ (by simp [ccl]; omega)]
    have e : (i + 1) * 4 + 3 - (ccl m c).length = i * 4 + 3 := by simp [ccl]; omega
    have := ccls_s ms cs i x C4 (by simpa using hi)
    rw [e, ← this]
    rfl
  | [], _ :: _, _, _, h, _ => by simp at h
  | _, [], _, _, _, hi => by simp at hi
def Cf (m : CM) (i : Nat) : Prop := i = m.pb ∨ i = m.pc ∨ Two m.ub m.uA i ∨ Two m.db m.dA i
def NF (b : Nat) (m : NM) (i : Nat) : Prop := i = b ∨ Three m.sb m.MA m.RA i ∨ blkOf m.OA = some i ∨ blkOf m.TA = some i ∨ blkOf m.CA = some i ∨ i = m.mb ∨ blkOf m.EA = some i ∨ ∃ j, j < m.cs.length ∧ Cf (m.cs.getD j cm0) i
structure IsCr (w : World) (base : Nat) (m : CM) (ru rd : Lnk.Ru) (c : Nt.Cr) : Prop where
  p : IsP w base m.pb m.pc c.p
  up : IsLk w base m.ub m.uA m.uc ru c.up
  dn : IsLk w base m.db m.dA m.dc rd c.dn
  ne : ∀ i, Two m.ub m.uA i → ¬ Two m.db m.dA i
structure IsNet (w : World) (base b : Nat) (m : NM) (k : Nat) (s : Nt.St) : Prop where
  blk : w.heap[b]? = some (.cells (ncl m s).toArray 86 (0, 0))
  st : IsSt w base m.sb m.MA m.mc m.RA m.rc s.st
  offs : Row w base 3 1 m.OA s.r.offs.length m.oc (icl s.r.offs)
  rates : Row w base 3 1 m.TA s.r.rates.length m.tc (icl s.r.rates)
  crow : Row w base 108 4 m.CA s.cr.length m.cc (ccls m.cs s.cr)
  erow : Row w base 58 3 m.EA s.ev.length m.ec (evcs s.ev)
  cr : ∀ i, i < s.cr.length → IsCr w base (m.cs.getD i cm0) (Nt.lru s.r.up i) (Nt.lru s.r.dn i) (Nt.at_ s i)
  len : m.cs.length = s.cr.length
  dis : ∀ i j, i < s.cr.length → j < s.cr.length → i ≠ j → ∀ q, Cf (m.cs.getD i cm0) q → ¬ Cf (m.cs.getD j cm0) q
  cut : ∃ k', k' ≤ k ∧ IsCut w m.mb k' s.cut
  ge : base ≤ b ∧ base ≤ m.mb
  so : ∀ q, blkOf m.OA = some q ∨ blkOf m.TA = some q → ¬ Three m.sb m.MA m.RA q
section
variable {w w' : World} {base b k : Nat} {m : NM} {s : Nt.St}
theorem IsLk.ty {b c : Nat} {A : Option Addr} {r : Lnk.Ru} {l : Lnk.St} (h : IsLk w base b A c r l) {i : Nat} (hi : Two b A i) : Ty w i 172 ∨ Ty w i 175 := by
  rcases hi with rfl | hi
  · exact .inl ⟨_, h.blk⟩
  · exact .inr (h.row.ty hi)
theorem IsCr.ty {c : CM} {ru rd : Lnk.Ru} {x : Nt.Cr} (h : IsCr w base c ru rd x) {i : Nat} (hi : Cf c i) : Ty w i 168 ∨ Ty w i 213 ∨ Ty w i 172 ∨ Ty w i 175 := by
  rcases hi with rfl | rfl | hi | hi
  · exact .inl ⟨_, h.p.blk⟩
  · exact .inr (.inl ⟨_, h.p.clk⟩)
  · exact .inr (.inr (h.up.ty hi))
  · exact .inr (.inr (h.dn.ty hi))
theorem IsCr.lt {c : CM} {ru rd : Lnk.Ru} {x : Nt.Cr} (h : IsCr w base c ru rd x) {i : Nat} (hi : Cf c i) : base ≤ i ∧ i < w.heap.size := by
  rcases hi with rfl | rfl | hi | hi
  · exact ⟨h.p.ge.1, h.p.lt.1⟩
  · exact ⟨h.p.ge.2, h.p.lt.2⟩
  · exact ⟨h.up.two_ge i hi, h.up.two i hi⟩
  · exact ⟨h.dn.two_ge i hi, h.dn.two i hi⟩
theorem IsCr.kept {S : Nat → Prop} {c : CM} {ru rd : Lnk.Ru} {x : Nt.Cr} (h : IsCr w base c ru rd x) (k : Keeps S w w') (hS : ∀ i, Cf c i → ¬ S i) : IsCr w' base c ru rd x :=
  ⟨h.p.kept k (hS _ (.inl rfl)) (hS _ (.inr (.inl rfl))), h.up.kept k (fun i hi => hS i (.inr (.inr (.inl hi)))), h.dn.kept k (fun i hi => hS i (.inr (.inr (.inr hi)))), h.ne⟩
def NT (e : TypeId) : Prop := e = 86 ∨ e = 162 ∨ e = 3 ∨ e = 165 ∨ e = 108 ∨ e = 58 ∨ e = 168 ∨ e = 213 ∨ e = 172 ∨ e = 175
theorem IsNet.ty (h : IsNet w base b m k s) {i : Nat} (hi : NF b m i) : i = m.mb ∨ ∃ e, NT e ∧ Ty w i e := by
  rcases hi with rfl | hi | hi | hi | hi | hi | hi | ⟨j, hj, hi⟩
  · exact .inr ⟨_, .inl rfl, _, h.blk⟩
  · rcases h.st.three hi with g | g | g
    · exact .inr ⟨_, .inr (.inl rfl), g⟩
    · exact .inr ⟨_, .inr (.inr (.inl rfl)), g⟩
    · exact .inr ⟨_, .inr (.inr (.inr (.inl rfl))), g⟩
  · exact .inr ⟨_, .inr (.inr (.inl rfl)), h.offs.ty hi⟩
  · exact .inr ⟨_, .inr (.inr (.inl rfl)), h.rates.ty hi⟩
  · exact .inr ⟨_, .inr (.inr (.inr (.inr (.inl rfl)))), h.crow.ty hi⟩
  · exact .inl hi
  · exact .inr ⟨_, .inr (.inr (.inr (.inr (.inr (.inl rfl))))), h.erow.ty hi⟩
  · rcases (h.cr j (by rw [← h.len]; exact hj)).ty hi with g | g | g | g
    · exact .inr ⟨_, .inr (.inr (.inr (.inr (.inr (.inr (.inl rfl)))))), g⟩
    · exact .inr ⟨_, .inr (.inr (.inr (.inr (.inr (.inr (.inr (.inl rfl))))))), g⟩
    · exact .inr ⟨_, .inr (.inr (.inr (.inr (.inr (.inr (.inr (.inr (.inl rfl)))))))), g⟩
    · exact .inr ⟨_, .inr (.inr (.inr (.inr (.inr (.inr (.inr (.inr (.inr rfl)))))))), g⟩
theorem IsNet.lt (h : IsNet w base b m k s) {i : Nat} (hi : NF b m i) : base ≤ i ∧ i < w.heap.size := by
  rcases hi with rfl | hi | hi | hi | hi | rfl | hi | ⟨j, hj, hi⟩
  · exact ⟨h.ge.1, lt_of_block h.blk⟩
  · exact h.st.three_lt hi
  · exact h.offs.lt hi
  · exact h.rates.lt hi
  · exact h.crow.lt hi
  · obtain ⟨k', _, hc⟩ := h.cut
    exact ⟨h.ge.2, hc.lt⟩
  · exact h.erow.lt hi
  · exact (h.cr j (by rw [← h.len]; exact hj)).lt hi
theorem IsNet.away (h : IsNet w base b m k s) {i : Nat} {e : TypeId} (g : Ty w i e) (he : ¬ NT e) : ¬ NF b m i := fun hi => by
  rcases h.ty hi with hm | ⟨f, hf, hg⟩
  · obtain ⟨k', _, hc⟩ := h.cut
    exact hc.notCells g hm
  · exact g.ne hg (fun e' => he (e' ▸ hf)) rfl
theorem IsNet.kept {S : Nat → Prop} (h : IsNet w base b m k s) (g : Keeps S w w') (hS : ∀ i, NF b m i → ¬ S i) : IsNet w' base b m k s where
  blk := blk_keep h.blk g (hS _ (.inl rfl))
  st := h.st.kept g (fun i hi => hS i (.inr (.inl hi)))
  offs := h.offs.kept g (fun i hi => hS i (.inr (.inr (.inl hi))))
  rates := h.rates.kept g (fun i hi => hS i (.inr (.inr (.inr (.inl hi)))))
  crow := h.crow.kept g (fun i hi => hS i (.inr (.inr (.inr (.inr (.inl hi))))))
  erow := h.erow.kept g (fun i hi => hS i (.inr (.inr (.inr (.inr (.inr (.inr (.inl hi))))))))
  cr := fun i hi => (h.cr i hi).kept g (fun j hj => hS j (.inr (.inr (.inr (.inr (.inr (.inr (.inr ⟨i, by rw [h.len]; exact hi, hj⟩))))))))
  len := h.len
  dis := h.dis
  cut := by obtain ⟨k', h1, h2⟩ := h.cut; exact ⟨k', h1, h2.kept g (hS _ (.inr (.inr (.inr (.inr (.inr (.inl rfl)))))))⟩
  ge := h.ge
  so := h.so
theorem IsNet.below (h : IsNet w base b m k s) (g : Below w.heap.size w w') : IsNet w' base b m k s := h.kept (Keeps.of_below (S := fun _ => False) g) (fun _ _ h => h)
theorem IsNet.mono (h : IsNet w base b m k s) {k' : Nat} (hk : k ≤ k') : IsNet w base b m k' s := { h with cut := by obtain ⟨k0, h1, h2⟩ := h.cut; exact ⟨k0, by omega, h2⟩ }
end
end Go.Proofs.YtdocdgcdldpagaaGreat

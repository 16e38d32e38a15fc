/- A pilot's Tick, and what it tells; New, Copy. -/
import Derived.Test.YtjidchaejicjaaaPlJ
namespace Go.Proofs.Ytjidchaejicjaaa
open Go.RowKit
set_option maxHeartbeats 8000000
set_option maxRecDepth 100000
set_option linter.unusedSimpArgs false
set_option linter.unusedVariables false
attribute [local go_sem ↓] Go.wp_at_zero Go.wp_at_succ
attribute [local go_sem high] run_mn run_mx
section
variable {w w' : World} {base b c : Nat} {s : Plt.St}
theorem rof_nil' (w : World) (base : Nat) : Rof w base (.slice none 0 0) [] := Rof.nil w base
theorem tickS_ask {s : Plt.St} {l : Int} (h : Plt.timE s l = 0) (ha : Plt.asks (Plt.pas s l) l = true) : Plt.tickS s l = Plt.pas s l ∧ Plt.tickF s l = [] := by
  unfold Plt.tickS Plt.tickF Plt.tick
  rw [if_pos h, if_pos ha, if_neg (by rw [ha]; simp)]
  exact ⟨rfl, rfl⟩
theorem tickS_rep {s : Plt.St} {l : Int} (h : Plt.timE s l = 0) (ha : Plt.asks (Plt.pas s l) l = false) : Plt.tickS s l = { Plt.pas s l with q := (Plt.pas s l).reports % 65536, asked := true, reports := (Plt.pas s l).reports + 1, rep := l } ∧ Plt.tickF s l = [⟨9, s.id, 0, (Plt.pas s l).reports % 65536, [(Plt.pas s l).st]⟩] := by
  unfold Plt.tickS Plt.tickF Plt.tick
  rw [if_pos h, if_neg (show ¬ (Plt.asks (Plt.pas s l) l = true) by rw [ha]; simp), if_pos ⟨h, ha⟩, (Plt.pas_same s l).2.2.1]
  exact ⟨rfl, rfl⟩
theorem ptick_any (h : IsP w base b c s) (hs : Plt.Inv s) (hrep : s.reports < 1000000000) (now : Int) :
    Calls Try.prog 15 #[.pointer (some ⟨b, 0, none⟩), .int .i64 now] w (PRPost base b c (Plt.tickS s now) (Plt.tickF s now) (Plt.timE s now) w) := by
  have HH := Lib.hid h
  have NO := Lib.hid (fun (W : World) (hW : IsP W base b c s) => pnone_any hW hs)
  rcases Plt.timE_cases s now with he | he
  case inr =>
    have E := Lib.hid he
    have ES := Lib.hid (show Plt.tickS s now = s ∧ Plt.tickF s now = [] by unfold Plt.tickS Plt.tickF; rw [if_neg (by rw [he]; omega), if_neg (by rw [he]; simp)]; exact ⟨rfl, rfl⟩)
    have CH := Lib.hid (fun (W : World) (hW : IsP W base b c s) => by have := check_any hW now; rw [he] at this; exact this)
    clear he h hs hrep
    go_enter Try.func15, Try.ntmps15
    go_wp2_with fail
    refine (NO.out _ HH.out).mono ?_
    rintro e w' ⟨rfl, rfl⟩
    go_wp2_with fail
    refine (CH.out _ HH.out).mono ?_
    rintro e w' ⟨rfl, rfl⟩
    go_wp2_with fail
    go_ret2
    exact PRPost.same HH.out (Below.refl _ _) ES.out.1 ES.out.2 E.out
  case inl =>
  have hl := (Plt.timE_ok he).1
  have CH := Lib.hid (fun (W : World) (hW : IsP W base b c s) => by have := check_any hW now; rw [he] at this; exact this)
  obtain ⟨p, hp⟩ : ∃ p, p = Plt.pas s now := ⟨_, rfl⟩
  have hpi : Plt.Inv p := by rw [hp]; exact Plt.pas_inv hs hl
  have hpr : p.reports = s.reports ∧ p.id = s.id := by rw [hp]; exact ⟨(Plt.pas_same s now).2.2.1, Plt.pas_id s now⟩
  have PA := Lib.hid (fun (W : World) (hW : IsP W base b c s) => by have := pass_any hW hs hl; rw [← hp] at this; exact this)
  have h1 := hpi.rep
  have h2 := hpi.every
  have h3 := hpi.rp
  have h4 := hpi.st
  have wr : IntKind.i64.wrap (now - p.rep) = now - p.rep := IntWalk.i64_in _ (by omega)
  rw [he]
  cases ha : Plt.asks p now
  case true =>
    have ES := Lib.hid (show Plt.tickS s now = p ∧ Plt.tickF s now = [] by have := tickS_ask he (by rw [← hp]; exact ha); rw [← hp] at this; exact this)
    unfold Plt.asks at ha
    rw [decide_eq_true_eq] at ha
    have z1 : decide (0 < p.reports) = true := decide_eq_true ha.1
    have z2 : decide (now - p.rep < p.every) = true := decide_eq_true ha.2
    clear ha he h hs hrep hp hpi hpr hl h1 h2 h3 h4
    rw [ES.out.1, ES.out.2]
    go_enter Try.func15, Try.ntmps15
    go_wp2_with fail
    refine (NO.out _ HH.out).mono ?_
    rintro e w' ⟨rfl, rfl⟩
    go_wp2_with fail
    refine (CH.out _ HH.out).mono ?_
    rintro e w' ⟨rfl, rfl⟩
    go_wp2_with fail
    refine (PA.out _ HH.out).mono ?_
    rintro e w2 ⟨rfl, hp2, hk2⟩
    have HP2 := Lib.hid hp2
    have HK2 := Lib.hid hk2
    have c17 := blk_cell hp2.blk 17 rfl
    have c18 := blk_cell hp2.blk 18 rfl
    have c5 := blk_cell hp2.blk 5 rfl
    clear hp2 hk2
    go_wp2_with fail
    go_quiet (fail)
    go_wp2_with fail
    go_ret2
    exact ⟨_, rfl, Rof.nil _ _, HP2.out.drewN _, (HK2.out.drewN _).mono (fun _ _ h => .inl h)⟩
  case false =>
    have ES := Lib.hid (show Plt.tickS s now = { p with q := p.reports % 65536, asked := true, reports := p.reports + 1, rep := now } ∧ Plt.tickF s now = [⟨9, s.id, 0, p.reports % 65536, [p.st]⟩] by have := tickS_rep he (by rw [← hp]; exact ha); rw [← hp] at this; exact this)
    unfold Plt.asks at ha
    rw [decide_eq_false_iff_not] at ha
    obtain ⟨u, hu⟩ : ∃ u, u = p.reports % 65536 := ⟨_, rfl⟩
    have wa : bits .and .i64 p.reports 65535 = u := by rw [hu]; exact pand_16 _ (by omega)
    have ws : IntKind.i64.wrap (p.reports + 1) = p.reports + 1 := IntWalk.i64_in _ (by omega)
    have wk : IntKind.u8.wrap p.st = p.st := by rw [IntKind.wrap_u8]; omega
    have hst255 : 0 ≤ p.st ∧ p.st < 256 := by omega
    have HID := Lib.hid hpr.2
    rw [← hu] at ES
    obtain ⟨n, hn⟩ : ∃ n, n = ({ p with q := u, asked := true, reports := p.reports + 1, rep := now } : Plt.St) := ⟨_, rfl⟩
    rw [← hn] at ES
    have HN := Lib.hid hn
    rw [ES.out.1, ES.out.2]
    have key : (decide (0 < p.reports) = false) ∨ (decide (0 < p.reports) = true ∧ decide (now - p.rep < p.every) = false) := by
      by_cases h0 : 0 < p.reports
      · exact .inr ⟨decide_eq_true h0, decide_eq_false (fun hh => ha ⟨h0, hh⟩)⟩
      · exact .inl (decide_eq_false h0)
    clear ha he h hs hrep hp hpi hpr hl h1 h2 h3 h4 hu hn
    rcases key with z1 | ⟨z1, z2⟩
    all_goals
      go_enter Try.func15, Try.ntmps15
      go_wp2_with fail
      refine (NO.out _ HH.out).mono ?_
      rintro e w' ⟨rfl, rfl⟩
      go_wp2_with fail
      refine (CH.out _ HH.out).mono ?_
      rintro e w' ⟨rfl, rfl⟩
      go_wp2_with fail
      refine (PA.out _ HH.out).mono ?_
      rintro e w2 ⟨rfl, hp2, hk2⟩
      have HP2 := Lib.hid hp2
      have HK2 := Lib.hid hk2
      have hzk : w.heap.size ≤ w2.heap.size := hk2.size
      have hk := hp2.blk
      simp only [pcl] at hk
      clear hp2 hk2
      have ca_0 := blk_cell hk 0 rfl; have fa_0 := blk_free hk 0; have ca_1 := blk_cell hk 1 rfl; have fa_1 := blk_free hk 1; have ca_2 := blk_cell hk 2 rfl; have fa_2 := blk_free hk 2; have ca_3 := blk_cell hk 3 rfl; have fa_3 := blk_free hk 3; have ca_4 := blk_cell hk 4 rfl; have fa_4 := blk_free hk 4; have ca_5 := blk_cell hk 5 rfl; have fa_5 := blk_free hk 5; have ca_6 := blk_cell hk 6 rfl; have fa_6 := blk_free hk 6; have ca_7 := blk_cell hk 7 rfl; have fa_7 := blk_free hk 7; have ca_8 := blk_cell hk 8 rfl; have fa_8 := blk_free hk 8; have ca_9 := blk_cell hk 9 rfl; have fa_9 := blk_free hk 9; have ca_10 := blk_cell hk 10 rfl; have fa_10 := blk_free hk 10; have ca_11 := blk_cell hk 11 rfl; have fa_11 := blk_free hk 11; have ca_12 := blk_cell hk 12 rfl; have fa_12 := blk_free hk 12; have ca_13 := blk_cell hk 13 rfl; have fa_13 := blk_free hk 13; have ca_14 := blk_cell hk 14 rfl; have fa_14 := blk_free hk 14; have ca_15 := blk_cell hk 15 rfl; have fa_15 := blk_free hk 15; have ca_16 := blk_cell hk 16 rfl; have fa_16 := blk_free hk 16; have ca_17 := blk_cell hk 17 rfl; have fa_17 := blk_free hk 17; have ca_18 := blk_cell hk 18 rfl; have fa_18 := blk_free hk 18; have la := lt_of_block hk
      clear hk
      go_wp2_with fail
      go_quiet (fail)
      (try clear z1)
      (try clear z2)
      clear wr
      go_wp2_with fail
      generalize hD : World.drewN _ _ = w3
      have HP3 := Lib.hid (show IsP w3 base b c p by rw [← hD]; exact HP2.out.drewN _)
      have HK3 := Lib.hid (show Keeps (fun i => i = b) w w3 by rw [← hD]; exact HK2.out.drewN _)
      have hz3 : w3.heap.size = w2.heap.size := by rw [← hD]; rfl
      have hzk3 : w.heap.size ≤ w3.heap.size := by omega
      clear hD hz3 hzk
      clear ca_0 fa_0 ca_1 fa_1 ca_2 fa_2 ca_3 fa_3 ca_4 fa_4 ca_5 fa_5 ca_6 fa_6 ca_7 fa_7 ca_8 fa_8 ca_9 fa_9 ca_10 fa_10 ca_11 fa_11 ca_12 fa_12 ca_13 fa_13 ca_14 fa_14 ca_15 fa_15 ca_16 fa_16 ca_17 fa_17 ca_18 fa_18
      clear la HP2 HK2
      have hk := HP3.out.blk
      simp only [pcl] at hk
      have ca_0 := blk_cell hk 0 rfl; have fa_0 := blk_free hk 0; have ca_1 := blk_cell hk 1 rfl; have fa_1 := blk_free hk 1; have ca_2 := blk_cell hk 2 rfl; have fa_2 := blk_free hk 2; have ca_3 := blk_cell hk 3 rfl; have fa_3 := blk_free hk 3; have ca_4 := blk_cell hk 4 rfl; have fa_4 := blk_free hk 4; have ca_5 := blk_cell hk 5 rfl; have fa_5 := blk_free hk 5; have ca_6 := blk_cell hk 6 rfl; have fa_6 := blk_free hk 6; have ca_7 := blk_cell hk 7 rfl; have fa_7 := blk_free hk 7; have ca_8 := blk_cell hk 8 rfl; have fa_8 := blk_free hk 8; have ca_9 := blk_cell hk 9 rfl; have fa_9 := blk_free hk 9; have ca_10 := blk_cell hk 10 rfl; have fa_10 := blk_free hk 10; have ca_11 := blk_cell hk 11 rfl; have fa_11 := blk_free hk 11; have ca_12 := blk_cell hk 12 rfl; have fa_12 := blk_free hk 12; have ca_13 := blk_cell hk 13 rfl; have fa_13 := blk_free hk 13; have ca_14 := blk_cell hk 14 rfl; have fa_14 := blk_free hk 14; have ca_15 := blk_cell hk 15 rfl; have fa_15 := blk_free hk 15; have ca_16 := blk_cell hk 16 rfl; have fa_16 := blk_free hk 16; have ca_17 := blk_cell hk 17 rfl; have fa_17 := blk_free hk 17; have ca_18 := blk_cell hk 18 rfl; have fa_18 := blk_free hk 18; have la := lt_of_block hk
      clear hk
      have hbn : b ≠ w3.heap.size := by omega
      have hnb : w3.heap.size ≠ b := by omega
      (go_region_held3 (fun w' => w'.cell? ⟨b, 0, none⟩ = some (.int .i64 p.id) ∧ w'.cell? ⟨b, 17, none⟩ = some (.int .i64 p.reports) ∧ w'.cell? ⟨b, 7, none⟩ = some (.int .i64 p.st)) (first | (refine ⟨?_, ?_, ?_⟩ <;> simp [go_sem, *]; done) | go_keep) (fail))
      all_goals
        go_upto_region 12 with fail
        generalize hX : World.setCell _ _ _ = X
        have hK : Keeps (fun i => i = b) w3 X := by rw [← hX]; (repeat (first | with_reducible exact Keeps.refl _ _ | (with_reducible refine Keeps.set1 ?_ _ _) | (with_reducible refine Keeps.drew ?_) | (with_reducible refine Keeps.drewN ?_ _) | (with_reducible refine Keeps.alloc ?_ _)))
        have kP : IsP X base b c n := ⟨by rw [HN.out]; simp only [pcl]; rw [← hX]; have hk := HP3.out.blk; simp only [pcl] at hk; exact (by apply Eq.trans; (repeat (first | (with_reducible assumption) | (with_reducible apply blk_set) | ((with_reducible apply blk_far); rotate_left; (first | omega | (simp <;> omega)); rotate_right) | (with_reducible apply blk_drew) | (with_reducible apply blk_drewN) | ((with_reducible apply heap_new'); (first | rfl | (simp <;> fail))) | (with_reducible apply blk_alloc))); (first | with_reducible rfl | (simp <;> fail) | rfl)), by rw [HN.out]; exact HP3.out.clk_kept hK, HP3.out.ge⟩
        have hzX : X.heap.size = w3.heap.size := by rw [← hX]; simp
        clear hX
        generalize hY : World.alloc _ _ = Y
        have KP := Lib.hid (show IsP Y base b c n by rw [← hY]; exact (kP.alloc _).alloc _)
        have HKX := Lib.hid (show Keeps (fun i => i = b ∨ i = c) w Y by rw [← hY]; exact (((HK3.out.trans hK (fun _ _ h => h)).mono (fun _ _ h => Or.inl h)).alloc _).alloc _)
        have hzY : w.heap.size ≤ Y.heap.size := HKX.out.size
        clear hK kP
        first
        | (have kB : Y.heap[w3.heap.size]? = some (.cells #[.int .u8 p.st] 5 (0, 0)) := (by rw [← hY]; exact blk_alloc (heap_new' _ _ _ (by omega)) _); have kF : Y.heap[w3.heap.size + 1]? = some (.cells #[.int .i64 9, .int .i64 p.id, .int .i64 0, .int .i64 u, .slice (some ⟨w3.heap.size, 0, none⟩) 1 1] 35 (0, 0)) := (by rw [← hY]; exact heap_new' _ _ _ (by simp; omega)); have KB := Lib.hid kB; clear hY kB hzX; (clear ca_0 fa_0 ca_1 fa_1 ca_2 fa_2 ca_3 fa_3 ca_4 fa_4 ca_5 fa_5 ca_6 fa_6 ca_7 fa_7 ca_8 fa_8 ca_9 fa_9 ca_10 fa_10 ca_11 fa_11 ca_12 fa_12 ca_13 fa_13 ca_14 fa_14 ca_15 fa_15 ca_16 fa_16 ca_17 fa_17 ca_18 fa_18); (have cr_0 := blk_cell kF 0 rfl; have fr_0 := blk_free kF 0; have cr_1 := blk_cell kF 1 rfl; have fr_1 := blk_free kF 1; have cr_2 := blk_cell kF 2 rfl; have fr_2 := blk_free kF 2; have cr_3 := blk_cell kF 3 rfl; have fr_3 := blk_free kF 3; have cr_4 := blk_cell kF 4 rfl; have fr_4 := blk_free kF 4; have lr := lt_of_block kF); (go_wp2_with fail); go_ret2; rw [← HID.out]; refine ⟨_, rfl, ?_, ?_, ?_⟩; (first | exact rof_one (g1 := w3.heap.size) (g2 := Y.heap.size) (blk_alloc KB.out _) (heap_new _ _) hst255 (by omega) (by omega) | exact Rof.drew (rof_one (g1 := w3.heap.size) (g2 := Y.heap.size) (blk_alloc KB.out _) (heap_new _ _) hst255 (by omega) (by omega))); (first | exact KP.out.alloc _ | exact (KP.out.alloc _).drew); (first | exact HKX.out.alloc _ | exact (HKX.out.alloc _).drew))
        | (have kB : Y.heap[w3.heap.size + 1]? = some (.cells #[.int .u8 p.st] 5 (0, 0)) := (by rw [← hY]; exact heap_new' _ _ _ (by simp; omega)); have kF : Y.heap[w3.heap.size]? = some (.cells #[.int .i64 9, .int .i64 p.id, .int .i64 0, .int .i64 u, .slice (some ⟨w3.heap.size + 1, 0, none⟩) 1 1] 35 (0, 0)) := (by rw [← hY]; exact blk_alloc (heap_new' _ _ _ (by omega)) _); have KB := Lib.hid kB; clear hY kB hzX; (clear ca_0 fa_0 ca_1 fa_1 ca_2 fa_2 ca_3 fa_3 ca_4 fa_4 ca_5 fa_5 ca_6 fa_6 ca_7 fa_7 ca_8 fa_8 ca_9 fa_9 ca_10 fa_10 ca_11 fa_11 ca_12 fa_12 ca_13 fa_13 ca_14 fa_14 ca_15 fa_15 ca_16 fa_16 ca_17 fa_17 ca_18 fa_18); (have cr_0 := blk_cell kF 0 rfl; have fr_0 := blk_free kF 0; have cr_1 := blk_cell kF 1 rfl; have fr_1 := blk_free kF 1; have cr_2 := blk_cell kF 2 rfl; have fr_2 := blk_free kF 2; have cr_3 := blk_cell kF 3 rfl; have fr_3 := blk_free kF 3; have cr_4 := blk_cell kF 4 rfl; have fr_4 := blk_free kF 4; have lr := lt_of_block kF); (go_wp2_with fail); go_ret2; rw [← HID.out]; refine ⟨_, rfl, ?_, ?_, ?_⟩; (first | exact rof_one (g1 := w3.heap.size + 1) (g2 := Y.heap.size) (blk_alloc KB.out _) (heap_new _ _) hst255 (by omega) (by omega) | exact Rof.drew (rof_one (g1 := w3.heap.size + 1) (g2 := Y.heap.size) (blk_alloc KB.out _) (heap_new _ _) hst255 (by omega) (by omega))); (first | exact KP.out.alloc _ | exact (KP.out.alloc _).drew); (first | exact HKX.out.alloc _ | exact (HKX.out.alloc _).drew))
end
end Go.Proofs.Ytjidchaejicjaaa

/- The reference's pilot obeys a frame: beat; any frame. -/
import Derived.Test.YtjidchaejicjaaaPlO
import Derived.Test.YtjidchaejicjaaaPlQ
import Derived.Test.YtjidchaejicjaaaPlR
import Derived.Deep.RegionHeld3
namespace Go.Proofs.Ytjidchaejicjaaa
open Go.RowKit
set_option maxHeartbeats 30000000
set_option maxRecDepth 100000
set_option linter.unusedSimpArgs false
set_option linter.unusedVariables false
attribute [local go_sem ↓] Go.wp_at_zero Go.wp_at_succ
theorem rtake_x (s : Plt.St) (hs : Plt.Inv s) (k f t q : Int) (A : Option Addr) (n cap : Nat) (l : List Int) (hn : n = l.length) (hn2 : n ≤ 64) (w : World) (hr : Rd w w.heap.size A n l) (hk : k < 1 ∨ 7 < k) :
    Calls Try.prog 66 #[.agg (rag s).toArray, .agg #[.int .i64 k, .int .i64 f, .int .i64 t, .int .i64 q, .slice A n cap]] w (RTPost (Plt.take s (Plt.fmOf ⟨k, f, t, q, l⟩)) w) := by
  obtain ⟨m, hm⟩ : ∃ m, m = Frm.gnAt l 0 := ⟨_, rfl⟩
  have hmk : (Plt.fmOf ⟨k, f, t, q, l⟩).k = k := rfl
  have hmn : (Plt.fmOf ⟨k, f, t, q, l⟩).n = if l.length = 4 then m else -1 := by rw [hm]; rfl
  have hmp : (Plt.fmOf ⟨k, f, t, q, l⟩).plain = decide (n = 0) := by rw [hn]; rfl
  have hgiv := hs.giv
  have hload := hs.load
  have hprog := hs.prog
  have hstart := hs.start
  obtain ⟨x, hx⟩ : ∃ x, x = Plt.fmOf ⟨k, f, t, q, l⟩ := ⟨_, rfl⟩
  rw [← hx] at hmn hmk hmp ⊢
  have y1 : (k == 1) = false := by rw [beq_eq_false_iff_ne]; omega
  have y2 : (k == 2) = false := by rw [beq_eq_false_iff_ne]; omega
  have y3 : (k == 3) = false := by rw [beq_eq_false_iff_ne]; omega
  have y4 : (k == 4) = false := by rw [beq_eq_false_iff_ne]; omega
  have y5 : (k == 5) = false := by rw [beq_eq_false_iff_ne]; omega
  have y6 : (k == 6) = false := by rw [beq_eq_false_iff_ne]; omega
  have y7 : (k == 7) = false := by rw [beq_eq_false_iff_ne]; omega
  by_cases h4 : n = 4
  case neg =>
    have y0 : ((n : Int) == 4) = false := by rw [beq_eq_false_iff_ne]; omega
    have E := Lib.hid (show Plt.take s x = (s, false) by unfold Plt.take; rw [if_neg (by omega), if_neg (by omega), if_neg (by omega), if_neg (by omega), if_neg (by omega), if_neg (by omega), if_neg (by omega)])
    clear hk hmk hmn hmp hx hn hr hs hn2 hgiv hload hprog hstart hm h4
    rcases z45 s with ⟨z4, z5⟩ | ⟨z4, z5⟩ | ⟨z4, z5⟩
    all_goals
      go_enter Try.func66, Try.ntmps66; go_upto_region 1 with fail; generalize hV : World.alloc _ _ = V; have k0 : RB V w.heap.size s := (by rw [← hV]; exact blk_alloc (blk_alloc (heap_new _ _) _) _); have kf : V.heap[w.heap.size + 1]? = some (.cells #[.int .i64 k, .int .i64 f, .int .i64 t, .int .i64 q, .slice A n cap] 35 (0, 0)) := (by rw [← hV]; exact blk_alloc (heap_new' _ _ _ (by simp)) _); have k2 : RB V (w.heap.size + 2) rzero := (by rw [← hV]; exact heap_new' _ _ _ (by simp)); have HB := Lib.hid (show Below w.heap.size w V from by rw [← hV]; exact (by repeat (first | (with_reducible exact Below.refl _ _) | (with_reducible refine Below.drew ?_) | (with_reducible refine below_drewN ?_ _) | ((with_reducible refine Below.alloc ?_ ?_ _); rotate_left; (first | omega | (simp <;> omega)); rotate_right) | ((with_reducible refine Below.setCell ?_ ?_ _); rotate_left; (first | omega | (simp <;> omega)); rotate_right) | (with_reducible assumption) | (refine Below.trans ?_ (Below.mono (by assumption) ?_); rotate_left; (first | omega | (simp <;> omega)); rotate_right)))); clear hV; (have cf_0 := blk_cell kf 0 rfl; have ff_0 := blk_free kf 0; have cf_1 := blk_cell kf 1 rfl; have ff_1 := blk_free kf 1; have cf_2 := blk_cell kf 2 rfl; have ff_2 := blk_free kf 2; have cf_3 := blk_cell kf 3 rfl; have ff_3 := blk_free kf 3; have cf_4 := blk_cell kf 4 rfl; have ff_4 := blk_free kf 4; have lf := lt_of_block kf); have KF := Lib.hid kf; clear kf; have c11 : V.cell? ⟨w.heap.size, 11, none⟩ = some (.int .i64 s.st) := blk_cell k0 11 rfl
      go_upto_region 38 with fail; go_wp2_with (first | (refine wpList_load_row rfl 54 _ rfl _ rfl 54 _ (0, 0) _ k0 Try.underlying54 rfl (by kernel_rfl) ?_) | (refine wpList_store_row rfl 54 _ _ rfl _ _ rfl rfl 54 _ k2 (by kernel_rfl) rfl (rag_one _) ?_)); exact bodyPost_ret (results_ct rfl _ _ _ _ _ (0, 0) _ rfl (setRow_heap _ _ _ _ _ _ k2) Try.underlying54 rfl (by kernel_rfl)) rfl ⟨by rw [E.out]; try (simp; done), below_setRow HB.out (by omega) _⟩
  case pos =>
    have y0 : ((n : Int) == 4) = true := by rw [beq_iff_eq]; omega
    have G := Lib.hid (fun (W : World) (hW : Below w.heap.size w W) => rgetk_yes A n cap 1 l W (by omega) hn (by omega) (by omega) ((hr.below hW (Nat.le_refl _)).more hW.size))
    have HM := Lib.hid hm
    have E := Lib.hid (show Plt.take s x = (s, false) by unfold Plt.take; rw [if_neg (by omega), if_neg (by omega), if_neg (by omega), if_neg (by omega), if_neg (by omega), if_neg (by omega), if_neg (by omega)])
    clear hk hmk hmn hmp hx hn hr hs hn2 hgiv hload hprog hstart hm h4
    rcases z45 s with ⟨z4, z5⟩ | ⟨z4, z5⟩ | ⟨z4, z5⟩
    all_goals
      go_enter Try.func66, Try.ntmps66; go_upto_region 1 with fail; generalize hV : World.alloc _ _ = V; have k0 : RB V w.heap.size s := (by rw [← hV]; exact blk_alloc (blk_alloc (heap_new _ _) _) _); have kf : V.heap[w.heap.size + 1]? = some (.cells #[.int .i64 k, .int .i64 f, .int .i64 t, .int .i64 q, .slice A n cap] 35 (0, 0)) := (by rw [← hV]; exact blk_alloc (heap_new' _ _ _ (by simp)) _); have k2 : RB V (w.heap.size + 2) rzero := (by rw [← hV]; exact heap_new' _ _ _ (by simp)); have HB := Lib.hid (show Below w.heap.size w V from by rw [← hV]; exact (by repeat (first | (with_reducible exact Below.refl _ _) | (with_reducible refine Below.drew ?_) | (with_reducible refine below_drewN ?_ _) | ((with_reducible refine Below.alloc ?_ ?_ _); rotate_left; (first | omega | (simp <;> omega)); rotate_right) | ((with_reducible refine Below.setCell ?_ ?_ _); rotate_left; (first | omega | (simp <;> omega)); rotate_right) | (with_reducible assumption) | (refine Below.trans ?_ (Below.mono (by assumption) ?_); rotate_left; (first | omega | (simp <;> omega)); rotate_right)))); clear hV; (have cf_0 := blk_cell kf 0 rfl; have ff_0 := blk_free kf 0; have cf_1 := blk_cell kf 1 rfl; have ff_1 := blk_free kf 1; have cf_2 := blk_cell kf 2 rfl; have ff_2 := blk_free kf 2; have cf_3 := blk_cell kf 3 rfl; have ff_3 := blk_free kf 3; have cf_4 := blk_cell kf 4 rfl; have ff_4 := blk_free kf 4; have lf := lt_of_block kf); have KF := Lib.hid kf; clear kf; have c11 : V.cell? ⟨w.heap.size, 11, none⟩ = some (.int .i64 s.st) := blk_cell k0 11 rfl
      go_upto_region 3 with fail; go_wp2_with fail; refine (G.out _ HB.out).mono ?_; rintro e W1 ⟨g, o, c, rfl, hc, hb1, _⟩; have d0 := hc 0 (by omega); simp only [Nat.add_zero] at d0; rw [← HM.out] at d0; have i0 : RB W1 w.heap.size s := blk_below k0 hb1 (lt_of_block k0); have i2 : RB W1 (w.heap.size + 2) rzero := blk_below k2 hb1 (lt_of_block k2); have jf := blk_below KF.out hb1 (lt_of_block KF.out); have HB1 := Lib.hid (HB.out.trans (hb1.mono HB.out.size)); clear hc hb1 k0 k2 KF HB c11; (clear cf_0 ff_0 cf_1 ff_1 cf_2 ff_2 cf_3 ff_3 cf_4 ff_4); have k0 := i0; have k2 := i2; have KF := Lib.hid jf; have HB := HB1; (have cf_0 := blk_cell jf 0 rfl; have ff_0 := blk_free jf 0; have cf_1 := blk_cell jf 1 rfl; have ff_1 := blk_free jf 1; have cf_2 := blk_cell jf 2 rfl; have ff_2 := blk_free jf 2; have cf_3 := blk_cell jf 3 rfl; have ff_3 := blk_free jf 3; have cf_4 := blk_cell jf 4 rfl; have ff_4 := blk_free jf 4; have lf := lt_of_block jf); clear i0 i2 jf HB1
      go_upto_region 38 with fail; go_wp2_with (first | (refine wpList_load_row rfl 54 _ rfl _ rfl 54 _ (0, 0) _ k0 Try.underlying54 rfl (by kernel_rfl) ?_) | (refine wpList_store_row rfl 54 _ _ rfl _ _ rfl rfl 54 _ k2 (by kernel_rfl) rfl (rag_one _) ?_)); exact bodyPost_ret (results_ct rfl _ _ _ _ _ (0, 0) _ rfl (setRow_heap _ _ _ _ _ _ k2) Try.underlying54 rfl (by kernel_rfl)) rfl ⟨by rw [E.out]; try (simp; done), below_setRow HB.out (by omega) _⟩
theorem rtake_7 (s : Plt.St) (hs : Plt.Inv s) (k f t q : Int) (A : Option Addr) (n cap : Nat) (l : List Int) (hn : n = l.length) (hn2 : n ≤ 64) (w : World) (hr : Rd w w.heap.size A n l) (hk : k = 7) :
    Calls Try.prog 66 #[.agg (rag s).toArray, .agg #[.int .i64 k, .int .i64 f, .int .i64 t, .int .i64 q, .slice A n cap]] w (RTPost (Plt.take s (Plt.fmOf ⟨k, f, t, q, l⟩)) w) := by
  obtain ⟨m, hm⟩ : ∃ m, m = Frm.gnAt l 0 := ⟨_, rfl⟩
  have hmk : (Plt.fmOf ⟨k, f, t, q, l⟩).k = k := rfl
  have hmn : (Plt.fmOf ⟨k, f, t, q, l⟩).n = if l.length = 4 then m else -1 := by rw [hm]; rfl
  have hmp : (Plt.fmOf ⟨k, f, t, q, l⟩).plain = decide (n = 0) := by rw [hn]; rfl
  have hgiv := hs.giv
  have hload := hs.load
  have hprog := hs.prog
  have hstart := hs.start
  obtain ⟨x, hx⟩ : ∃ x, x = Plt.fmOf ⟨k, f, t, q, l⟩ := ⟨_, rfl⟩
  rw [← hx] at hmn hmk hmp ⊢
  have y1 : (k == 1) = false := by rw [beq_eq_false_iff_ne]; omega
  have y2 : (k == 2) = false := by rw [beq_eq_false_iff_ne]; omega
  have y3 : (k == 3) = false := by rw [beq_eq_false_iff_ne]; omega
  have y4 : (k == 4) = false := by rw [beq_eq_false_iff_ne]; omega
  have y5 : (k == 5) = false := by rw [beq_eq_false_iff_ne]; omega
  have y6 : (k == 6) = false := by rw [beq_eq_false_iff_ne]; omega
  have y7 : (k == 7) = true := by rw [beq_iff_eq]; omega
  have hmt : x.two = decide (l.length = 8) := by rw [hx]; rfl
  have hms : x.seq = q := by rw [hx]; rfl
  have hask := hs.ask
  by_cases h8 : n = 8
  case neg =>
    have y8 : ((n : Int) == 8) = false := by rw [beq_eq_false_iff_ne]; omega
    have hm8 : x.two = false := by rw [hmt, decide_eq_false (by omega)]
    by_cases h4 : n = 4
    case neg =>
      have y0 : ((n : Int) == 4) = false := by rw [beq_eq_false_iff_ne]; omega
      have E := Lib.hid (show Plt.take s x = (s, false) by unfold Plt.take; rw [if_neg (by omega), if_neg (by omega), if_neg (by omega), if_neg (by omega), if_neg (by omega), if_neg (by omega), if_pos (by omega), if_neg (fun hh => by rw [hm8] at hh; cases hh.1)])
      clear hk hmk hmn hmp hx hn hr hs hn2 hgiv hload hprog hstart hm h4 h8 hmt hms hask hm8
      rcases z45 s with ⟨z4, z5⟩ | ⟨z4, z5⟩ | ⟨z4, z5⟩
      all_goals
        go_enter Try.func66, Try.ntmps66; go_upto_region 1 with fail; generalize hV : World.alloc _ _ = V; have k0 : RB V w.heap.size s := (by rw [← hV]; exact blk_alloc (blk_alloc (heap_new _ _) _) _); have kf : V.heap[w.heap.size + 1]? = some (.cells #[.int .i64 k, .int .i64 f, .int .i64 t, .int .i64 q, .slice A n cap] 35 (0, 0)) := (by rw [← hV]; exact blk_alloc (heap_new' _ _ _ (by simp)) _); have k2 : RB V (w.heap.size + 2) rzero := (by rw [← hV]; exact heap_new' _ _ _ (by simp)); have HB := Lib.hid (show Below w.heap.size w V from by rw [← hV]; exact (by repeat (first | (with_reducible exact Below.refl _ _) | (with_reducible refine Below.drew ?_) | (with_reducible refine below_drewN ?_ _) | ((with_reducible refine Below.alloc ?_ ?_ _); rotate_left; (first | omega | (simp <;> omega)); rotate_right) | ((with_reducible refine Below.setCell ?_ ?_ _); rotate_left; (first | omega | (simp <;> omega)); rotate_right) | (with_reducible assumption) | (refine Below.trans ?_ (Below.mono (by assumption) ?_); rotate_left; (first | omega | (simp <;> omega)); rotate_right)))); clear hV; (have cf_0 := blk_cell kf 0 rfl; have ff_0 := blk_free kf 0; have cf_1 := blk_cell kf 1 rfl; have ff_1 := blk_free kf 1; have cf_2 := blk_cell kf 2 rfl; have ff_2 := blk_free kf 2; have cf_3 := blk_cell kf 3 rfl; have ff_3 := blk_free kf 3; have cf_4 := blk_cell kf 4 rfl; have ff_4 := blk_free kf 4; have lf := lt_of_block kf); have KF := Lib.hid kf; clear kf; have c11 : V.cell? ⟨w.heap.size, 11, none⟩ = some (.int .i64 s.st) := blk_cell k0 11 rfl
        go_upto_region 38 with fail; go_wp2_with (first | (refine wpList_load_row rfl 54 _ rfl _ rfl 54 _ (0, 0) _ k0 Try.underlying54 rfl (by kernel_rfl) ?_) | (refine wpList_store_row rfl 54 _ _ rfl _ _ rfl rfl 54 _ k2 (by kernel_rfl) rfl (rag_one _) ?_)); exact bodyPost_ret (results_ct rfl _ _ _ _ _ (0, 0) _ rfl (setRow_heap _ _ _ _ _ _ k2) Try.underlying54 rfl (by kernel_rfl)) rfl ⟨by rw [E.out]; try (simp; done), below_setRow HB.out (by omega) _⟩
    case pos =>
      have y0 : ((n : Int) == 4) = true := by rw [beq_iff_eq]; omega
      have G := Lib.hid (fun (W : World) (hW : Below w.heap.size w W) => rgetk_yes A n cap 1 l W (by omega) hn (by omega) (by omega) ((hr.below hW (Nat.le_refl _)).more hW.size))
      have HM := Lib.hid hm
      have E := Lib.hid (show Plt.take s x = (s, false) by unfold Plt.take; rw [if_neg (by omega), if_neg (by omega), if_neg (by omega), if_neg (by omega), if_neg (by omega), if_neg (by omega), if_pos (by omega), if_neg (fun hh => by rw [hm8] at hh; cases hh.1)])
      clear hk hmk hmn hmp hx hn hr hs hn2 hgiv hload hprog hstart hm h4 h8 hmt hms hask hm8
      rcases z45 s with ⟨z4, z5⟩ | ⟨z4, z5⟩ | ⟨z4, z5⟩
      all_goals
        go_enter Try.func66, Try.ntmps66; go_upto_region 1 with fail; generalize hV : World.alloc _ _ = V; have k0 : RB V w.heap.size s := (by rw [← hV]; exact blk_alloc (blk_alloc (heap_new _ _) _) _); have kf : V.heap[w.heap.size + 1]? = some (.cells #[.int .i64 k, .int .i64 f, .int .i64 t, .int .i64 q, .slice A n cap] 35 (0, 0)) := (by rw [← hV]; exact blk_alloc (heap_new' _ _ _ (by simp)) _); have k2 : RB V (w.heap.size + 2) rzero := (by rw [← hV]; exact heap_new' _ _ _ (by simp)); have HB := Lib.hid (show Below w.heap.size w V from by rw [← hV]; exact (by repeat (first | (with_reducible exact Below.refl _ _) | (with_reducible refine Below.drew ?_) | (with_reducible refine below_drewN ?_ _) | ((with_reducible refine Below.alloc ?_ ?_ _); rotate_left; (first | omega | (simp <;> omega)); rotate_right) | ((with_reducible refine Below.setCell ?_ ?_ _); rotate_left; (first | omega | (simp <;> omega)); rotate_right) | (with_reducible assumption) | (refine Below.trans ?_ (Below.mono (by assumption) ?_); rotate_left; (first | omega | (simp <;> omega)); rotate_right)))); clear hV; (have cf_0 := blk_cell kf 0 rfl; have ff_0 := blk_free kf 0; have cf_1 := blk_cell kf 1 rfl; have ff_1 := blk_free kf 1; have cf_2 := blk_cell kf 2 rfl; have ff_2 := blk_free kf 2; have cf_3 := blk_cell kf 3 rfl; have ff_3 := blk_free kf 3; have cf_4 := blk_cell kf 4 rfl; have ff_4 := blk_free kf 4; have lf := lt_of_block kf); have KF := Lib.hid kf; clear kf; have c11 : V.cell? ⟨w.heap.size, 11, none⟩ = some (.int .i64 s.st) := blk_cell k0 11 rfl
        go_upto_region 3 with fail; go_wp2_with fail; refine (G.out _ HB.out).mono ?_; rintro e W1 ⟨g, o, c, rfl, hc, hb1, _⟩; have d0 := hc 0 (by omega); simp only [Nat.add_zero] at d0; rw [← HM.out] at d0; have i0 : RB W1 w.heap.size s := blk_below k0 hb1 (lt_of_block k0); have i2 : RB W1 (w.heap.size + 2) rzero := blk_below k2 hb1 (lt_of_block k2); have jf := blk_below KF.out hb1 (lt_of_block KF.out); have HB1 := Lib.hid (HB.out.trans (hb1.mono HB.out.size)); clear hc hb1 k0 k2 KF HB c11; (clear cf_0 ff_0 cf_1 ff_1 cf_2 ff_2 cf_3 ff_3 cf_4 ff_4); have k0 := i0; have k2 := i2; have KF := Lib.hid jf; have HB := HB1; (have cf_0 := blk_cell jf 0 rfl; have ff_0 := blk_free jf 0; have cf_1 := blk_cell jf 1 rfl; have ff_1 := blk_free jf 1; have cf_2 := blk_cell jf 2 rfl; have ff_2 := blk_free jf 2; have cf_3 := blk_cell jf 3 rfl; have ff_3 := blk_free jf 3; have cf_4 := blk_cell jf 4 rfl; have ff_4 := blk_free jf 4; have lf := lt_of_block jf); clear i0 i2 jf HB1
        go_upto_region 38 with fail; go_wp2_with (first | (refine wpList_load_row rfl 54 _ rfl _ rfl 54 _ (0, 0) _ k0 Try.underlying54 rfl (by kernel_rfl) ?_) | (refine wpList_store_row rfl 54 _ _ rfl _ _ rfl rfl 54 _ k2 (by kernel_rfl) rfl (rag_one _) ?_)); exact bodyPost_ret (results_ct rfl _ _ _ _ _ (0, 0) _ rfl (setRow_heap _ _ _ _ _ _ k2) Try.underlying54 rfl (by kernel_rfl)) rfl ⟨by rw [E.out]; try (simp; done), below_setRow HB.out (by omega) _⟩
  have y8 : ((n : Int) == 8) = true := by rw [beq_iff_eq]; omega
  have y0 : ((n : Int) == 4) = false := by rw [beq_eq_false_iff_ne]; omega
  have hm8 : x.two = true := by rw [hmt, decide_eq_true (by omega)]
  cases ha : s.asked
  · have E := Lib.hid (show Plt.take s x = (s, false) by unfold Plt.take; rw [if_neg (by omega), if_neg (by omega), if_neg (by omega), if_neg (by omega), if_neg (by omega), if_neg (by omega), if_pos (by omega), if_neg (fun hh => by rw [ha] at hh; cases hh.2.1)])
    have HA := Lib.hid ha
    clear hk hmk hmn hmp hx hn hr hs hn2 hgiv hload hprog hstart hm h8 hmt hms hask hm8 ha
    rcases z45 s with ⟨z4, z5⟩ | ⟨z4, z5⟩ | ⟨z4, z5⟩
    all_goals
      go_enter Try.func66, Try.ntmps66; go_upto_region 1 with fail; generalize hV : World.alloc _ _ = V; have k0 : RB V w.heap.size s := (by rw [← hV]; exact blk_alloc (blk_alloc (heap_new _ _) _) _); have kf : V.heap[w.heap.size + 1]? = some (.cells #[.int .i64 k, .int .i64 f, .int .i64 t, .int .i64 q, .slice A n cap] 35 (0, 0)) := (by rw [← hV]; exact blk_alloc (heap_new' _ _ _ (by simp)) _); have k2 : RB V (w.heap.size + 2) rzero := (by rw [← hV]; exact heap_new' _ _ _ (by simp)); have HB := Lib.hid (show Below w.heap.size w V from by rw [← hV]; exact (by repeat (first | (with_reducible exact Below.refl _ _) | (with_reducible refine Below.drew ?_) | (with_reducible refine below_drewN ?_ _) | ((with_reducible refine Below.alloc ?_ ?_ _); rotate_left; (first | omega | (simp <;> omega)); rotate_right) | ((with_reducible refine Below.setCell ?_ ?_ _); rotate_left; (first | omega | (simp <;> omega)); rotate_right) | (with_reducible assumption) | (refine Below.trans ?_ (Below.mono (by assumption) ?_); rotate_left; (first | omega | (simp <;> omega)); rotate_right)))); clear hV; (have cf_0 := blk_cell kf 0 rfl; have ff_0 := blk_free kf 0; have cf_1 := blk_cell kf 1 rfl; have ff_1 := blk_free kf 1; have cf_2 := blk_cell kf 2 rfl; have ff_2 := blk_free kf 2; have cf_3 := blk_cell kf 3 rfl; have ff_3 := blk_free kf 3; have cf_4 := blk_cell kf 4 rfl; have ff_4 := blk_free kf 4; have lf := lt_of_block kf); have KF := Lib.hid kf; clear kf; have c11 : V.cell? ⟨w.heap.size, 11, none⟩ = some (.int .i64 s.st) := blk_cell k0 11 rfl
      have c15 : V.cell? ⟨w.heap.size, 15, none⟩ = some (.bool s.asked) := blk_cell k0 15 rfl
      rw [HA.out] at c15
      go_upto_region 38 with fail; go_wp2_with (first | (refine wpList_load_row rfl 54 _ rfl _ rfl 54 _ (0, 0) _ k0 Try.underlying54 rfl (by kernel_rfl) ?_) | (refine wpList_store_row rfl 54 _ _ rfl _ _ rfl rfl 54 _ k2 (by kernel_rfl) rfl (rag_one _) ?_)); exact bodyPost_ret (results_ct rfl _ _ _ _ _ (0, 0) _ rfl (setRow_heap _ _ _ _ _ _ k2) Try.underlying54 rfl (by kernel_rfl)) rfl ⟨by rw [E.out]; try (simp; done), below_setRow HB.out (by omega) _⟩
  · have hqq := (hask ha).2
    have HA := Lib.hid ha
    by_cases hq : q = s.q
    case neg =>
      have z9 : (q == s.q) = false := by rw [beq_eq_false_iff_ne]; exact hq
      have E := Lib.hid (show Plt.take s x = (s, false) by unfold Plt.take; rw [if_neg (by omega), if_neg (by omega), if_neg (by omega), if_neg (by omega), if_neg (by omega), if_neg (by omega), if_pos (by omega), if_neg (fun hh => hq (by have := hh.2.2; rw [hms, ← hqq] at this; exact this))])
      clear hk hmk hmn hmp hx hn hr hs hn2 hgiv hload hprog hstart hm h8 hmt hms hask hm8 ha hq hqq
      rcases z45 s with ⟨z4, z5⟩ | ⟨z4, z5⟩ | ⟨z4, z5⟩
      all_goals
        go_enter Try.func66, Try.ntmps66; go_upto_region 1 with fail; generalize hV : World.alloc _ _ = V; have k0 : RB V w.heap.size s := (by rw [← hV]; exact blk_alloc (blk_alloc (heap_new _ _) _) _); have kf : V.heap[w.heap.size + 1]? = some (.cells #[.int .i64 k, .int .i64 f, .int .i64 t, .int .i64 q, .slice A n cap] 35 (0, 0)) := (by rw [← hV]; exact blk_alloc (heap_new' _ _ _ (by simp)) _); have k2 : RB V (w.heap.size + 2) rzero := (by rw [← hV]; exact heap_new' _ _ _ (by simp)); have HB := Lib.hid (show Below w.heap.size w V from by rw [← hV]; exact (by repeat (first | (with_reducible exact Below.refl _ _) | (with_reducible refine Below.drew ?_) | (with_reducible refine below_drewN ?_ _) | ((with_reducible refine Below.alloc ?_ ?_ _); rotate_left; (first | omega | (simp <;> omega)); rotate_right) | ((with_reducible refine Below.setCell ?_ ?_ _); rotate_left; (first | omega | (simp <;> omega)); rotate_right) | (with_reducible assumption) | (refine Below.trans ?_ (Below.mono (by assumption) ?_); rotate_left; (first | omega | (simp <;> omega)); rotate_right)))); clear hV; (have cf_0 := blk_cell kf 0 rfl; have ff_0 := blk_free kf 0; have cf_1 := blk_cell kf 1 rfl; have ff_1 := blk_free kf 1; have cf_2 := blk_cell kf 2 rfl; have ff_2 := blk_free kf 2; have cf_3 := blk_cell kf 3 rfl; have ff_3 := blk_free kf 3; have cf_4 := blk_cell kf 4 rfl; have ff_4 := blk_free kf 4; have lf := lt_of_block kf); have KF := Lib.hid kf; clear kf; have c11 : V.cell? ⟨w.heap.size, 11, none⟩ = some (.int .i64 s.st) := blk_cell k0 11 rfl
        have c15 : V.cell? ⟨w.heap.size, 15, none⟩ = some (.bool s.asked) := blk_cell k0 15 rfl
        rw [HA.out] at c15
        have c23 : V.cell? ⟨w.heap.size, 23, none⟩ = some (.int .i64 s.q) := blk_cell k0 23 rfl
        go_upto_region 38 with fail; go_wp2_with (first | (refine wpList_load_row rfl 54 _ rfl _ rfl 54 _ (0, 0) _ k0 Try.underlying54 rfl (by kernel_rfl) ?_) | (refine wpList_store_row rfl 54 _ _ rfl _ _ rfl rfl 54 _ k2 (by kernel_rfl) rfl (rag_one _) ?_)); exact bodyPost_ret (results_ct rfl _ _ _ _ _ (0, 0) _ rfl (setRow_heap _ _ _ _ _ _ k2) Try.underlying54 rfl (by kernel_rfl)) rfl ⟨by rw [E.out]; try (simp; done), below_setRow HB.out (by omega) _⟩
    have z9 : (q == s.q) = true := by rw [beq_iff_eq]; exact hq
    have hseq : x.seq = (s.reports - 1) % 65536 := by rw [hms, hq, hqq]
    have G := Lib.hid (fun (W : World) (hW : Below w.heap.size w W) => rgetk_yes A n cap 2 l W (by omega) hn (by omega) (by omega) ((hr.below hW (Nat.le_refl _)).more hW.size))
    have hxg : x.g = Frm.gnAt l 0 := by rw [hx]; rfl
    have hxb : x.b = Frm.gnAt l 1 := by rw [hx]; rfl
    obtain ⟨n0, hn0⟩ : ∃ n0, n0 = Frm.gnAt l 0 := ⟨_, rfl⟩
    obtain ⟨n1, hn1⟩ : ∃ n1, n1 = Frm.gnAt l 1 := ⟨_, rfl⟩
    have HN := Lib.hid (And.intro hn0 hn1)
    have AD := Lib.hid (fun W : World => Ck.radd_any s.d s.r s.cs s.lo s.hi s.rep n0 n1 s.now W hs.clk hs.l0)
    have E := Lib.hid (show Plt.take s x = ({ s with r := Ck.Clk.addR s.d s.r s.cs s.lo s.hi s.rep n0 n1 s.now, cs := Ck.Clk.addS s.d s.r s.cs s.lo s.hi s.rep n0 n1 s.now, lo := Ck.Clk.addLo s.d s.r s.cs s.lo s.hi s.rep n0 n1 s.now, hi := Ck.Clk.addHi s.d s.r s.cs s.lo s.hi s.rep n0 n1 s.now, asked := false }, false) by unfold Plt.take; rw [if_neg (by omega), if_neg (by omega), if_neg (by omega), if_neg (by omega), if_neg (by omega), if_neg (by omega), if_pos (by omega), if_pos ⟨hm8, ha, hseq⟩, hxg, hxb, ← hn0, ← hn1])
    obtain ⟨xr, hxr⟩ : ∃ y, y = Ck.Clk.addR s.d s.r s.cs s.lo s.hi s.rep n0 n1 s.now := ⟨_, rfl⟩
    obtain ⟨xs, hxs⟩ : ∃ y, y = Ck.Clk.addS s.d s.r s.cs s.lo s.hi s.rep n0 n1 s.now := ⟨_, rfl⟩
    obtain ⟨xl, hxl⟩ : ∃ y, y = Ck.Clk.addLo s.d s.r s.cs s.lo s.hi s.rep n0 n1 s.now := ⟨_, rfl⟩
    obtain ⟨xh, hxh⟩ : ∃ y, y = Ck.Clk.addHi s.d s.r s.cs s.lo s.hi s.rep n0 n1 s.now := ⟨_, rfl⟩
    obtain ⟨xe, hxe⟩ : ∃ y, y = Ck.Clk.addE s.d s.r s.cs s.lo s.hi s.rep n0 n1 s.now := ⟨_, rfl⟩
    have AD := Lib.hid (fun W : World => by have := AD.out W; unfold Ck.RPost at this; rw [← hxr, ← hxs, ← hxl, ← hxh, ← hxe] at this; exact this)
    rw [← hxr, ← hxs, ← hxl, ← hxh] at E
    by_cases h0 : xe = 0
    · subst h0
      clear hk hmk hmn hmp hx hn hr hs hn2 hgiv hload hprog hstart hm h8 hmt hms hask hm8 ha hq hqq hseq hxg hxb hn0 hn1 hxr hxs hxl hxh hxe
      rcases z45 s with ⟨z4, z5⟩ | ⟨z4, z5⟩ | ⟨z4, z5⟩
      all_goals
        go_enter Try.func66, Try.ntmps66; go_upto_region 1 with fail; generalize hV : World.alloc _ _ = V; have k0 : RB V w.heap.size s := (by rw [← hV]; exact blk_alloc (blk_alloc (heap_new _ _) _) _); have kf : V.heap[w.heap.size + 1]? = some (.cells #[.int .i64 k, .int .i64 f, .int .i64 t, .int .i64 q, .slice A n cap] 35 (0, 0)) := (by rw [← hV]; exact blk_alloc (heap_new' _ _ _ (by simp)) _); have k2 : RB V (w.heap.size + 2) rzero := (by rw [← hV]; exact heap_new' _ _ _ (by simp)); have HB := Lib.hid (show Below w.heap.size w V from by rw [← hV]; exact (by repeat (first | (with_reducible exact Below.refl _ _) | (with_reducible refine Below.drew ?_) | (with_reducible refine below_drewN ?_ _) | ((with_reducible refine Below.alloc ?_ ?_ _); rotate_left; (first | omega | (simp <;> omega)); rotate_right) | ((with_reducible refine Below.setCell ?_ ?_ _); rotate_left; (first | omega | (simp <;> omega)); rotate_right) | (with_reducible assumption) | (refine Below.trans ?_ (Below.mono (by assumption) ?_); rotate_left; (first | omega | (simp <;> omega)); rotate_right)))); clear hV; (have cf_0 := blk_cell kf 0 rfl; have ff_0 := blk_free kf 0; have cf_1 := blk_cell kf 1 rfl; have ff_1 := blk_free kf 1; have cf_2 := blk_cell kf 2 rfl; have ff_2 := blk_free kf 2; have cf_3 := blk_cell kf 3 rfl; have ff_3 := blk_free kf 3; have cf_4 := blk_cell kf 4 rfl; have ff_4 := blk_free kf 4; have lf := lt_of_block kf); have KF := Lib.hid kf; clear kf; have c11 : V.cell? ⟨w.heap.size, 11, none⟩ = some (.int .i64 s.st) := blk_cell k0 11 rfl
        have c15 : V.cell? ⟨w.heap.size, 15, none⟩ = some (.bool s.asked) := blk_cell k0 15 rfl
        rw [HA.out] at c15
        have c23 : V.cell? ⟨w.heap.size, 23, none⟩ = some (.int .i64 s.q) := blk_cell k0 23 rfl
        go_upto_region 33 with fail
        go_wp2_with fail
        refine (G.out _ HB.out).mono ?_
        rintro e W1 ⟨g, o, c, rfl, hc, hb1, _⟩
        have d0 := hc 0 (by omega)
        have d1 := hc 1 (by omega)
        simp only [Nat.add_zero] at d0
        rw [← HN.out.1] at d0
        rw [← HN.out.2] at d1
        have i0 : RB W1 w.heap.size s := blk_below k0 hb1 (lt_of_block k0)
        have i2 : RB W1 (w.heap.size + 2) rzero := blk_below k2 hb1 (lt_of_block k2)
        have jf := blk_below KF.out hb1 (lt_of_block KF.out)
        have HB1 := Lib.hid (HB.out.trans (hb1.mono HB.out.size))
        have hgW := cell_lt d0
        clear hc hb1 k0 k2 KF HB c11 c15 c23
        clear cf_0 ff_0 cf_1 ff_1 cf_2 ff_2 cf_3 ff_3 cf_4 ff_4
        clear lf
        have I0 := Lib.hid i0
        have I2 := Lib.hid i2
        have c6 : W1.cell? ⟨w.heap.size, 6, none⟩ = some (.int .i64 s.d) := blk_cell i0 6 rfl
        have c7 : W1.cell? ⟨w.heap.size, 7, none⟩ = some (.int .i64 s.r) := blk_cell i0 7 rfl
        have c8 : W1.cell? ⟨w.heap.size, 8, none⟩ = some (.bool s.cs) := blk_cell i0 8 rfl
        have c9 : W1.cell? ⟨w.heap.size, 9, none⟩ = some (.int .i64 s.lo) := blk_cell i0 9 rfl
        have c10 : W1.cell? ⟨w.heap.size, 10, none⟩ = some (.int .i64 s.hi) := blk_cell i0 10 rfl
        have c22 : W1.cell? ⟨w.heap.size, 22, none⟩ = some (.int .i64 s.rep) := blk_cell i0 22 rfl
        have c16 : W1.cell? ⟨w.heap.size, 16, none⟩ = some (.int .i64 s.now) := blk_cell i0 16 rfl
        clear i0 i2 jf
        go_upto_region 34 with fail
        (go_region_held3 (fun w' => w'.cell? ⟨w.heap.size, 6, none⟩ = some (.int .i64 s.d) ∧ w'.cell? ⟨w.heap.size, 7, none⟩ = some (.int .i64 s.r) ∧ w'.cell? ⟨w.heap.size, 8, none⟩ = some (.bool s.cs) ∧ w'.cell? ⟨w.heap.size, 9, none⟩ = some (.int .i64 s.lo) ∧ w'.cell? ⟨w.heap.size, 10, none⟩ = some (.int .i64 s.hi) ∧ w'.cell? ⟨w.heap.size, 22, none⟩ = some (.int .i64 s.rep) ∧ w'.cell? ⟨w.heap.size, 16, none⟩ = some (.int .i64 s.now) ∧ w'.cell? ⟨g, o, none⟩ = some (.int .i64 n0) ∧ w'.cell? ⟨g, o + 1, none⟩ = some (.int .i64 n1)) (first | (refine ⟨?_, ?_, ?_, ?_, ?_, ?_, ?_, ?_, ?_⟩ <;> simp [go_sem, *]; done) | go_keep) (first | (go_at_call 78; refine (AD.out _).mono ?_; rintro e W5 ⟨rfl, hb5⟩; have hz5 := hb5.size; (try simp at hz5); have HB5 := Lib.hid (show Below W1.heap.size W1 W5 from (by repeat (first | (with_reducible exact Below.refl _ _) | (with_reducible refine Below.drew ?_) | (with_reducible refine below_drewN ?_ _) | ((with_reducible refine Below.alloc ?_ ?_ _); rotate_left; (first | omega | (simp <;> omega)); rotate_right) | ((with_reducible refine Below.setCell ?_ ?_ _); rotate_left; (first | omega | (simp <;> omega)); rotate_right) | (with_reducible assumption) | (refine Below.trans ?_ (Below.mono (by assumption) ?_); rotate_left; (first | omega | (simp <;> omega)); rotate_right)))); (try (have z1 : W5.heap[W1.heap.size]? = some (.cells #[.int .i64 0, .int .i64 0, .bool false, .int .i64 0, .int .i64 0] 52 (0, 0)) := blk_below (by first | exact heap_new _ _ | exact heap_new' _ _ _ (by simp) | exact blk_drewN (heap_new _ _) _ | exact blk_drew (heap_new _ _)) hb5 (by simp); (have cz_0 := blk_cell z1 0 rfl; have fz_0 := blk_free z1 0; have cz_1 := blk_cell z1 1 rfl; have fz_1 := blk_free z1 1; have cz_2 := blk_cell z1 2 rfl; have fz_2 := blk_free z1 2; have cz_3 := blk_cell z1 3 rfl; have fz_3 := blk_free z1 3; have cz_4 := blk_cell z1 4 rfl; have fz_4 := blk_free z1 4; have lz := lt_of_block z1))); have u0 := ((bcell HB5.out).1 g o hgW).trans d0; have u1 := ((bcell HB5.out).1 g (o + 1) hgW).trans d1; have i0 : RB W5 w.heap.size s := blk_below I0.out HB5.out (lt_of_block I0.out); have i2 : RB W5 (w.heap.size + 2) rzero := blk_below I2.out HB5.out (lt_of_block I2.out); have J0 := Lib.hid i0; have J2 := Lib.hid i2; clear hb5 c6 c7 c8 c9 c10 c22 c16 d0 d1; (have c6 : W5.cell? ⟨w.heap.size, 6, none⟩ = some (.int .i64 s.d) := blk_cell i0 6 rfl; have c7 : W5.cell? ⟨w.heap.size, 7, none⟩ = some (.int .i64 s.r) := blk_cell i0 7 rfl; have c8 : W5.cell? ⟨w.heap.size, 8, none⟩ = some (.bool s.cs) := blk_cell i0 8 rfl; have c9 : W5.cell? ⟨w.heap.size, 9, none⟩ = some (.int .i64 s.lo) := blk_cell i0 9 rfl; have c10 : W5.cell? ⟨w.heap.size, 10, none⟩ = some (.int .i64 s.hi) := blk_cell i0 10 rfl; have c22 : W5.cell? ⟨w.heap.size, 22, none⟩ = some (.int .i64 s.rep) := blk_cell i0 22 rfl; have c16 : W5.cell? ⟨w.heap.size, 16, none⟩ = some (.int .i64 s.now) := blk_cell i0 16 rfl); clear i0 i2)))
        all_goals
          have hz0 : w.heap.size + 2 < W1.heap.size := lt_of_block I2.out
          have hz9 : W1.heap.size ≤ W5.heap.size := HB5.out.size
          have hzz : w.heap.size ≤ W5.heap.size := by omega
          first
          | (have _g := z1
             go_upto_region 35 with fail
             generalize hV6 : World.setCell _ _ _ = V6
             have kc : V6.heap[W1.heap.size]? = some (.cells #[.int .i64 s.d, .int .i64 xr, .bool xs, .int .i64 xl, .int .i64 xh] 52 (0, 0)) := by rw [← hV6]; exact (by apply Eq.trans; (repeat (first | (with_reducible assumption) | (with_reducible apply blk_set) | ((with_reducible apply blk_far); rotate_left; (first | omega | (simp <;> omega)); rotate_right) | (with_reducible apply blk_drew) | (with_reducible apply blk_drewN) | ((with_reducible apply heap_new'); (first | rfl | (simp <;> fail))) | (with_reducible apply blk_alloc))); (first | with_reducible rfl | (simp <;> fail) | rfl))
             have k0 : RB V6 w.heap.size s := by rw [← hV6]; have h0 := J0.out; unfold RB at *; exact (by repeat (first | (with_reducible assumption) | ((with_reducible apply blk_far); rotate_left; (first | omega | (simp <;> omega)); rotate_right) | (with_reducible apply blk_drew) | (with_reducible apply blk_drewN) | (with_reducible exact heap_new _ _) | ((with_reducible apply heap_new'); (first | rfl | (simp <;> fail))) | (with_reducible apply blk_alloc)))
             have k2 : RB V6 (w.heap.size + 2) rzero := by rw [← hV6]; have h0 := J2.out; unfold RB at *; exact (by repeat (first | (with_reducible assumption) | ((with_reducible apply blk_far); rotate_left; (first | omega | (simp <;> omega)); rotate_right) | (with_reducible apply blk_drew) | (with_reducible apply blk_drewN) | (with_reducible exact heap_new _ _) | ((with_reducible apply heap_new'); (first | rfl | (simp <;> fail))) | (with_reducible apply blk_alloc)))
             have HB := Lib.hid (show Below w.heap.size w V6 by rw [← hV6]; have := HB1.out.trans (HB5.out.mono HB1.out.size); exact (by repeat (first | (with_reducible exact Below.refl _ _) | (with_reducible refine Below.drew ?_) | (with_reducible refine below_drewN ?_ _) | ((with_reducible refine Below.alloc ?_ ?_ _); rotate_left; (first | omega | (simp <;> omega)); rotate_right) | ((with_reducible refine Below.setCell ?_ ?_ _); rotate_left; (first | omega | (simp <;> omega)); rotate_right) | (with_reducible assumption) | (refine Below.trans ?_ (Below.mono (by assumption) ?_); rotate_left; (first | omega | (simp <;> omega)); rotate_right))))
             clear hV6 z1
             have i0 := k0; (have e6 := blk_cell k0 6 rfl; have p6 := blk_free k0 6; have e7 := blk_cell k0 7 rfl; have p7 := blk_free k0 7; have e8 := blk_cell k0 8 rfl; have p8 := blk_free k0 8; have e9 := blk_cell k0 9 rfl; have p9 := blk_free k0 9; have e10 := blk_cell k0 10 rfl; have p10 := blk_free k0 10; have e15 := blk_cell k0 15 rfl; have p15 := blk_free k0 15); (have cm_0 := blk_cell kc 0 rfl; have fm_0 := blk_free kc 0; have cm_1 := blk_cell kc 1 rfl; have fm_1 := blk_free kc 1; have cm_2 := blk_cell kc 2 rfl; have fm_2 := blk_free kc 2; have cm_3 := blk_cell kc 3 rfl; have fm_3 := blk_free kc 3; have cm_4 := blk_cell kc 4 rfl; have fm_4 := blk_free kc 4; have lm := lt_of_block kc); have hne : W1.heap.size ≠ w.heap.size := (by omega); have hne2 : w.heap.size ≠ W1.heap.size := (by omega); (go_upto_region 38 with fail); generalize hV7 : World.setCell _ _ _ = V7; have j0 : RB V7 w.heap.size { s with r := xr, cs := xs, lo := xl, hi := xh, asked := false } := (by rw [← hV7]; exact blk_set (blk_set (blk_set (blk_set (blk_set (blk_set i0 6 _) 7 _) 8 _) 9 _) 10 _) 15 _); have j2 : RB V7 (w.heap.size + 2) rzero := (by rw [← hV7]; have h0 := k2; unfold RB at *; exact (by repeat (first | (with_reducible assumption) | ((with_reducible apply blk_far); rotate_left; (first | omega | (simp <;> omega)); rotate_right) | (with_reducible apply blk_drew) | (with_reducible apply blk_drewN) | (with_reducible exact heap_new _ _) | ((with_reducible apply heap_new'); (first | rfl | (simp <;> fail))) | (with_reducible apply blk_alloc)))); have HB7 := Lib.hid (show Below w.heap.size w V7 by rw [← hV7]; have := HB.out; exact (by repeat (first | (with_reducible exact Below.refl _ _) | (with_reducible refine Below.drew ?_) | (with_reducible refine below_drewN ?_ _) | ((with_reducible refine Below.alloc ?_ ?_ _); rotate_left; (first | omega | (simp <;> omega)); rotate_right) | ((with_reducible refine Below.setCell ?_ ?_ _); rotate_left; (first | omega | (simp <;> omega)); rotate_right) | (with_reducible assumption) | (refine Below.trans ?_ (Below.mono (by assumption) ?_); rotate_left; (first | omega | (simp <;> omega)); rotate_right)))); clear hV7 k0 k2 HB i0 kc e6 p6 e7 p7 e8 p8 e9 p9 e10 p10 e15 p15; (clear cm_0 fm_0 cm_1 fm_1 cm_2 fm_2 cm_3 fm_3 cm_4 fm_4); have k0 := j0; have k2 := j2; have HB := HB7; (go_wp2_with (first | (refine wpList_load_row rfl 54 _ rfl _ rfl 54 _ (0, 0) _ k0 Try.underlying54 rfl (by kernel_rfl) ?_) | (refine wpList_store_row rfl 54 _ _ rfl _ _ rfl rfl 54 _ k2 (by kernel_rfl) rfl (rag_one _) ?_)); exact bodyPost_ret (results_ct rfl _ _ _ _ _ (0, 0) _ rfl (setRow_heap _ _ _ _ _ _ k2) Try.underlying54 rfl (by kernel_rfl)) rfl ⟨by rw [E.out]; try (simp; done), below_setRow HB.out (by omega) _⟩))
          | (fail_if_success (have _g := z1)
             go_upto_region 35 with fail
             generalize hV6 : World.alloc _ _ = V6
             have kc : V6.heap[W5.heap.size]? = some (.cells #[.int .i64 s.d, .int .i64 xr, .bool xs, .int .i64 xl, .int .i64 xh] 52 (0, 0)) := by rw [← hV6]; exact heap_new _ _
             have k0 : RB V6 w.heap.size s := by rw [← hV6]; exact blk_alloc J0.out _
             have k2 : RB V6 (w.heap.size + 2) rzero := by rw [← hV6]; exact blk_alloc J2.out _
             have HB := Lib.hid (show Below w.heap.size w V6 by rw [← hV6]; have := HB1.out.trans (HB5.out.mono HB1.out.size); exact (by repeat (first | (with_reducible exact Below.refl _ _) | (with_reducible refine Below.drew ?_) | (with_reducible refine below_drewN ?_ _) | ((with_reducible refine Below.alloc ?_ ?_ _); rotate_left; (first | omega | (simp <;> omega)); rotate_right) | ((with_reducible refine Below.setCell ?_ ?_ _); rotate_left; (first | omega | (simp <;> omega)); rotate_right) | (with_reducible assumption) | (refine Below.trans ?_ (Below.mono (by assumption) ?_); rotate_left; (first | omega | (simp <;> omega)); rotate_right))))
             clear hV6
             have i0 := k0; (have e6 := blk_cell k0 6 rfl; have p6 := blk_free k0 6; have e7 := blk_cell k0 7 rfl; have p7 := blk_free k0 7; have e8 := blk_cell k0 8 rfl; have p8 := blk_free k0 8; have e9 := blk_cell k0 9 rfl; have p9 := blk_free k0 9; have e10 := blk_cell k0 10 rfl; have p10 := blk_free k0 10; have e15 := blk_cell k0 15 rfl; have p15 := blk_free k0 15); (have cm_0 := blk_cell kc 0 rfl; have fm_0 := blk_free kc 0; have cm_1 := blk_cell kc 1 rfl; have fm_1 := blk_free kc 1; have cm_2 := blk_cell kc 2 rfl; have fm_2 := blk_free kc 2; have cm_3 := blk_cell kc 3 rfl; have fm_3 := blk_free kc 3; have cm_4 := blk_cell kc 4 rfl; have fm_4 := blk_free kc 4; have lm := lt_of_block kc); have hne : W5.heap.size ≠ w.heap.size := (by omega); have hne2 : w.heap.size ≠ W5.heap.size := (by omega); (go_upto_region 38 with fail); generalize hV7 : World.setCell _ _ _ = V7; have j0 : RB V7 w.heap.size { s with r := xr, cs := xs, lo := xl, hi := xh, asked := false } := (by rw [← hV7]; exact blk_set (blk_set (blk_set (blk_set (blk_set (blk_set i0 6 _) 7 _) 8 _) 9 _) 10 _) 15 _); have j2 : RB V7 (w.heap.size + 2) rzero := (by rw [← hV7]; have h0 := k2; unfold RB at *; exact (by repeat (first | (with_reducible assumption) | ((with_reducible apply blk_far); rotate_left; (first | omega | (simp <;> omega)); rotate_right) | (with_reducible apply blk_drew) | (with_reducible apply blk_drewN) | (with_reducible exact heap_new _ _) | ((with_reducible apply heap_new'); (first | rfl | (simp <;> fail))) | (with_reducible apply blk_alloc)))); have HB7 := Lib.hid (show Below w.heap.size w V7 by rw [← hV7]; have := HB.out; exact (by repeat (first | (with_reducible exact Below.refl _ _) | (with_reducible refine Below.drew ?_) | (with_reducible refine below_drewN ?_ _) | ((with_reducible refine Below.alloc ?_ ?_ _); rotate_left; (first | omega | (simp <;> omega)); rotate_right) | ((with_reducible refine Below.setCell ?_ ?_ _); rotate_left; (first | omega | (simp <;> omega)); rotate_right) | (with_reducible assumption) | (refine Below.trans ?_ (Below.mono (by assumption) ?_); rotate_left; (first | omega | (simp <;> omega)); rotate_right)))); clear hV7 k0 k2 HB i0 kc e6 p6 e7 p7 e8 p8 e9 p9 e10 p10 e15 p15; (clear cm_0 fm_0 cm_1 fm_1 cm_2 fm_2 cm_3 fm_3 cm_4 fm_4); have k0 := j0; have k2 := j2; have HB := HB7; (go_wp2_with (first | (refine wpList_load_row rfl 54 _ rfl _ rfl 54 _ (0, 0) _ k0 Try.underlying54 rfl (by kernel_rfl) ?_) | (refine wpList_store_row rfl 54 _ _ rfl _ _ rfl rfl 54 _ k2 (by kernel_rfl) rfl (rag_one _) ?_)); exact bodyPost_ret (results_ct rfl _ _ _ _ _ (0, 0) _ rfl (setRow_heap _ _ _ _ _ _ k2) Try.underlying54 rfl (by kernel_rfl)) rfl ⟨by rw [E.out]; try (simp; done), below_setRow HB.out (by omega) _⟩))
    · have z8 : (xe == 0) = false := by rw [beq_eq_false_iff_ne]; exact h0
      have EN := Lib.hid (show xr = s.r ∧ xs = s.cs ∧ xl = s.lo ∧ xh = s.hi by
        rw [hxe] at h0
        exact ⟨by rw [hxr]; unfold Ck.Clk.addR; rw [if_neg h0], by rw [hxs]; unfold Ck.Clk.addS; rw [if_neg h0], by rw [hxl]; unfold Ck.Clk.addLo; rw [if_neg h0], by rw [hxh]; unfold Ck.Clk.addHi; rw [if_neg h0]⟩)
      clear hk hmk hmn hmp hx hn hr hs hn2 hgiv hload hprog hstart hm h8 hmt hms hask hm8 ha hq hqq hseq hxg hxb hn0 hn1 hxr hxs hxl hxh hxe h0
      rcases z45 s with ⟨z4, z5⟩ | ⟨z4, z5⟩ | ⟨z4, z5⟩
      all_goals
        go_enter Try.func66, Try.ntmps66; go_upto_region 1 with fail; generalize hV : World.alloc _ _ = V; have k0 : RB V w.heap.size s := (by rw [← hV]; exact blk_alloc (blk_alloc (heap_new _ _) _) _); have kf : V.heap[w.heap.size + 1]? = some (.cells #[.int .i64 k, .int .i64 f, .int .i64 t, .int .i64 q, .slice A n cap] 35 (0, 0)) := (by rw [← hV]; exact blk_alloc (heap_new' _ _ _ (by simp)) _); have k2 : RB V (w.heap.size + 2) rzero := (by rw [← hV]; exact heap_new' _ _ _ (by simp)); have HB := Lib.hid (show Below w.heap.size w V from by rw [← hV]; exact (by repeat (first | (with_reducible exact Below.refl _ _) | (with_reducible refine Below.drew ?_) | (with_reducible refine below_drewN ?_ _) | ((with_reducible refine Below.alloc ?_ ?_ _); rotate_left; (first | omega | (simp <;> omega)); rotate_right) | ((with_reducible refine Below.setCell ?_ ?_ _); rotate_left; (first | omega | (simp <;> omega)); rotate_right) | (with_reducible assumption) | (refine Below.trans ?_ (Below.mono (by assumption) ?_); rotate_left; (first | omega | (simp <;> omega)); rotate_right)))); clear hV; (have cf_0 := blk_cell kf 0 rfl; have ff_0 := blk_free kf 0; have cf_1 := blk_cell kf 1 rfl; have ff_1 := blk_free kf 1; have cf_2 := blk_cell kf 2 rfl; have ff_2 := blk_free kf 2; have cf_3 := blk_cell kf 3 rfl; have ff_3 := blk_free kf 3; have cf_4 := blk_cell kf 4 rfl; have ff_4 := blk_free kf 4; have lf := lt_of_block kf); have KF := Lib.hid kf; clear kf; have c11 : V.cell? ⟨w.heap.size, 11, none⟩ = some (.int .i64 s.st) := blk_cell k0 11 rfl
        have c15 : V.cell? ⟨w.heap.size, 15, none⟩ = some (.bool s.asked) := blk_cell k0 15 rfl
        rw [HA.out] at c15
        have c23 : V.cell? ⟨w.heap.size, 23, none⟩ = some (.int .i64 s.q) := blk_cell k0 23 rfl
        go_upto_region 33 with fail
        go_wp2_with fail
        refine (G.out _ HB.out).mono ?_
        rintro e W1 ⟨g, o, c, rfl, hc, hb1, _⟩
        have d0 := hc 0 (by omega)
        have d1 := hc 1 (by omega)
        simp only [Nat.add_zero] at d0
        rw [← HN.out.1] at d0
        rw [← HN.out.2] at d1
        have i0 : RB W1 w.heap.size s := blk_below k0 hb1 (lt_of_block k0)
        have i2 : RB W1 (w.heap.size + 2) rzero := blk_below k2 hb1 (lt_of_block k2)
        have jf := blk_below KF.out hb1 (lt_of_block KF.out)
        have HB1 := Lib.hid (HB.out.trans (hb1.mono HB.out.size))
        have hgW := cell_lt d0
        clear hc hb1 k0 k2 KF HB c11 c15 c23
        clear cf_0 ff_0 cf_1 ff_1 cf_2 ff_2 cf_3 ff_3 cf_4 ff_4
        clear lf
        have I0 := Lib.hid i0
        have I2 := Lib.hid i2
        have c6 : W1.cell? ⟨w.heap.size, 6, none⟩ = some (.int .i64 s.d) := blk_cell i0 6 rfl
        have c7 : W1.cell? ⟨w.heap.size, 7, none⟩ = some (.int .i64 s.r) := blk_cell i0 7 rfl
        have c8 : W1.cell? ⟨w.heap.size, 8, none⟩ = some (.bool s.cs) := blk_cell i0 8 rfl
        have c9 : W1.cell? ⟨w.heap.size, 9, none⟩ = some (.int .i64 s.lo) := blk_cell i0 9 rfl
        have c10 : W1.cell? ⟨w.heap.size, 10, none⟩ = some (.int .i64 s.hi) := blk_cell i0 10 rfl
        have c22 : W1.cell? ⟨w.heap.size, 22, none⟩ = some (.int .i64 s.rep) := blk_cell i0 22 rfl
        have c16 : W1.cell? ⟨w.heap.size, 16, none⟩ = some (.int .i64 s.now) := blk_cell i0 16 rfl
        clear i0 i2 jf
        go_upto_region 34 with fail
        (go_region_held3 (fun w' => w'.cell? ⟨w.heap.size, 6, none⟩ = some (.int .i64 s.d) ∧ w'.cell? ⟨w.heap.size, 7, none⟩ = some (.int .i64 s.r) ∧ w'.cell? ⟨w.heap.size, 8, none⟩ = some (.bool s.cs) ∧ w'.cell? ⟨w.heap.size, 9, none⟩ = some (.int .i64 s.lo) ∧ w'.cell? ⟨w.heap.size, 10, none⟩ = some (.int .i64 s.hi) ∧ w'.cell? ⟨w.heap.size, 22, none⟩ = some (.int .i64 s.rep) ∧ w'.cell? ⟨w.heap.size, 16, none⟩ = some (.int .i64 s.now) ∧ w'.cell? ⟨g, o, none⟩ = some (.int .i64 n0) ∧ w'.cell? ⟨g, o + 1, none⟩ = some (.int .i64 n1)) (first | (refine ⟨?_, ?_, ?_, ?_, ?_, ?_, ?_, ?_, ?_⟩ <;> simp [go_sem, *]; done) | go_keep) (first | (go_at_call 78; refine (AD.out _).mono ?_; rintro e W5 ⟨rfl, hb5⟩; have hz5 := hb5.size; (try simp at hz5); have HB5 := Lib.hid (show Below W1.heap.size W1 W5 from (by repeat (first | (with_reducible exact Below.refl _ _) | (with_reducible refine Below.drew ?_) | (with_reducible refine below_drewN ?_ _) | ((with_reducible refine Below.alloc ?_ ?_ _); rotate_left; (first | omega | (simp <;> omega)); rotate_right) | ((with_reducible refine Below.setCell ?_ ?_ _); rotate_left; (first | omega | (simp <;> omega)); rotate_right) | (with_reducible assumption) | (refine Below.trans ?_ (Below.mono (by assumption) ?_); rotate_left; (first | omega | (simp <;> omega)); rotate_right)))); (try (have z1 : W5.heap[W1.heap.size]? = some (.cells #[.int .i64 0, .int .i64 0, .bool false, .int .i64 0, .int .i64 0] 52 (0, 0)) := blk_below (by first | exact heap_new _ _ | exact heap_new' _ _ _ (by simp) | exact blk_drewN (heap_new _ _) _ | exact blk_drew (heap_new _ _)) hb5 (by simp); (have cz_0 := blk_cell z1 0 rfl; have fz_0 := blk_free z1 0; have cz_1 := blk_cell z1 1 rfl; have fz_1 := blk_free z1 1; have cz_2 := blk_cell z1 2 rfl; have fz_2 := blk_free z1 2; have cz_3 := blk_cell z1 3 rfl; have fz_3 := blk_free z1 3; have cz_4 := blk_cell z1 4 rfl; have fz_4 := blk_free z1 4; have lz := lt_of_block z1))); have u0 := ((bcell HB5.out).1 g o hgW).trans d0; have u1 := ((bcell HB5.out).1 g (o + 1) hgW).trans d1; have i0 : RB W5 w.heap.size s := blk_below I0.out HB5.out (lt_of_block I0.out); have i2 : RB W5 (w.heap.size + 2) rzero := blk_below I2.out HB5.out (lt_of_block I2.out); have J0 := Lib.hid i0; have J2 := Lib.hid i2; clear hb5 c6 c7 c8 c9 c10 c22 c16 d0 d1; (have c6 : W5.cell? ⟨w.heap.size, 6, none⟩ = some (.int .i64 s.d) := blk_cell i0 6 rfl; have c7 : W5.cell? ⟨w.heap.size, 7, none⟩ = some (.int .i64 s.r) := blk_cell i0 7 rfl; have c8 : W5.cell? ⟨w.heap.size, 8, none⟩ = some (.bool s.cs) := blk_cell i0 8 rfl; have c9 : W5.cell? ⟨w.heap.size, 9, none⟩ = some (.int .i64 s.lo) := blk_cell i0 9 rfl; have c10 : W5.cell? ⟨w.heap.size, 10, none⟩ = some (.int .i64 s.hi) := blk_cell i0 10 rfl; have c22 : W5.cell? ⟨w.heap.size, 22, none⟩ = some (.int .i64 s.rep) := blk_cell i0 22 rfl; have c16 : W5.cell? ⟨w.heap.size, 16, none⟩ = some (.int .i64 s.now) := blk_cell i0 16 rfl); clear i0 i2)))
        all_goals
          have hz0 : w.heap.size + 2 < W1.heap.size := lt_of_block I2.out
          have hz9 : W1.heap.size ≤ W5.heap.size := HB5.out.size
          have hzz : w.heap.size ≤ W5.heap.size := by omega
          first
          | (have _g := z1
             go_upto_region 35 with fail
             generalize hV6 : World.setCell _ _ _ = V6
             have kc : V6.heap[W1.heap.size]? = some (.cells #[.int .i64 s.d, .int .i64 xr, .bool xs, .int .i64 xl, .int .i64 xh] 52 (0, 0)) := by rw [← hV6]; exact (by apply Eq.trans; (repeat (first | (with_reducible assumption) | (with_reducible apply blk_set) | ((with_reducible apply blk_far); rotate_left; (first | omega | (simp <;> omega)); rotate_right) | (with_reducible apply blk_drew) | (with_reducible apply blk_drewN) | ((with_reducible apply heap_new'); (first | rfl | (simp <;> fail))) | (with_reducible apply blk_alloc))); (first | with_reducible rfl | (simp <;> fail) | rfl))
             have k0 : RB V6 w.heap.size s := by rw [← hV6]; have h0 := J0.out; unfold RB at *; exact (by repeat (first | (with_reducible assumption) | ((with_reducible apply blk_far); rotate_left; (first | omega | (simp <;> omega)); rotate_right) | (with_reducible apply blk_drew) | (with_reducible apply blk_drewN) | (with_reducible exact heap_new _ _) | ((with_reducible apply heap_new'); (first | rfl | (simp <;> fail))) | (with_reducible apply blk_alloc)))
             have k2 : RB V6 (w.heap.size + 2) rzero := by rw [← hV6]; have h0 := J2.out; unfold RB at *; exact (by repeat (first | (with_reducible assumption) | ((with_reducible apply blk_far); rotate_left; (first | omega | (simp <;> omega)); rotate_right) | (with_reducible apply blk_drew) | (with_reducible apply blk_drewN) | (with_reducible exact heap_new _ _) | ((with_reducible apply heap_new'); (first | rfl | (simp <;> fail))) | (with_reducible apply blk_alloc)))
             have HB := Lib.hid (show Below w.heap.size w V6 by rw [← hV6]; have := HB1.out.trans (HB5.out.mono HB1.out.size); exact (by repeat (first | (with_reducible exact Below.refl _ _) | (with_reducible refine Below.drew ?_) | (with_reducible refine below_drewN ?_ _) | ((with_reducible refine Below.alloc ?_ ?_ _); rotate_left; (first | omega | (simp <;> omega)); rotate_right) | ((with_reducible refine Below.setCell ?_ ?_ _); rotate_left; (first | omega | (simp <;> omega)); rotate_right) | (with_reducible assumption) | (refine Below.trans ?_ (Below.mono (by assumption) ?_); rotate_left; (first | omega | (simp <;> omega)); rotate_right))))
             clear hV6 z1
             have i0 := k0; have e15 := blk_cell k0 15 rfl; have p15 := blk_free k0 15; (go_upto_region 38 with fail); generalize hV7 : World.setCell _ _ _ = V7; have j0 : RB V7 w.heap.size { s with r := xr, cs := xs, lo := xl, hi := xh, asked := false } := (by rw [← hV7, EN.out.1, EN.out.2.1, EN.out.2.2.1, EN.out.2.2.2]; exact blk_set i0 15 _); have j2 : RB V7 (w.heap.size + 2) rzero := (by rw [← hV7]; have h0 := k2; unfold RB at *; exact (by repeat (first | (with_reducible assumption) | ((with_reducible apply blk_far); rotate_left; (first | omega | (simp <;> omega)); rotate_right) | (with_reducible apply blk_drew) | (with_reducible apply blk_drewN) | (with_reducible exact heap_new _ _) | ((with_reducible apply heap_new'); (first | rfl | (simp <;> fail))) | (with_reducible apply blk_alloc)))); have HB7 := Lib.hid (show Below w.heap.size w V7 by rw [← hV7]; have := HB.out; exact (by repeat (first | (with_reducible exact Below.refl _ _) | (with_reducible refine Below.drew ?_) | (with_reducible refine below_drewN ?_ _) | ((with_reducible refine Below.alloc ?_ ?_ _); rotate_left; (first | omega | (simp <;> omega)); rotate_right) | ((with_reducible refine Below.setCell ?_ ?_ _); rotate_left; (first | omega | (simp <;> omega)); rotate_right) | (with_reducible assumption) | (refine Below.trans ?_ (Below.mono (by assumption) ?_); rotate_left; (first | omega | (simp <;> omega)); rotate_right)))); clear hV7 k0 k2 HB i0 e15 p15; have k0 := j0; have k2 := j2; have HB := HB7; (go_wp2_with (first | (refine wpList_load_row rfl 54 _ rfl _ rfl 54 _ (0, 0) _ k0 Try.underlying54 rfl (by kernel_rfl) ?_) | (refine wpList_store_row rfl 54 _ _ rfl _ _ rfl rfl 54 _ k2 (by kernel_rfl) rfl (rag_one _) ?_)); exact bodyPost_ret (results_ct rfl _ _ _ _ _ (0, 0) _ rfl (setRow_heap _ _ _ _ _ _ k2) Try.underlying54 rfl (by kernel_rfl)) rfl ⟨by rw [E.out]; try (simp; done), below_setRow HB.out (by omega) _⟩))
          | (fail_if_success (have _g := z1)
             go_upto_region 35 with fail
             generalize hV6 : World.alloc _ _ = V6
             have kc : V6.heap[W5.heap.size]? = some (.cells #[.int .i64 s.d, .int .i64 xr, .bool xs, .int .i64 xl, .int .i64 xh] 52 (0, 0)) := by rw [← hV6]; exact heap_new _ _
             have k0 : RB V6 w.heap.size s := by rw [← hV6]; exact blk_alloc J0.out _
             have k2 : RB V6 (w.heap.size + 2) rzero := by rw [← hV6]; exact blk_alloc J2.out _
             have HB := Lib.hid (show Below w.heap.size w V6 by rw [← hV6]; have := HB1.out.trans (HB5.out.mono HB1.out.size); exact (by repeat (first | (with_reducible exact Below.refl _ _) | (with_reducible refine Below.drew ?_) | (with_reducible refine below_drewN ?_ _) | ((with_reducible refine Below.alloc ?_ ?_ _); rotate_left; (first | omega | (simp <;> omega)); rotate_right) | ((with_reducible refine Below.setCell ?_ ?_ _); rotate_left; (first | omega | (simp <;> omega)); rotate_right) | (with_reducible assumption) | (refine Below.trans ?_ (Below.mono (by assumption) ?_); rotate_left; (first | omega | (simp <;> omega)); rotate_right))))
             clear hV6
             have i0 := k0; have e15 := blk_cell k0 15 rfl; have p15 := blk_free k0 15; (go_upto_region 38 with fail); generalize hV7 : World.setCell _ _ _ = V7; have j0 : RB V7 w.heap.size { s with r := xr, cs := xs, lo := xl, hi := xh, asked := false } := (by rw [← hV7, EN.out.1, EN.out.2.1, EN.out.2.2.1, EN.out.2.2.2]; exact blk_set i0 15 _); have j2 : RB V7 (w.heap.size + 2) rzero := (by rw [← hV7]; have h0 := k2; unfold RB at *; exact (by repeat (first | (with_reducible assumption) | ((with_reducible apply blk_far); rotate_left; (first | omega | (simp <;> omega)); rotate_right) | (with_reducible apply blk_drew) | (with_reducible apply blk_drewN) | (with_reducible exact heap_new _ _) | ((with_reducible apply heap_new'); (first | rfl | (simp <;> fail))) | (with_reducible apply blk_alloc)))); have HB7 := Lib.hid (show Below w.heap.size w V7 by rw [← hV7]; have := HB.out; exact (by repeat (first | (with_reducible exact Below.refl _ _) | (with_reducible refine Below.drew ?_) | (with_reducible refine below_drewN ?_ _) | ((with_reducible refine Below.alloc ?_ ?_ _); rotate_left; (first | omega | (simp <;> omega)); rotate_right) | ((with_reducible refine Below.setCell ?_ ?_ _); rotate_left; (first | omega | (simp <;> omega)); rotate_right) | (with_reducible assumption) | (refine Below.trans ?_ (Below.mono (by assumption) ?_); rotate_left; (first | omega | (simp <;> omega)); rotate_right)))); clear hV7 k0 k2 HB i0 e15 p15; have k0 := j0; have k2 := j2; have HB := HB7; (go_wp2_with (first | (refine wpList_load_row rfl 54 _ rfl _ rfl 54 _ (0, 0) _ k0 Try.underlying54 rfl (by kernel_rfl) ?_) | (refine wpList_store_row rfl 54 _ _ rfl _ _ rfl rfl 54 _ k2 (by kernel_rfl) rfl (rag_one _) ?_)); exact bodyPost_ret (results_ct rfl _ _ _ _ _ (0, 0) _ rfl (setRow_heap _ _ _ _ _ _ k2) Try.underlying54 rfl (by kernel_rfl)) rfl ⟨by rw [E.out]; try (simp; done), below_setRow HB.out (by omega) _⟩))
theorem rtake_any (s : Plt.St) (hs : Plt.Inv s) (k f t q : Int) (A : Option Addr) (n cap : Nat) (l : List Int) (hn : n = l.length) (hn2 : n ≤ 64) (w : World) (hr : Rd w w.heap.size A n l) :
    Calls Try.prog 66 #[.agg (rag s).toArray, .agg #[.int .i64 k, .int .i64 f, .int .i64 t, .int .i64 q, .slice A n cap]] w (RTPost (Plt.take s (Plt.fmOf ⟨k, f, t, q, l⟩)) w) := by
  by_cases h1 : k = 1
  · exact rtake_1 s hs k f t q A n cap l hn hn2 w hr h1
  by_cases h2 : k = 2
  · exact rtake_2 s hs k f t q A n cap l hn hn2 w hr h2
  by_cases h3 : k = 3
  · exact rtake_3 s hs k f t q A n cap l hn hn2 w hr h3
  by_cases h4 : k = 4
  · exact rtake_4 s hs k f t q A n cap l hn hn2 w hr h4
  by_cases h5 : k = 5
  · exact rtake_5 s hs k f t q A n cap l hn hn2 w hr h5
  by_cases h6 : k = 6
  · exact rtake_6 s hs k f t q A n cap l hn hn2 w hr h6
  by_cases h7 : k = 7
  · exact rtake_7 s hs k f t q A n cap l hn hn2 w hr h7
  exact rtake_x s hs k f t q A n cap l hn hn2 w hr (by omega)
end Go.Proofs.Ytjidchaejicjaaa

/- The reference's pilot obeys a frame: hold, resume, abort. -/
import Derived.Test.YtjidchaejicjaaaPlN
namespace Go.Proofs.Ytjidchaejicjaaa
open Go.RowKit
set_option maxHeartbeats 6000000
set_option maxRecDepth 100000
set_option linter.unusedSimpArgs false
set_option linter.unusedVariables false
attribute [local go_sem ↓] Go.wp_at_zero Go.wp_at_succ
theorem rtake_4 (s : Plt.St) (hs : Plt.Inv s) (k f t q : Int) (A : Option Addr) (n cap : Nat) (l : List Int) (hn : n = l.length) (hn2 : n ≤ 64) (w : World) (hr : Rd w w.heap.size A n l) (hk : k = 4) :
    Calls Try.prog 66 #[.agg (rag s).toArray, .agg #[.int .i64 k, .int .i64 f, .int .i64 t, .int .i64 q, .slice A n cap]] w (RTPost (Plt.take s (Plt.fmOf ⟨k, f, t, q, l⟩)) w) := by
  obtain ⟨m, hm⟩ : ∃ m, m = Frm.gnAt l 0 := ⟨_, rfl⟩
  have hmk : (Plt.fmOf ⟨k, f, t, q, l⟩).k = k := rfl
  have hmn : (Plt.fmOf ⟨k, f, t, q, l⟩).n = if l.length = 4 then m else -1 := by rw [hm]; rfl
  have hmp : (Plt.fmOf ⟨k, f, t, q, l⟩).plain = decide (n = 0) := by rw [hn]; rfl
  have hgiv := hs.giv
  have hload := hs.load
  have hprog := hs.prog
  have hstart := hs.start
  obtain ⟨x, hx⟩ : ∃ x, x = Plt.fmOf ⟨k, f, t, q, l⟩ := ⟨_, rfl⟩
  rw [← hx] at hmn hmk hmp ⊢
  have y1 : (k == 1) = false := by rw [beq_eq_false_iff_ne]; omega
  have y2 : (k == 2) = false := by rw [beq_eq_false_iff_ne]; omega
  have y3 : (k == 3) = false := by rw [beq_eq_false_iff_ne]; omega
  have y4 : (k == 4) = true := by rw [beq_iff_eq]; omega
  have y5 : (k == 5) = false := by rw [beq_eq_false_iff_ne]; omega
  have y6 : (k == 6) = false := by rw [beq_eq_false_iff_ne]; omega
  have y7 : (k == 7) = false := by rw [beq_eq_false_iff_ne]; omega
  by_cases h0 : n = 0
  case neg =>
    have yz : ((n : Int) == 0) = false := by rw [beq_eq_false_iff_ne]; omega
    have hpl : x.plain = false := by rw [hmp, decide_eq_false h0]
    have E := Lib.hid (show Plt.take s x = (s, false) by unfold Plt.take; rw [if_neg (by omega), if_neg (by omega), if_neg (by omega), if_pos (by omega), if_neg (by rw [hpl]; simp)])
    by_cases h4 : n = 4
    case neg =>
      have y0 : ((n : Int) == 4) = false := by rw [beq_eq_false_iff_ne]; omega
      clear hk hmk hmn hmp hx hn hr hs hn2 hgiv hload hprog hstart hm h4 h0 hpl
      rcases z45 s with ⟨z4, z5⟩ | ⟨z4, z5⟩ | ⟨z4, z5⟩
      all_goals
        go_enter Try.func66, Try.ntmps66; go_upto_region 1 with fail; generalize hV : World.alloc _ _ = V; have k0 : RB V w.heap.size s := (by rw [← hV]; exact blk_alloc (blk_alloc (heap_new _ _) _) _); have kf : V.heap[w.heap.size + 1]? = some (.cells #[.int .i64 k, .int .i64 f, .int .i64 t, .int .i64 q, .slice A n cap] 35 (0, 0)) := (by rw [← hV]; exact blk_alloc (heap_new' _ _ _ (by simp)) _); have k2 : RB V (w.heap.size + 2) rzero := (by rw [← hV]; exact heap_new' _ _ _ (by simp)); have HB := Lib.hid (show Below w.heap.size w V from by rw [← hV]; exact (by repeat (first | (with_reducible exact Below.refl _ _) | (with_reducible refine Below.drew ?_) | (with_reducible refine below_drewN ?_ _) | ((with_reducible refine Below.alloc ?_ ?_ _); rotate_left; (first | omega | (simp <;> omega)); rotate_right) | ((with_reducible refine Below.setCell ?_ ?_ _); rotate_left; (first | omega | (simp <;> omega)); rotate_right) | (with_reducible assumption) | (refine Below.trans ?_ (Below.mono (by assumption) ?_); rotate_left; (first | omega | (simp <;> omega)); rotate_right)))); clear hV; (have cf_0 := blk_cell kf 0 rfl; have ff_0 := blk_free kf 0; have cf_1 := blk_cell kf 1 rfl; have ff_1 := blk_free kf 1; have cf_2 := blk_cell kf 2 rfl; have ff_2 := blk_free kf 2; have cf_3 := blk_cell kf 3 rfl; have ff_3 := blk_free kf 3; have cf_4 := blk_cell kf 4 rfl; have ff_4 := blk_free kf 4; have lf := lt_of_block kf); have KF := Lib.hid kf; clear kf; have c11 : V.cell? ⟨w.heap.size, 11, none⟩ = some (.int .i64 s.st) := blk_cell k0 11 rfl
        go_upto_region 38 with fail; go_wp2_with (first | (refine wpList_load_row rfl 54 _ rfl _ rfl 54 _ (0, 0) _ k0 Try.underlying54 rfl (by kernel_rfl) ?_) | (refine wpList_store_row rfl 54 _ _ rfl _ _ rfl rfl 54 _ k2 (by kernel_rfl) rfl (rag_one _) ?_)); exact bodyPost_ret (results_ct rfl _ _ _ _ _ (0, 0) _ rfl (setRow_heap _ _ _ _ _ _ k2) Try.underlying54 rfl (by kernel_rfl)) rfl ⟨by rw [E.out]; try (simp; done), below_setRow HB.out (by omega) _⟩
    case pos =>
      have y0 : ((n : Int) == 4) = true := by rw [beq_iff_eq]; omega
      have G := Lib.hid (fun (W : World) (hW : Below w.heap.size w W) => rgetk_yes A n cap 1 l W (by omega) hn (by omega) (by omega) ((hr.below hW (Nat.le_refl _)).more hW.size))
      have HM := Lib.hid hm
      clear hk hmk hmn hmp hx hn hr hs hn2 hgiv hload hprog hstart hm h4 h0 hpl
      rcases z45 s with ⟨z4, z5⟩ | ⟨z4, z5⟩ | ⟨z4, z5⟩
      all_goals
        go_enter Try.func66, Try.ntmps66; go_upto_region 1 with fail; generalize hV : World.alloc _ _ = V; have k0 : RB V w.heap.size s := (by rw [← hV]; exact blk_alloc (blk_alloc (heap_new _ _) _) _); have kf : V.heap[w.heap.size + 1]? = some (.cells #[.int .i64 k, .int .i64 f, .int .i64 t, .int .i64 q, .slice A n cap] 35 (0, 0)) := (by rw [← hV]; exact blk_alloc (heap_new' _ _ _ (by simp)) _); have k2 : RB V (w.heap.size + 2) rzero := (by rw [← hV]; exact heap_new' _ _ _ (by simp)); have HB := Lib.hid (show Below w.heap.size w V from by rw [← hV]; exact (by repeat (first | (with_reducible exact Below.refl _ _) | (with_reducible refine Below.drew ?_) | (with_reducible refine below_drewN ?_ _) | ((with_reducible refine Below.alloc ?_ ?_ _); rotate_left; (first | omega | (simp <;> omega)); rotate_right) | ((with_reducible refine Below.setCell ?_ ?_ _); rotate_left; (first | omega | (simp <;> omega)); rotate_right) | (with_reducible assumption) | (refine Below.trans ?_ (Below.mono (by assumption) ?_); rotate_left; (first | omega | (simp <;> omega)); rotate_right)))); clear hV; (have cf_0 := blk_cell kf 0 rfl; have ff_0 := blk_free kf 0; have cf_1 := blk_cell kf 1 rfl; have ff_1 := blk_free kf 1; have cf_2 := blk_cell kf 2 rfl; have ff_2 := blk_free kf 2; have cf_3 := blk_cell kf 3 rfl; have ff_3 := blk_free kf 3; have cf_4 := blk_cell kf 4 rfl; have ff_4 := blk_free kf 4; have lf := lt_of_block kf); have KF := Lib.hid kf; clear kf; have c11 : V.cell? ⟨w.heap.size, 11, none⟩ = some (.int .i64 s.st) := blk_cell k0 11 rfl
        go_upto_region 3 with fail; go_wp2_with fail; refine (G.out _ HB.out).mono ?_; rintro e W1 ⟨g, o, c, rfl, hc, hb1, _⟩; have d0 := hc 0 (by omega); simp only [Nat.add_zero] at d0; rw [← HM.out] at d0; have i0 : RB W1 w.heap.size s := blk_below k0 hb1 (lt_of_block k0); have i2 : RB W1 (w.heap.size + 2) rzero := blk_below k2 hb1 (lt_of_block k2); have jf := blk_below KF.out hb1 (lt_of_block KF.out); have HB1 := Lib.hid (HB.out.trans (hb1.mono HB.out.size)); clear hc hb1 k0 k2 KF HB c11; (clear cf_0 ff_0 cf_1 ff_1 cf_2 ff_2 cf_3 ff_3 cf_4 ff_4); have k0 := i0; have k2 := i2; have KF := Lib.hid jf; have HB := HB1; (have cf_0 := blk_cell jf 0 rfl; have ff_0 := blk_free jf 0; have cf_1 := blk_cell jf 1 rfl; have ff_1 := blk_free jf 1; have cf_2 := blk_cell jf 2 rfl; have ff_2 := blk_free jf 2; have cf_3 := blk_cell jf 3 rfl; have ff_3 := blk_free jf 3; have cf_4 := blk_cell jf 4 rfl; have ff_4 := blk_free jf 4; have lf := lt_of_block jf); clear i0 i2 jf HB1
        go_upto_region 38 with fail; go_wp2_with (first | (refine wpList_load_row rfl 54 _ rfl _ rfl 54 _ (0, 0) _ k0 Try.underlying54 rfl (by kernel_rfl) ?_) | (refine wpList_store_row rfl 54 _ _ rfl _ _ rfl rfl 54 _ k2 (by kernel_rfl) rfl (rag_one _) ?_)); exact bodyPost_ret (results_ct rfl _ _ _ _ _ (0, 0) _ rfl (setRow_heap _ _ _ _ _ _ k2) Try.underlying54 rfl (by kernel_rfl)) rfl ⟨by rw [E.out]; try (simp; done), below_setRow HB.out (by omega) _⟩
  case pos =>
  have y0 : ((n : Int) == 4) = false := by rw [beq_eq_false_iff_ne]; omega
  have yz : ((n : Int) == 0) = true := by rw [beq_iff_eq]; omega
  have hpl : x.plain = true := by rw [hmp, decide_eq_true h0]
  have key : s.st = 3 ∨ s.st = 4 ∨ s.st = 2 ∨ s.st = 5 ∨ ¬ (s.st = 3 ∨ s.st = 4 ∨ s.st = 2 ∨ s.st = 5) := by omega
  rcases key with hst | hst | hst | hst | hst
  · have z2 : (s.st == 2) = false := by rw [beq_eq_false_iff_ne]; omega
    have z3 : (s.st == 3) = true := by rw [beq_iff_eq]; omega
    have z4 : (s.st == 4) = false := by rw [beq_eq_false_iff_ne]; omega
    have z5 : (s.st == 5) = false := by rw [beq_eq_false_iff_ne]; omega
    have CH := Lib.hid (rchange_any s 2)
    have HE := Lib.hid (ent_fg s 2 rfl (by omega))
    have FG := Lib.hid (rforget_any (rchg s 2))
    have E := Lib.hid (show Plt.take s x = ({ rchg s 2 with given := false, start := 0 }, true) by unfold Plt.take; rw [if_neg (by omega), if_neg (by omega), if_neg (by omega), if_pos (by omega), if_pos hpl, if_pos hst, HE.out])
    obtain ⟨r, hrr⟩ : ∃ r, r = rchg s 2 := ⟨_, rfl⟩
    rw [← hrr] at CH E FG
    clear hk hmk hmn hmp hx hn hr hs hn2 hgiv hload hprog hstart hm h0 hpl hst HE hrr
    go_enter Try.func66, Try.ntmps66; go_upto_region 1 with fail; generalize hV : World.alloc _ _ = V; have k0 : RB V w.heap.size s := (by rw [← hV]; exact blk_alloc (blk_alloc (heap_new _ _) _) _); have kf : V.heap[w.heap.size + 1]? = some (.cells #[.int .i64 k, .int .i64 f, .int .i64 t, .int .i64 q, .slice A n cap] 35 (0, 0)) := (by rw [← hV]; exact blk_alloc (heap_new' _ _ _ (by simp)) _); have k2 : RB V (w.heap.size + 2) rzero := (by rw [← hV]; exact heap_new' _ _ _ (by simp)); have HB := Lib.hid (show Below w.heap.size w V from by rw [← hV]; exact (by repeat (first | (with_reducible exact Below.refl _ _) | (with_reducible refine Below.drew ?_) | (with_reducible refine below_drewN ?_ _) | ((with_reducible refine Below.alloc ?_ ?_ _); rotate_left; (first | omega | (simp <;> omega)); rotate_right) | ((with_reducible refine Below.setCell ?_ ?_ _); rotate_left; (first | omega | (simp <;> omega)); rotate_right) | (with_reducible assumption) | (refine Below.trans ?_ (Below.mono (by assumption) ?_); rotate_left; (first | omega | (simp <;> omega)); rotate_right)))); clear hV; (have cf_0 := blk_cell kf 0 rfl; have ff_0 := blk_free kf 0; have cf_1 := blk_cell kf 1 rfl; have ff_1 := blk_free kf 1; have cf_2 := blk_cell kf 2 rfl; have ff_2 := blk_free kf 2; have cf_3 := blk_cell kf 3 rfl; have ff_3 := blk_free kf 3; have cf_4 := blk_cell kf 4 rfl; have ff_4 := blk_free kf 4; have lf := lt_of_block kf); have KF := Lib.hid kf; clear kf; have c11 : V.cell? ⟨w.heap.size, 11, none⟩ = some (.int .i64 s.st) := blk_cell k0 11 rfl
    go_wp2_with (first | (refine wpList_load_row rfl 54 _ rfl _ rfl 54 _ (0, 0) _ k0 Try.underlying54 rfl (by kernel_rfl) ?_))
    refine (CH.out _).mono ?_
    rintro e W2 ⟨rfl, hb2⟩
    have i0 : RB W2 w.heap.size s := blk_below k0 hb2 (lt_of_block k0)
    have i2 : RB W2 (w.heap.size + 2) rzero := blk_below k2 hb2 (lt_of_block k2)
    have HB2 := Lib.hid (HB.out.trans (hb2.mono HB.out.size))
    have KF2 := Lib.hid (blk_below KF.out hb2 (lt_of_block KF.out))
    clear k0 k2 hb2 HB KF
    clear cf_0 ff_0 cf_1 ff_1 cf_2 ff_2 cf_3 ff_3 cf_4 ff_4
    have k0 := i0
    have k2 := i2
    have HB := HB2
    have KF := KF2
    clear i0 i2 HB2 KF2
    go_wp2_with fail
    refine (FG.out _).mono ?_
    rintro e W5 ⟨rfl, hb5⟩
    have i2 : RB W5 (w.heap.size + 2) rzero := blk_below k2 hb5 (lt_of_block k2)
    have HB5 := Lib.hid (HB.out.trans (hb5.mono HB.out.size))
    clear k0 k2 hb5 HB
    have k2 := i2
    have HB := HB5
    clear i2 HB5
    go_wp2_with (first | (refine wpList_store_row rfl 54 _ _ rfl _ _ rfl rfl 54 _ k2 (by kernel_rfl) rfl (rag_one _) ?_))
    exact bodyPost_ret (results_ct rfl _ _ _ _ _ (0, 0) _ rfl (setRow_heap _ _ _ _ _ _ k2) Try.underlying54 rfl (by kernel_rfl)) rfl ⟨by rw [E.out]; try (simp; done), below_setRow HB.out (by omega) _⟩
  · have z2 : (s.st == 2) = false := by rw [beq_eq_false_iff_ne]; omega
    have z3 : (s.st == 3) = false := by rw [beq_eq_false_iff_ne]; omega
    have z4 : (s.st == 4) = true := by rw [beq_iff_eq]; omega
    have z5 : (s.st == 5) = false := by rw [beq_eq_false_iff_ne]; omega
    have CH := Lib.hid (rchange_any s 5)
    have HE := Lib.hid (ent_no s 5 rfl)
    have E := Lib.hid (show Plt.take s x = (rchg s 5, true) by unfold Plt.take; rw [if_neg (by omega), if_neg (by omega), if_neg (by omega), if_pos (by omega), if_pos hpl, if_neg (by omega), if_pos hst, HE.out])
    obtain ⟨r, hrr⟩ : ∃ r, r = rchg s 5 := ⟨_, rfl⟩
    rw [← hrr] at CH E
    clear hk hmk hmn hmp hx hn hr hs hn2 hgiv hload hprog hstart hm h0 hpl hst HE hrr
    go_enter Try.func66, Try.ntmps66; go_upto_region 1 with fail; generalize hV : World.alloc _ _ = V; have k0 : RB V w.heap.size s := (by rw [← hV]; exact blk_alloc (blk_alloc (heap_new _ _) _) _); have kf : V.heap[w.heap.size + 1]? = some (.cells #[.int .i64 k, .int .i64 f, .int .i64 t, .int .i64 q, .slice A n cap] 35 (0, 0)) := (by rw [← hV]; exact blk_alloc (heap_new' _ _ _ (by simp)) _); have k2 : RB V (w.heap.size + 2) rzero := (by rw [← hV]; exact heap_new' _ _ _ (by simp)); have HB := Lib.hid (show Below w.heap.size w V from by rw [← hV]; exact (by repeat (first | (with_reducible exact Below.refl _ _) | (with_reducible refine Below.drew ?_) | (with_reducible refine below_drewN ?_ _) | ((with_reducible refine Below.alloc ?_ ?_ _); rotate_left; (first | omega | (simp <;> omega)); rotate_right) | ((with_reducible refine Below.setCell ?_ ?_ _); rotate_left; (first | omega | (simp <;> omega)); rotate_right) | (with_reducible assumption) | (refine Below.trans ?_ (Below.mono (by assumption) ?_); rotate_left; (first | omega | (simp <;> omega)); rotate_right)))); clear hV; (have cf_0 := blk_cell kf 0 rfl; have ff_0 := blk_free kf 0; have cf_1 := blk_cell kf 1 rfl; have ff_1 := blk_free kf 1; have cf_2 := blk_cell kf 2 rfl; have ff_2 := blk_free kf 2; have cf_3 := blk_cell kf 3 rfl; have ff_3 := blk_free kf 3; have cf_4 := blk_cell kf 4 rfl; have ff_4 := blk_free kf 4; have lf := lt_of_block kf); have KF := Lib.hid kf; clear kf; have c11 : V.cell? ⟨w.heap.size, 11, none⟩ = some (.int .i64 s.st) := blk_cell k0 11 rfl
    go_wp2_with (first | (refine wpList_load_row rfl 54 _ rfl _ rfl 54 _ (0, 0) _ k0 Try.underlying54 rfl (by kernel_rfl) ?_))
    refine (CH.out _).mono ?_
    rintro e W2 ⟨rfl, hb2⟩
    have i0 : RB W2 w.heap.size s := blk_below k0 hb2 (lt_of_block k0)
    have i2 : RB W2 (w.heap.size + 2) rzero := blk_below k2 hb2 (lt_of_block k2)
    have HB2 := Lib.hid (HB.out.trans (hb2.mono HB.out.size))
    have KF2 := Lib.hid (blk_below KF.out hb2 (lt_of_block KF.out))
    clear k0 k2 hb2 HB KF
    clear cf_0 ff_0 cf_1 ff_1 cf_2 ff_2 cf_3 ff_3 cf_4 ff_4
    have k0 := i0
    have k2 := i2
    have HB := HB2
    have KF := KF2
    clear i0 i2 HB2 KF2
    go_wp2_with (first | (refine wpList_store_row rfl 54 _ _ rfl _ _ rfl rfl 54 _ k2 (by kernel_rfl) rfl (rag_one _) ?_))
    exact bodyPost_ret (results_ct rfl _ _ _ _ _ (0, 0) _ rfl (setRow_heap _ _ _ _ _ _ k2) Try.underlying54 rfl (by kernel_rfl)) rfl ⟨by rw [E.out]; try (simp; done), below_setRow HB.out (by omega) _⟩
  · have z2 : (s.st == 2) = true := by rw [beq_iff_eq]; omega
    have z3 : (s.st == 3) = false := by rw [beq_eq_false_iff_ne]; omega
    have z4 : (s.st == 4) = false := by rw [beq_eq_false_iff_ne]; omega
    have z5 : (s.st == 5) = false := by rw [beq_eq_false_iff_ne]; omega
    have E := Lib.hid (show Plt.take s x = (s, true) by unfold Plt.take; rw [if_neg (by omega), if_neg (by omega), if_neg (by omega), if_pos (by omega), if_pos hpl, if_neg (by omega), if_neg (by omega), decide_eq_true (by omega)])
    clear hk hmk hmn hmp hx hn hr hs hn2 hgiv hload hprog hstart hm h0 hpl hst
    go_enter Try.func66, Try.ntmps66; go_upto_region 1 with fail; generalize hV : World.alloc _ _ = V; have k0 : RB V w.heap.size s := (by rw [← hV]; exact blk_alloc (blk_alloc (heap_new _ _) _) _); have kf : V.heap[w.heap.size + 1]? = some (.cells #[.int .i64 k, .int .i64 f, .int .i64 t, .int .i64 q, .slice A n cap] 35 (0, 0)) := (by rw [← hV]; exact blk_alloc (heap_new' _ _ _ (by simp)) _); have k2 : RB V (w.heap.size + 2) rzero := (by rw [← hV]; exact heap_new' _ _ _ (by simp)); have HB := Lib.hid (show Below w.heap.size w V from by rw [← hV]; exact (by repeat (first | (with_reducible exact Below.refl _ _) | (with_reducible refine Below.drew ?_) | (with_reducible refine below_drewN ?_ _) | ((with_reducible refine Below.alloc ?_ ?_ _); rotate_left; (first | omega | (simp <;> omega)); rotate_right) | ((with_reducible refine Below.setCell ?_ ?_ _); rotate_left; (first | omega | (simp <;> omega)); rotate_right) | (with_reducible assumption) | (refine Below.trans ?_ (Below.mono (by assumption) ?_); rotate_left; (first | omega | (simp <;> omega)); rotate_right)))); clear hV; (have cf_0 := blk_cell kf 0 rfl; have ff_0 := blk_free kf 0; have cf_1 := blk_cell kf 1 rfl; have ff_1 := blk_free kf 1; have cf_2 := blk_cell kf 2 rfl; have ff_2 := blk_free kf 2; have cf_3 := blk_cell kf 3 rfl; have ff_3 := blk_free kf 3; have cf_4 := blk_cell kf 4 rfl; have ff_4 := blk_free kf 4; have lf := lt_of_block kf); have KF := Lib.hid kf; clear kf; have c11 : V.cell? ⟨w.heap.size, 11, none⟩ = some (.int .i64 s.st) := blk_cell k0 11 rfl
    go_upto_region 23 with fail
    go_wp2_with (first | (refine wpList_load_row rfl 54 _ rfl _ rfl 54 _ (0, 0) _ k0 Try.underlying54 rfl (by kernel_rfl) ?_) | (refine wpList_store_row rfl 54 _ _ rfl _ _ rfl rfl 54 _ k2 (by kernel_rfl) rfl (rag_one _) ?_)); exact bodyPost_ret (results_ct rfl _ _ _ _ _ (0, 0) _ rfl (setRow_heap _ _ _ _ _ _ k2) Try.underlying54 rfl (by kernel_rfl)) rfl ⟨by rw [E.out]; try (simp; done), below_setRow HB.out (by omega) _⟩
  · have z2 : (s.st == 2) = false := by rw [beq_eq_false_iff_ne]; omega
    have z3 : (s.st == 3) = false := by rw [beq_eq_false_iff_ne]; omega
    have z4 : (s.st == 4) = false := by rw [beq_eq_false_iff_ne]; omega
    have z5 : (s.st == 5) = true := by rw [beq_iff_eq]; omega
    have E := Lib.hid (show Plt.take s x = (s, true) by unfold Plt.take; rw [if_neg (by omega), if_neg (by omega), if_neg (by omega), if_pos (by omega), if_pos hpl, if_neg (by omega), if_neg (by omega), decide_eq_true (by omega)])
    clear hk hmk hmn hmp hx hn hr hs hn2 hgiv hload hprog hstart hm h0 hpl hst
    go_enter Try.func66, Try.ntmps66; go_upto_region 1 with fail; generalize hV : World.alloc _ _ = V; have k0 : RB V w.heap.size s := (by rw [← hV]; exact blk_alloc (blk_alloc (heap_new _ _) _) _); have kf : V.heap[w.heap.size + 1]? = some (.cells #[.int .i64 k, .int .i64 f, .int .i64 t, .int .i64 q, .slice A n cap] 35 (0, 0)) := (by rw [← hV]; exact blk_alloc (heap_new' _ _ _ (by simp)) _); have k2 : RB V (w.heap.size + 2) rzero := (by rw [← hV]; exact heap_new' _ _ _ (by simp)); have HB := Lib.hid (show Below w.heap.size w V from by rw [← hV]; exact (by repeat (first | (with_reducible exact Below.refl _ _) | (with_reducible refine Below.drew ?_) | (with_reducible refine below_drewN ?_ _) | ((with_reducible refine Below.alloc ?_ ?_ _); rotate_left; (first | omega | (simp <;> omega)); rotate_right) | ((with_reducible refine Below.setCell ?_ ?_ _); rotate_left; (first | omega | (simp <;> omega)); rotate_right) | (with_reducible assumption) | (refine Below.trans ?_ (Below.mono (by assumption) ?_); rotate_left; (first | omega | (simp <;> omega)); rotate_right)))); clear hV; (have cf_0 := blk_cell kf 0 rfl; have ff_0 := blk_free kf 0; have cf_1 := blk_cell kf 1 rfl; have ff_1 := blk_free kf 1; have cf_2 := blk_cell kf 2 rfl; have ff_2 := blk_free kf 2; have cf_3 := blk_cell kf 3 rfl; have ff_3 := blk_free kf 3; have cf_4 := blk_cell kf 4 rfl; have ff_4 := blk_free kf 4; have lf := lt_of_block kf); have KF := Lib.hid kf; clear kf; have c11 : V.cell? ⟨w.heap.size, 11, none⟩ = some (.int .i64 s.st) := blk_cell k0 11 rfl
    go_upto_region 23 with fail
    go_wp2_with (first | (refine wpList_load_row rfl 54 _ rfl _ rfl 54 _ (0, 0) _ k0 Try.underlying54 rfl (by kernel_rfl) ?_) | (refine wpList_store_row rfl 54 _ _ rfl _ _ rfl rfl 54 _ k2 (by kernel_rfl) rfl (rag_one _) ?_)); exact bodyPost_ret (results_ct rfl _ _ _ _ _ (0, 0) _ rfl (setRow_heap _ _ _ _ _ _ k2) Try.underlying54 rfl (by kernel_rfl)) rfl ⟨by rw [E.out]; try (simp; done), below_setRow HB.out (by omega) _⟩
  · have z2 : (s.st == 2) = false := by rw [beq_eq_false_iff_ne]; omega
    have z3 : (s.st == 3) = false := by rw [beq_eq_false_iff_ne]; omega
    have z4 : (s.st == 4) = false := by rw [beq_eq_false_iff_ne]; omega
    have z5 : (s.st == 5) = false := by rw [beq_eq_false_iff_ne]; omega
    have E := Lib.hid (show Plt.take s x = (s, false) by unfold Plt.take; rw [if_neg (by omega), if_neg (by omega), if_neg (by omega), if_pos (by omega), if_pos hpl, if_neg (by omega), if_neg (by omega), decide_eq_false (by omega)])
    clear hk hmk hmn hmp hx hn hr hs hn2 hgiv hload hprog hstart hm h0 hpl hst
    go_enter Try.func66, Try.ntmps66; go_upto_region 1 with fail; generalize hV : World.alloc _ _ = V; have k0 : RB V w.heap.size s := (by rw [← hV]; exact blk_alloc (blk_alloc (heap_new _ _) _) _); have kf : V.heap[w.heap.size + 1]? = some (.cells #[.int .i64 k, .int .i64 f, .int .i64 t, .int .i64 q, .slice A n cap] 35 (0, 0)) := (by rw [← hV]; exact blk_alloc (heap_new' _ _ _ (by simp)) _); have k2 : RB V (w.heap.size + 2) rzero := (by rw [← hV]; exact heap_new' _ _ _ (by simp)); have HB := Lib.hid (show Below w.heap.size w V from by rw [← hV]; exact (by repeat (first | (with_reducible exact Below.refl _ _) | (with_reducible refine Below.drew ?_) | (with_reducible refine below_drewN ?_ _) | ((with_reducible refine Below.alloc ?_ ?_ _); rotate_left; (first | omega | (simp <;> omega)); rotate_right) | ((with_reducible refine Below.setCell ?_ ?_ _); rotate_left; (first | omega | (simp <;> omega)); rotate_right) | (with_reducible assumption) | (refine Below.trans ?_ (Below.mono (by assumption) ?_); rotate_left; (first | omega | (simp <;> omega)); rotate_right)))); clear hV; (have cf_0 := blk_cell kf 0 rfl; have ff_0 := blk_free kf 0; have cf_1 := blk_cell kf 1 rfl; have ff_1 := blk_free kf 1; have cf_2 := blk_cell kf 2 rfl; have ff_2 := blk_free kf 2; have cf_3 := blk_cell kf 3 rfl; have ff_3 := blk_free kf 3; have cf_4 := blk_cell kf 4 rfl; have ff_4 := blk_free kf 4; have lf := lt_of_block kf); have KF := Lib.hid kf; clear kf; have c11 : V.cell? ⟨w.heap.size, 11, none⟩ = some (.int .i64 s.st) := blk_cell k0 11 rfl
    go_upto_region 23 with fail
    go_wp2_with (first | (refine wpList_load_row rfl 54 _ rfl _ rfl 54 _ (0, 0) _ k0 Try.underlying54 rfl (by kernel_rfl) ?_) | (refine wpList_store_row rfl 54 _ _ rfl _ _ rfl rfl 54 _ k2 (by kernel_rfl) rfl (rag_one _) ?_)); exact bodyPost_ret (results_ct rfl _ _ _ _ _ (0, 0) _ rfl (setRow_heap _ _ _ _ _ _ k2) Try.underlying54 rfl (by kernel_rfl)) rfl ⟨by rw [E.out]; try (simp; done), below_setRow HB.out (by omega) _⟩
theorem rtake_5 (s : Plt.St) (hs : Plt.Inv s) (k f t q : Int) (A : Option Addr) (n cap : Nat) (l : List Int) (hn : n = l.length) (hn2 : n ≤ 64) (w : World) (hr : Rd w w.heap.size A n l) (hk : k = 5) :
    Calls Try.prog 66 #[.agg (rag s).toArray, .agg #[.int .i64 k, .int .i64 f, .int .i64 t, .int .i64 q, .slice A n cap]] w (RTPost (Plt.take s (Plt.fmOf ⟨k, f, t, q, l⟩)) w) := by
  obtain ⟨m, hm⟩ : ∃ m, m = Frm.gnAt l 0 := ⟨_, rfl⟩
  have hmk : (Plt.fmOf ⟨k, f, t, q, l⟩).k = k := rfl
  have hmn : (Plt.fmOf ⟨k, f, t, q, l⟩).n = if l.length = 4 then m else -1 := by rw [hm]; rfl
  have hmp : (Plt.fmOf ⟨k, f, t, q, l⟩).plain = decide (n = 0) := by rw [hn]; rfl
  have hgiv := hs.giv
  have hload := hs.load
  have hprog := hs.prog
  have hstart := hs.start
  obtain ⟨x, hx⟩ : ∃ x, x = Plt.fmOf ⟨k, f, t, q, l⟩ := ⟨_, rfl⟩
  rw [← hx] at hmn hmk hmp ⊢
  have y1 : (k == 1) = false := by rw [beq_eq_false_iff_ne]; omega
  have y2 : (k == 2) = false := by rw [beq_eq_false_iff_ne]; omega
  have y3 : (k == 3) = false := by rw [beq_eq_false_iff_ne]; omega
  have y4 : (k == 4) = false := by rw [beq_eq_false_iff_ne]; omega
  have y5 : (k == 5) = true := by rw [beq_iff_eq]; omega
  have y6 : (k == 6) = false := by rw [beq_eq_false_iff_ne]; omega
  have y7 : (k == 7) = false := by rw [beq_eq_false_iff_ne]; omega
  by_cases h0 : n = 0
  case neg =>
    have yz : ((n : Int) == 0) = false := by rw [beq_eq_false_iff_ne]; omega
    have hpl : x.plain = false := by rw [hmp, decide_eq_false h0]
    have E := Lib.hid (show Plt.take s x = (s, false) by unfold Plt.take; rw [if_neg (by omega), if_neg (by omega), if_neg (by omega), if_neg (by omega), if_pos (by omega), if_neg (by rw [hpl]; simp)])
    by_cases h4 : n = 4
    case neg =>
      have y0 : ((n : Int) == 4) = false := by rw [beq_eq_false_iff_ne]; omega
      clear hk hmk hmn hmp hx hn hr hs hn2 hgiv hload hprog hstart hm h4 h0 hpl
      rcases z45 s with ⟨z4, z5⟩ | ⟨z4, z5⟩ | ⟨z4, z5⟩
      all_goals
        go_enter Try.func66, Try.ntmps66; go_upto_region 1 with fail; generalize hV : World.alloc _ _ = V; have k0 : RB V w.heap.size s := (by rw [← hV]; exact blk_alloc (blk_alloc (heap_new _ _) _) _); have kf : V.heap[w.heap.size + 1]? = some (.cells #[.int .i64 k, .int .i64 f, .int .i64 t, .int .i64 q, .slice A n cap] 35 (0, 0)) := (by rw [← hV]; exact blk_alloc (heap_new' _ _ _ (by simp)) _); have k2 : RB V (w.heap.size + 2) rzero := (by rw [← hV]; exact heap_new' _ _ _ (by simp)); have HB := Lib.hid (show Below w.heap.size w V from by rw [← hV]; exact (by repeat (first | (with_reducible exact Below.refl _ _) | (with_reducible refine Below.drew ?_) | (with_reducible refine below_drewN ?_ _) | ((with_reducible refine Below.alloc ?_ ?_ _); rotate_left; (first | omega | (simp <;> omega)); rotate_right) | ((with_reducible refine Below.setCell ?_ ?_ _); rotate_left; (first | omega | (simp <;> omega)); rotate_right) | (with_reducible assumption) | (refine Below.trans ?_ (Below.mono (by assumption) ?_); rotate_left; (first | omega | (simp <;> omega)); rotate_right)))); clear hV; (have cf_0 := blk_cell kf 0 rfl; have ff_0 := blk_free kf 0; have cf_1 := blk_cell kf 1 rfl; have ff_1 := blk_free kf 1; have cf_2 := blk_cell kf 2 rfl; have ff_2 := blk_free kf 2; have cf_3 := blk_cell kf 3 rfl; have ff_3 := blk_free kf 3; have cf_4 := blk_cell kf 4 rfl; have ff_4 := blk_free kf 4; have lf := lt_of_block kf); have KF := Lib.hid kf; clear kf; have c11 : V.cell? ⟨w.heap.size, 11, none⟩ = some (.int .i64 s.st) := blk_cell k0 11 rfl
        go_upto_region 38 with fail; go_wp2_with (first | (refine wpList_load_row rfl 54 _ rfl _ rfl 54 _ (0, 0) _ k0 Try.underlying54 rfl (by kernel_rfl) ?_) | (refine wpList_store_row rfl 54 _ _ rfl _ _ rfl rfl 54 _ k2 (by kernel_rfl) rfl (rag_one _) ?_)); exact bodyPost_ret (results_ct rfl _ _ _ _ _ (0, 0) _ rfl (setRow_heap _ _ _ _ _ _ k2) Try.underlying54 rfl (by kernel_rfl)) rfl ⟨by rw [E.out]; try (simp; done), below_setRow HB.out (by omega) _⟩
    case pos =>
      have y0 : ((n : Int) == 4) = true := by rw [beq_iff_eq]; omega
      have G := Lib.hid (fun (W : World) (hW : Below w.heap.size w W) => rgetk_yes A n cap 1 l W (by omega) hn (by omega) (by omega) ((hr.below hW (Nat.le_refl _)).more hW.size))
      have HM := Lib.hid hm
      clear hk hmk hmn hmp hx hn hr hs hn2 hgiv hload hprog hstart hm h4 h0 hpl
      rcases z45 s with ⟨z4, z5⟩ | ⟨z4, z5⟩ | ⟨z4, z5⟩
      all_goals
        go_enter Try.func66, Try.ntmps66; go_upto_region 1 with fail; generalize hV : World.alloc _ _ = V; have k0 : RB V w.heap.size s := (by rw [← hV]; exact blk_alloc (blk_alloc (heap_new _ _) _) _); have kf : V.heap[w.heap.size + 1]? = some (.cells #[.int .i64 k, .int .i64 f, .int .i64 t, .int .i64 q, .slice A n cap] 35 (0, 0)) := (by rw [← hV]; exact blk_alloc (heap_new' _ _ _ (by simp)) _); have k2 : RB V (w.heap.size + 2) rzero := (by rw [← hV]; exact heap_new' _ _ _ (by simp)); have HB := Lib.hid (show Below w.heap.size w V from by rw [← hV]; exact (by repeat (first | (with_reducible exact Below.refl _ _) | (with_reducible refine Below.drew ?_) | (with_reducible refine below_drewN ?_ _) | ((with_reducible refine Below.alloc ?_ ?_ _); rotate_left; (first | omega | (simp <;> omega)); rotate_right) | ((with_reducible refine Below.setCell ?_ ?_ _); rotate_left; (first | omega | (simp <;> omega)); rotate_right) | (with_reducible assumption) | (refine Below.trans ?_ (Below.mono (by assumption) ?_); rotate_left; (first | omega | (simp <;> omega)); rotate_right)))); clear hV; (have cf_0 := blk_cell kf 0 rfl; have ff_0 := blk_free kf 0; have cf_1 := blk_cell kf 1 rfl; have ff_1 := blk_free kf 1; have cf_2 := blk_cell kf 2 rfl; have ff_2 := blk_free kf 2; have cf_3 := blk_cell kf 3 rfl; have ff_3 := blk_free kf 3; have cf_4 := blk_cell kf 4 rfl; have ff_4 := blk_free kf 4; have lf := lt_of_block kf); have KF := Lib.hid kf; clear kf; have c11 : V.cell? ⟨w.heap.size, 11, none⟩ = some (.int .i64 s.st) := blk_cell k0 11 rfl
        go_upto_region 3 with fail; go_wp2_with fail; refine (G.out _ HB.out).mono ?_; rintro e W1 ⟨g, o, c, rfl, hc, hb1, _⟩; have d0 := hc 0 (by omega); simp only [Nat.add_zero] at d0; rw [← HM.out] at d0; have i0 : RB W1 w.heap.size s := blk_below k0 hb1 (lt_of_block k0); have i2 : RB W1 (w.heap.size + 2) rzero := blk_below k2 hb1 (lt_of_block k2); have jf := blk_below KF.out hb1 (lt_of_block KF.out); have HB1 := Lib.hid (HB.out.trans (hb1.mono HB.out.size)); clear hc hb1 k0 k2 KF HB c11; (clear cf_0 ff_0 cf_1 ff_1 cf_2 ff_2 cf_3 ff_3 cf_4 ff_4); have k0 := i0; have k2 := i2; have KF := Lib.hid jf; have HB := HB1; (have cf_0 := blk_cell jf 0 rfl; have ff_0 := blk_free jf 0; have cf_1 := blk_cell jf 1 rfl; have ff_1 := blk_free jf 1; have cf_2 := blk_cell jf 2 rfl; have ff_2 := blk_free jf 2; have cf_3 := blk_cell jf 3 rfl; have ff_3 := blk_free jf 3; have cf_4 := blk_cell jf 4 rfl; have ff_4 := blk_free jf 4; have lf := lt_of_block jf); clear i0 i2 jf HB1
        go_upto_region 38 with fail; go_wp2_with (first | (refine wpList_load_row rfl 54 _ rfl _ rfl 54 _ (0, 0) _ k0 Try.underlying54 rfl (by kernel_rfl) ?_) | (refine wpList_store_row rfl 54 _ _ rfl _ _ rfl rfl 54 _ k2 (by kernel_rfl) rfl (rag_one _) ?_)); exact bodyPost_ret (results_ct rfl _ _ _ _ _ (0, 0) _ rfl (setRow_heap _ _ _ _ _ _ k2) Try.underlying54 rfl (by kernel_rfl)) rfl ⟨by rw [E.out]; try (simp; done), below_setRow HB.out (by omega) _⟩
  case pos =>
  have y0 : ((n : Int) == 4) = false := by rw [beq_eq_false_iff_ne]; omega
  have yz : ((n : Int) == 0) = true := by rw [beq_iff_eq]; omega
  have hpl : x.plain = true := by rw [hmp, decide_eq_true h0]
  have key : s.st = 4 ∨ s.st = 5 ∨ ¬ (s.st = 4 ∨ s.st = 5) := by omega
  rcases key with hst | hst | hst
  · have z4 : (s.st == 4) = true := by rw [beq_iff_eq]; omega
    have z5 : (s.st == 5) = false := by rw [beq_eq_false_iff_ne]; omega
    have CH := Lib.hid (rchange_any s 4)
    have HE := Lib.hid (ent_no s 4 rfl)
    have E := Lib.hid (show Plt.take s x = (rchg s 4, true) by unfold Plt.take; rw [if_neg (by omega), if_neg (by omega), if_neg (by omega), if_neg (by omega), if_pos (by omega), if_pos ⟨hpl, by omega⟩, HE.out])
    obtain ⟨r, hrr⟩ : ∃ r, r = rchg s 4 := ⟨_, rfl⟩
    rw [← hrr] at CH E
    clear hk hmk hmn hmp hx hn hr hs hn2 hgiv hload hprog hstart hm h0 hpl hst HE hrr
    go_enter Try.func66, Try.ntmps66; go_upto_region 1 with fail; generalize hV : World.alloc _ _ = V; have k0 : RB V w.heap.size s := (by rw [← hV]; exact blk_alloc (blk_alloc (heap_new _ _) _) _); have kf : V.heap[w.heap.size + 1]? = some (.cells #[.int .i64 k, .int .i64 f, .int .i64 t, .int .i64 q, .slice A n cap] 35 (0, 0)) := (by rw [← hV]; exact blk_alloc (heap_new' _ _ _ (by simp)) _); have k2 : RB V (w.heap.size + 2) rzero := (by rw [← hV]; exact heap_new' _ _ _ (by simp)); have HB := Lib.hid (show Below w.heap.size w V from by rw [← hV]; exact (by repeat (first | (with_reducible exact Below.refl _ _) | (with_reducible refine Below.drew ?_) | (with_reducible refine below_drewN ?_ _) | ((with_reducible refine Below.alloc ?_ ?_ _); rotate_left; (first | omega | (simp <;> omega)); rotate_right) | ((with_reducible refine Below.setCell ?_ ?_ _); rotate_left; (first | omega | (simp <;> omega)); rotate_right) | (with_reducible assumption) | (refine Below.trans ?_ (Below.mono (by assumption) ?_); rotate_left; (first | omega | (simp <;> omega)); rotate_right)))); clear hV; (have cf_0 := blk_cell kf 0 rfl; have ff_0 := blk_free kf 0; have cf_1 := blk_cell kf 1 rfl; have ff_1 := blk_free kf 1; have cf_2 := blk_cell kf 2 rfl; have ff_2 := blk_free kf 2; have cf_3 := blk_cell kf 3 rfl; have ff_3 := blk_free kf 3; have cf_4 := blk_cell kf 4 rfl; have ff_4 := blk_free kf 4; have lf := lt_of_block kf); have KF := Lib.hid kf; clear kf; have c11 : V.cell? ⟨w.heap.size, 11, none⟩ = some (.int .i64 s.st) := blk_cell k0 11 rfl
    go_wp2_with (first | (refine wpList_load_row rfl 54 _ rfl _ rfl 54 _ (0, 0) _ k0 Try.underlying54 rfl (by kernel_rfl) ?_))
    refine (CH.out _).mono ?_
    rintro e W2 ⟨rfl, hb2⟩
    have i0 : RB W2 w.heap.size s := blk_below k0 hb2 (lt_of_block k0)
    have i2 : RB W2 (w.heap.size + 2) rzero := blk_below k2 hb2 (lt_of_block k2)
    have HB2 := Lib.hid (HB.out.trans (hb2.mono HB.out.size))
    have KF2 := Lib.hid (blk_below KF.out hb2 (lt_of_block KF.out))
    clear k0 k2 hb2 HB KF
    clear cf_0 ff_0 cf_1 ff_1 cf_2 ff_2 cf_3 ff_3 cf_4 ff_4
    have k0 := i0
    have k2 := i2
    have HB := HB2
    have KF := KF2
    clear i0 i2 HB2 KF2
    go_wp2_with (first | (refine wpList_store_row rfl 54 _ _ rfl _ _ rfl rfl 54 _ k2 (by kernel_rfl) rfl (rag_one _) ?_))
    exact bodyPost_ret (results_ct rfl _ _ _ _ _ (0, 0) _ rfl (setRow_heap _ _ _ _ _ _ k2) Try.underlying54 rfl (by kernel_rfl)) rfl ⟨by rw [E.out]; try (simp; done), below_setRow HB.out (by omega) _⟩
  · have z4 : (s.st == 4) = false := by rw [beq_eq_false_iff_ne]; omega
    have z5 : (s.st == 5) = true := by rw [beq_iff_eq]; omega
    have CH := Lib.hid (rchange_any s 4)
    have HE := Lib.hid (ent_no s 4 rfl)
    have E := Lib.hid (show Plt.take s x = (rchg s 4, true) by unfold Plt.take; rw [if_neg (by omega), if_neg (by omega), if_neg (by omega), if_neg (by omega), if_pos (by omega), if_pos ⟨hpl, by omega⟩, HE.out])
    obtain ⟨r, hrr⟩ : ∃ r, r = rchg s 4 := ⟨_, rfl⟩
    rw [← hrr] at CH E
    clear hk hmk hmn hmp hx hn hr hs hn2 hgiv hload hprog hstart hm h0 hpl hst HE hrr
    go_enter Try.func66, Try.ntmps66; go_upto_region 1 with fail; generalize hV : World.alloc _ _ = V; have k0 : RB V w.heap.size s := (by rw [← hV]; exact blk_alloc (blk_alloc (heap_new _ _) _) _); have kf : V.heap[w.heap.size + 1]? = some (.cells #[.int .i64 k, .int .i64 f, .int .i64 t, .int .i64 q, .slice A n cap] 35 (0, 0)) := (by rw [← hV]; exact blk_alloc (heap_new' _ _ _ (by simp)) _); have k2 : RB V (w.heap.size + 2) rzero := (by rw [← hV]; exact heap_new' _ _ _ (by simp)); have HB := Lib.hid (show Below w.heap.size w V from by rw [← hV]; exact (by repeat (first | (with_reducible exact Below.refl _ _) | (with_reducible refine Below.drew ?_) | (with_reducible refine below_drewN ?_ _) | ((with_reducible refine Below.alloc ?_ ?_ _); rotate_left; (first | omega | (simp <;> omega)); rotate_right) | ((with_reducible refine Below.setCell ?_ ?_ _); rotate_left; (first | omega | (simp <;> omega)); rotate_right) | (with_reducible assumption) | (refine Below.trans ?_ (Below.mono (by assumption) ?_); rotate_left; (first | omega | (simp <;> omega)); rotate_right)))); clear hV; (have cf_0 := blk_cell kf 0 rfl; have ff_0 := blk_free kf 0; have cf_1 := blk_cell kf 1 rfl; have ff_1 := blk_free kf 1; have cf_2 := blk_cell kf 2 rfl; have ff_2 := blk_free kf 2; have cf_3 := blk_cell kf 3 rfl; have ff_3 := blk_free kf 3; have cf_4 := blk_cell kf 4 rfl; have ff_4 := blk_free kf 4; have lf := lt_of_block kf); have KF := Lib.hid kf; clear kf; have c11 : V.cell? ⟨w.heap.size, 11, none⟩ = some (.int .i64 s.st) := blk_cell k0 11 rfl
    go_wp2_with (first | (refine wpList_load_row rfl 54 _ rfl _ rfl 54 _ (0, 0) _ k0 Try.underlying54 rfl (by kernel_rfl) ?_))
    refine (CH.out _).mono ?_
    rintro e W2 ⟨rfl, hb2⟩
    have i0 : RB W2 w.heap.size s := blk_below k0 hb2 (lt_of_block k0)
    have i2 : RB W2 (w.heap.size + 2) rzero := blk_below k2 hb2 (lt_of_block k2)
    have HB2 := Lib.hid (HB.out.trans (hb2.mono HB.out.size))
    have KF2 := Lib.hid (blk_below KF.out hb2 (lt_of_block KF.out))
    clear k0 k2 hb2 HB KF
    clear cf_0 ff_0 cf_1 ff_1 cf_2 ff_2 cf_3 ff_3 cf_4 ff_4
    have k0 := i0
    have k2 := i2
    have HB := HB2
    have KF := KF2
    clear i0 i2 HB2 KF2
    go_wp2_with (first | (refine wpList_store_row rfl 54 _ _ rfl _ _ rfl rfl 54 _ k2 (by kernel_rfl) rfl (rag_one _) ?_))
    exact bodyPost_ret (results_ct rfl _ _ _ _ _ (0, 0) _ rfl (setRow_heap _ _ _ _ _ _ k2) Try.underlying54 rfl (by kernel_rfl)) rfl ⟨by rw [E.out]; try (simp; done), below_setRow HB.out (by omega) _⟩
  · have z4 : (s.st == 4) = false := by rw [beq_eq_false_iff_ne]; omega
    have z5 : (s.st == 5) = false := by rw [beq_eq_false_iff_ne]; omega
    have E := Lib.hid (show Plt.take s x = (s, false) by unfold Plt.take; rw [if_neg (by omega), if_neg (by omega), if_neg (by omega), if_neg (by omega), if_pos (by omega), if_neg (by omega)])
    clear hk hmk hmn hmp hx hn hr hs hn2 hgiv hload hprog hstart hm h0 hpl hst
    go_enter Try.func66, Try.ntmps66; go_upto_region 1 with fail; generalize hV : World.alloc _ _ = V; have k0 : RB V w.heap.size s := (by rw [← hV]; exact blk_alloc (blk_alloc (heap_new _ _) _) _); have kf : V.heap[w.heap.size + 1]? = some (.cells #[.int .i64 k, .int .i64 f, .int .i64 t, .int .i64 q, .slice A n cap] 35 (0, 0)) := (by rw [← hV]; exact blk_alloc (heap_new' _ _ _ (by simp)) _); have k2 : RB V (w.heap.size + 2) rzero := (by rw [← hV]; exact heap_new' _ _ _ (by simp)); have HB := Lib.hid (show Below w.heap.size w V from by rw [← hV]; exact (by repeat (first | (with_reducible exact Below.refl _ _) | (with_reducible refine Below.drew ?_) | (with_reducible refine below_drewN ?_ _) | ((with_reducible refine Below.alloc ?_ ?_ _); rotate_left; (first | omega | (simp <;> omega)); rotate_right) | ((with_reducible refine Below.setCell ?_ ?_ _); rotate_left; (first | omega | (simp <;> omega)); rotate_right) | (with_reducible assumption) | (refine Below.trans ?_ (Below.mono (by assumption) ?_); rotate_left; (first | omega | (simp <;> omega)); rotate_right)))); clear hV; (have cf_0 := blk_cell kf 0 rfl; have ff_0 := blk_free kf 0; have cf_1 := blk_cell kf 1 rfl; have ff_1 := blk_free kf 1; have cf_2 := blk_cell kf 2 rfl; have ff_2 := blk_free kf 2; have cf_3 := blk_cell kf 3 rfl; have ff_3 := blk_free kf 3; have cf_4 := blk_cell kf 4 rfl; have ff_4 := blk_free kf 4; have lf := lt_of_block kf); have KF := Lib.hid kf; clear kf; have c11 : V.cell? ⟨w.heap.size, 11, none⟩ = some (.int .i64 s.st) := blk_cell k0 11 rfl
    go_upto_region 38 with fail; go_wp2_with (first | (refine wpList_load_row rfl 54 _ rfl _ rfl 54 _ (0, 0) _ k0 Try.underlying54 rfl (by kernel_rfl) ?_) | (refine wpList_store_row rfl 54 _ _ rfl _ _ rfl rfl 54 _ k2 (by kernel_rfl) rfl (rag_one _) ?_)); exact bodyPost_ret (results_ct rfl _ _ _ _ _ (0, 0) _ rfl (setRow_heap _ _ _ _ _ _ k2) Try.underlying54 rfl (by kernel_rfl)) rfl ⟨by rw [E.out]; try (simp; done), below_setRow HB.out (by omega) _⟩
theorem rtake_6 (s : Plt.St) (hs : Plt.Inv s) (k f t q : Int) (A : Option Addr) (n cap : Nat) (l : List Int) (hn : n = l.length) (hn2 : n ≤ 64) (w : World) (hr : Rd w w.heap.size A n l) (hk : k = 6) :
    Calls Try.prog 66 #[.agg (rag s).toArray, .agg #[.int .i64 k, .int .i64 f, .int .i64 t, .int .i64 q, .slice A n cap]] w (RTPost (Plt.take s (Plt.fmOf ⟨k, f, t, q, l⟩)) w) := by
  obtain ⟨m, hm⟩ : ∃ m, m = Frm.gnAt l 0 := ⟨_, rfl⟩
  have hmk : (Plt.fmOf ⟨k, f, t, q, l⟩).k = k := rfl
  have hmn : (Plt.fmOf ⟨k, f, t, q, l⟩).n = if l.length = 4 then m else -1 := by rw [hm]; rfl
  have hmp : (Plt.fmOf ⟨k, f, t, q, l⟩).plain = decide (n = 0) := by rw [hn]; rfl
  have hgiv := hs.giv
  have hload := hs.load
  have hprog := hs.prog
  have hstart := hs.start
  obtain ⟨x, hx⟩ : ∃ x, x = Plt.fmOf ⟨k, f, t, q, l⟩ := ⟨_, rfl⟩
  rw [← hx] at hmn hmk hmp ⊢
  have y1 : (k == 1) = false := by rw [beq_eq_false_iff_ne]; omega
  have y2 : (k == 2) = false := by rw [beq_eq_false_iff_ne]; omega
  have y3 : (k == 3) = false := by rw [beq_eq_false_iff_ne]; omega
  have y4 : (k == 4) = false := by rw [beq_eq_false_iff_ne]; omega
  have y5 : (k == 5) = false := by rw [beq_eq_false_iff_ne]; omega
  have y6 : (k == 6) = true := by rw [beq_iff_eq]; omega
  have y7 : (k == 7) = false := by rw [beq_eq_false_iff_ne]; omega
  by_cases h0 : n = 0
  case neg =>
    have yz : ((n : Int) == 0) = false := by rw [beq_eq_false_iff_ne]; omega
    have hpl : x.plain = false := by rw [hmp, decide_eq_false h0]
    have E := Lib.hid (show Plt.take s x = (s, false) by unfold Plt.take; rw [if_neg (by omega), if_neg (by omega), if_neg (by omega), if_neg (by omega), if_neg (by omega), if_pos (by omega), if_neg (by rw [hpl]; simp)])
    by_cases h4 : n = 4
    case neg =>
      have y0 : ((n : Int) == 4) = false := by rw [beq_eq_false_iff_ne]; omega
      clear hk hmk hmn hmp hx hn hr hs hn2 hgiv hload hprog hstart hm h4 h0 hpl
      rcases z45 s with ⟨z4, z5⟩ | ⟨z4, z5⟩ | ⟨z4, z5⟩
      all_goals
        go_enter Try.func66, Try.ntmps66; go_upto_region 1 with fail; generalize hV : World.alloc _ _ = V; have k0 : RB V w.heap.size s := (by rw [← hV]; exact blk_alloc (blk_alloc (heap_new _ _) _) _); have kf : V.heap[w.heap.size + 1]? = some (.cells #[.int .i64 k, .int .i64 f, .int .i64 t, .int .i64 q, .slice A n cap] 35 (0, 0)) := (by rw [← hV]; exact blk_alloc (heap_new' _ _ _ (by simp)) _); have k2 : RB V (w.heap.size + 2) rzero := (by rw [← hV]; exact heap_new' _ _ _ (by simp)); have HB := Lib.hid (show Below w.heap.size w V from by rw [← hV]; exact (by repeat (first | (with_reducible exact Below.refl _ _) | (with_reducible refine Below.drew ?_) | (with_reducible refine below_drewN ?_ _) | ((with_reducible refine Below.alloc ?_ ?_ _); rotate_left; (first | omega | (simp <;> omega)); rotate_right) | ((with_reducible refine Below.setCell ?_ ?_ _); rotate_left; (first | omega | (simp <;> omega)); rotate_right) | (with_reducible assumption) | (refine Below.trans ?_ (Below.mono (by assumption) ?_); rotate_left; (first | omega | (simp <;> omega)); rotate_right)))); clear hV; (have cf_0 := blk_cell kf 0 rfl; have ff_0 := blk_free kf 0; have cf_1 := blk_cell kf 1 rfl; have ff_1 := blk_free kf 1; have cf_2 := blk_cell kf 2 rfl; have ff_2 := blk_free kf 2; have cf_3 := blk_cell kf 3 rfl; have ff_3 := blk_free kf 3; have cf_4 := blk_cell kf 4 rfl; have ff_4 := blk_free kf 4; have lf := lt_of_block kf); have KF := Lib.hid kf; clear kf; have c11 : V.cell? ⟨w.heap.size, 11, none⟩ = some (.int .i64 s.st) := blk_cell k0 11 rfl
        go_upto_region 38 with fail; go_wp2_with (first | (refine wpList_load_row rfl 54 _ rfl _ rfl 54 _ (0, 0) _ k0 Try.underlying54 rfl (by kernel_rfl) ?_) | (refine wpList_store_row rfl 54 _ _ rfl _ _ rfl rfl 54 _ k2 (by kernel_rfl) rfl (rag_one _) ?_)); exact bodyPost_ret (results_ct rfl _ _ _ _ _ (0, 0) _ rfl (setRow_heap _ _ _ _ _ _ k2) Try.underlying54 rfl (by kernel_rfl)) rfl ⟨by rw [E.out]; try (simp; done), below_setRow HB.out (by omega) _⟩
    case pos =>
      have y0 : ((n : Int) == 4) = true := by rw [beq_iff_eq]; omega
      have G := Lib.hid (fun (W : World) (hW : Below w.heap.size w W) => rgetk_yes A n cap 1 l W (by omega) hn (by omega) (by omega) ((hr.below hW (Nat.le_refl _)).more hW.size))
      have HM := Lib.hid hm
      clear hk hmk hmn hmp hx hn hr hs hn2 hgiv hload hprog hstart hm h4 h0 hpl
      rcases z45 s with ⟨z4, z5⟩ | ⟨z4, z5⟩ | ⟨z4, z5⟩
      all_goals
        go_enter Try.func66, Try.ntmps66; go_upto_region 1 with fail; generalize hV : World.alloc _ _ = V; have k0 : RB V w.heap.size s := (by rw [← hV]; exact blk_alloc (blk_alloc (heap_new _ _) _) _); have kf : V.heap[w.heap.size + 1]? = some (.cells #[.int .i64 k, .int .i64 f, .int .i64 t, .int .i64 q, .slice A n cap] 35 (0, 0)) := (by rw [← hV]; exact blk_alloc (heap_new' _ _ _ (by simp)) _); have k2 : RB V (w.heap.size + 2) rzero := (by rw [← hV]; exact heap_new' _ _ _ (by simp)); have HB := Lib.hid (show Below w.heap.size w V from by rw [← hV]; exact (by repeat (first | (with_reducible exact Below.refl _ _) | (with_reducible refine Below.drew ?_) | (with_reducible refine below_drewN ?_ _) | ((with_reducible refine Below.alloc ?_ ?_ _); rotate_left; (first | omega | (simp <;> omega)); rotate_right) | ((with_reducible refine Below.setCell ?_ ?_ _); rotate_left; (first | omega | (simp <;> omega)); rotate_right) | (with_reducible assumption) | (refine Below.trans ?_ (Below.mono (by assumption) ?_); rotate_left; (first | omega | (simp <;> omega)); rotate_right)))); clear hV; (have cf_0 := blk_cell kf 0 rfl; have ff_0 := blk_free kf 0; have cf_1 := blk_cell kf 1 rfl; have ff_1 := blk_free kf 1; have cf_2 := blk_cell kf 2 rfl; have ff_2 := blk_free kf 2; have cf_3 := blk_cell kf 3 rfl; have ff_3 := blk_free kf 3; have cf_4 := blk_cell kf 4 rfl; have ff_4 := blk_free kf 4; have lf := lt_of_block kf); have KF := Lib.hid kf; clear kf; have c11 : V.cell? ⟨w.heap.size, 11, none⟩ = some (.int .i64 s.st) := blk_cell k0 11 rfl
        go_upto_region 3 with fail; go_wp2_with fail; refine (G.out _ HB.out).mono ?_; rintro e W1 ⟨g, o, c, rfl, hc, hb1, _⟩; have d0 := hc 0 (by omega); simp only [Nat.add_zero] at d0; rw [← HM.out] at d0; have i0 : RB W1 w.heap.size s := blk_below k0 hb1 (lt_of_block k0); have i2 : RB W1 (w.heap.size + 2) rzero := blk_below k2 hb1 (lt_of_block k2); have jf := blk_below KF.out hb1 (lt_of_block KF.out); have HB1 := Lib.hid (HB.out.trans (hb1.mono HB.out.size)); clear hc hb1 k0 k2 KF HB c11; (clear cf_0 ff_0 cf_1 ff_1 cf_2 ff_2 cf_3 ff_3 cf_4 ff_4); have k0 := i0; have k2 := i2; have KF := Lib.hid jf; have HB := HB1; (have cf_0 := blk_cell jf 0 rfl; have ff_0 := blk_free jf 0; have cf_1 := blk_cell jf 1 rfl; have ff_1 := blk_free jf 1; have cf_2 := blk_cell jf 2 rfl; have ff_2 := blk_free jf 2; have cf_3 := blk_cell jf 3 rfl; have ff_3 := blk_free jf 3; have cf_4 := blk_cell jf 4 rfl; have ff_4 := blk_free jf 4; have lf := lt_of_block jf); clear i0 i2 jf HB1
        go_upto_region 38 with fail; go_wp2_with (first | (refine wpList_load_row rfl 54 _ rfl _ rfl 54 _ (0, 0) _ k0 Try.underlying54 rfl (by kernel_rfl) ?_) | (refine wpList_store_row rfl 54 _ _ rfl _ _ rfl rfl 54 _ k2 (by kernel_rfl) rfl (rag_one _) ?_)); exact bodyPost_ret (results_ct rfl _ _ _ _ _ (0, 0) _ rfl (setRow_heap _ _ _ _ _ _ k2) Try.underlying54 rfl (by kernel_rfl)) rfl ⟨by rw [E.out]; try (simp; done), below_setRow HB.out (by omega) _⟩
  case pos =>
  have y0 : ((n : Int) == 4) = false := by rw [beq_eq_false_iff_ne]; omega
  have yz : ((n : Int) == 0) = true := by rw [beq_iff_eq]; omega
  have hpl : x.plain = true := by rw [hmp, decide_eq_true h0]
  have key : s.st = 2 ∨ s.st = 3 ∨ s.st = 4 ∨ s.st = 5 ∨ ¬ (s.st = 2 ∨ s.st = 3 ∨ s.st = 4 ∨ s.st = 5) := by omega
  rcases key with hst | hst | hst | hst | hst
  · have z2 : (s.st == 2) = true := by rw [beq_iff_eq]; omega
    have z3 : (s.st == 3) = false := by rw [beq_eq_false_iff_ne]; omega
    have z4 : (s.st == 4) = false := by rw [beq_eq_false_iff_ne]; omega
    have z5 : (s.st == 5) = false := by rw [beq_eq_false_iff_ne]; omega
    have CH := Lib.hid (rchange_any s 1)
    have HE := Lib.hid (ent_fg s 1 rfl (by omega))
    have FG := Lib.hid (rforget_any (rchg s 1))
    have E := Lib.hid (show Plt.take s x = ({ rchg s 1 with given := false, start := 0 }, true) by unfold Plt.take; rw [if_neg (by omega), if_neg (by omega), if_neg (by omega), if_neg (by omega), if_neg (by omega), if_pos (by omega), if_pos hpl, if_pos (by omega), HE.out])
    obtain ⟨r, hrr⟩ : ∃ r, r = rchg s 1 := ⟨_, rfl⟩
    rw [← hrr] at CH E FG
    clear hk hmk hmn hmp hx hn hr hs hn2 hgiv hload hprog hstart hm h0 hpl hst HE hrr
    go_enter Try.func66, Try.ntmps66; go_upto_region 1 with fail; generalize hV : World.alloc _ _ = V; have k0 : RB V w.heap.size s := (by rw [← hV]; exact blk_alloc (blk_alloc (heap_new _ _) _) _); have kf : V.heap[w.heap.size + 1]? = some (.cells #[.int .i64 k, .int .i64 f, .int .i64 t, .int .i64 q, .slice A n cap] 35 (0, 0)) := (by rw [← hV]; exact blk_alloc (heap_new' _ _ _ (by simp)) _); have k2 : RB V (w.heap.size + 2) rzero := (by rw [← hV]; exact heap_new' _ _ _ (by simp)); have HB := Lib.hid (show Below w.heap.size w V from by rw [← hV]; exact (by repeat (first | (with_reducible exact Below.refl _ _) | (with_reducible refine Below.drew ?_) | (with_reducible refine below_drewN ?_ _) | ((with_reducible refine Below.alloc ?_ ?_ _); rotate_left; (first | omega | (simp <;> omega)); rotate_right) | ((with_reducible refine Below.setCell ?_ ?_ _); rotate_left; (first | omega | (simp <;> omega)); rotate_right) | (with_reducible assumption) | (refine Below.trans ?_ (Below.mono (by assumption) ?_); rotate_left; (first | omega | (simp <;> omega)); rotate_right)))); clear hV; (have cf_0 := blk_cell kf 0 rfl; have ff_0 := blk_free kf 0; have cf_1 := blk_cell kf 1 rfl; have ff_1 := blk_free kf 1; have cf_2 := blk_cell kf 2 rfl; have ff_2 := blk_free kf 2; have cf_3 := blk_cell kf 3 rfl; have ff_3 := blk_free kf 3; have cf_4 := blk_cell kf 4 rfl; have ff_4 := blk_free kf 4; have lf := lt_of_block kf); have KF := Lib.hid kf; clear kf; have c11 : V.cell? ⟨w.heap.size, 11, none⟩ = some (.int .i64 s.st) := blk_cell k0 11 rfl
    go_wp2_with (first | (refine wpList_load_row rfl 54 _ rfl _ rfl 54 _ (0, 0) _ k0 Try.underlying54 rfl (by kernel_rfl) ?_))
    refine (CH.out _).mono ?_
    rintro e W2 ⟨rfl, hb2⟩
    have i0 : RB W2 w.heap.size s := blk_below k0 hb2 (lt_of_block k0)
    have i2 : RB W2 (w.heap.size + 2) rzero := blk_below k2 hb2 (lt_of_block k2)
    have HB2 := Lib.hid (HB.out.trans (hb2.mono HB.out.size))
    have KF2 := Lib.hid (blk_below KF.out hb2 (lt_of_block KF.out))
    clear k0 k2 hb2 HB KF
    clear cf_0 ff_0 cf_1 ff_1 cf_2 ff_2 cf_3 ff_3 cf_4 ff_4
    have k0 := i0
    have k2 := i2
    have HB := HB2
    have KF := KF2
    clear i0 i2 HB2 KF2
    go_wp2_with fail
    refine (FG.out _).mono ?_
    rintro e W5 ⟨rfl, hb5⟩
    have i2 : RB W5 (w.heap.size + 2) rzero := blk_below k2 hb5 (lt_of_block k2)
    have HB5 := Lib.hid (HB.out.trans (hb5.mono HB.out.size))
    clear k0 k2 hb5 HB
    have k2 := i2
    have HB := HB5
    clear i2 HB5
    go_wp2_with (first | (refine wpList_store_row rfl 54 _ _ rfl _ _ rfl rfl 54 _ k2 (by kernel_rfl) rfl (rag_one _) ?_))
    exact bodyPost_ret (results_ct rfl _ _ _ _ _ (0, 0) _ rfl (setRow_heap _ _ _ _ _ _ k2) Try.underlying54 rfl (by kernel_rfl)) rfl ⟨by rw [E.out]; try (simp; done), below_setRow HB.out (by omega) _⟩
  · have z2 : (s.st == 2) = false := by rw [beq_eq_false_iff_ne]; omega
    have z3 : (s.st == 3) = true := by rw [beq_iff_eq]; omega
    have z4 : (s.st == 4) = false := by rw [beq_eq_false_iff_ne]; omega
    have z5 : (s.st == 5) = false := by rw [beq_eq_false_iff_ne]; omega
    have CH := Lib.hid (rchange_any s 1)
    have HE := Lib.hid (ent_fg s 1 rfl (by omega))
    have FG := Lib.hid (rforget_any (rchg s 1))
    have E := Lib.hid (show Plt.take s x = ({ rchg s 1 with given := false, start := 0 }, true) by unfold Plt.take; rw [if_neg (by omega), if_neg (by omega), if_neg (by omega), if_neg (by omega), if_neg (by omega), if_pos (by omega), if_pos hpl, if_pos (by omega), HE.out])
    obtain ⟨r, hrr⟩ : ∃ r, r = rchg s 1 := ⟨_, rfl⟩
    rw [← hrr] at CH E FG
    clear hk hmk hmn hmp hx hn hr hs hn2 hgiv hload hprog hstart hm h0 hpl hst HE hrr
    go_enter Try.func66, Try.ntmps66; go_upto_region 1 with fail; generalize hV : World.alloc _ _ = V; have k0 : RB V w.heap.size s := (by rw [← hV]; exact blk_alloc (blk_alloc (heap_new _ _) _) _); have kf : V.heap[w.heap.size + 1]? = some (.cells #[.int .i64 k, .int .i64 f, .int .i64 t, .int .i64 q, .slice A n cap] 35 (0, 0)) := (by rw [← hV]; exact blk_alloc (heap_new' _ _ _ (by simp)) _); have k2 : RB V (w.heap.size + 2) rzero := (by rw [← hV]; exact heap_new' _ _ _ (by simp)); have HB := Lib.hid (show Below w.heap.size w V from by rw [← hV]; exact (by repeat (first | (with_reducible exact Below.refl _ _) | (with_reducible refine Below.drew ?_) | (with_reducible refine below_drewN ?_ _) | ((with_reducible refine Below.alloc ?_ ?_ _); rotate_left; (first | omega | (simp <;> omega)); rotate_right) | ((with_reducible refine Below.setCell ?_ ?_ _); rotate_left; (first | omega | (simp <;> omega)); rotate_right) | (with_reducible assumption) | (refine Below.trans ?_ (Below.mono (by assumption) ?_); rotate_left; (first | omega | (simp <;> omega)); rotate_right)))); clear hV; (have cf_0 := blk_cell kf 0 rfl; have ff_0 := blk_free kf 0; have cf_1 := blk_cell kf 1 rfl; have ff_1 := blk_free kf 1; have cf_2 := blk_cell kf 2 rfl; have ff_2 := blk_free kf 2; have cf_3 := blk_cell kf 3 rfl; have ff_3 := blk_free kf 3; have cf_4 := blk_cell kf 4 rfl; have ff_4 := blk_free kf 4; have lf := lt_of_block kf); have KF := Lib.hid kf; clear kf; have c11 : V.cell? ⟨w.heap.size, 11, none⟩ = some (.int .i64 s.st) := blk_cell k0 11 rfl
    go_wp2_with (first | (refine wpList_load_row rfl 54 _ rfl _ rfl 54 _ (0, 0) _ k0 Try.underlying54 rfl (by kernel_rfl) ?_))
    refine (CH.out _).mono ?_
    rintro e W2 ⟨rfl, hb2⟩
    have i0 : RB W2 w.heap.size s := blk_below k0 hb2 (lt_of_block k0)
    have i2 : RB W2 (w.heap.size + 2) rzero := blk_below k2 hb2 (lt_of_block k2)
    have HB2 := Lib.hid (HB.out.trans (hb2.mono HB.out.size))
    have KF2 := Lib.hid (blk_below KF.out hb2 (lt_of_block KF.out))
    clear k0 k2 hb2 HB KF
    clear cf_0 ff_0 cf_1 ff_1 cf_2 ff_2 cf_3 ff_3 cf_4 ff_4
    have k0 := i0
    have k2 := i2
    have HB := HB2
    have KF := KF2
    clear i0 i2 HB2 KF2
    go_wp2_with fail
    refine (FG.out _).mono ?_
    rintro e W5 ⟨rfl, hb5⟩
    have i2 : RB W5 (w.heap.size + 2) rzero := blk_below k2 hb5 (lt_of_block k2)
    have HB5 := Lib.hid (HB.out.trans (hb5.mono HB.out.size))
    clear k0 k2 hb5 HB
    have k2 := i2
    have HB := HB5
    clear i2 HB5
    go_wp2_with (first | (refine wpList_store_row rfl 54 _ _ rfl _ _ rfl rfl 54 _ k2 (by kernel_rfl) rfl (rag_one _) ?_))
    exact bodyPost_ret (results_ct rfl _ _ _ _ _ (0, 0) _ rfl (setRow_heap _ _ _ _ _ _ k2) Try.underlying54 rfl (by kernel_rfl)) rfl ⟨by rw [E.out]; try (simp; done), below_setRow HB.out (by omega) _⟩
  · have z2 : (s.st == 2) = false := by rw [beq_eq_false_iff_ne]; omega
    have z3 : (s.st == 3) = false := by rw [beq_eq_false_iff_ne]; omega
    have z4 : (s.st == 4) = true := by rw [beq_iff_eq]; omega
    have z5 : (s.st == 5) = false := by rw [beq_eq_false_iff_ne]; omega
    have CH := Lib.hid (rchange_any s 6)
    have HE := Lib.hid (ent_no s 6 rfl)
    have E := Lib.hid (show Plt.take s x = (rchg s 6, true) by unfold Plt.take; rw [if_neg (by omega), if_neg (by omega), if_neg (by omega), if_neg (by omega), if_neg (by omega), if_pos (by omega), if_pos hpl, if_neg (by omega), if_pos (by omega), HE.out])
    obtain ⟨r, hrr⟩ : ∃ r, r = rchg s 6 := ⟨_, rfl⟩
    rw [← hrr] at CH E
    clear hk hmk hmn hmp hx hn hr hs hn2 hgiv hload hprog hstart hm h0 hpl hst HE hrr
    go_enter Try.func66, Try.ntmps66; go_upto_region 1 with fail; generalize hV : World.alloc _ _ = V; have k0 : RB V w.heap.size s := (by rw [← hV]; exact blk_alloc (blk_alloc (heap_new _ _) _) _); have kf : V.heap[w.heap.size + 1]? = some (.cells #[.int .i64 k, .int .i64 f, .int .i64 t, .int .i64 q, .slice A n cap] 35 (0, 0)) := (by rw [← hV]; exact blk_alloc (heap_new' _ _ _ (by simp)) _); have k2 : RB V (w.heap.size + 2) rzero := (by rw [← hV]; exact heap_new' _ _ _ (by simp)); have HB := Lib.hid (show Below w.heap.size w V from by rw [← hV]; exact (by repeat (first | (with_reducible exact Below.refl _ _) | (with_reducible refine Below.drew ?_) | (with_reducible refine below_drewN ?_ _) | ((with_reducible refine Below.alloc ?_ ?_ _); rotate_left; (first | omega | (simp <;> omega)); rotate_right) | ((with_reducible refine Below.setCell ?_ ?_ _); rotate_left; (first | omega | (simp <;> omega)); rotate_right) | (with_reducible assumption) | (refine Below.trans ?_ (Below.mono (by assumption) ?_); rotate_left; (first | omega | (simp <;> omega)); rotate_right)))); clear hV; (have cf_0 := blk_cell kf 0 rfl; have ff_0 := blk_free kf 0; have cf_1 := blk_cell kf 1 rfl; have ff_1 := blk_free kf 1; have cf_2 := blk_cell kf 2 rfl; have ff_2 := blk_free kf 2; have cf_3 := blk_cell kf 3 rfl; have ff_3 := blk_free kf 3; have cf_4 := blk_cell kf 4 rfl; have ff_4 := blk_free kf 4; have lf := lt_of_block kf); have KF := Lib.hid kf; clear kf; have c11 : V.cell? ⟨w.heap.size, 11, none⟩ = some (.int .i64 s.st) := blk_cell k0 11 rfl
    go_wp2_with (first | (refine wpList_load_row rfl 54 _ rfl _ rfl 54 _ (0, 0) _ k0 Try.underlying54 rfl (by kernel_rfl) ?_))
    refine (CH.out _).mono ?_
    rintro e W2 ⟨rfl, hb2⟩
    have i0 : RB W2 w.heap.size s := blk_below k0 hb2 (lt_of_block k0)
    have i2 : RB W2 (w.heap.size + 2) rzero := blk_below k2 hb2 (lt_of_block k2)
    have HB2 := Lib.hid (HB.out.trans (hb2.mono HB.out.size))
    have KF2 := Lib.hid (blk_below KF.out hb2 (lt_of_block KF.out))
    clear k0 k2 hb2 HB KF
    clear cf_0 ff_0 cf_1 ff_1 cf_2 ff_2 cf_3 ff_3 cf_4 ff_4
    have k0 := i0
    have k2 := i2
    have HB := HB2
    have KF := KF2
    clear i0 i2 HB2 KF2
    go_wp2_with (first | (refine wpList_store_row rfl 54 _ _ rfl _ _ rfl rfl 54 _ k2 (by kernel_rfl) rfl (rag_one _) ?_))
    exact bodyPost_ret (results_ct rfl _ _ _ _ _ (0, 0) _ rfl (setRow_heap _ _ _ _ _ _ k2) Try.underlying54 rfl (by kernel_rfl)) rfl ⟨by rw [E.out]; try (simp; done), below_setRow HB.out (by omega) _⟩
  · have z2 : (s.st == 2) = false := by rw [beq_eq_false_iff_ne]; omega
    have z3 : (s.st == 3) = false := by rw [beq_eq_false_iff_ne]; omega
    have z4 : (s.st == 4) = false := by rw [beq_eq_false_iff_ne]; omega
    have z5 : (s.st == 5) = true := by rw [beq_iff_eq]; omega
    have CH := Lib.hid (rchange_any s 6)
    have HE := Lib.hid (ent_no s 6 rfl)
    have E := Lib.hid (show Plt.take s x = (rchg s 6, true) by unfold Plt.take; rw [if_neg (by omega), if_neg (by omega), if_neg (by omega), if_neg (by omega), if_neg (by omega), if_pos (by omega), if_pos hpl, if_neg (by omega), if_pos (by omega), HE.out])
    obtain ⟨r, hrr⟩ : ∃ r, r = rchg s 6 := ⟨_, rfl⟩
    rw [← hrr] at CH E
    clear hk hmk hmn hmp hx hn hr hs hn2 hgiv hload hprog hstart hm h0 hpl hst HE hrr
    go_enter Try.func66, Try.ntmps66; go_upto_region 1 with fail; generalize hV : World.alloc _ _ = V; have k0 : RB V w.heap.size s := (by rw [← hV]; exact blk_alloc (blk_alloc (heap_new _ _) _) _); have kf : V.heap[w.heap.size + 1]? = some (.cells #[.int .i64 k, .int .i64 f, .int .i64 t, .int .i64 q, .slice A n cap] 35 (0, 0)) := (by rw [← hV]; exact blk_alloc (heap_new' _ _ _ (by simp)) _); have k2 : RB V (w.heap.size + 2) rzero := (by rw [← hV]; exact heap_new' _ _ _ (by simp)); have HB := Lib.hid (show Below w.heap.size w V from by rw [← hV]; exact (by repeat (first | (with_reducible exact Below.refl _ _) | (with_reducible refine Below.drew ?_) | (with_reducible refine below_drewN ?_ _) | ((with_reducible refine Below.alloc ?_ ?_ _); rotate_left; (first | omega | (simp <;> omega)); rotate_right) | ((with_reducible refine Below.setCell ?_ ?_ _); rotate_left; (first | omega | (simp <;> omega)); rotate_right) | (with_reducible assumption) | (refine Below.trans ?_ (Below.mono (by assumption) ?_); rotate_left; (first | omega | (simp <;> omega)); rotate_right)))); clear hV; (have cf_0 := blk_cell kf 0 rfl; have ff_0 := blk_free kf 0; have cf_1 := blk_cell kf 1 rfl; have ff_1 := blk_free kf 1; have cf_2 := blk_cell kf 2 rfl; have ff_2 := blk_free kf 2; have cf_3 := blk_cell kf 3 rfl; have ff_3 := blk_free kf 3; have cf_4 := blk_cell kf 4 rfl; have ff_4 := blk_free kf 4; have lf := lt_of_block kf); have KF := Lib.hid kf; clear kf; have c11 : V.cell? ⟨w.heap.size, 11, none⟩ = some (.int .i64 s.st) := blk_cell k0 11 rfl
    go_wp2_with (first | (refine wpList_load_row rfl 54 _ rfl _ rfl 54 _ (0, 0) _ k0 Try.underlying54 rfl (by kernel_rfl) ?_))
    refine (CH.out _).mono ?_
    rintro e W2 ⟨rfl, hb2⟩
    have i0 : RB W2 w.heap.size s := blk_below k0 hb2 (lt_of_block k0)
    have i2 : RB W2 (w.heap.size + 2) rzero := blk_below k2 hb2 (lt_of_block k2)
    have HB2 := Lib.hid (HB.out.trans (hb2.mono HB.out.size))
    have KF2 := Lib.hid (blk_below KF.out hb2 (lt_of_block KF.out))
    clear k0 k2 hb2 HB KF
    clear cf_0 ff_0 cf_1 ff_1 cf_2 ff_2 cf_3 ff_3 cf_4 ff_4
    have k0 := i0
    have k2 := i2
    have HB := HB2
    have KF := KF2
    clear i0 i2 HB2 KF2
    go_wp2_with (first | (refine wpList_store_row rfl 54 _ _ rfl _ _ rfl rfl 54 _ k2 (by kernel_rfl) rfl (rag_one _) ?_))
    exact bodyPost_ret (results_ct rfl _ _ _ _ _ (0, 0) _ rfl (setRow_heap _ _ _ _ _ _ k2) Try.underlying54 rfl (by kernel_rfl)) rfl ⟨by rw [E.out]; try (simp; done), below_setRow HB.out (by omega) _⟩
  · have z2 : (s.st == 2) = false := by rw [beq_eq_false_iff_ne]; omega
    have z3 : (s.st == 3) = false := by rw [beq_eq_false_iff_ne]; omega
    have z4 : (s.st == 4) = false := by rw [beq_eq_false_iff_ne]; omega
    have z5 : (s.st == 5) = false := by rw [beq_eq_false_iff_ne]; omega
    have E := Lib.hid (show Plt.take s x = (s, true) by unfold Plt.take; rw [if_neg (by omega), if_neg (by omega), if_neg (by omega), if_neg (by omega), if_neg (by omega), if_pos (by omega), if_pos hpl, if_neg (by omega), if_neg (by omega)])
    clear hk hmk hmn hmp hx hn hr hs hn2 hgiv hload hprog hstart hm h0 hpl hst
    go_enter Try.func66, Try.ntmps66; go_upto_region 1 with fail; generalize hV : World.alloc _ _ = V; have k0 : RB V w.heap.size s := (by rw [← hV]; exact blk_alloc (blk_alloc (heap_new _ _) _) _); have kf : V.heap[w.heap.size + 1]? = some (.cells #[.int .i64 k, .int .i64 f, .int .i64 t, .int .i64 q, .slice A n cap] 35 (0, 0)) := (by rw [← hV]; exact blk_alloc (heap_new' _ _ _ (by simp)) _); have k2 : RB V (w.heap.size + 2) rzero := (by rw [← hV]; exact heap_new' _ _ _ (by simp)); have HB := Lib.hid (show Below w.heap.size w V from by rw [← hV]; exact (by repeat (first | (with_reducible exact Below.refl _ _) | (with_reducible refine Below.drew ?_) | (with_reducible refine below_drewN ?_ _) | ((with_reducible refine Below.alloc ?_ ?_ _); rotate_left; (first | omega | (simp <;> omega)); rotate_right) | ((with_reducible refine Below.setCell ?_ ?_ _); rotate_left; (first | omega | (simp <;> omega)); rotate_right) | (with_reducible assumption) | (refine Below.trans ?_ (Below.mono (by assumption) ?_); rotate_left; (first | omega | (simp <;> omega)); rotate_right)))); clear hV; (have cf_0 := blk_cell kf 0 rfl; have ff_0 := blk_free kf 0; have cf_1 := blk_cell kf 1 rfl; have ff_1 := blk_free kf 1; have cf_2 := blk_cell kf 2 rfl; have ff_2 := blk_free kf 2; have cf_3 := blk_cell kf 3 rfl; have ff_3 := blk_free kf 3; have cf_4 := blk_cell kf 4 rfl; have ff_4 := blk_free kf 4; have lf := lt_of_block kf); have KF := Lib.hid kf; clear kf; have c11 : V.cell? ⟨w.heap.size, 11, none⟩ = some (.int .i64 s.st) := blk_cell k0 11 rfl
    go_wp2_with (first | (refine wpList_load_row rfl 54 _ rfl _ rfl 54 _ (0, 0) _ k0 Try.underlying54 rfl (by kernel_rfl) ?_) | (refine wpList_store_row rfl 54 _ _ rfl _ _ rfl rfl 54 _ k2 (by kernel_rfl) rfl (rag_one _) ?_)); exact bodyPost_ret (results_ct rfl _ _ _ _ _ (0, 0) _ rfl (setRow_heap _ _ _ _ _ _ k2) Try.underlying54 rfl (by kernel_rfl)) rfl ⟨by rw [E.out]; try (simp; done), below_setRow HB.out (by omega) _⟩
end Go.Proofs.Ytjidchaejicjaaa

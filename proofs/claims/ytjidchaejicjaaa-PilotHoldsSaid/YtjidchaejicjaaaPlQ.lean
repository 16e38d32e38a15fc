/- The reference's pilot obeys a frame: start. -/
import Derived.Test.YtjidchaejicjaaaPlN
namespace Go.Proofs.Ytjidchaejicjaaa
open Go.RowKit
set_option maxHeartbeats 6000000
set_option maxRecDepth 100000
set_option linter.unusedSimpArgs false
set_option linter.unusedVariables false
attribute [local go_sem ↓] Go.wp_at_zero Go.wp_at_succ
theorem rtake_3 (s : Plt.St) (hs : Plt.Inv s) (k f t q : Int) (A : Option Addr) (n cap : Nat) (l : List Int) (hn : n = l.length) (hn2 : n ≤ 64) (w : World) (hr : Rd w w.heap.size A n l) (hk : k = 3) :
    Calls Try.prog 66 #[.agg (rag s).toArray, .agg #[.int .i64 k, .int .i64 f, .int .i64 t, .int .i64 q, .slice A n cap]] w (RTPost (Plt.take s (Plt.fmOf ⟨k, f, t, q, l⟩)) w) := by
  obtain ⟨m, hm⟩ : ∃ m, m = Frm.gnAt l 0 := ⟨_, rfl⟩
  have hmk : (Plt.fmOf ⟨k, f, t, q, l⟩).k = k := rfl
  have hmn : (Plt.fmOf ⟨k, f, t, q, l⟩).n = if l.length = 4 then m else -1 := by rw [hm]; rfl
  have hmp : (Plt.fmOf ⟨k, f, t, q, l⟩).plain = decide (n = 0) := by rw [hn]; rfl
  have hgiv := hs.giv
  have hload := hs.load
  have hprog := hs.prog
  have hstart := hs.start
  obtain ⟨x, hx⟩ : ∃ x, x = Plt.fmOf ⟨k, f, t, q, l⟩ := ⟨_, rfl⟩
  rw [← hx] at hmn hmk hmp ⊢
  have y1 : (k == 1) = false := by rw [beq_eq_false_iff_ne]; omega
  have y2 : (k == 2) = false := by rw [beq_eq_false_iff_ne]; omega
  have y3 : (k == 3) = true := by rw [beq_iff_eq]; omega
  have y4 : (k == 4) = false := by rw [beq_eq_false_iff_ne]; omega
  have y5 : (k == 5) = false := by rw [beq_eq_false_iff_ne]; omega
  have y6 : (k == 6) = false := by rw [beq_eq_false_iff_ne]; omega
  have y7 : (k == 7) = false := by rw [beq_eq_false_iff_ne]; omega
  by_cases h4 : n = 4
  case neg =>
    have y0 : ((n : Int) == 4) = false := by rw [beq_eq_false_iff_ne]; omega
    have hmn4 : x.n = -1 := by rw [hmn, if_neg (by omega)]
    have E := Lib.hid (show Plt.take s x = (s, false) by unfold Plt.take; rw [if_neg (by omega), if_neg (by omega), if_pos (by omega), if_neg (by omega), decide_eq_false (by omega)])
    clear hk hmk hmn hmp hx hn hr hs hn2 hgiv hload hprog hstart hmn4 hm h4
    rcases z45 s with ⟨z4, z5⟩ | ⟨z4, z5⟩ | ⟨z4, z5⟩
    all_goals
      go_enter Try.func66, Try.ntmps66; go_upto_region 1 with fail; generalize hV : World.alloc _ _ = V; have k0 : RB V w.heap.size s := (by rw [← hV]; exact blk_alloc (blk_alloc (heap_new _ _) _) _); have kf : V.heap[w.heap.size + 1]? = some (.cells #[.int .i64 k, .int .i64 f, .int .i64 t, .int .i64 q, .slice A n cap] 35 (0, 0)) := (by rw [← hV]; exact blk_alloc (heap_new' _ _ _ (by simp)) _); have k2 : RB V (w.heap.size + 2) rzero := (by rw [← hV]; exact heap_new' _ _ _ (by simp)); have HB := Lib.hid (show Below w.heap.size w V from by rw [← hV]; exact (by repeat (first | (with_reducible exact Below.refl _ _) | (with_reducible refine Below.drew ?_) | (with_reducible refine below_drewN ?_ _) | ((with_reducible refine Below.alloc ?_ ?_ _); rotate_left; (first | omega | (simp <;> omega)); rotate_right) | ((with_reducible refine Below.setCell ?_ ?_ _); rotate_left; (first | omega | (simp <;> omega)); rotate_right) | (with_reducible assumption) | (refine Below.trans ?_ (Below.mono (by assumption) ?_); rotate_left; (first | omega | (simp <;> omega)); rotate_right)))); clear hV; (have cf_0 := blk_cell kf 0 rfl; have ff_0 := blk_free kf 0; have cf_1 := blk_cell kf 1 rfl; have ff_1 := blk_free kf 1; have cf_2 := blk_cell kf 2 rfl; have ff_2 := blk_free kf 2; have cf_3 := blk_cell kf 3 rfl; have ff_3 := blk_free kf 3; have cf_4 := blk_cell kf 4 rfl; have ff_4 := blk_free kf 4; have lf := lt_of_block kf); have KF := Lib.hid kf; clear kf; have c11 : V.cell? ⟨w.heap.size, 11, none⟩ = some (.int .i64 s.st) := blk_cell k0 11 rfl
      go_upto_region 38 with fail; go_wp2_with (first | (refine wpList_load_row rfl 54 _ rfl _ rfl 54 _ (0, 0) _ k0 Try.underlying54 rfl (by kernel_rfl) ?_) | (refine wpList_store_row rfl 54 _ _ rfl _ _ rfl rfl 54 _ k2 (by kernel_rfl) rfl (rag_one _) ?_)); exact bodyPost_ret (results_ct rfl _ _ _ _ _ (0, 0) _ rfl (setRow_heap _ _ _ _ _ _ k2) Try.underlying54 rfl (by kernel_rfl)) rfl ⟨by rw [E.out]; try (simp; done), below_setRow HB.out (by omega) _⟩
  have hm0 : 0 ≤ m := by rw [hm]; have := Frm.gnAt_bd hr.2.1 0; omega
  have y0 : ((n : Int) == 4) = true := by rw [beq_iff_eq]; omega
  have hmn4 : x.n = m := by rw [hmn, if_pos (by omega)]
  have G := Lib.hid (fun (W : World) (hW : Below w.heap.size w W) => rgetk_yes A n cap 1 l W (by omega) hn (by omega) (by omega) ((hr.below hW (Nat.le_refl _)).more hW.size))
  have HM := Lib.hid hm
  by_cases hgt : 3600000 < m
  case pos =>
    have E := Lib.hid (show Plt.take s x = (s, false) by unfold Plt.take; rw [if_neg (by omega), if_neg (by omega), if_pos (by omega), if_neg (by omega), decide_eq_false (by omega)])
    clear hk hmk hmn hmp hx hn hr hs hn2 hgiv hload hprog hstart hmn4 hm h4 hm0
    rcases z45 s with ⟨z4, z5⟩ | ⟨z4, z5⟩ | ⟨z4, z5⟩
    all_goals
      go_enter Try.func66, Try.ntmps66; go_upto_region 1 with fail; generalize hV : World.alloc _ _ = V; have k0 : RB V w.heap.size s := (by rw [← hV]; exact blk_alloc (blk_alloc (heap_new _ _) _) _); have kf : V.heap[w.heap.size + 1]? = some (.cells #[.int .i64 k, .int .i64 f, .int .i64 t, .int .i64 q, .slice A n cap] 35 (0, 0)) := (by rw [← hV]; exact blk_alloc (heap_new' _ _ _ (by simp)) _); have k2 : RB V (w.heap.size + 2) rzero := (by rw [← hV]; exact heap_new' _ _ _ (by simp)); have HB := Lib.hid (show Below w.heap.size w V from by rw [← hV]; exact (by repeat (first | (with_reducible exact Below.refl _ _) | (with_reducible refine Below.drew ?_) | (with_reducible refine below_drewN ?_ _) | ((with_reducible refine Below.alloc ?_ ?_ _); rotate_left; (first | omega | (simp <;> omega)); rotate_right) | ((with_reducible refine Below.setCell ?_ ?_ _); rotate_left; (first | omega | (simp <;> omega)); rotate_right) | (with_reducible assumption) | (refine Below.trans ?_ (Below.mono (by assumption) ?_); rotate_left; (first | omega | (simp <;> omega)); rotate_right)))); clear hV; (have cf_0 := blk_cell kf 0 rfl; have ff_0 := blk_free kf 0; have cf_1 := blk_cell kf 1 rfl; have ff_1 := blk_free kf 1; have cf_2 := blk_cell kf 2 rfl; have ff_2 := blk_free kf 2; have cf_3 := blk_cell kf 3 rfl; have ff_3 := blk_free kf 3; have cf_4 := blk_cell kf 4 rfl; have ff_4 := blk_free kf 4; have lf := lt_of_block kf); have KF := Lib.hid kf; clear kf; have c11 : V.cell? ⟨w.heap.size, 11, none⟩ = some (.int .i64 s.st) := blk_cell k0 11 rfl
      go_upto_region 3 with fail; go_wp2_with fail; refine (G.out _ HB.out).mono ?_; rintro e W1 ⟨g, o, c, rfl, hc, hb1, _⟩; have d0 := hc 0 (by omega); simp only [Nat.add_zero] at d0; rw [← HM.out] at d0; have i0 : RB W1 w.heap.size s := blk_below k0 hb1 (lt_of_block k0); have i2 : RB W1 (w.heap.size + 2) rzero := blk_below k2 hb1 (lt_of_block k2); have jf := blk_below KF.out hb1 (lt_of_block KF.out); have HB1 := Lib.hid (HB.out.trans (hb1.mono HB.out.size)); clear hc hb1 k0 k2 KF HB c11; (clear cf_0 ff_0 cf_1 ff_1 cf_2 ff_2 cf_3 ff_3 cf_4 ff_4); have k0 := i0; have k2 := i2; have KF := Lib.hid jf; have HB := HB1; (have cf_0 := blk_cell jf 0 rfl; have ff_0 := blk_free jf 0; have cf_1 := blk_cell jf 1 rfl; have ff_1 := blk_free jf 1; have cf_2 := blk_cell jf 2 rfl; have ff_2 := blk_free jf 2; have cf_3 := blk_cell jf 3 rfl; have ff_3 := blk_free jf 3; have cf_4 := blk_cell jf 4 rfl; have ff_4 := blk_free jf 4; have lf := lt_of_block jf); clear i0 i2 jf HB1
      go_upto_region 38 with fail; go_wp2_with (first | (refine wpList_load_row rfl 54 _ rfl _ rfl 54 _ (0, 0) _ k0 Try.underlying54 rfl (by kernel_rfl) ?_) | (refine wpList_store_row rfl 54 _ _ rfl _ _ rfl rfl 54 _ k2 (by kernel_rfl) rfl (rag_one _) ?_)); exact bodyPost_ret (results_ct rfl _ _ _ _ _ (0, 0) _ rfl (setRow_heap _ _ _ _ _ _ k2) Try.underlying54 rfl (by kernel_rfl)) rfl ⟨by rw [E.out]; try (simp; done), below_setRow HB.out (by omega) _⟩
  have hle : m ≤ 3600000 := by omega
  clear hgt
  by_cases hst : s.st = 2
  case pos =>
    have z2 : (s.st == 2) = true := by rw [beq_iff_eq]; omega
    have z3 : (s.st == 3) = false := by rw [beq_eq_false_iff_ne]; omega
    have z4 : (s.st == 4) = false := by rw [beq_eq_false_iff_ne]; omega
    have z5 : (s.st == 5) = false := by rw [beq_eq_false_iff_ne]; omega
    cases hcs : s.cs
    · have E := Lib.hid (show Plt.take s x = (s, false) by unfold Plt.take; rw [if_neg (by omega), if_neg (by omega), if_pos (by omega), if_neg (fun hh => by rw [hcs] at hh; cases hh.2.2), decide_eq_false (by omega)])
      have HC := Lib.hid hcs
      clear hk hmk hmn hmp hx hn hr hs hn2 hgiv hload hprog hstart hmn4 hm h4 hm0 hst hcs
      go_enter Try.func66, Try.ntmps66; go_upto_region 1 with fail; generalize hV : World.alloc _ _ = V; have k0 : RB V w.heap.size s := (by rw [← hV]; exact blk_alloc (blk_alloc (heap_new _ _) _) _); have kf : V.heap[w.heap.size + 1]? = some (.cells #[.int .i64 k, .int .i64 f, .int .i64 t, .int .i64 q, .slice A n cap] 35 (0, 0)) := (by rw [← hV]; exact blk_alloc (heap_new' _ _ _ (by simp)) _); have k2 : RB V (w.heap.size + 2) rzero := (by rw [← hV]; exact heap_new' _ _ _ (by simp)); have HB := Lib.hid (show Below w.heap.size w V from by rw [← hV]; exact (by repeat (first | (with_reducible exact Below.refl _ _) | (with_reducible refine Below.drew ?_) | (with_reducible refine below_drewN ?_ _) | ((with_reducible refine Below.alloc ?_ ?_ _); rotate_left; (first | omega | (simp <;> omega)); rotate_right) | ((with_reducible refine Below.setCell ?_ ?_ _); rotate_left; (first | omega | (simp <;> omega)); rotate_right) | (with_reducible assumption) | (refine Below.trans ?_ (Below.mono (by assumption) ?_); rotate_left; (first | omega | (simp <;> omega)); rotate_right)))); clear hV; (have cf_0 := blk_cell kf 0 rfl; have ff_0 := blk_free kf 0; have cf_1 := blk_cell kf 1 rfl; have ff_1 := blk_free kf 1; have cf_2 := blk_cell kf 2 rfl; have ff_2 := blk_free kf 2; have cf_3 := blk_cell kf 3 rfl; have ff_3 := blk_free kf 3; have cf_4 := blk_cell kf 4 rfl; have ff_4 := blk_free kf 4; have lf := lt_of_block kf); have KF := Lib.hid kf; clear kf; have c11 : V.cell? ⟨w.heap.size, 11, none⟩ = some (.int .i64 s.st) := blk_cell k0 11 rfl
      go_upto_region 3 with fail; go_wp2_with fail; refine (G.out _ HB.out).mono ?_; rintro e W1 ⟨g, o, c, rfl, hc, hb1, _⟩; have d0 := hc 0 (by omega); simp only [Nat.add_zero] at d0; rw [← HM.out] at d0; have i0 : RB W1 w.heap.size s := blk_below k0 hb1 (lt_of_block k0); have i2 : RB W1 (w.heap.size + 2) rzero := blk_below k2 hb1 (lt_of_block k2); have jf := blk_below KF.out hb1 (lt_of_block KF.out); have HB1 := Lib.hid (HB.out.trans (hb1.mono HB.out.size)); clear hc hb1 k0 k2 KF HB c11; (clear cf_0 ff_0 cf_1 ff_1 cf_2 ff_2 cf_3 ff_3 cf_4 ff_4); have k0 := i0; have k2 := i2; have KF := Lib.hid jf; have HB := HB1; (have cf_0 := blk_cell jf 0 rfl; have ff_0 := blk_free jf 0; have cf_1 := blk_cell jf 1 rfl; have ff_1 := blk_free jf 1; have cf_2 := blk_cell jf 2 rfl; have ff_2 := blk_free jf 2; have cf_3 := blk_cell jf 3 rfl; have ff_3 := blk_free jf 3; have cf_4 := blk_cell jf 4 rfl; have ff_4 := blk_free jf 4; have lf := lt_of_block jf); clear i0 i2 jf HB1
      have c8 : W1.cell? ⟨w.heap.size, 8, none⟩ = some (.bool s.cs) := blk_cell k0 8 rfl
      rw [HC.out] at c8
      have c20 : W1.cell? ⟨w.heap.size, 20, none⟩ = some (.int .i64 s.start) := blk_cell k0 20 rfl
      go_upto_region 17 with fail
      refine wp_region_held_drew (S := (fun w' => w'.heap[w.heap.size]? = some (.cells (rag s).toArray 54 (0, 0)) ∧ w'.cell? ⟨w.heap.size, 20, none⟩ = some (.int .i64 s.start))) (by kernel_rfl) ?_ (fun hHeld => ?_)
      · (try dsimp only); exact ⟨k0, c20⟩
      refine wpAnyH_take (i := 0) (v := .agg (rag s).toArray) rfl (by kernel_rfl) (by kernel_rfl) (by kernel_rfl) (fun _ _ _ h => h) (yields_load_row (by rfl) 54 _ rfl w.heap.size rfl 54 _ (0, 0) _ (fun w' h => h.1) Try.underlying54 rfl (by kernel_rfl)) (by assumption) ?_
      (try simp only [List.getElem_toArray, List.getElem_cons_succ, List.getElem_cons_zero, Act.put, List.setIfInBounds_toArray, List.set_cons_zero, List.set_cons_succ])
      refine wpAnyH_take (i := 1) (v := ?_) rfl (by kernel_rfl) (by kernel_rfl) (by kernel_rfl) (fun _ _ _ h => h) (Or.inl ⟨by rfl, ?_⟩) (by assumption) ?_
      rotate_left
      focus (intro w' hSw; (try dsimp only at hSw); go_simp; (try with_reducible rfl))
      (try simp only [List.getElem_toArray, List.getElem_cons_succ, List.getElem_cons_zero, Act.put, List.setIfInBounds_toArray, List.set_cons_zero, List.set_cons_succ])
      refine wpAnyH_take (i := 2) (v := ?_) rfl (by kernel_rfl) (by kernel_rfl) (by kernel_rfl) (fun _ _ _ h => h) (Or.inl ⟨by rfl, ?_⟩) (by assumption) ?_
      rotate_left
      focus (intro w' hSw; (try dsimp only at hSw); go_simp; (try with_reducible rfl))
      (try simp only [List.getElem_toArray, List.getElem_cons_succ, List.getElem_cons_zero, Act.put, List.setIfInBounds_toArray, List.set_cons_zero, List.set_cons_succ])
      refine wpAnyH_take (i := 3) (v := ?_) rfl (by kernel_rfl) (by kernel_rfl) (by kernel_rfl) (fun _ _ _ h => h) (Or.inl ⟨by rfl, ?_⟩) (by assumption) ?_
      rotate_left
      focus (intro w' hSw; (try dsimp only at hSw); go_simp; (try with_reducible rfl))
      (try simp only [List.getElem_toArray, List.getElem_cons_succ, List.getElem_cons_zero, Act.put, List.setIfInBounds_toArray, List.set_cons_zero, List.set_cons_succ])
      refine wpAnyH_take (i := 4) (v := ?_) rfl (by kernel_rfl) (by kernel_rfl) (by kernel_rfl) (fun _ _ _ h => h) (Or.inl ⟨by rfl, ?_⟩) (by assumption) ?_
      rotate_left
      focus (intro w' hSw; (try dsimp only at hSw); go_simp; (try with_reducible rfl))
      (try simp only [List.getElem_toArray, List.getElem_cons_succ, List.getElem_cons_zero, Act.put, List.setIfInBounds_toArray, List.set_cons_zero, List.set_cons_succ])
      refine wpAnyH_take (i := 5) (v := ?_) rfl (by kernel_rfl) (by kernel_rfl) (by kernel_rfl) (fun _ _ _ h => h) (Or.inl ⟨by rfl, ?_⟩) (by assumption) ?_
      rotate_left
      focus (intro w' hSw; (try dsimp only at hSw); go_simp; (try with_reducible rfl))
      (try simp only [List.getElem_toArray, List.getElem_cons_succ, List.getElem_cons_zero, Act.put, List.setIfInBounds_toArray, List.set_cons_zero, List.set_cons_succ])
      refine wpAnyH_take (i := 6) (v := ?_) rfl (by kernel_rfl) (by kernel_rfl) (by kernel_rfl) (fun _ _ _ h => h) (Or.inl ⟨by rfl, ?_⟩) (by assumption) ?_
      rotate_left
      focus (intro w' hSw; (try dsimp only at hSw); go_simp; (try with_reducible rfl))
      (try simp only [List.getElem_toArray, List.getElem_cons_succ, List.getElem_cons_zero, Act.put, List.setIfInBounds_toArray, List.set_cons_zero, List.set_cons_succ])
      refine wpAnyH_take (i := 7) (v := undef) rfl (by kernel_rfl) (by kernel_rfl) (by kernel_rfl) (fun _ _ _ h => h) (Or.inr ⟨by rfl, rfl⟩) (by assumption) ?_
      (try simp only [List.getElem_toArray, List.getElem_cons_succ, List.getElem_cons_zero, Act.put, List.setIfInBounds_toArray, List.set_cons_zero, List.set_cons_succ])
      refine wpAnyH_take (i := 8) (v := undef) rfl (by kernel_rfl) (by kernel_rfl) (by kernel_rfl) (fun _ _ _ h => h) (Or.inr ⟨by rfl, rfl⟩) (by assumption) ?_
      (try simp only [List.getElem_toArray, List.getElem_cons_succ, List.getElem_cons_zero, Act.put, List.setIfInBounds_toArray, List.set_cons_zero, List.set_cons_succ])
      refine wpAnyH_take (i := 9) (v := undef) rfl (by kernel_rfl) (by kernel_rfl) (by kernel_rfl) (fun _ _ _ h => h) (Or.inr ⟨by rfl, rfl⟩) (by assumption) ?_
      (try simp only [List.getElem_toArray, List.getElem_cons_succ, List.getElem_cons_zero, Act.put, List.setIfInBounds_toArray, List.set_cons_zero, List.set_cons_succ])
      refine wpAnyH_take (i := 10) (v := undef) rfl (by kernel_rfl) (by kernel_rfl) (by kernel_rfl) (fun _ _ _ h => h) (Or.inr ⟨by rfl, rfl⟩) (by assumption) ?_
      (try simp only [List.getElem_toArray, List.getElem_cons_succ, List.getElem_cons_zero, Act.put, List.setIfInBounds_toArray, List.set_cons_zero, List.set_cons_succ])
      refine wpAnyH_take (i := 11) (v := ?_) rfl (by kernel_rfl) (by kernel_rfl) (by kernel_rfl) (fun _ _ _ h => h) (Or.inl ⟨by rfl, ?_⟩) (by assumption) ?_
      rotate_left
      focus (intro w' hSw; (try dsimp only at hSw); go_simp; (try with_reducible rfl))
      (try simp only [List.getElem_toArray, List.getElem_cons_succ, List.getElem_cons_zero, Act.put, List.setIfInBounds_toArray, List.set_cons_zero, List.set_cons_succ])
      refine wpAnyH_ready (rs := [12]) (by kernel_rfl) (by simp) ?_
      refine AllReadyH.cons rfl (fun K hK => ?_) AllReadyH.nil
      refine wp_store_row 54 _ _ rfl _ _ rfl rfl 54 _ k2 (by kernel_rfl) rfl (rag_one _) ?_
      clear hHeld
      refine hK.out _ _ ?_ (fun hHeld => ?_)
      · (try dsimp only); exact ⟨(setRow_other _ _ _ _ (by omega)).trans k0, (World.cell?_of_block (setRow_other _ _ _ _ (show w.heap.size ≠ w.heap.size + 2 by omega))).trans c20⟩
      clear hK K
      (try simp only [List.getElem_toArray, List.getElem_cons_succ, List.getElem_cons_zero, Act.put, List.setIfInBounds_toArray, List.set_cons_zero, List.set_cons_succ])
      refine wpAnyH_take (i := 13) (v := ?_) rfl (by kernel_rfl) (by kernel_rfl) (by kernel_rfl) (fun _ _ _ h => h) (Or.inl ⟨by rfl, ?_⟩) (by assumption) ?_
      rotate_left
      focus (intro w' hSw; (try dsimp only at hSw); go_simp; (try with_reducible rfl))
      (try simp only [List.getElem_toArray, List.getElem_cons_succ, List.getElem_cons_zero, Act.put, List.setIfInBounds_toArray, List.set_cons_zero, List.set_cons_succ])
      refine wpAnyH_done (by kernel_rfl) ?_ _
      have HB9 := Lib.hid (show Below w.heap.size w W1.drew from HB.out.drew)
      have j2 : RB W1.drew (w.heap.size + 2) rzero := k2
      clear k0 k2 HB hHeld
      have k2 := j2
      have HB := HB9
      go_wp2_with fail
      exact bodyPost_ret (results_ct rfl _ _ _ _ _ (0, 0) _ rfl (setRow_heap _ _ _ _ _ _ k2) Try.underlying54 rfl (by kernel_rfl)) rfl ⟨by rw [E.out]; try (simp; done), below_setRow HB.out (by omega) _⟩
    · have CH := Lib.hid (rchange_any s 3)
      have HE := Lib.hid (ent_no s 3 rfl)
      have E := Lib.hid (show Plt.take s x = ({ rchg s 3 with given := true, start := m }, true) by unfold Plt.take; rw [if_neg (by omega), if_neg (by omega), if_pos (by omega), if_pos ⟨hst, by omega, hcs⟩, HE.out, hmn4])
      have HC := Lib.hid hcs
      obtain ⟨r, hrr⟩ : ∃ r, r = rchg s 3 := ⟨_, rfl⟩
      rw [← hrr] at CH E
      clear hk hmk hmn hmp hx hn hr hs hn2 hgiv hload hprog hstart hmn4 hm h4 hm0 hst hcs hrr HE
      go_enter Try.func66, Try.ntmps66; go_upto_region 1 with fail; generalize hV : World.alloc _ _ = V; have k0 : RB V w.heap.size s := (by rw [← hV]; exact blk_alloc (blk_alloc (heap_new _ _) _) _); have kf : V.heap[w.heap.size + 1]? = some (.cells #[.int .i64 k, .int .i64 f, .int .i64 t, .int .i64 q, .slice A n cap] 35 (0, 0)) := (by rw [← hV]; exact blk_alloc (heap_new' _ _ _ (by simp)) _); have k2 : RB V (w.heap.size + 2) rzero := (by rw [← hV]; exact heap_new' _ _ _ (by simp)); have HB := Lib.hid (show Below w.heap.size w V from by rw [← hV]; exact (by repeat (first | (with_reducible exact Below.refl _ _) | (with_reducible refine Below.drew ?_) | (with_reducible refine below_drewN ?_ _) | ((with_reducible refine Below.alloc ?_ ?_ _); rotate_left; (first | omega | (simp <;> omega)); rotate_right) | ((with_reducible refine Below.setCell ?_ ?_ _); rotate_left; (first | omega | (simp <;> omega)); rotate_right) | (with_reducible assumption) | (refine Below.trans ?_ (Below.mono (by assumption) ?_); rotate_left; (first | omega | (simp <;> omega)); rotate_right)))); clear hV; (have cf_0 := blk_cell kf 0 rfl; have ff_0 := blk_free kf 0; have cf_1 := blk_cell kf 1 rfl; have ff_1 := blk_free kf 1; have cf_2 := blk_cell kf 2 rfl; have ff_2 := blk_free kf 2; have cf_3 := blk_cell kf 3 rfl; have ff_3 := blk_free kf 3; have cf_4 := blk_cell kf 4 rfl; have ff_4 := blk_free kf 4; have lf := lt_of_block kf); have KF := Lib.hid kf; clear kf; have c11 : V.cell? ⟨w.heap.size, 11, none⟩ = some (.int .i64 s.st) := blk_cell k0 11 rfl
      go_upto_region 3 with fail; go_wp2_with fail; refine (G.out _ HB.out).mono ?_; rintro e W1 ⟨g, o, c, rfl, hc, hb1, _⟩; have d0 := hc 0 (by omega); simp only [Nat.add_zero] at d0; rw [← HM.out] at d0; have i0 : RB W1 w.heap.size s := blk_below k0 hb1 (lt_of_block k0); have i2 : RB W1 (w.heap.size + 2) rzero := blk_below k2 hb1 (lt_of_block k2); have jf := blk_below KF.out hb1 (lt_of_block KF.out); have HB1 := Lib.hid (HB.out.trans (hb1.mono HB.out.size)); clear hc hb1 k0 k2 KF HB c11; (clear cf_0 ff_0 cf_1 ff_1 cf_2 ff_2 cf_3 ff_3 cf_4 ff_4); have k0 := i0; have k2 := i2; have KF := Lib.hid jf; have HB := HB1; (have cf_0 := blk_cell jf 0 rfl; have ff_0 := blk_free jf 0; have cf_1 := blk_cell jf 1 rfl; have ff_1 := blk_free jf 1; have cf_2 := blk_cell jf 2 rfl; have ff_2 := blk_free jf 2; have cf_3 := blk_cell jf 3 rfl; have ff_3 := blk_free jf 3; have cf_4 := blk_cell jf 4 rfl; have ff_4 := blk_free jf 4; have lf := lt_of_block jf); clear i0 i2 jf HB1
      have c8 : W1.cell? ⟨w.heap.size, 8, none⟩ = some (.bool s.cs) := blk_cell k0 8 rfl
      rw [HC.out] at c8
      go_wp2_with (first | (refine wpList_load_row rfl 54 _ rfl _ rfl 54 _ (0, 0) _ k0 Try.underlying54 rfl (by kernel_rfl) ?_))
      clear c8
      refine (CH.out _).mono ?_
      rintro e W2 ⟨rfl, hb2⟩
      have i0 : RB W2 w.heap.size s := blk_below k0 hb2 (lt_of_block k0)
      have i2 : RB W2 (w.heap.size + 2) rzero := blk_below k2 hb2 (lt_of_block k2)
      have HB2 := Lib.hid (HB.out.trans (hb2.mono HB.out.size))
      have KF2 := Lib.hid (blk_below KF.out hb2 (lt_of_block KF.out))
      clear k0 k2 hb2 HB KF
      clear cf_0 ff_0 cf_1 ff_1 cf_2 ff_2 cf_3 ff_3 cf_4 ff_4
      have k0 := i0
      have k2 := i2
      have HB := HB2
      have KF := KF2
      clear i0 i2 HB2 KF2
      go_upto_region 15 with (refine wpList_store_row rfl 54 _ _ rfl _ _ rfl rfl 54 _ k0 (by kernel_rfl) rfl (rag_one _) ?_)
      generalize hW : World.setRow _ _ _ = W3
      have g0 : RB W3 w.heap.size r := by rw [← hW]; exact setRow_heap _ _ _ _ _ _ k0
      have g2 : RB W3 (w.heap.size + 2) rzero := by rw [← hW]; exact (setRow_other _ _ _ _ (by omega)).trans k2
      have HB3 := Lib.hid (show Below w.heap.size w W3 from by rw [← hW]; exact below_setRow HB.out (Nat.le_refl _) _)
      clear hW k0 k2 HB
      have c14 : W3.cell? ⟨w.heap.size, 14, none⟩ = some (.bool r.given) := blk_cell g0 14 rfl
      have f14 := blk_free g0 14
      have c20 : W3.cell? ⟨w.heap.size, 20, none⟩ = some (.int .i64 r.start) := blk_cell g0 20 rfl
      have f20 := blk_free g0 20
      go_upto_region 16 with fail
      generalize hW : World.setCell _ _ _ = W4
      have k0 : RB W4 w.heap.size { r with given := true, start := m } := by rw [← hW]; exact blk_set (blk_set g0 14 _) 20 _
      have k2 : RB W4 (w.heap.size + 2) rzero := by rw [← hW]; exact blk_far (blk_far g2 (by simp) _) (by simp) _
      have HB := Lib.hid (show Below w.heap.size w W4 from by rw [← hW]; have := HB3.out; exact (by repeat (first | (with_reducible exact Below.refl _ _) | (with_reducible refine Below.drew ?_) | (with_reducible refine below_drewN ?_ _) | ((with_reducible refine Below.alloc ?_ ?_ _); rotate_left; (first | omega | (simp <;> omega)); rotate_right) | ((with_reducible refine Below.setCell ?_ ?_ _); rotate_left; (first | omega | (simp <;> omega)); rotate_right) | (with_reducible assumption) | (refine Below.trans ?_ (Below.mono (by assumption) ?_); rotate_left; (first | omega | (simp <;> omega)); rotate_right))))
      clear hW g0 g2 HB3 c14 f14 c20 f20
      go_wp2_with (first | (refine wpList_load_row rfl 54 _ rfl _ rfl 54 _ (0, 0) _ k0 Try.underlying54 rfl (by kernel_rfl) ?_) | (refine wpList_store_row rfl 54 _ _ rfl _ _ rfl rfl 54 _ k2 (by kernel_rfl) rfl (rag_one _) ?_)); exact bodyPost_ret (results_ct rfl _ _ _ _ _ (0, 0) _ rfl (setRow_heap _ _ _ _ _ _ k2) Try.underlying54 rfl (by kernel_rfl)) rfl ⟨by rw [E.out]; try (simp; done), below_setRow HB.out (by omega) _⟩
  case neg =>
    have z2 : (s.st == 2) = false := by rw [beq_eq_false_iff_ne]; omega
    by_cases h35 : 3 ≤ s.st ∧ s.st ≤ 5
    case neg =>
      have z3 : (s.st == 3) = false := by rw [beq_eq_false_iff_ne]; omega
      have z4 : (s.st == 4) = false := by rw [beq_eq_false_iff_ne]; omega
      have z5 : (s.st == 5) = false := by rw [beq_eq_false_iff_ne]; omega
      have E := Lib.hid (show Plt.take s x = (s, false) by unfold Plt.take; rw [if_neg (by omega), if_neg (by omega), if_pos (by omega), if_neg (by omega), decide_eq_false (by omega)])
      clear hk hmk hmn hmp hx hn hr hs hn2 hgiv hload hprog hstart hmn4 hm h4 hm0 hst h35
      go_enter Try.func66, Try.ntmps66; go_upto_region 1 with fail; generalize hV : World.alloc _ _ = V; have k0 : RB V w.heap.size s := (by rw [← hV]; exact blk_alloc (blk_alloc (heap_new _ _) _) _); have kf : V.heap[w.heap.size + 1]? = some (.cells #[.int .i64 k, .int .i64 f, .int .i64 t, .int .i64 q, .slice A n cap] 35 (0, 0)) := (by rw [← hV]; exact blk_alloc (heap_new' _ _ _ (by simp)) _); have k2 : RB V (w.heap.size + 2) rzero := (by rw [← hV]; exact heap_new' _ _ _ (by simp)); have HB := Lib.hid (show Below w.heap.size w V from by rw [← hV]; exact (by repeat (first | (with_reducible exact Below.refl _ _) | (with_reducible refine Below.drew ?_) | (with_reducible refine below_drewN ?_ _) | ((with_reducible refine Below.alloc ?_ ?_ _); rotate_left; (first | omega | (simp <;> omega)); rotate_right) | ((with_reducible refine Below.setCell ?_ ?_ _); rotate_left; (first | omega | (simp <;> omega)); rotate_right) | (with_reducible assumption) | (refine Below.trans ?_ (Below.mono (by assumption) ?_); rotate_left; (first | omega | (simp <;> omega)); rotate_right)))); clear hV; (have cf_0 := blk_cell kf 0 rfl; have ff_0 := blk_free kf 0; have cf_1 := blk_cell kf 1 rfl; have ff_1 := blk_free kf 1; have cf_2 := blk_cell kf 2 rfl; have ff_2 := blk_free kf 2; have cf_3 := blk_cell kf 3 rfl; have ff_3 := blk_free kf 3; have cf_4 := blk_cell kf 4 rfl; have ff_4 := blk_free kf 4; have lf := lt_of_block kf); have KF := Lib.hid kf; clear kf; have c11 : V.cell? ⟨w.heap.size, 11, none⟩ = some (.int .i64 s.st) := blk_cell k0 11 rfl
      go_upto_region 3 with fail; go_wp2_with fail; refine (G.out _ HB.out).mono ?_; rintro e W1 ⟨g, o, c, rfl, hc, hb1, _⟩; have d0 := hc 0 (by omega); simp only [Nat.add_zero] at d0; rw [← HM.out] at d0; have i0 : RB W1 w.heap.size s := blk_below k0 hb1 (lt_of_block k0); have i2 : RB W1 (w.heap.size + 2) rzero := blk_below k2 hb1 (lt_of_block k2); have jf := blk_below KF.out hb1 (lt_of_block KF.out); have HB1 := Lib.hid (HB.out.trans (hb1.mono HB.out.size)); clear hc hb1 k0 k2 KF HB c11; (clear cf_0 ff_0 cf_1 ff_1 cf_2 ff_2 cf_3 ff_3 cf_4 ff_4); have k0 := i0; have k2 := i2; have KF := Lib.hid jf; have HB := HB1; (have cf_0 := blk_cell jf 0 rfl; have ff_0 := blk_free jf 0; have cf_1 := blk_cell jf 1 rfl; have ff_1 := blk_free jf 1; have cf_2 := blk_cell jf 2 rfl; have ff_2 := blk_free jf 2; have cf_3 := blk_cell jf 3 rfl; have ff_3 := blk_free jf 3; have cf_4 := blk_cell jf 4 rfl; have ff_4 := blk_free jf 4; have lf := lt_of_block jf); clear i0 i2 jf HB1
      have c20 : W1.cell? ⟨w.heap.size, 20, none⟩ = some (.int .i64 s.start) := blk_cell k0 20 rfl
      go_upto_region 17 with fail
      refine wp_region_held_drew (S := (fun w' => w'.heap[w.heap.size]? = some (.cells (rag s).toArray 54 (0, 0)) ∧ w'.cell? ⟨w.heap.size, 20, none⟩ = some (.int .i64 s.start))) (by kernel_rfl) ?_ (fun hHeld => ?_)
      · (try dsimp only); exact ⟨k0, c20⟩
      refine wpAnyH_take (i := 0) (v := .agg (rag s).toArray) rfl (by kernel_rfl) (by kernel_rfl) (by kernel_rfl) (fun _ _ _ h => h) (yields_load_row (by rfl) 54 _ rfl w.heap.size rfl 54 _ (0, 0) _ (fun w' h => h.1) Try.underlying54 rfl (by kernel_rfl)) (by assumption) ?_
      (try simp only [List.getElem_toArray, List.getElem_cons_succ, List.getElem_cons_zero, Act.put, List.setIfInBounds_toArray, List.set_cons_zero, List.set_cons_succ])
      refine wpAnyH_take (i := 1) (v := ?_) rfl (by kernel_rfl) (by kernel_rfl) (by kernel_rfl) (fun _ _ _ h => h) (Or.inl ⟨by rfl, ?_⟩) (by assumption) ?_
      rotate_left
      focus (intro w' hSw; (try dsimp only at hSw); go_simp; (try with_reducible rfl))
      (try simp only [List.getElem_toArray, List.getElem_cons_succ, List.getElem_cons_zero, Act.put, List.setIfInBounds_toArray, List.set_cons_zero, List.set_cons_succ])
      refine wpAnyH_take (i := 2) (v := ?_) rfl (by kernel_rfl) (by kernel_rfl) (by kernel_rfl) (fun _ _ _ h => h) (Or.inl ⟨by rfl, ?_⟩) (by assumption) ?_
      rotate_left
      focus (intro w' hSw; (try dsimp only at hSw); go_simp; (try with_reducible rfl))
      (try simp only [List.getElem_toArray, List.getElem_cons_succ, List.getElem_cons_zero, Act.put, List.setIfInBounds_toArray, List.set_cons_zero, List.set_cons_succ])
      refine wpAnyH_take (i := 3) (v := ?_) rfl (by kernel_rfl) (by kernel_rfl) (by kernel_rfl) (fun _ _ _ h => h) (Or.inl ⟨by rfl, ?_⟩) (by assumption) ?_
      rotate_left
      focus (intro w' hSw; (try dsimp only at hSw); go_simp; (try with_reducible rfl))
      (try simp only [List.getElem_toArray, List.getElem_cons_succ, List.getElem_cons_zero, Act.put, List.setIfInBounds_toArray, List.set_cons_zero, List.set_cons_succ])
      refine wpAnyH_take (i := 4) (v := ?_) rfl (by kernel_rfl) (by kernel_rfl) (by kernel_rfl) (fun _ _ _ h => h) (Or.inl ⟨by rfl, ?_⟩) (by assumption) ?_
      rotate_left
      focus (intro w' hSw; (try dsimp only at hSw); go_simp; (try with_reducible rfl))
      (try simp only [List.getElem_toArray, List.getElem_cons_succ, List.getElem_cons_zero, Act.put, List.setIfInBounds_toArray, List.set_cons_zero, List.set_cons_succ])
      refine wpAnyH_take (i := 5) (v := ?_) rfl (by kernel_rfl) (by kernel_rfl) (by kernel_rfl) (fun _ _ _ h => h) (Or.inl ⟨by rfl, ?_⟩) (by assumption) ?_
      rotate_left
      focus (intro w' hSw; (try dsimp only at hSw); go_simp; (try with_reducible rfl))
      (try simp only [List.getElem_toArray, List.getElem_cons_succ, List.getElem_cons_zero, Act.put, List.setIfInBounds_toArray, List.set_cons_zero, List.set_cons_succ])
      refine wpAnyH_take (i := 6) (v := ?_) rfl (by kernel_rfl) (by kernel_rfl) (by kernel_rfl) (fun _ _ _ h => h) (Or.inl ⟨by rfl, ?_⟩) (by assumption) ?_
      rotate_left
      focus (intro w' hSw; (try dsimp only at hSw); go_simp; (try with_reducible rfl))
      (try simp only [List.getElem_toArray, List.getElem_cons_succ, List.getElem_cons_zero, Act.put, List.setIfInBounds_toArray, List.set_cons_zero, List.set_cons_succ])
      refine wpAnyH_take (i := 7) (v := undef) rfl (by kernel_rfl) (by kernel_rfl) (by kernel_rfl) (fun _ _ _ h => h) (Or.inr ⟨by rfl, rfl⟩) (by assumption) ?_
      (try simp only [List.getElem_toArray, List.getElem_cons_succ, List.getElem_cons_zero, Act.put, List.setIfInBounds_toArray, List.set_cons_zero, List.set_cons_succ])
      refine wpAnyH_take (i := 8) (v := undef) rfl (by kernel_rfl) (by kernel_rfl) (by kernel_rfl) (fun _ _ _ h => h) (Or.inr ⟨by rfl, rfl⟩) (by assumption) ?_
      (try simp only [List.getElem_toArray, List.getElem_cons_succ, List.getElem_cons_zero, Act.put, List.setIfInBounds_toArray, List.set_cons_zero, List.set_cons_succ])
      refine wpAnyH_take (i := 9) (v := undef) rfl (by kernel_rfl) (by kernel_rfl) (by kernel_rfl) (fun _ _ _ h => h) (Or.inr ⟨by rfl, rfl⟩) (by assumption) ?_
      (try simp only [List.getElem_toArray, List.getElem_cons_succ, List.getElem_cons_zero, Act.put, List.setIfInBounds_toArray, List.set_cons_zero, List.set_cons_succ])
      refine wpAnyH_take (i := 10) (v := undef) rfl (by kernel_rfl) (by kernel_rfl) (by kernel_rfl) (fun _ _ _ h => h) (Or.inr ⟨by rfl, rfl⟩) (by assumption) ?_
      (try simp only [List.getElem_toArray, List.getElem_cons_succ, List.getElem_cons_zero, Act.put, List.setIfInBounds_toArray, List.set_cons_zero, List.set_cons_succ])
      refine wpAnyH_take (i := 11) (v := ?_) rfl (by kernel_rfl) (by kernel_rfl) (by kernel_rfl) (fun _ _ _ h => h) (Or.inl ⟨by rfl, ?_⟩) (by assumption) ?_
      rotate_left
      focus (intro w' hSw; (try dsimp only at hSw); go_simp; (try with_reducible rfl))
      (try simp only [List.getElem_toArray, List.getElem_cons_succ, List.getElem_cons_zero, Act.put, List.setIfInBounds_toArray, List.set_cons_zero, List.set_cons_succ])
      refine wpAnyH_ready (rs := [12]) (by kernel_rfl) (by simp) ?_
      refine AllReadyH.cons rfl (fun K hK => ?_) AllReadyH.nil
      refine wp_store_row 54 _ _ rfl _ _ rfl rfl 54 _ k2 (by kernel_rfl) rfl (rag_one _) ?_
      clear hHeld
      refine hK.out _ _ ?_ (fun hHeld => ?_)
      · (try dsimp only); exact ⟨(setRow_other _ _ _ _ (by omega)).trans k0, (World.cell?_of_block (setRow_other _ _ _ _ (show w.heap.size ≠ w.heap.size + 2 by omega))).trans c20⟩
      clear hK K
      (try simp only [List.getElem_toArray, List.getElem_cons_succ, List.getElem_cons_zero, Act.put, List.setIfInBounds_toArray, List.set_cons_zero, List.set_cons_succ])
      refine wpAnyH_take (i := 13) (v := ?_) rfl (by kernel_rfl) (by kernel_rfl) (by kernel_rfl) (fun _ _ _ h => h) (Or.inl ⟨by rfl, ?_⟩) (by assumption) ?_
      rotate_left
      focus (intro w' hSw; (try dsimp only at hSw); go_simp; (try with_reducible rfl))
      (try simp only [List.getElem_toArray, List.getElem_cons_succ, List.getElem_cons_zero, Act.put, List.setIfInBounds_toArray, List.set_cons_zero, List.set_cons_succ])
      refine wpAnyH_done (by kernel_rfl) ?_ _
      have HB9 := Lib.hid (show Below w.heap.size w W1.drew from HB.out.drew)
      have j2 : RB W1.drew (w.heap.size + 2) rzero := k2
      clear k0 k2 HB hHeld
      have k2 := j2
      have HB := HB9
      go_wp2_with fail
      exact bodyPost_ret (results_ct rfl _ _ _ _ _ (0, 0) _ rfl (setRow_heap _ _ _ _ _ _ k2) Try.underlying54 rfl (by kernel_rfl)) rfl ⟨by rw [E.out]; try (simp; done), below_setRow HB.out (by omega) _⟩
    have key : s.st = 3 ∨ s.st = 4 ∨ s.st = 5 := by omega
    by_cases h9 : m = s.start
    case pos =>
      have z9 : (m == s.start) = true := by rw [beq_iff_eq]; exact h9
      have E := Lib.hid (show Plt.take s x = (s, true) by unfold Plt.take; rw [if_neg (by omega), if_neg (by omega), if_pos (by omega), if_neg (by omega), decide_eq_true (by omega)])
      rcases key with hst2 | hst2 | hst2
      · have z3 : (s.st == 3) = true := by rw [beq_iff_eq]; omega
        have z4 : (s.st == 4) = false := by rw [beq_eq_false_iff_ne]; omega
        have z5 : (s.st == 5) = false := by rw [beq_eq_false_iff_ne]; omega
        clear hk hmk hmn hmp hx hn hr hs hn2 hgiv hload hprog hstart hmn4 hm h4 hm0 hst h35 h9 hst2
        go_enter Try.func66, Try.ntmps66; go_upto_region 1 with fail; generalize hV : World.alloc _ _ = V; have k0 : RB V w.heap.size s := (by rw [← hV]; exact blk_alloc (blk_alloc (heap_new _ _) _) _); have kf : V.heap[w.heap.size + 1]? = some (.cells #[.int .i64 k, .int .i64 f, .int .i64 t, .int .i64 q, .slice A n cap] 35 (0, 0)) := (by rw [← hV]; exact blk_alloc (heap_new' _ _ _ (by simp)) _); have k2 : RB V (w.heap.size + 2) rzero := (by rw [← hV]; exact heap_new' _ _ _ (by simp)); have HB := Lib.hid (show Below w.heap.size w V from by rw [← hV]; exact (by repeat (first | (with_reducible exact Below.refl _ _) | (with_reducible refine Below.drew ?_) | (with_reducible refine below_drewN ?_ _) | ((with_reducible refine Below.alloc ?_ ?_ _); rotate_left; (first | omega | (simp <;> omega)); rotate_right) | ((with_reducible refine Below.setCell ?_ ?_ _); rotate_left; (first | omega | (simp <;> omega)); rotate_right) | (with_reducible assumption) | (refine Below.trans ?_ (Below.mono (by assumption) ?_); rotate_left; (first | omega | (simp <;> omega)); rotate_right)))); clear hV; (have cf_0 := blk_cell kf 0 rfl; have ff_0 := blk_free kf 0; have cf_1 := blk_cell kf 1 rfl; have ff_1 := blk_free kf 1; have cf_2 := blk_cell kf 2 rfl; have ff_2 := blk_free kf 2; have cf_3 := blk_cell kf 3 rfl; have ff_3 := blk_free kf 3; have cf_4 := blk_cell kf 4 rfl; have ff_4 := blk_free kf 4; have lf := lt_of_block kf); have KF := Lib.hid kf; clear kf; have c11 : V.cell? ⟨w.heap.size, 11, none⟩ = some (.int .i64 s.st) := blk_cell k0 11 rfl
        go_upto_region 3 with fail; go_wp2_with fail; refine (G.out _ HB.out).mono ?_; rintro e W1 ⟨g, o, c, rfl, hc, hb1, _⟩; have d0 := hc 0 (by omega); simp only [Nat.add_zero] at d0; rw [← HM.out] at d0; have i0 : RB W1 w.heap.size s := blk_below k0 hb1 (lt_of_block k0); have i2 : RB W1 (w.heap.size + 2) rzero := blk_below k2 hb1 (lt_of_block k2); have jf := blk_below KF.out hb1 (lt_of_block KF.out); have HB1 := Lib.hid (HB.out.trans (hb1.mono HB.out.size)); clear hc hb1 k0 k2 KF HB c11; (clear cf_0 ff_0 cf_1 ff_1 cf_2 ff_2 cf_3 ff_3 cf_4 ff_4); have k0 := i0; have k2 := i2; have KF := Lib.hid jf; have HB := HB1; (have cf_0 := blk_cell jf 0 rfl; have ff_0 := blk_free jf 0; have cf_1 := blk_cell jf 1 rfl; have ff_1 := blk_free jf 1; have cf_2 := blk_cell jf 2 rfl; have ff_2 := blk_free jf 2; have cf_3 := blk_cell jf 3 rfl; have ff_3 := blk_free jf 3; have cf_4 := blk_cell jf 4 rfl; have ff_4 := blk_free jf 4; have lf := lt_of_block jf); clear i0 i2 jf HB1
        have c20 : W1.cell? ⟨w.heap.size, 20, none⟩ = some (.int .i64 s.start) := blk_cell k0 20 rfl
        go_upto_region 17 with fail
        refine wp_region_held_drew (S := (fun w' => w'.heap[w.heap.size]? = some (.cells (rag s).toArray 54 (0, 0)) ∧ w'.cell? ⟨w.heap.size, 20, none⟩ = some (.int .i64 s.start))) (by kernel_rfl) ?_ (fun hHeld => ?_)
        · (try dsimp only); exact ⟨k0, c20⟩
        refine wpAnyH_take (i := 0) (v := .agg (rag s).toArray) rfl (by kernel_rfl) (by kernel_rfl) (by kernel_rfl) (fun _ _ _ h => h) (yields_load_row (by rfl) 54 _ rfl w.heap.size rfl 54 _ (0, 0) _ (fun w' h => h.1) Try.underlying54 rfl (by kernel_rfl)) (by assumption) ?_
        (try simp only [List.getElem_toArray, List.getElem_cons_succ, List.getElem_cons_zero, Act.put, List.setIfInBounds_toArray, List.set_cons_zero, List.set_cons_succ])
        refine wpAnyH_take (i := 1) (v := ?_) rfl (by kernel_rfl) (by kernel_rfl) (by kernel_rfl) (fun _ _ _ h => h) (Or.inl ⟨by rfl, ?_⟩) (by assumption) ?_
        rotate_left
        focus (intro w' hSw; (try dsimp only at hSw); go_simp; (try with_reducible rfl))
        (try simp only [List.getElem_toArray, List.getElem_cons_succ, List.getElem_cons_zero, Act.put, List.setIfInBounds_toArray, List.set_cons_zero, List.set_cons_succ])
        refine wpAnyH_take (i := 2) (v := ?_) rfl (by kernel_rfl) (by kernel_rfl) (by kernel_rfl) (fun _ _ _ h => h) (Or.inl ⟨by rfl, ?_⟩) (by assumption) ?_
        rotate_left
        focus (intro w' hSw; (try dsimp only at hSw); go_simp; (try with_reducible rfl))
        (try simp only [List.getElem_toArray, List.getElem_cons_succ, List.getElem_cons_zero, Act.put, List.setIfInBounds_toArray, List.set_cons_zero, List.set_cons_succ])
        refine wpAnyH_take (i := 3) (v := ?_) rfl (by kernel_rfl) (by kernel_rfl) (by kernel_rfl) (fun _ _ _ h => h) (Or.inl ⟨by rfl, ?_⟩) (by assumption) ?_
        rotate_left
        focus (intro w' hSw; (try dsimp only at hSw); go_simp; (try with_reducible rfl))
        (try simp only [List.getElem_toArray, List.getElem_cons_succ, List.getElem_cons_zero, Act.put, List.setIfInBounds_toArray, List.set_cons_zero, List.set_cons_succ])
        refine wpAnyH_take (i := 4) (v := undef) rfl (by kernel_rfl) (by kernel_rfl) (by kernel_rfl) (fun _ _ _ h => h) (Or.inr ⟨by rfl, rfl⟩) (by assumption) ?_
        (try simp only [List.getElem_toArray, List.getElem_cons_succ, List.getElem_cons_zero, Act.put, List.setIfInBounds_toArray, List.set_cons_zero, List.set_cons_succ])
        refine wpAnyH_take (i := 5) (v := ?_) rfl (by kernel_rfl) (by kernel_rfl) (by kernel_rfl) (fun _ _ _ h => h) (Or.inl ⟨by rfl, ?_⟩) (by assumption) ?_
        rotate_left
        focus (intro w' hSw; (try dsimp only at hSw); go_simp; (try with_reducible rfl))
        (try simp only [List.getElem_toArray, List.getElem_cons_succ, List.getElem_cons_zero, Act.put, List.setIfInBounds_toArray, List.set_cons_zero, List.set_cons_succ])
        refine wpAnyH_take (i := 6) (v := ?_) rfl (by kernel_rfl) (by kernel_rfl) (by kernel_rfl) (fun _ _ _ h => h) (Or.inl ⟨by rfl, ?_⟩) (by assumption) ?_
        rotate_left
        focus (intro w' hSw; (try dsimp only at hSw); go_simp; (try with_reducible rfl))
        (try simp only [List.getElem_toArray, List.getElem_cons_succ, List.getElem_cons_zero, Act.put, List.setIfInBounds_toArray, List.set_cons_zero, List.set_cons_succ])
        refine wpAnyH_take (i := 7) (v := ?_) rfl (by kernel_rfl) (by kernel_rfl) (by kernel_rfl) (fun _ _ _ h => h) (Or.inl ⟨by rfl, ?_⟩) (by assumption) ?_
        rotate_left
        focus (intro w' hSw; (try dsimp only at hSw); go_simp; (try with_reducible rfl))
        (try simp only [List.getElem_toArray, List.getElem_cons_succ, List.getElem_cons_zero, Act.put, List.setIfInBounds_toArray, List.set_cons_zero, List.set_cons_succ])
        refine wpAnyH_take (i := 8) (v := ?_) rfl (by kernel_rfl) (by kernel_rfl) (by kernel_rfl) (fun _ _ _ h => h) (Or.inl ⟨by rfl, ?_⟩) (by assumption) ?_
        rotate_left
        focus (intro w' hSw; (try dsimp only at hSw); go_simp; (try with_reducible rfl))
        (try simp only [List.getElem_toArray, List.getElem_cons_succ, List.getElem_cons_zero, Act.put, List.setIfInBounds_toArray, List.set_cons_zero, List.set_cons_succ])
        refine wpAnyH_take (i := 9) (v := ?_) rfl (by kernel_rfl) (by kernel_rfl) (by kernel_rfl) (fun _ _ _ h => h) (Or.inl ⟨by rfl, ?_⟩) (by assumption) ?_
        rotate_left
        focus (intro w' hSw; (try dsimp only at hSw); go_simp; (try with_reducible rfl))
        (try simp only [List.getElem_toArray, List.getElem_cons_succ, List.getElem_cons_zero, Act.put, List.setIfInBounds_toArray, List.set_cons_zero, List.set_cons_succ])
        refine wpAnyH_take (i := 10) (v := ?_) rfl (by kernel_rfl) (by kernel_rfl) (by kernel_rfl) (fun _ _ _ h => h) (Or.inl ⟨by rfl, ?_⟩) (by assumption) ?_
        rotate_left
        focus (intro w' hSw; (try dsimp only at hSw); go_simp; (try with_reducible rfl))
        (try simp only [List.getElem_toArray, List.getElem_cons_succ, List.getElem_cons_zero, Act.put, List.setIfInBounds_toArray, List.set_cons_zero, List.set_cons_succ])
        refine wpAnyH_take (i := 11) (v := ?_) rfl (by kernel_rfl) (by kernel_rfl) (by kernel_rfl) (fun _ _ _ h => h) (Or.inl ⟨by rfl, ?_⟩) (by assumption) ?_
        rotate_left
        focus (intro w' hSw; (try dsimp only at hSw); go_simp; (try with_reducible rfl))
        (try simp only [List.getElem_toArray, List.getElem_cons_succ, List.getElem_cons_zero, Act.put, List.setIfInBounds_toArray, List.set_cons_zero, List.set_cons_succ])
        refine wpAnyH_ready (rs := [12]) (by kernel_rfl) (by simp) ?_
        refine AllReadyH.cons rfl (fun K hK => ?_) AllReadyH.nil
        refine wp_store_row 54 _ _ rfl _ _ rfl rfl 54 _ k2 (by kernel_rfl) rfl (rag_one _) ?_
        clear hHeld
        refine hK.out _ _ ?_ (fun hHeld => ?_)
        · (try dsimp only); exact ⟨(setRow_other _ _ _ _ (by omega)).trans k0, (World.cell?_of_block (setRow_other _ _ _ _ (show w.heap.size ≠ w.heap.size + 2 by omega))).trans c20⟩
        clear hK K
        (try simp only [List.getElem_toArray, List.getElem_cons_succ, List.getElem_cons_zero, Act.put, List.setIfInBounds_toArray, List.set_cons_zero, List.set_cons_succ])
        refine wpAnyH_take (i := 13) (v := ?_) rfl (by kernel_rfl) (by kernel_rfl) (by kernel_rfl) (fun _ _ _ h => h) (Or.inl ⟨by rfl, ?_⟩) (by assumption) ?_
        rotate_left
        focus (intro w' hSw; (try dsimp only at hSw); go_simp; (try with_reducible rfl))
        (try simp only [List.getElem_toArray, List.getElem_cons_succ, List.getElem_cons_zero, Act.put, List.setIfInBounds_toArray, List.set_cons_zero, List.set_cons_succ])
        refine wpAnyH_done (by kernel_rfl) ?_ _
        have HB9 := Lib.hid (show Below w.heap.size w W1.drew from HB.out.drew)
        have j2 : RB W1.drew (w.heap.size + 2) rzero := k2
        clear k0 k2 HB hHeld
        have k2 := j2
        have HB := HB9
        go_wp2_with fail
        exact bodyPost_ret (results_ct rfl _ _ _ _ _ (0, 0) _ rfl (setRow_heap _ _ _ _ _ _ k2) Try.underlying54 rfl (by kernel_rfl)) rfl ⟨by rw [E.out]; try (simp; done), below_setRow HB.out (by omega) _⟩
      · have z3 : (s.st == 3) = false := by rw [beq_eq_false_iff_ne]; omega
        have z4 : (s.st == 4) = true := by rw [beq_iff_eq]; omega
        have z5 : (s.st == 5) = false := by rw [beq_eq_false_iff_ne]; omega
        clear hk hmk hmn hmp hx hn hr hs hn2 hgiv hload hprog hstart hmn4 hm h4 hm0 hst h35 h9 hst2
        go_enter Try.func66, Try.ntmps66; go_upto_region 1 with fail; generalize hV : World.alloc _ _ = V; have k0 : RB V w.heap.size s := (by rw [← hV]; exact blk_alloc (blk_alloc (heap_new _ _) _) _); have kf : V.heap[w.heap.size + 1]? = some (.cells #[.int .i64 k, .int .i64 f, .int .i64 t, .int .i64 q, .slice A n cap] 35 (0, 0)) := (by rw [← hV]; exact blk_alloc (heap_new' _ _ _ (by simp)) _); have k2 : RB V (w.heap.size + 2) rzero := (by rw [← hV]; exact heap_new' _ _ _ (by simp)); have HB := Lib.hid (show Below w.heap.size w V from by rw [← hV]; exact (by repeat (first | (with_reducible exact Below.refl _ _) | (with_reducible refine Below.drew ?_) | (with_reducible refine below_drewN ?_ _) | ((with_reducible refine Below.alloc ?_ ?_ _); rotate_left; (first | omega | (simp <;> omega)); rotate_right) | ((with_reducible refine Below.setCell ?_ ?_ _); rotate_left; (first | omega | (simp <;> omega)); rotate_right) | (with_reducible assumption) | (refine Below.trans ?_ (Below.mono (by assumption) ?_); rotate_left; (first | omega | (simp <;> omega)); rotate_right)))); clear hV; (have cf_0 := blk_cell kf 0 rfl; have ff_0 := blk_free kf 0; have cf_1 := blk_cell kf 1 rfl; have ff_1 := blk_free kf 1; have cf_2 := blk_cell kf 2 rfl; have ff_2 := blk_free kf 2; have cf_3 := blk_cell kf 3 rfl; have ff_3 := blk_free kf 3; have cf_4 := blk_cell kf 4 rfl; have ff_4 := blk_free kf 4; have lf := lt_of_block kf); have KF := Lib.hid kf; clear kf; have c11 : V.cell? ⟨w.heap.size, 11, none⟩ = some (.int .i64 s.st) := blk_cell k0 11 rfl
        go_upto_region 3 with fail; go_wp2_with fail; refine (G.out _ HB.out).mono ?_; rintro e W1 ⟨g, o, c, rfl, hc, hb1, _⟩; have d0 := hc 0 (by omega); simp only [Nat.add_zero] at d0; rw [← HM.out] at d0; have i0 : RB W1 w.heap.size s := blk_below k0 hb1 (lt_of_block k0); have i2 : RB W1 (w.heap.size + 2) rzero := blk_below k2 hb1 (lt_of_block k2); have jf := blk_below KF.out hb1 (lt_of_block KF.out); have HB1 := Lib.hid (HB.out.trans (hb1.mono HB.out.size)); clear hc hb1 k0 k2 KF HB c11; (clear cf_0 ff_0 cf_1 ff_1 cf_2 ff_2 cf_3 ff_3 cf_4 ff_4); have k0 := i0; have k2 := i2; have KF := Lib.hid jf; have HB := HB1; (have cf_0 := blk_cell jf 0 rfl; have ff_0 := blk_free jf 0; have cf_1 := blk_cell jf 1 rfl; have ff_1 := blk_free jf 1; have cf_2 := blk_cell jf 2 rfl; have ff_2 := blk_free jf 2; have cf_3 := blk_cell jf 3 rfl; have ff_3 := blk_free jf 3; have cf_4 := blk_cell jf 4 rfl; have ff_4 := blk_free jf 4; have lf := lt_of_block jf); clear i0 i2 jf HB1
        have c20 : W1.cell? ⟨w.heap.size, 20, none⟩ = some (.int .i64 s.start) := blk_cell k0 20 rfl
        go_upto_region 17 with fail
        refine wp_region_held_drew (S := (fun w' => w'.heap[w.heap.size]? = some (.cells (rag s).toArray 54 (0, 0)) ∧ w'.cell? ⟨w.heap.size, 20, none⟩ = some (.int .i64 s.start))) (by kernel_rfl) ?_ (fun hHeld => ?_)
        · (try dsimp only); exact ⟨k0, c20⟩
        refine wpAnyH_take (i := 0) (v := .agg (rag s).toArray) rfl (by kernel_rfl) (by kernel_rfl) (by kernel_rfl) (fun _ _ _ h => h) (yields_load_row (by rfl) 54 _ rfl w.heap.size rfl 54 _ (0, 0) _ (fun w' h => h.1) Try.underlying54 rfl (by kernel_rfl)) (by assumption) ?_
        (try simp only [List.getElem_toArray, List.getElem_cons_succ, List.getElem_cons_zero, Act.put, List.setIfInBounds_toArray, List.set_cons_zero, List.set_cons_succ])
        refine wpAnyH_take (i := 1) (v := ?_) rfl (by kernel_rfl) (by kernel_rfl) (by kernel_rfl) (fun _ _ _ h => h) (Or.inl ⟨by rfl, ?_⟩) (by assumption) ?_
        rotate_left
        focus (intro w' hSw; (try dsimp only at hSw); go_simp; (try with_reducible rfl))
        (try simp only [List.getElem_toArray, List.getElem_cons_succ, List.getElem_cons_zero, Act.put, List.setIfInBounds_toArray, List.set_cons_zero, List.set_cons_succ])
        refine wpAnyH_take (i := 2) (v := ?_) rfl (by kernel_rfl) (by kernel_rfl) (by kernel_rfl) (fun _ _ _ h => h) (Or.inl ⟨by rfl, ?_⟩) (by assumption) ?_
        rotate_left
        focus (intro w' hSw; (try dsimp only at hSw); go_simp; (try with_reducible rfl))
        (try simp only [List.getElem_toArray, List.getElem_cons_succ, List.getElem_cons_zero, Act.put, List.setIfInBounds_toArray, List.set_cons_zero, List.set_cons_succ])
        refine wpAnyH_take (i := 3) (v := ?_) rfl (by kernel_rfl) (by kernel_rfl) (by kernel_rfl) (fun _ _ _ h => h) (Or.inl ⟨by rfl, ?_⟩) (by assumption) ?_
        rotate_left
        focus (intro w' hSw; (try dsimp only at hSw); go_simp; (try with_reducible rfl))
        (try simp only [List.getElem_toArray, List.getElem_cons_succ, List.getElem_cons_zero, Act.put, List.setIfInBounds_toArray, List.set_cons_zero, List.set_cons_succ])
        refine wpAnyH_take (i := 4) (v := ?_) rfl (by kernel_rfl) (by kernel_rfl) (by kernel_rfl) (fun _ _ _ h => h) (Or.inl ⟨by rfl, ?_⟩) (by assumption) ?_
        rotate_left
        focus (intro w' hSw; (try dsimp only at hSw); go_simp; (try with_reducible rfl))
        (try simp only [List.getElem_toArray, List.getElem_cons_succ, List.getElem_cons_zero, Act.put, List.setIfInBounds_toArray, List.set_cons_zero, List.set_cons_succ])
        refine wpAnyH_take (i := 5) (v := ?_) rfl (by kernel_rfl) (by kernel_rfl) (by kernel_rfl) (fun _ _ _ h => h) (Or.inl ⟨by rfl, ?_⟩) (by assumption) ?_
        rotate_left
        focus (intro w' hSw; (try dsimp only at hSw); go_simp; (try with_reducible rfl))
        (try simp only [List.getElem_toArray, List.getElem_cons_succ, List.getElem_cons_zero, Act.put, List.setIfInBounds_toArray, List.set_cons_zero, List.set_cons_succ])
        refine wpAnyH_take (i := 6) (v := ?_) rfl (by kernel_rfl) (by kernel_rfl) (by kernel_rfl) (fun _ _ _ h => h) (Or.inl ⟨by rfl, ?_⟩) (by assumption) ?_
        rotate_left
        focus (intro w' hSw; (try dsimp only at hSw); go_simp; (try with_reducible rfl))
        (try simp only [List.getElem_toArray, List.getElem_cons_succ, List.getElem_cons_zero, Act.put, List.setIfInBounds_toArray, List.set_cons_zero, List.set_cons_succ])
        refine wpAnyH_take (i := 7) (v := ?_) rfl (by kernel_rfl) (by kernel_rfl) (by kernel_rfl) (fun _ _ _ h => h) (Or.inl ⟨by rfl, ?_⟩) (by assumption) ?_
        rotate_left
        focus (intro w' hSw; (try dsimp only at hSw); go_simp; (try with_reducible rfl))
        (try simp only [List.getElem_toArray, List.getElem_cons_succ, List.getElem_cons_zero, Act.put, List.setIfInBounds_toArray, List.set_cons_zero, List.set_cons_succ])
        refine wpAnyH_take (i := 8) (v := ?_) rfl (by kernel_rfl) (by kernel_rfl) (by kernel_rfl) (fun _ _ _ h => h) (Or.inl ⟨by rfl, ?_⟩) (by assumption) ?_
        rotate_left
        focus (intro w' hSw; (try dsimp only at hSw); go_simp; (try with_reducible rfl))
        (try simp only [List.getElem_toArray, List.getElem_cons_succ, List.getElem_cons_zero, Act.put, List.setIfInBounds_toArray, List.set_cons_zero, List.set_cons_succ])
        refine wpAnyH_take (i := 9) (v := ?_) rfl (by kernel_rfl) (by kernel_rfl) (by kernel_rfl) (fun _ _ _ h => h) (Or.inl ⟨by rfl, ?_⟩) (by assumption) ?_
        rotate_left
        focus (intro w' hSw; (try dsimp only at hSw); go_simp; (try with_reducible rfl))
        (try simp only [List.getElem_toArray, List.getElem_cons_succ, List.getElem_cons_zero, Act.put, List.setIfInBounds_toArray, List.set_cons_zero, List.set_cons_succ])
        refine wpAnyH_take (i := 10) (v := ?_) rfl (by kernel_rfl) (by kernel_rfl) (by kernel_rfl) (fun _ _ _ h => h) (Or.inl ⟨by rfl, ?_⟩) (by assumption) ?_
        rotate_left
        focus (intro w' hSw; (try dsimp only at hSw); go_simp; (try with_reducible rfl))
        (try simp only [List.getElem_toArray, List.getElem_cons_succ, List.getElem_cons_zero, Act.put, List.setIfInBounds_toArray, List.set_cons_zero, List.set_cons_succ])
        refine wpAnyH_take (i := 11) (v := ?_) rfl (by kernel_rfl) (by kernel_rfl) (by kernel_rfl) (fun _ _ _ h => h) (Or.inl ⟨by rfl, ?_⟩) (by assumption) ?_
        rotate_left
        focus (intro w' hSw; (try dsimp only at hSw); go_simp; (try with_reducible rfl))
        (try simp only [List.getElem_toArray, List.getElem_cons_succ, List.getElem_cons_zero, Act.put, List.setIfInBounds_toArray, List.set_cons_zero, List.set_cons_succ])
        refine wpAnyH_ready (rs := [12]) (by kernel_rfl) (by simp) ?_
        refine AllReadyH.cons rfl (fun K hK => ?_) AllReadyH.nil
        refine wp_store_row 54 _ _ rfl _ _ rfl rfl 54 _ k2 (by kernel_rfl) rfl (rag_one _) ?_
        clear hHeld
        refine hK.out _ _ ?_ (fun hHeld => ?_)
        · (try dsimp only); exact ⟨(setRow_other _ _ _ _ (by omega)).trans k0, (World.cell?_of_block (setRow_other _ _ _ _ (show w.heap.size ≠ w.heap.size + 2 by omega))).trans c20⟩
        clear hK K
        (try simp only [List.getElem_toArray, List.getElem_cons_succ, List.getElem_cons_zero, Act.put, List.setIfInBounds_toArray, List.set_cons_zero, List.set_cons_succ])
        refine wpAnyH_take (i := 13) (v := ?_) rfl (by kernel_rfl) (by kernel_rfl) (by kernel_rfl) (fun _ _ _ h => h) (Or.inl ⟨by rfl, ?_⟩) (by assumption) ?_
        rotate_left
        focus (intro w' hSw; (try dsimp only at hSw); go_simp; (try with_reducible rfl))
        (try simp only [List.getElem_toArray, List.getElem_cons_succ, List.getElem_cons_zero, Act.put, List.setIfInBounds_toArray, List.set_cons_zero, List.set_cons_succ])
        refine wpAnyH_done (by kernel_rfl) ?_ _
        have HB9 := Lib.hid (show Below w.heap.size w W1.drew from HB.out.drew)
        have j2 : RB W1.drew (w.heap.size + 2) rzero := k2
        clear k0 k2 HB hHeld
        have k2 := j2
        have HB := HB9
        go_wp2_with fail
        exact bodyPost_ret (results_ct rfl _ _ _ _ _ (0, 0) _ rfl (setRow_heap _ _ _ _ _ _ k2) Try.underlying54 rfl (by kernel_rfl)) rfl ⟨by rw [E.out]; try (simp; done), below_setRow HB.out (by omega) _⟩
      · have z3 : (s.st == 3) = false := by rw [beq_eq_false_iff_ne]; omega
        have z4 : (s.st == 4) = false := by rw [beq_eq_false_iff_ne]; omega
        have z5 : (s.st == 5) = true := by rw [beq_iff_eq]; omega
        clear hk hmk hmn hmp hx hn hr hs hn2 hgiv hload hprog hstart hmn4 hm h4 hm0 hst h35 h9 hst2
        go_enter Try.func66, Try.ntmps66; go_upto_region 1 with fail; generalize hV : World.alloc _ _ = V; have k0 : RB V w.heap.size s := (by rw [← hV]; exact blk_alloc (blk_alloc (heap_new _ _) _) _); have kf : V.heap[w.heap.size + 1]? = some (.cells #[.int .i64 k, .int .i64 f, .int .i64 t, .int .i64 q, .slice A n cap] 35 (0, 0)) := (by rw [← hV]; exact blk_alloc (heap_new' _ _ _ (by simp)) _); have k2 : RB V (w.heap.size + 2) rzero := (by rw [← hV]; exact heap_new' _ _ _ (by simp)); have HB := Lib.hid (show Below w.heap.size w V from by rw [← hV]; exact (by repeat (first | (with_reducible exact Below.refl _ _) | (with_reducible refine Below.drew ?_) | (with_reducible refine below_drewN ?_ _) | ((with_reducible refine Below.alloc ?_ ?_ _); rotate_left; (first | omega | (simp <;> omega)); rotate_right) | ((with_reducible refine Below.setCell ?_ ?_ _); rotate_left; (first | omega | (simp <;> omega)); rotate_right) | (with_reducible assumption) | (refine Below.trans ?_ (Below.mono (by assumption) ?_); rotate_left; (first | omega | (simp <;> omega)); rotate_right)))); clear hV; (have cf_0 := blk_cell kf 0 rfl; have ff_0 := blk_free kf 0; have cf_1 := blk_cell kf 1 rfl; have ff_1 := blk_free kf 1; have cf_2 := blk_cell kf 2 rfl; have ff_2 := blk_free kf 2; have cf_3 := blk_cell kf 3 rfl; have ff_3 := blk_free kf 3; have cf_4 := blk_cell kf 4 rfl; have ff_4 := blk_free kf 4; have lf := lt_of_block kf); have KF := Lib.hid kf; clear kf; have c11 : V.cell? ⟨w.heap.size, 11, none⟩ = some (.int .i64 s.st) := blk_cell k0 11 rfl
        go_upto_region 3 with fail; go_wp2_with fail; refine (G.out _ HB.out).mono ?_; rintro e W1 ⟨g, o, c, rfl, hc, hb1, _⟩; have d0 := hc 0 (by omega); simp only [Nat.add_zero] at d0; rw [← HM.out] at d0; have i0 : RB W1 w.heap.size s := blk_below k0 hb1 (lt_of_block k0); have i2 : RB W1 (w.heap.size + 2) rzero := blk_below k2 hb1 (lt_of_block k2); have jf := blk_below KF.out hb1 (lt_of_block KF.out); have HB1 := Lib.hid (HB.out.trans (hb1.mono HB.out.size)); clear hc hb1 k0 k2 KF HB c11; (clear cf_0 ff_0 cf_1 ff_1 cf_2 ff_2 cf_3 ff_3 cf_4 ff_4); have k0 := i0; have k2 := i2; have KF := Lib.hid jf; have HB := HB1; (have cf_0 := blk_cell jf 0 rfl; have ff_0 := blk_free jf 0; have cf_1 := blk_cell jf 1 rfl; have ff_1 := blk_free jf 1; have cf_2 := blk_cell jf 2 rfl; have ff_2 := blk_free jf 2; have cf_3 := blk_cell jf 3 rfl; have ff_3 := blk_free jf 3; have cf_4 := blk_cell jf 4 rfl; have ff_4 := blk_free jf 4; have lf := lt_of_block jf); clear i0 i2 jf HB1
        have c20 : W1.cell? ⟨w.heap.size, 20, none⟩ = some (.int .i64 s.start) := blk_cell k0 20 rfl
        go_upto_region 17 with fail
        refine wp_region_held_drew (S := (fun w' => w'.heap[w.heap.size]? = some (.cells (rag s).toArray 54 (0, 0)) ∧ w'.cell? ⟨w.heap.size, 20, none⟩ = some (.int .i64 s.start))) (by kernel_rfl) ?_ (fun hHeld => ?_)
        · (try dsimp only); exact ⟨k0, c20⟩
        refine wpAnyH_take (i := 0) (v := .agg (rag s).toArray) rfl (by kernel_rfl) (by kernel_rfl) (by kernel_rfl) (fun _ _ _ h => h) (yields_load_row (by rfl) 54 _ rfl w.heap.size rfl 54 _ (0, 0) _ (fun w' h => h.1) Try.underlying54 rfl (by kernel_rfl)) (by assumption) ?_
        (try simp only [List.getElem_toArray, List.getElem_cons_succ, List.getElem_cons_zero, Act.put, List.setIfInBounds_toArray, List.set_cons_zero, List.set_cons_succ])
        refine wpAnyH_take (i := 1) (v := ?_) rfl (by kernel_rfl) (by kernel_rfl) (by kernel_rfl) (fun _ _ _ h => h) (Or.inl ⟨by rfl, ?_⟩) (by assumption) ?_
        rotate_left
        focus (intro w' hSw; (try dsimp only at hSw); go_simp; (try with_reducible rfl))
        (try simp only [List.getElem_toArray, List.getElem_cons_succ, List.getElem_cons_zero, Act.put, List.setIfInBounds_toArray, List.set_cons_zero, List.set_cons_succ])
        refine wpAnyH_take (i := 2) (v := ?_) rfl (by kernel_rfl) (by kernel_rfl) (by kernel_rfl) (fun _ _ _ h => h) (Or.inl ⟨by rfl, ?_⟩) (by assumption) ?_
        rotate_left
        focus (intro w' hSw; (try dsimp only at hSw); go_simp; (try with_reducible rfl))
        (try simp only [List.getElem_toArray, List.getElem_cons_succ, List.getElem_cons_zero, Act.put, List.setIfInBounds_toArray, List.set_cons_zero, List.set_cons_succ])
        refine wpAnyH_take (i := 3) (v := ?_) rfl (by kernel_rfl) (by kernel_rfl) (by kernel_rfl) (fun _ _ _ h => h) (Or.inl ⟨by rfl, ?_⟩) (by assumption) ?_
        rotate_left
        focus (intro w' hSw; (try dsimp only at hSw); go_simp; (try with_reducible rfl))
        (try simp only [List.getElem_toArray, List.getElem_cons_succ, List.getElem_cons_zero, Act.put, List.setIfInBounds_toArray, List.set_cons_zero, List.set_cons_succ])
        refine wpAnyH_take (i := 4) (v := ?_) rfl (by kernel_rfl) (by kernel_rfl) (by kernel_rfl) (fun _ _ _ h => h) (Or.inl ⟨by rfl, ?_⟩) (by assumption) ?_
        rotate_left
        focus (intro w' hSw; (try dsimp only at hSw); go_simp; (try with_reducible rfl))
        (try simp only [List.getElem_toArray, List.getElem_cons_succ, List.getElem_cons_zero, Act.put, List.setIfInBounds_toArray, List.set_cons_zero, List.set_cons_succ])
        refine wpAnyH_take (i := 5) (v := ?_) rfl (by kernel_rfl) (by kernel_rfl) (by kernel_rfl) (fun _ _ _ h => h) (Or.inl ⟨by rfl, ?_⟩) (by assumption) ?_
        rotate_left
        focus (intro w' hSw; (try dsimp only at hSw); go_simp; (try with_reducible rfl))
        (try simp only [List.getElem_toArray, List.getElem_cons_succ, List.getElem_cons_zero, Act.put, List.setIfInBounds_toArray, List.set_cons_zero, List.set_cons_succ])
        refine wpAnyH_take (i := 6) (v := ?_) rfl (by kernel_rfl) (by kernel_rfl) (by kernel_rfl) (fun _ _ _ h => h) (Or.inl ⟨by rfl, ?_⟩) (by assumption) ?_
        rotate_left
        focus (intro w' hSw; (try dsimp only at hSw); go_simp; (try with_reducible rfl))
        (try simp only [List.getElem_toArray, List.getElem_cons_succ, List.getElem_cons_zero, Act.put, List.setIfInBounds_toArray, List.set_cons_zero, List.set_cons_succ])
        refine wpAnyH_take (i := 7) (v := ?_) rfl (by kernel_rfl) (by kernel_rfl) (by kernel_rfl) (fun _ _ _ h => h) (Or.inl ⟨by rfl, ?_⟩) (by assumption) ?_
        rotate_left
        focus (intro w' hSw; (try dsimp only at hSw); go_simp; (try with_reducible rfl))
        (try simp only [List.getElem_toArray, List.getElem_cons_succ, List.getElem_cons_zero, Act.put, List.setIfInBounds_toArray, List.set_cons_zero, List.set_cons_succ])
        refine wpAnyH_take (i := 8) (v := ?_) rfl (by kernel_rfl) (by kernel_rfl) (by kernel_rfl) (fun _ _ _ h => h) (Or.inl ⟨by rfl, ?_⟩) (by assumption) ?_
        rotate_left
        focus (intro w' hSw; (try dsimp only at hSw); go_simp; (try with_reducible rfl))
        (try simp only [List.getElem_toArray, List.getElem_cons_succ, List.getElem_cons_zero, Act.put, List.setIfInBounds_toArray, List.set_cons_zero, List.set_cons_succ])
        refine wpAnyH_take (i := 9) (v := ?_) rfl (by kernel_rfl) (by kernel_rfl) (by kernel_rfl) (fun _ _ _ h => h) (Or.inl ⟨by rfl, ?_⟩) (by assumption) ?_
        rotate_left
        focus (intro w' hSw; (try dsimp only at hSw); go_simp; (try with_reducible rfl))
        (try simp only [List.getElem_toArray, List.getElem_cons_succ, List.getElem_cons_zero, Act.put, List.setIfInBounds_toArray, List.set_cons_zero, List.set_cons_succ])
        refine wpAnyH_take (i := 10) (v := ?_) rfl (by kernel_rfl) (by kernel_rfl) (by kernel_rfl) (fun _ _ _ h => h) (Or.inl ⟨by rfl, ?_⟩) (by assumption) ?_
        rotate_left
        focus (intro w' hSw; (try dsimp only at hSw); go_simp; (try with_reducible rfl))
        (try simp only [List.getElem_toArray, List.getElem_cons_succ, List.getElem_cons_zero, Act.put, List.setIfInBounds_toArray, List.set_cons_zero, List.set_cons_succ])
        refine wpAnyH_take (i := 11) (v := ?_) rfl (by kernel_rfl) (by kernel_rfl) (by kernel_rfl) (fun _ _ _ h => h) (Or.inl ⟨by rfl, ?_⟩) (by assumption) ?_
        rotate_left
        focus (intro w' hSw; (try dsimp only at hSw); go_simp; (try with_reducible rfl))
        (try simp only [List.getElem_toArray, List.getElem_cons_succ, List.getElem_cons_zero, Act.put, List.setIfInBounds_toArray, List.set_cons_zero, List.set_cons_succ])
        refine wpAnyH_ready (rs := [12]) (by kernel_rfl) (by simp) ?_
        refine AllReadyH.cons rfl (fun K hK => ?_) AllReadyH.nil
        refine wp_store_row 54 _ _ rfl _ _ rfl rfl 54 _ k2 (by kernel_rfl) rfl (rag_one _) ?_
        clear hHeld
        refine hK.out _ _ ?_ (fun hHeld => ?_)
        · (try dsimp only); exact ⟨(setRow_other _ _ _ _ (by omega)).trans k0, (World.cell?_of_block (setRow_other _ _ _ _ (show w.heap.size ≠ w.heap.size + 2 by omega))).trans c20⟩
        clear hK K
        (try simp only [List.getElem_toArray, List.getElem_cons_succ, List.getElem_cons_zero, Act.put, List.setIfInBounds_toArray, List.set_cons_zero, List.set_cons_succ])
        refine wpAnyH_take (i := 13) (v := ?_) rfl (by kernel_rfl) (by kernel_rfl) (by kernel_rfl) (fun _ _ _ h => h) (Or.inl ⟨by rfl, ?_⟩) (by assumption) ?_
        rotate_left
        focus (intro w' hSw; (try dsimp only at hSw); go_simp; (try with_reducible rfl))
        (try simp only [List.getElem_toArray, List.getElem_cons_succ, List.getElem_cons_zero, Act.put, List.setIfInBounds_toArray, List.set_cons_zero, List.set_cons_succ])
        refine wpAnyH_done (by kernel_rfl) ?_ _
        have HB9 := Lib.hid (show Below w.heap.size w W1.drew from HB.out.drew)
        have j2 : RB W1.drew (w.heap.size + 2) rzero := k2
        clear k0 k2 HB hHeld
        have k2 := j2
        have HB := HB9
        go_wp2_with fail
        exact bodyPost_ret (results_ct rfl _ _ _ _ _ (0, 0) _ rfl (setRow_heap _ _ _ _ _ _ k2) Try.underlying54 rfl (by kernel_rfl)) rfl ⟨by rw [E.out]; try (simp; done), below_setRow HB.out (by omega) _⟩
    case neg =>
      have z9 : (m == s.start) = false := by rw [beq_eq_false_iff_ne]; exact h9
      have E := Lib.hid (show Plt.take s x = (s, false) by unfold Plt.take; rw [if_neg (by omega), if_neg (by omega), if_pos (by omega), if_neg (by omega), decide_eq_false (by omega)])
      rcases key with hst2 | hst2 | hst2
      · have z3 : (s.st == 3) = true := by rw [beq_iff_eq]; omega
        have z4 : (s.st == 4) = false := by rw [beq_eq_false_iff_ne]; omega
        have z5 : (s.st == 5) = false := by rw [beq_eq_false_iff_ne]; omega
        clear hk hmk hmn hmp hx hn hr hs hn2 hgiv hload hprog hstart hmn4 hm h4 hm0 hst h35 h9 hst2
        go_enter Try.func66, Try.ntmps66; go_upto_region 1 with fail; generalize hV : World.alloc _ _ = V; have k0 : RB V w.heap.size s := (by rw [← hV]; exact blk_alloc (blk_alloc (heap_new _ _) _) _); have kf : V.heap[w.heap.size + 1]? = some (.cells #[.int .i64 k, .int .i64 f, .int .i64 t, .int .i64 q, .slice A n cap] 35 (0, 0)) := (by rw [← hV]; exact blk_alloc (heap_new' _ _ _ (by simp)) _); have k2 : RB V (w.heap.size + 2) rzero := (by rw [← hV]; exact heap_new' _ _ _ (by simp)); have HB := Lib.hid (show Below w.heap.size w V from by rw [← hV]; exact (by repeat (first | (with_reducible exact Below.refl _ _) | (with_reducible refine Below.drew ?_) | (with_reducible refine below_drewN ?_ _) | ((with_reducible refine Below.alloc ?_ ?_ _); rotate_left; (first | omega | (simp <;> omega)); rotate_right) | ((with_reducible refine Below.setCell ?_ ?_ _); rotate_left; (first | omega | (simp <;> omega)); rotate_right) | (with_reducible assumption) | (refine Below.trans ?_ (Below.mono (by assumption) ?_); rotate_left; (first | omega | (simp <;> omega)); rotate_right)))); clear hV; (have cf_0 := blk_cell kf 0 rfl; have ff_0 := blk_free kf 0; have cf_1 := blk_cell kf 1 rfl; have ff_1 := blk_free kf 1; have cf_2 := blk_cell kf 2 rfl; have ff_2 := blk_free kf 2; have cf_3 := blk_cell kf 3 rfl; have ff_3 := blk_free kf 3; have cf_4 := blk_cell kf 4 rfl; have ff_4 := blk_free kf 4; have lf := lt_of_block kf); have KF := Lib.hid kf; clear kf; have c11 : V.cell? ⟨w.heap.size, 11, none⟩ = some (.int .i64 s.st) := blk_cell k0 11 rfl
        go_upto_region 3 with fail; go_wp2_with fail; refine (G.out _ HB.out).mono ?_; rintro e W1 ⟨g, o, c, rfl, hc, hb1, _⟩; have d0 := hc 0 (by omega); simp only [Nat.add_zero] at d0; rw [← HM.out] at d0; have i0 : RB W1 w.heap.size s := blk_below k0 hb1 (lt_of_block k0); have i2 : RB W1 (w.heap.size + 2) rzero := blk_below k2 hb1 (lt_of_block k2); have jf := blk_below KF.out hb1 (lt_of_block KF.out); have HB1 := Lib.hid (HB.out.trans (hb1.mono HB.out.size)); clear hc hb1 k0 k2 KF HB c11; (clear cf_0 ff_0 cf_1 ff_1 cf_2 ff_2 cf_3 ff_3 cf_4 ff_4); have k0 := i0; have k2 := i2; have KF := Lib.hid jf; have HB := HB1; (have cf_0 := blk_cell jf 0 rfl; have ff_0 := blk_free jf 0; have cf_1 := blk_cell jf 1 rfl; have ff_1 := blk_free jf 1; have cf_2 := blk_cell jf 2 rfl; have ff_2 := blk_free jf 2; have cf_3 := blk_cell jf 3 rfl; have ff_3 := blk_free jf 3; have cf_4 := blk_cell jf 4 rfl; have ff_4 := blk_free jf 4; have lf := lt_of_block jf); clear i0 i2 jf HB1
        have c20 : W1.cell? ⟨w.heap.size, 20, none⟩ = some (.int .i64 s.start) := blk_cell k0 20 rfl
        go_upto_region 17 with fail
        refine wp_region_held_drew (S := (fun w' => w'.heap[w.heap.size]? = some (.cells (rag s).toArray 54 (0, 0)) ∧ w'.cell? ⟨w.heap.size, 20, none⟩ = some (.int .i64 s.start))) (by kernel_rfl) ?_ (fun hHeld => ?_)
        · (try dsimp only); exact ⟨k0, c20⟩
        refine wpAnyH_take (i := 0) (v := .agg (rag s).toArray) rfl (by kernel_rfl) (by kernel_rfl) (by kernel_rfl) (fun _ _ _ h => h) (yields_load_row (by rfl) 54 _ rfl w.heap.size rfl 54 _ (0, 0) _ (fun w' h => h.1) Try.underlying54 rfl (by kernel_rfl)) (by assumption) ?_
        (try simp only [List.getElem_toArray, List.getElem_cons_succ, List.getElem_cons_zero, Act.put, List.setIfInBounds_toArray, List.set_cons_zero, List.set_cons_succ])
        refine wpAnyH_take (i := 1) (v := ?_) rfl (by kernel_rfl) (by kernel_rfl) (by kernel_rfl) (fun _ _ _ h => h) (Or.inl ⟨by rfl, ?_⟩) (by assumption) ?_
        rotate_left
        focus (intro w' hSw; (try dsimp only at hSw); go_simp; (try with_reducible rfl))
        (try simp only [List.getElem_toArray, List.getElem_cons_succ, List.getElem_cons_zero, Act.put, List.setIfInBounds_toArray, List.set_cons_zero, List.set_cons_succ])
        refine wpAnyH_take (i := 2) (v := ?_) rfl (by kernel_rfl) (by kernel_rfl) (by kernel_rfl) (fun _ _ _ h => h) (Or.inl ⟨by rfl, ?_⟩) (by assumption) ?_
        rotate_left
        focus (intro w' hSw; (try dsimp only at hSw); go_simp; (try with_reducible rfl))
        (try simp only [List.getElem_toArray, List.getElem_cons_succ, List.getElem_cons_zero, Act.put, List.setIfInBounds_toArray, List.set_cons_zero, List.set_cons_succ])
        refine wpAnyH_take (i := 3) (v := ?_) rfl (by kernel_rfl) (by kernel_rfl) (by kernel_rfl) (fun _ _ _ h => h) (Or.inl ⟨by rfl, ?_⟩) (by assumption) ?_
        rotate_left
        focus (intro w' hSw; (try dsimp only at hSw); go_simp; (try with_reducible rfl))
        (try simp only [List.getElem_toArray, List.getElem_cons_succ, List.getElem_cons_zero, Act.put, List.setIfInBounds_toArray, List.set_cons_zero, List.set_cons_succ])
        refine wpAnyH_take (i := 4) (v := undef) rfl (by kernel_rfl) (by kernel_rfl) (by kernel_rfl) (fun _ _ _ h => h) (Or.inr ⟨by rfl, rfl⟩) (by assumption) ?_
        (try simp only [List.getElem_toArray, List.getElem_cons_succ, List.getElem_cons_zero, Act.put, List.setIfInBounds_toArray, List.set_cons_zero, List.set_cons_succ])
        refine wpAnyH_take (i := 5) (v := ?_) rfl (by kernel_rfl) (by kernel_rfl) (by kernel_rfl) (fun _ _ _ h => h) (Or.inl ⟨by rfl, ?_⟩) (by assumption) ?_
        rotate_left
        focus (intro w' hSw; (try dsimp only at hSw); go_simp; (try with_reducible rfl))
        (try simp only [List.getElem_toArray, List.getElem_cons_succ, List.getElem_cons_zero, Act.put, List.setIfInBounds_toArray, List.set_cons_zero, List.set_cons_succ])
        refine wpAnyH_take (i := 6) (v := ?_) rfl (by kernel_rfl) (by kernel_rfl) (by kernel_rfl) (fun _ _ _ h => h) (Or.inl ⟨by rfl, ?_⟩) (by assumption) ?_
        rotate_left
        focus (intro w' hSw; (try dsimp only at hSw); go_simp; (try with_reducible rfl))
        (try simp only [List.getElem_toArray, List.getElem_cons_succ, List.getElem_cons_zero, Act.put, List.setIfInBounds_toArray, List.set_cons_zero, List.set_cons_succ])
        refine wpAnyH_take (i := 7) (v := ?_) rfl (by kernel_rfl) (by kernel_rfl) (by kernel_rfl) (fun _ _ _ h => h) (Or.inl ⟨by rfl, ?_⟩) (by assumption) ?_
        rotate_left
        focus (intro w' hSw; (try dsimp only at hSw); go_simp; (try with_reducible rfl))
        (try simp only [List.getElem_toArray, List.getElem_cons_succ, List.getElem_cons_zero, Act.put, List.setIfInBounds_toArray, List.set_cons_zero, List.set_cons_succ])
        refine wpAnyH_take (i := 8) (v := ?_) rfl (by kernel_rfl) (by kernel_rfl) (by kernel_rfl) (fun _ _ _ h => h) (Or.inl ⟨by rfl, ?_⟩) (by assumption) ?_
        rotate_left
        focus (intro w' hSw; (try dsimp only at hSw); go_simp; (try with_reducible rfl))
        (try simp only [List.getElem_toArray, List.getElem_cons_succ, List.getElem_cons_zero, Act.put, List.setIfInBounds_toArray, List.set_cons_zero, List.set_cons_succ])
        refine wpAnyH_take (i := 9) (v := ?_) rfl (by kernel_rfl) (by kernel_rfl) (by kernel_rfl) (fun _ _ _ h => h) (Or.inl ⟨by rfl, ?_⟩) (by assumption) ?_
        rotate_left
        focus (intro w' hSw; (try dsimp only at hSw); go_simp; (try with_reducible rfl))
        (try simp only [List.getElem_toArray, List.getElem_cons_succ, List.getElem_cons_zero, Act.put, List.setIfInBounds_toArray, List.set_cons_zero, List.set_cons_succ])
        refine wpAnyH_take (i := 10) (v := ?_) rfl (by kernel_rfl) (by kernel_rfl) (by kernel_rfl) (fun _ _ _ h => h) (Or.inl ⟨by rfl, ?_⟩) (by assumption) ?_
        rotate_left
        focus (intro w' hSw; (try dsimp only at hSw); go_simp; (try with_reducible rfl))
        (try simp only [List.getElem_toArray, List.getElem_cons_succ, List.getElem_cons_zero, Act.put, List.setIfInBounds_toArray, List.set_cons_zero, List.set_cons_succ])
        refine wpAnyH_take (i := 11) (v := ?_) rfl (by kernel_rfl) (by kernel_rfl) (by kernel_rfl) (fun _ _ _ h => h) (Or.inl ⟨by rfl, ?_⟩) (by assumption) ?_
        rotate_left
        focus (intro w' hSw; (try dsimp only at hSw); go_simp; (try with_reducible rfl))
        (try simp only [List.getElem_toArray, List.getElem_cons_succ, List.getElem_cons_zero, Act.put, List.setIfInBounds_toArray, List.set_cons_zero, List.set_cons_succ])
        refine wpAnyH_ready (rs := [12]) (by kernel_rfl) (by simp) ?_
        refine AllReadyH.cons rfl (fun K hK => ?_) AllReadyH.nil
        refine wp_store_row 54 _ _ rfl _ _ rfl rfl 54 _ k2 (by kernel_rfl) rfl (rag_one _) ?_
        clear hHeld
        refine hK.out _ _ ?_ (fun hHeld => ?_)
        · (try dsimp only); exact ⟨(setRow_other _ _ _ _ (by omega)).trans k0, (World.cell?_of_block (setRow_other _ _ _ _ (show w.heap.size ≠ w.heap.size + 2 by omega))).trans c20⟩
        clear hK K
        (try simp only [List.getElem_toArray, List.getElem_cons_succ, List.getElem_cons_zero, Act.put, List.setIfInBounds_toArray, List.set_cons_zero, List.set_cons_succ])
        refine wpAnyH_take (i := 13) (v := ?_) rfl (by kernel_rfl) (by kernel_rfl) (by kernel_rfl) (fun _ _ _ h => h) (Or.inl ⟨by rfl, ?_⟩) (by assumption) ?_
        rotate_left
        focus (intro w' hSw; (try dsimp only at hSw); go_simp; (try with_reducible rfl))
        (try simp only [List.getElem_toArray, List.getElem_cons_succ, List.getElem_cons_zero, Act.put, List.setIfInBounds_toArray, List.set_cons_zero, List.set_cons_succ])
        refine wpAnyH_done (by kernel_rfl) ?_ _
        have HB9 := Lib.hid (show Below w.heap.size w W1.drew from HB.out.drew)
        have j2 : RB W1.drew (w.heap.size + 2) rzero := k2
        clear k0 k2 HB hHeld
        have k2 := j2
        have HB := HB9
        go_wp2_with fail
        exact bodyPost_ret (results_ct rfl _ _ _ _ _ (0, 0) _ rfl (setRow_heap _ _ _ _ _ _ k2) Try.underlying54 rfl (by kernel_rfl)) rfl ⟨by rw [E.out]; try (simp; done), below_setRow HB.out (by omega) _⟩
      · have z3 : (s.st == 3) = false := by rw [beq_eq_false_iff_ne]; omega
        have z4 : (s.st == 4) = true := by rw [beq_iff_eq]; omega
        have z5 : (s.st == 5) = false := by rw [beq_eq_false_iff_ne]; omega
        clear hk hmk hmn hmp hx hn hr hs hn2 hgiv hload hprog hstart hmn4 hm h4 hm0 hst h35 h9 hst2
        go_enter Try.func66, Try.ntmps66; go_upto_region 1 with fail; generalize hV : World.alloc _ _ = V; have k0 : RB V w.heap.size s := (by rw [← hV]; exact blk_alloc (blk_alloc (heap_new _ _) _) _); have kf : V.heap[w.heap.size + 1]? = some (.cells #[.int .i64 k, .int .i64 f, .int .i64 t, .int .i64 q, .slice A n cap] 35 (0, 0)) := (by rw [← hV]; exact blk_alloc (heap_new' _ _ _ (by simp)) _); have k2 : RB V (w.heap.size + 2) rzero := (by rw [← hV]; exact heap_new' _ _ _ (by simp)); have HB := Lib.hid (show Below w.heap.size w V from by rw [← hV]; exact (by repeat (first | (with_reducible exact Below.refl _ _) | (with_reducible refine Below.drew ?_) | (with_reducible refine below_drewN ?_ _) | ((with_reducible refine Below.alloc ?_ ?_ _); rotate_left; (first | omega | (simp <;> omega)); rotate_right) | ((with_reducible refine Below.setCell ?_ ?_ _); rotate_left; (first | omega | (simp <;> omega)); rotate_right) | (with_reducible assumption) | (refine Below.trans ?_ (Below.mono (by assumption) ?_); rotate_left; (first | omega | (simp <;> omega)); rotate_right)))); clear hV; (have cf_0 := blk_cell kf 0 rfl; have ff_0 := blk_free kf 0; have cf_1 := blk_cell kf 1 rfl; have ff_1 := blk_free kf 1; have cf_2 := blk_cell kf 2 rfl; have ff_2 := blk_free kf 2; have cf_3 := blk_cell kf 3 rfl; have ff_3 := blk_free kf 3; have cf_4 := blk_cell kf 4 rfl; have ff_4 := blk_free kf 4; have lf := lt_of_block kf); have KF := Lib.hid kf; clear kf; have c11 : V.cell? ⟨w.heap.size, 11, none⟩ = some (.int .i64 s.st) := blk_cell k0 11 rfl
        go_upto_region 3 with fail; go_wp2_with fail; refine (G.out _ HB.out).mono ?_; rintro e W1 ⟨g, o, c, rfl, hc, hb1, _⟩; have d0 := hc 0 (by omega); simp only [Nat.add_zero] at d0; rw [← HM.out] at d0; have i0 : RB W1 w.heap.size s := blk_below k0 hb1 (lt_of_block k0); have i2 : RB W1 (w.heap.size + 2) rzero := blk_below k2 hb1 (lt_of_block k2); have jf := blk_below KF.out hb1 (lt_of_block KF.out); have HB1 := Lib.hid (HB.out.trans (hb1.mono HB.out.size)); clear hc hb1 k0 k2 KF HB c11; (clear cf_0 ff_0 cf_1 ff_1 cf_2 ff_2 cf_3 ff_3 cf_4 ff_4); have k0 := i0; have k2 := i2; have KF := Lib.hid jf; have HB := HB1; (have cf_0 := blk_cell jf 0 rfl; have ff_0 := blk_free jf 0; have cf_1 := blk_cell jf 1 rfl; have ff_1 := blk_free jf 1; have cf_2 := blk_cell jf 2 rfl; have ff_2 := blk_free jf 2; have cf_3 := blk_cell jf 3 rfl; have ff_3 := blk_free jf 3; have cf_4 := blk_cell jf 4 rfl; have ff_4 := blk_free jf 4; have lf := lt_of_block jf); clear i0 i2 jf HB1
        have c20 : W1.cell? ⟨w.heap.size, 20, none⟩ = some (.int .i64 s.start) := blk_cell k0 20 rfl
        go_upto_region 17 with fail
        refine wp_region_held_drew (S := (fun w' => w'.heap[w.heap.size]? = some (.cells (rag s).toArray 54 (0, 0)) ∧ w'.cell? ⟨w.heap.size, 20, none⟩ = some (.int .i64 s.start))) (by kernel_rfl) ?_ (fun hHeld => ?_)
        · (try dsimp only); exact ⟨k0, c20⟩
        refine wpAnyH_take (i := 0) (v := .agg (rag s).toArray) rfl (by kernel_rfl) (by kernel_rfl) (by kernel_rfl) (fun _ _ _ h => h) (yields_load_row (by rfl) 54 _ rfl w.heap.size rfl 54 _ (0, 0) _ (fun w' h => h.1) Try.underlying54 rfl (by kernel_rfl)) (by assumption) ?_
        (try simp only [List.getElem_toArray, List.getElem_cons_succ, List.getElem_cons_zero, Act.put, List.setIfInBounds_toArray, List.set_cons_zero, List.set_cons_succ])
        refine wpAnyH_take (i := 1) (v := ?_) rfl (by kernel_rfl) (by kernel_rfl) (by kernel_rfl) (fun _ _ _ h => h) (Or.inl ⟨by rfl, ?_⟩) (by assumption) ?_
        rotate_left
        focus (intro w' hSw; (try dsimp only at hSw); go_simp; (try with_reducible rfl))
        (try simp only [List.getElem_toArray, List.getElem_cons_succ, List.getElem_cons_zero, Act.put, List.setIfInBounds_toArray, List.set_cons_zero, List.set_cons_succ])
        refine wpAnyH_take (i := 2) (v := ?_) rfl (by kernel_rfl) (by kernel_rfl) (by kernel_rfl) (fun _ _ _ h => h) (Or.inl ⟨by rfl, ?_⟩) (by assumption) ?_
        rotate_left
        focus (intro w' hSw; (try dsimp only at hSw); go_simp; (try with_reducible rfl))
        (try simp only [List.getElem_toArray, List.getElem_cons_succ, List.getElem_cons_zero, Act.put, List.setIfInBounds_toArray, List.set_cons_zero, List.set_cons_succ])
        refine wpAnyH_take (i := 3) (v := ?_) rfl (by kernel_rfl) (by kernel_rfl) (by kernel_rfl) (fun _ _ _ h => h) (Or.inl ⟨by rfl, ?_⟩) (by assumption) ?_
        rotate_left
        focus (intro w' hSw; (try dsimp only at hSw); go_simp; (try with_reducible rfl))
        (try simp only [List.getElem_toArray, List.getElem_cons_succ, List.getElem_cons_zero, Act.put, List.setIfInBounds_toArray, List.set_cons_zero, List.set_cons_succ])
        refine wpAnyH_take (i := 4) (v := ?_) rfl (by kernel_rfl) (by kernel_rfl) (by kernel_rfl) (fun _ _ _ h => h) (Or.inl ⟨by rfl, ?_⟩) (by assumption) ?_
        rotate_left
        focus (intro w' hSw; (try dsimp only at hSw); go_simp; (try with_reducible rfl))
        (try simp only [List.getElem_toArray, List.getElem_cons_succ, List.getElem_cons_zero, Act.put, List.setIfInBounds_toArray, List.set_cons_zero, List.set_cons_succ])
        refine wpAnyH_take (i := 5) (v := ?_) rfl (by kernel_rfl) (by kernel_rfl) (by kernel_rfl) (fun _ _ _ h => h) (Or.inl ⟨by rfl, ?_⟩) (by assumption) ?_
        rotate_left
        focus (intro w' hSw; (try dsimp only at hSw); go_simp; (try with_reducible rfl))
        (try simp only [List.getElem_toArray, List.getElem_cons_succ, List.getElem_cons_zero, Act.put, List.setIfInBounds_toArray, List.set_cons_zero, List.set_cons_succ])
        refine wpAnyH_take (i := 6) (v := ?_) rfl (by kernel_rfl) (by kernel_rfl) (by kernel_rfl) (fun _ _ _ h => h) (Or.inl ⟨by rfl, ?_⟩) (by assumption) ?_
        rotate_left
        focus (intro w' hSw; (try dsimp only at hSw); go_simp; (try with_reducible rfl))
        (try simp only [List.getElem_toArray, List.getElem_cons_succ, List.getElem_cons_zero, Act.put, List.setIfInBounds_toArray, List.set_cons_zero, List.set_cons_succ])
        refine wpAnyH_take (i := 7) (v := ?_) rfl (by kernel_rfl) (by kernel_rfl) (by kernel_rfl) (fun _ _ _ h => h) (Or.inl ⟨by rfl, ?_⟩) (by assumption) ?_
        rotate_left
        focus (intro w' hSw; (try dsimp only at hSw); go_simp; (try with_reducible rfl))
        (try simp only [List.getElem_toArray, List.getElem_cons_succ, List.getElem_cons_zero, Act.put, List.setIfInBounds_toArray, List.set_cons_zero, List.set_cons_succ])
        refine wpAnyH_take (i := 8) (v := ?_) rfl (by kernel_rfl) (by kernel_rfl) (by kernel_rfl) (fun _ _ _ h => h) (Or.inl ⟨by rfl, ?_⟩) (by assumption) ?_
        rotate_left
        focus (intro w' hSw; (try dsimp only at hSw); go_simp; (try with_reducible rfl))
        (try simp only [List.getElem_toArray, List.getElem_cons_succ, List.getElem_cons_zero, Act.put, List.setIfInBounds_toArray, List.set_cons_zero, List.set_cons_succ])
        refine wpAnyH_take (i := 9) (v := ?_) rfl (by kernel_rfl) (by kernel_rfl) (by kernel_rfl) (fun _ _ _ h => h) (Or.inl ⟨by rfl, ?_⟩) (by assumption) ?_
        rotate_left
        focus (intro w' hSw; (try dsimp only at hSw); go_simp; (try with_reducible rfl))
        (try simp only [List.getElem_toArray, List.getElem_cons_succ, List.getElem_cons_zero, Act.put, List.setIfInBounds_toArray, List.set_cons_zero, List.set_cons_succ])
        refine wpAnyH_take (i := 10) (v := ?_) rfl (by kernel_rfl) (by kernel_rfl) (by kernel_rfl) (fun _ _ _ h => h) (Or.inl ⟨by rfl, ?_⟩) (by assumption) ?_
        rotate_left
        focus (intro w' hSw; (try dsimp only at hSw); go_simp; (try with_reducible rfl))
        (try simp only [List.getElem_toArray, List.getElem_cons_succ, List.getElem_cons_zero, Act.put, List.setIfInBounds_toArray, List.set_cons_zero, List.set_cons_succ])
        refine wpAnyH_take (i := 11) (v := ?_) rfl (by kernel_rfl) (by kernel_rfl) (by kernel_rfl) (fun _ _ _ h => h) (Or.inl ⟨by rfl, ?_⟩) (by assumption) ?_
        rotate_left
        focus (intro w' hSw; (try dsimp only at hSw); go_simp; (try with_reducible rfl))
        (try simp only [List.getElem_toArray, List.getElem_cons_succ, List.getElem_cons_zero, Act.put, List.setIfInBounds_toArray, List.set_cons_zero, List.set_cons_succ])
        refine wpAnyH_ready (rs := [12]) (by kernel_rfl) (by simp) ?_
        refine AllReadyH.cons rfl (fun K hK => ?_) AllReadyH.nil
        refine wp_store_row 54 _ _ rfl _ _ rfl rfl 54 _ k2 (by kernel_rfl) rfl (rag_one _) ?_
        clear hHeld
        refine hK.out _ _ ?_ (fun hHeld => ?_)
        · (try dsimp only); exact ⟨(setRow_other _ _ _ _ (by omega)).trans k0, (World.cell?_of_block (setRow_other _ _ _ _ (show w.heap.size ≠ w.heap.size + 2 by omega))).trans c20⟩
        clear hK K
        (try simp only [List.getElem_toArray, List.getElem_cons_succ, List.getElem_cons_zero, Act.put, List.setIfInBounds_toArray, List.set_cons_zero, List.set_cons_succ])
        refine wpAnyH_take (i := 13) (v := ?_) rfl (by kernel_rfl) (by kernel_rfl) (by kernel_rfl) (fun _ _ _ h => h) (Or.inl ⟨by rfl, ?_⟩) (by assumption) ?_
        rotate_left
        focus (intro w' hSw; (try dsimp only at hSw); go_simp; (try with_reducible rfl))
        (try simp only [List.getElem_toArray, List.getElem_cons_succ, List.getElem_cons_zero, Act.put, List.setIfInBounds_toArray, List.set_cons_zero, List.set_cons_succ])
        refine wpAnyH_done (by kernel_rfl) ?_ _
        have HB9 := Lib.hid (show Below w.heap.size w W1.drew from HB.out.drew)
        have j2 : RB W1.drew (w.heap.size + 2) rzero := k2
        clear k0 k2 HB hHeld
        have k2 := j2
        have HB := HB9
        go_wp2_with fail
        exact bodyPost_ret (results_ct rfl _ _ _ _ _ (0, 0) _ rfl (setRow_heap _ _ _ _ _ _ k2) Try.underlying54 rfl (by kernel_rfl)) rfl ⟨by rw [E.out]; try (simp; done), below_setRow HB.out (by omega) _⟩
      · have z3 : (s.st == 3) = false := by rw [beq_eq_false_iff_ne]; omega
        have z4 : (s.st == 4) = false := by rw [beq_eq_false_iff_ne]; omega
        have z5 : (s.st == 5) = true := by rw [beq_iff_eq]; omega
        clear hk hmk hmn hmp hx hn hr hs hn2 hgiv hload hprog hstart hmn4 hm h4 hm0 hst h35 h9 hst2
        go_enter Try.func66, Try.ntmps66; go_upto_region 1 with fail; generalize hV : World.alloc _ _ = V; have k0 : RB V w.heap.size s := (by rw [← hV]; exact blk_alloc (blk_alloc (heap_new _ _) _) _); have kf : V.heap[w.heap.size + 1]? = some (.cells #[.int .i64 k, .int .i64 f, .int .i64 t, .int .i64 q, .slice A n cap] 35 (0, 0)) := (by rw [← hV]; exact blk_alloc (heap_new' _ _ _ (by simp)) _); have k2 : RB V (w.heap.size + 2) rzero := (by rw [← hV]; exact heap_new' _ _ _ (by simp)); have HB := Lib.hid (show Below w.heap.size w V from by rw [← hV]; exact (by repeat (first | (with_reducible exact Below.refl _ _) | (with_reducible refine Below.drew ?_) | (with_reducible refine below_drewN ?_ _) | ((with_reducible refine Below.alloc ?_ ?_ _); rotate_left; (first | omega | (simp <;> omega)); rotate_right) | ((with_reducible refine Below.setCell ?_ ?_ _); rotate_left; (first | omega | (simp <;> omega)); rotate_right) | (with_reducible assumption) | (refine Below.trans ?_ (Below.mono (by assumption) ?_); rotate_left; (first | omega | (simp <;> omega)); rotate_right)))); clear hV; (have cf_0 := blk_cell kf 0 rfl; have ff_0 := blk_free kf 0; have cf_1 := blk_cell kf 1 rfl; have ff_1 := blk_free kf 1; have cf_2 := blk_cell kf 2 rfl; have ff_2 := blk_free kf 2; have cf_3 := blk_cell kf 3 rfl; have ff_3 := blk_free kf 3; have cf_4 := blk_cell kf 4 rfl; have ff_4 := blk_free kf 4; have lf := lt_of_block kf); have KF := Lib.hid kf; clear kf; have c11 : V.cell? ⟨w.heap.size, 11, none⟩ = some (.int .i64 s.st) := blk_cell k0 11 rfl
        go_upto_region 3 with fail; go_wp2_with fail; refine (G.out _ HB.out).mono ?_; rintro e W1 ⟨g, o, c, rfl, hc, hb1, _⟩; have d0 := hc 0 (by omega); simp only [Nat.add_zero] at d0; rw [← HM.out] at d0; have i0 : RB W1 w.heap.size s := blk_below k0 hb1 (lt_of_block k0); have i2 : RB W1 (w.heap.size + 2) rzero := blk_below k2 hb1 (lt_of_block k2); have jf := blk_below KF.out hb1 (lt_of_block KF.out); have HB1 := Lib.hid (HB.out.trans (hb1.mono HB.out.size)); clear hc hb1 k0 k2 KF HB c11; (clear cf_0 ff_0 cf_1 ff_1 cf_2 ff_2 cf_3 ff_3 cf_4 ff_4); have k0 := i0; have k2 := i2; have KF := Lib.hid jf; have HB := HB1; (have cf_0 := blk_cell jf 0 rfl; have ff_0 := blk_free jf 0; have cf_1 := blk_cell jf 1 rfl; have ff_1 := blk_free jf 1; have cf_2 := blk_cell jf 2 rfl; have ff_2 := blk_free jf 2; have cf_3 := blk_cell jf 3 rfl; have ff_3 := blk_free jf 3; have cf_4 := blk_cell jf 4 rfl; have ff_4 := blk_free jf 4; have lf := lt_of_block jf); clear i0 i2 jf HB1
        have c20 : W1.cell? ⟨w.heap.size, 20, none⟩ = some (.int .i64 s.start) := blk_cell k0 20 rfl
        go_upto_region 17 with fail
        refine wp_region_held_drew (S := (fun w' => w'.heap[w.heap.size]? = some (.cells (rag s).toArray 54 (0, 0)) ∧ w'.cell? ⟨w.heap.size, 20, none⟩ = some (.int .i64 s.start))) (by kernel_rfl) ?_ (fun hHeld => ?_)
        · (try dsimp only); exact ⟨k0, c20⟩
        refine wpAnyH_take (i := 0) (v := .agg (rag s).toArray) rfl (by kernel_rfl) (by kernel_rfl) (by kernel_rfl) (fun _ _ _ h => h) (yields_load_row (by rfl) 54 _ rfl w.heap.size rfl 54 _ (0, 0) _ (fun w' h => h.1) Try.underlying54 rfl (by kernel_rfl)) (by assumption) ?_
        (try simp only [List.getElem_toArray, List.getElem_cons_succ, List.getElem_cons_zero, Act.put, List.setIfInBounds_toArray, List.set_cons_zero, List.set_cons_succ])
        refine wpAnyH_take (i := 1) (v := ?_) rfl (by kernel_rfl) (by kernel_rfl) (by kernel_rfl) (fun _ _ _ h => h) (Or.inl ⟨by rfl, ?_⟩) (by assumption) ?_
        rotate_left
        focus (intro w' hSw; (try dsimp only at hSw); go_simp; (try with_reducible rfl))
        (try simp only [List.getElem_toArray, List.getElem_cons_succ, List.getElem_cons_zero, Act.put, List.setIfInBounds_toArray, List.set_cons_zero, List.set_cons_succ])
        refine wpAnyH_take (i := 2) (v := ?_) rfl (by kernel_rfl) (by kernel_rfl) (by kernel_rfl) (fun _ _ _ h => h) (Or.inl ⟨by rfl, ?_⟩) (by assumption) ?_
        rotate_left
        focus (intro w' hSw; (try dsimp only at hSw); go_simp; (try with_reducible rfl))
        (try simp only [List.getElem_toArray, List.getElem_cons_succ, List.getElem_cons_zero, Act.put, List.setIfInBounds_toArray, List.set_cons_zero, List.set_cons_succ])
        refine wpAnyH_take (i := 3) (v := ?_) rfl (by kernel_rfl) (by kernel_rfl) (by kernel_rfl) (fun _ _ _ h => h) (Or.inl ⟨by rfl, ?_⟩) (by assumption) ?_
        rotate_left
        focus (intro w' hSw; (try dsimp only at hSw); go_simp; (try with_reducible rfl))
        (try simp only [List.getElem_toArray, List.getElem_cons_succ, List.getElem_cons_zero, Act.put, List.setIfInBounds_toArray, List.set_cons_zero, List.set_cons_succ])
        refine wpAnyH_take (i := 4) (v := ?_) rfl (by kernel_rfl) (by kernel_rfl) (by kernel_rfl) (fun _ _ _ h => h) (Or.inl ⟨by rfl, ?_⟩) (by assumption) ?_
        rotate_left
        focus (intro w' hSw; (try dsimp only at hSw); go_simp; (try with_reducible rfl))
        (try simp only [List.getElem_toArray, List.getElem_cons_succ, List.getElem_cons_zero, Act.put, List.setIfInBounds_toArray, List.set_cons_zero, List.set_cons_succ])
        refine wpAnyH_take (i := 5) (v := ?_) rfl (by kernel_rfl) (by kernel_rfl) (by kernel_rfl) (fun _ _ _ h => h) (Or.inl ⟨by rfl, ?_⟩) (by assumption) ?_
        rotate_left
        focus (intro w' hSw; (try dsimp only at hSw); go_simp; (try with_reducible rfl))
        (try simp only [List.getElem_toArray, List.getElem_cons_succ, List.getElem_cons_zero, Act.put, List.setIfInBounds_toArray, List.set_cons_zero, List.set_cons_succ])
        refine wpAnyH_take (i := 6) (v := ?_) rfl (by kernel_rfl) (by kernel_rfl) (by kernel_rfl) (fun _ _ _ h => h) (Or.inl ⟨by rfl, ?_⟩) (by assumption) ?_
        rotate_left
        focus (intro w' hSw; (try dsimp only at hSw); go_simp; (try with_reducible rfl))
        (try simp only [List.getElem_toArray, List.getElem_cons_succ, List.getElem_cons_zero, Act.put, List.setIfInBounds_toArray, List.set_cons_zero, List.set_cons_succ])
        refine wpAnyH_take (i := 7) (v := ?_) rfl (by kernel_rfl) (by kernel_rfl) (by kernel_rfl) (fun _ _ _ h => h) (Or.inl ⟨by rfl, ?_⟩) (by assumption) ?_
        rotate_left
        focus (intro w' hSw; (try dsimp only at hSw); go_simp; (try with_reducible rfl))
        (try simp only [List.getElem_toArray, List.getElem_cons_succ, List.getElem_cons_zero, Act.put, List.setIfInBounds_toArray, List.set_cons_zero, List.set_cons_succ])
        refine wpAnyH_take (i := 8) (v := ?_) rfl (by kernel_rfl) (by kernel_rfl) (by kernel_rfl) (fun _ _ _ h => h) (Or.inl ⟨by rfl, ?_⟩) (by assumption) ?_
        rotate_left
        focus (intro w' hSw; (try dsimp only at hSw); go_simp; (try with_reducible rfl))
        (try simp only [List.getElem_toArray, List.getElem_cons_succ, List.getElem_cons_zero, Act.put, List.setIfInBounds_toArray, List.set_cons_zero, List.set_cons_succ])
        refine wpAnyH_take (i := 9) (v := ?_) rfl (by kernel_rfl) (by kernel_rfl) (by kernel_rfl) (fun _ _ _ h => h) (Or.inl ⟨by rfl, ?_⟩) (by assumption) ?_
        rotate_left
        focus (intro w' hSw; (try dsimp only at hSw); go_simp; (try with_reducible rfl))
        (try simp only [List.getElem_toArray, List.getElem_cons_succ, List.getElem_cons_zero, Act.put, List.setIfInBounds_toArray, List.set_cons_zero, List.set_cons_succ])
        refine wpAnyH_take (i := 10) (v := ?_) rfl (by kernel_rfl) (by kernel_rfl) (by kernel_rfl) (fun _ _ _ h => h) (Or.inl ⟨by rfl, ?_⟩) (by assumption) ?_
        rotate_left
        focus (intro w' hSw; (try dsimp only at hSw); go_simp; (try with_reducible rfl))
        (try simp only [List.getElem_toArray, List.getElem_cons_succ, List.getElem_cons_zero, Act.put, List.setIfInBounds_toArray, List.set_cons_zero, List.set_cons_succ])
        refine wpAnyH_take (i := 11) (v := ?_) rfl (by kernel_rfl) (by kernel_rfl) (by kernel_rfl) (fun _ _ _ h => h) (Or.inl ⟨by rfl, ?_⟩) (by assumption) ?_
        rotate_left
        focus (intro w' hSw; (try dsimp only at hSw); go_simp; (try with_reducible rfl))
        (try simp only [List.getElem_toArray, List.getElem_cons_succ, List.getElem_cons_zero, Act.put, List.setIfInBounds_toArray, List.set_cons_zero, List.set_cons_succ])
        refine wpAnyH_ready (rs := [12]) (by kernel_rfl) (by simp) ?_
        refine AllReadyH.cons rfl (fun K hK => ?_) AllReadyH.nil
        refine wp_store_row 54 _ _ rfl _ _ rfl rfl 54 _ k2 (by kernel_rfl) rfl (rag_one _) ?_
        clear hHeld
        refine hK.out _ _ ?_ (fun hHeld => ?_)
        · (try dsimp only); exact ⟨(setRow_other _ _ _ _ (by omega)).trans k0, (World.cell?_of_block (setRow_other _ _ _ _ (show w.heap.size ≠ w.heap.size + 2 by omega))).trans c20⟩
        clear hK K
        (try simp only [List.getElem_toArray, List.getElem_cons_succ, List.getElem_cons_zero, Act.put, List.setIfInBounds_toArray, List.set_cons_zero, List.set_cons_succ])
        refine wpAnyH_take (i := 13) (v := ?_) rfl (by kernel_rfl) (by kernel_rfl) (by kernel_rfl) (fun _ _ _ h => h) (Or.inl ⟨by rfl, ?_⟩) (by assumption) ?_
        rotate_left
        focus (intro w' hSw; (try dsimp only at hSw); go_simp; (try with_reducible rfl))
        (try simp only [List.getElem_toArray, List.getElem_cons_succ, List.getElem_cons_zero, Act.put, List.setIfInBounds_toArray, List.set_cons_zero, List.set_cons_succ])
        refine wpAnyH_done (by kernel_rfl) ?_ _
        have HB9 := Lib.hid (show Below w.heap.size w W1.drew from HB.out.drew)
        have j2 : RB W1.drew (w.heap.size + 2) rzero := k2
        clear k0 k2 HB hHeld
        have k2 := j2
        have HB := HB9
        go_wp2_with fail
        exact bodyPost_ret (results_ct rfl _ _ _ _ _ (0, 0) _ rfl (setRow_heap _ _ _ _ _ _ k2) Try.underlying54 rfl (by kernel_rfl)) rfl ⟨by rw [E.out]; try (simp; done), below_setRow HB.out (by omega) _⟩
end Go.Proofs.Ytjidchaejicjaaa

/- The reference's pilot: Next, New. -/
import Derived.Test.YtjidchaejicjaaaPlN
namespace Go.Proofs.Ytjidchaejicjaaa
open Go.RowKit
set_option maxHeartbeats 4000000
set_option maxRecDepth 100000
set_option linter.unusedSimpArgs false
set_option linter.unusedVariables false
attribute [local go_sem ↓] Go.wp_at_zero Go.wp_at_succ
attribute [local go_sem high] run_mn run_mx
theorem rnext_any (s : Plt.St) (hs : Plt.Inv s) (w : World) :
    Calls Try.prog 47 #[.agg (rag s).toArray] w fun e w' => e = .returned (.tuple #[.int .i64 (hasV (Plt.next s) s.begun), .int .i64 (hasE s.begun)]) ∧ Below w.heap.size w w' := by
  cases hb : s.begun
  · have HBB := Lib.hid hb
    clear hb hs
    go_enter Try.func47, Try.ntmps47
    go_upto_region 1 with fail; generalize hV : World.alloc _ _ = V; have k0 : RB V w.heap.size s := (by rw [← hV]; exact heap_new _ _); have HB := Lib.hid (show Below w.heap.size w V from by rw [← hV]; exact (by repeat (first | (with_reducible exact Below.refl _ _) | (with_reducible refine Below.drew ?_) | (with_reducible refine below_drewN ?_ _) | ((with_reducible refine Below.alloc ?_ ?_ _); rotate_left; (first | omega | (simp <;> omega)); rotate_right) | ((with_reducible refine Below.setCell ?_ ?_ _); rotate_left; (first | omega | (simp <;> omega)); rotate_right) | (with_reducible assumption) | (refine Below.trans ?_ (Below.mono (by assumption) ?_); rotate_left; (first | omega | (simp <;> omega)); rotate_right)))); clear hV; have c12 : V.cell? ⟨w.heap.size, 12, none⟩ = some (.bool s.begun) := blk_cell k0 12 rfl
    rw [HBB.out] at c12
    clear k0
    go_wp2_with fail
    go_returns
    exact ⟨rfl, HB.out⟩
  have HBB := Lib.hid hb
  have EV := Lib.hid (fun W : World => revent_any s hs W)
  obtain ⟨m, hm⟩ : ∃ m, m = Plt.next s := ⟨_, rfl⟩
  rw [← hm]
  rw [next_eq] at hm
  obtain ⟨a, ha⟩ : ∃ a, a = (Plt.evt s).1 := ⟨_, rfl⟩
  rw [← ha] at hm EV
  have h1 := hs.rep
  have h2 := hs.every
  have wr : IntKind.i64.wrap (s.rep + s.every) = s.rep + s.every := IntWalk.i64_in _ (by omega)
  clear hb hs ha h1 h2
  by_cases hr : 0 < s.reports
  all_goals
    cases hf : (Plt.evt s).2.2
    all_goals
      rw [hf] at hm EV
      first
      | (rw [if_pos hr] at hm
         have z1 : decide (0 < s.reports) = true := decide_eq_true hr
         simp only [if_true, Bool.false_eq_true, if_false] at hm
         have hM := Lib.hid hm
         clear hf hm hr
         go_enter Try.func47, Try.ntmps47
         go_upto_region 1 with fail; generalize hV : World.alloc _ _ = V; have k0 : RB V w.heap.size s := (by rw [← hV]; exact heap_new _ _); have HB := Lib.hid (show Below w.heap.size w V from by rw [← hV]; exact (by repeat (first | (with_reducible exact Below.refl _ _) | (with_reducible refine Below.drew ?_) | (with_reducible refine below_drewN ?_ _) | ((with_reducible refine Below.alloc ?_ ?_ _); rotate_left; (first | omega | (simp <;> omega)); rotate_right) | ((with_reducible refine Below.setCell ?_ ?_ _); rotate_left; (first | omega | (simp <;> omega)); rotate_right) | (with_reducible assumption) | (refine Below.trans ?_ (Below.mono (by assumption) ?_); rotate_left; (first | omega | (simp <;> omega)); rotate_right)))); clear hV; have c12 : V.cell? ⟨w.heap.size, 12, none⟩ = some (.bool s.begun) := blk_cell k0 12 rfl
         rw [HBB.out] at c12
         have c16 : V.cell? ⟨w.heap.size, 16, none⟩ = some (.int .i64 s.now) := blk_cell k0 16 rfl; have c21 : V.cell? ⟨w.heap.size, 21, none⟩ = some (.int .i64 s.reports) := blk_cell k0 21 rfl; have c22 : V.cell? ⟨w.heap.size, 22, none⟩ = some (.int .i64 s.rep) := blk_cell k0 22 rfl; have c5 : V.cell? ⟨w.heap.size, 5, none⟩ = some (.int .i64 s.every) := blk_cell k0 5 rfl
         (go_upto_region 6 with fail); clear c16 c21 c22 c5 c12 wr z1; (go_wp2_with (first | (refine wpList_load_row rfl 54 _ rfl _ rfl 54 _ (0, 0) _ k0 Try.underlying54 rfl (by kernel_rfl) ?_))); refine (EV.out _).mono ?_; rintro e W1 ⟨rfl, hb1⟩; have i0 := blk_alloc (blk_below k0 hb1 (lt_of_block k0)) (.cells (rag rzero).toArray 54 (0, 0)); have i2 := heap_new W1 (.cells (rag rzero).toArray 54 (0, 0)); have hz1 : w.heap.size < W1.heap.size := lt_of_block (blk_below k0 hb1 (lt_of_block k0)); have HB6 := Lib.hid ((HB.out.trans (hb1.mono HB.out.size)).alloc (by omega) (.cells (rag rzero).toArray 54 (0, 0))); clear k0 HB hb1 EV; (go_upto_region 7 with (refine wpList_store_row rfl 54 _ _ rfl _ _ rfl rfl 54 _ i2 (by kernel_rfl) rfl (rag_one _) ?_)); generalize hW : World.setRow _ _ _ = W7; have q0 : RB W7 w.heap.size s := (by rw [← hW]; exact (setRow_other _ _ _ _ (by omega)).trans i0); have HB7 := Lib.hid (show Below w.heap.size w W7 by rw [← hW]; exact below_setRow HB6.out (by omega) _); clear hW i0 i2 HB6; have d16 : W7.cell? ⟨w.heap.size, 16, none⟩ = some (.int .i64 s.now) := blk_cell q0 16 rfl; clear q0
         go_wp2_with fail
         go_returns
         exact ⟨ret_pii (by show _ = hasV m true; unfold hasV; rw [hM.out]; simp only [if_true]; omega) rfl, HB7.out⟩)
      | (rw [if_neg hr] at hm
         have z1 : decide (0 < s.reports) = false := decide_eq_false hr
         simp only [if_true, Bool.false_eq_true, if_false] at hm
         have hM := Lib.hid hm
         clear hf hm hr
         go_enter Try.func47, Try.ntmps47
         go_upto_region 1 with fail; generalize hV : World.alloc _ _ = V; have k0 : RB V w.heap.size s := (by rw [← hV]; exact heap_new _ _); have HB := Lib.hid (show Below w.heap.size w V from by rw [← hV]; exact (by repeat (first | (with_reducible exact Below.refl _ _) | (with_reducible refine Below.drew ?_) | (with_reducible refine below_drewN ?_ _) | ((with_reducible refine Below.alloc ?_ ?_ _); rotate_left; (first | omega | (simp <;> omega)); rotate_right) | ((with_reducible refine Below.setCell ?_ ?_ _); rotate_left; (first | omega | (simp <;> omega)); rotate_right) | (with_reducible assumption) | (refine Below.trans ?_ (Below.mono (by assumption) ?_); rotate_left; (first | omega | (simp <;> omega)); rotate_right)))); clear hV; have c12 : V.cell? ⟨w.heap.size, 12, none⟩ = some (.bool s.begun) := blk_cell k0 12 rfl
         rw [HBB.out] at c12
         have c16 : V.cell? ⟨w.heap.size, 16, none⟩ = some (.int .i64 s.now) := blk_cell k0 16 rfl; have c21 : V.cell? ⟨w.heap.size, 21, none⟩ = some (.int .i64 s.reports) := blk_cell k0 21 rfl; have c22 : V.cell? ⟨w.heap.size, 22, none⟩ = some (.int .i64 s.rep) := blk_cell k0 22 rfl; have c5 : V.cell? ⟨w.heap.size, 5, none⟩ = some (.int .i64 s.every) := blk_cell k0 5 rfl
         (go_upto_region 6 with fail); clear c16 c21 c22 c5 c12 wr z1; (go_wp2_with (first | (refine wpList_load_row rfl 54 _ rfl _ rfl 54 _ (0, 0) _ k0 Try.underlying54 rfl (by kernel_rfl) ?_))); refine (EV.out _).mono ?_; rintro e W1 ⟨rfl, hb1⟩; have i0 := blk_alloc (blk_below k0 hb1 (lt_of_block k0)) (.cells (rag rzero).toArray 54 (0, 0)); have i2 := heap_new W1 (.cells (rag rzero).toArray 54 (0, 0)); have hz1 : w.heap.size < W1.heap.size := lt_of_block (blk_below k0 hb1 (lt_of_block k0)); have HB6 := Lib.hid ((HB.out.trans (hb1.mono HB.out.size)).alloc (by omega) (.cells (rag rzero).toArray 54 (0, 0))); clear k0 HB hb1 EV; (go_upto_region 7 with (refine wpList_store_row rfl 54 _ _ rfl _ _ rfl rfl 54 _ i2 (by kernel_rfl) rfl (rag_one _) ?_)); generalize hW : World.setRow _ _ _ = W7; have q0 : RB W7 w.heap.size s := (by rw [← hW]; exact (setRow_other _ _ _ _ (by omega)).trans i0); have HB7 := Lib.hid (show Below w.heap.size w W7 by rw [← hW]; exact below_setRow HB6.out (by omega) _); clear hW i0 i2 HB6; have d16 : W7.cell? ⟨w.heap.size, 16, none⟩ = some (.int .i64 s.now) := blk_cell q0 16 rfl; clear q0
         go_wp2_with fail
         go_returns
         exact ⟨ret_pii (by show _ = hasV m true; unfold hasV; rw [hM.out]; simp only [if_true]; omega) rfl, HB7.out⟩)
end Go.Proofs.Ytjidchaejicjaaa

/- New of the reference; made. -/
import Derived.Test.YtjidchaejicjaaaPlX
import Derived.Test.YtjidchaejicjaaaCkD
namespace Go.Proofs.Ytjidchaejicjaaa
open Go.RowKit
set_option maxHeartbeats 4000000
set_option maxRecDepth 100000
set_option linter.unusedSimpArgs false
set_option linter.unusedVariables false
attribute [local go_sem ↓] Go.wp_at_zero Go.wp_at_succ
def rnz : Plt.St := rzero
theorem rpnew_no (id lost ret desc late every d : Int) (w : World) (h : Plt.newE id lost ret desc late every d ≠ 0) :
    Calls Try.prog 41 #[.int .i64 id, .agg #[.int .i64 lost, .int .i64 ret, .int .i64 desc, .int .i64 late, .int .i64 every], .int .i64 d] w fun e w' => e = .returned (.tuple #[.agg (rag rzero).toArray, .int .i64 2]) ∧ Below w.heap.size w w' := by
  have CN : Hid (∀ W : World, ∃ xd xe : Int, (xe = 0 ↔ (0 ≤ d ∧ d ≤ 100000)) ∧ Calls Try.prog 62 #[.int .i64 d] W fun e w' => e = .returned (.tuple #[.agg #[.int .i64 xd, .int .i64 0, .bool false, .int .i64 0, .int .i64 0], .int .i64 xe]) ∧ Below W.heap.size W w') := Lib.hid (fun W => by
    by_cases hd : 0 ≤ d ∧ d ≤ 100000
    · exact ⟨d, 0, by simp [hd], Ck.rNew_yes d W hd⟩
    · exact ⟨0, 2, by simp [hd], Ck.rNew_no d W hd⟩)
  by_cases hi : 1 ≤ id ∧ id ≤ 64
  case neg =>
    have WI := Lib.hid (fun W : World => rto_no id 1 64 W hi)
    clear h hi
    go_enter Try.func41, Try.ntmps41; go_upto_region 1 with fail; generalize hV : World.alloc _ _ = V; have kr : V.heap[w.heap.size]? = some (.cells #[.int .i64 lost, .int .i64 ret, .int .i64 desc, .int .i64 late, .int .i64 every] 23 (0, 0)) := (by rw [← hV]; exact blk_alloc (heap_new _ _) _); have k2 : RB V (w.heap.size + 1) rzero := (by rw [← hV]; exact heap_new' _ _ _ (by simp)); have HB := Lib.hid (show Below w.heap.size w V from by rw [← hV]; exact (by repeat (first | (with_reducible exact Below.refl _ _) | (with_reducible refine Below.drew ?_) | (with_reducible refine below_drewN ?_ _) | ((with_reducible refine Below.alloc ?_ ?_ _); rotate_left; (first | omega | (simp <;> omega)); rotate_right) | ((with_reducible refine Below.setCell ?_ ?_ _); rotate_left; (first | omega | (simp <;> omega)); rotate_right) | (with_reducible assumption) | (refine Below.trans ?_ (Below.mono (by assumption) ?_); rotate_left; (first | omega | (simp <;> omega)); rotate_right)))); clear hV
    obtain ⟨xd, xe, hx, cn⟩ := CN.out V
    have hx' := Lib.hid hx
    clear hx
    go_wp2_with fail
    refine cn.mono ?_
    rintro e W1 ⟨rfl, hb1⟩
    have hz1 : w.heap.size + 1 < W1.heap.size := lt_of_block (blk_below k2 hb1 (lt_of_block k2)); (go_upto_region 2 with fail); generalize hV : World.alloc _ _ = V1; have jr : V1.heap[w.heap.size]? = some (.cells #[.int .i64 lost, .int .i64 ret, .int .i64 desc, .int .i64 late, .int .i64 every] 23 (0, 0)) := (by rw [← hV]; exact blk_alloc (blk_below kr hb1 (lt_of_block kr)) _); have j2 : RB V1 (w.heap.size + 1) rzero := (by rw [← hV]; exact blk_alloc (blk_below k2 hb1 (lt_of_block k2)) _); have jc : V1.heap[W1.heap.size]? = some (.cells #[.int .i64 xd, .int .i64 0, .bool false, .int .i64 0, .int .i64 0] 52 (0, 0)) := (by rw [← hV]; exact heap_new _ _); have HB1 := Lib.hid (show Below w.heap.size w V1 by rw [← hV]; exact (HB.out.trans (hb1.mono HB.out.size)).alloc (by omega) _); clear hV kr k2 HB hb1; (have cf_0 := blk_cell jr 0 rfl; have ff_0 := blk_free jr 0; have cf_1 := blk_cell jr 1 rfl; have ff_1 := blk_free jr 1; have cf_2 := blk_cell jr 2 rfl; have ff_2 := blk_free jr 2; have cf_3 := blk_cell jr 3 rfl; have ff_3 := blk_free jr 3; have cf_4 := blk_cell jr 4 rfl; have ff_4 := blk_free jr 4; have lf := lt_of_block jr); have JR := Lib.hid jr; have JC := Lib.hid jc; clear jr jc; go_wp2_with fail
    refine (WI.out _).mono ?_
    rintro e w' ⟨rfl, rfl⟩
    go_wp2_with (refine wpList_store_row rfl 54 _ _ rfl _ _ rfl rfl 54 _ j2 (by kernel_rfl) rfl (rag_one rzero) ?_)
    exact bodyPost_ret (results_ct rfl _ _ _ _ _ (0, 0) _ rfl (setRow_heap _ _ _ _ _ _ j2) Try.underlying54 rfl (by kernel_rfl)) rfl ⟨rfl, below_setRow HB1.out (by omega) _⟩
  have WI := Lib.hid (fun W : World => rto_yes id 1 64 W hi)
  cases hr : Plt.ruOk lost ret desc late every
  · have VA := Lib.hid (fun W : World => by have := rpvalid_any lost ret desc late every W; rw [hr] at this; exact this)
    clear h hi hr
    go_enter Try.func41, Try.ntmps41; go_upto_region 1 with fail; generalize hV : World.alloc _ _ = V; have kr : V.heap[w.heap.size]? = some (.cells #[.int .i64 lost, .int .i64 ret, .int .i64 desc, .int .i64 late, .int .i64 every] 23 (0, 0)) := (by rw [← hV]; exact blk_alloc (heap_new _ _) _); have k2 : RB V (w.heap.size + 1) rzero := (by rw [← hV]; exact heap_new' _ _ _ (by simp)); have HB := Lib.hid (show Below w.heap.size w V from by rw [← hV]; exact (by repeat (first | (with_reducible exact Below.refl _ _) | (with_reducible refine Below.drew ?_) | (with_reducible refine below_drewN ?_ _) | ((with_reducible refine Below.alloc ?_ ?_ _); rotate_left; (first | omega | (simp <;> omega)); rotate_right) | ((with_reducible refine Below.setCell ?_ ?_ _); rotate_left; (first | omega | (simp <;> omega)); rotate_right) | (with_reducible assumption) | (refine Below.trans ?_ (Below.mono (by assumption) ?_); rotate_left; (first | omega | (simp <;> omega)); rotate_right)))); clear hV
    obtain ⟨xd, xe, hx, cn⟩ := CN.out V
    have hx' := Lib.hid hx
    clear hx
    go_wp2_with fail
    refine cn.mono ?_
    rintro e W1 ⟨rfl, hb1⟩
    have hz1 : w.heap.size + 1 < W1.heap.size := lt_of_block (blk_below k2 hb1 (lt_of_block k2)); (go_upto_region 2 with fail); generalize hV : World.alloc _ _ = V1; have jr : V1.heap[w.heap.size]? = some (.cells #[.int .i64 lost, .int .i64 ret, .int .i64 desc, .int .i64 late, .int .i64 every] 23 (0, 0)) := (by rw [← hV]; exact blk_alloc (blk_below kr hb1 (lt_of_block kr)) _); have j2 : RB V1 (w.heap.size + 1) rzero := (by rw [← hV]; exact blk_alloc (blk_below k2 hb1 (lt_of_block k2)) _); have jc : V1.heap[W1.heap.size]? = some (.cells #[.int .i64 xd, .int .i64 0, .bool false, .int .i64 0, .int .i64 0] 52 (0, 0)) := (by rw [← hV]; exact heap_new _ _); have HB1 := Lib.hid (show Below w.heap.size w V1 by rw [← hV]; exact (HB.out.trans (hb1.mono HB.out.size)).alloc (by omega) _); clear hV kr k2 HB hb1; (have cf_0 := blk_cell jr 0 rfl; have ff_0 := blk_free jr 0; have cf_1 := blk_cell jr 1 rfl; have ff_1 := blk_free jr 1; have cf_2 := blk_cell jr 2 rfl; have ff_2 := blk_free jr 2; have cf_3 := blk_cell jr 3 rfl; have ff_3 := blk_free jr 3; have cf_4 := blk_cell jr 4 rfl; have ff_4 := blk_free jr 4; have lf := lt_of_block jr); have JR := Lib.hid jr; have JC := Lib.hid jc; clear jr jc; go_wp2_with fail
    refine (WI.out _).mono ?_
    rintro e w' ⟨rfl, rfl⟩
    go_wp2_with fail
    refine (VA.out _).mono ?_
    rintro e W2 ⟨rfl, hb2⟩
    have i2 := blk_below j2 hb2 (lt_of_block j2)
    have HB2 := Lib.hid (HB1.out.trans (hb2.mono HB1.out.size))
    clear hb2
    go_wp2_with (refine wpList_store_row rfl 54 _ _ rfl _ _ rfl rfl 54 _ i2 (by kernel_rfl) rfl (rag_one rzero) ?_)
    exact bodyPost_ret (results_ct rfl _ _ _ _ _ (0, 0) _ rfl (setRow_heap _ _ _ _ _ _ i2) Try.underlying54 rfl (by kernel_rfl)) rfl ⟨rfl, below_setRow HB2.out (by omega) _⟩
  · have VA := Lib.hid (fun W : World => by have := rpvalid_any lost ret desc late every W; rw [hr] at this; exact this)
    have hd : ¬ (0 ≤ d ∧ d ≤ 100000) := fun hd => h (by unfold Plt.newE; rw [if_pos ⟨inB_yes hi, hr, hd⟩])
    have CM := Lib.hid (fun W : World => Ck.rNew_no d W hd)
    clear h hi hr hd CN
    go_enter Try.func41, Try.ntmps41; go_upto_region 1 with fail; generalize hV : World.alloc _ _ = V; have kr : V.heap[w.heap.size]? = some (.cells #[.int .i64 lost, .int .i64 ret, .int .i64 desc, .int .i64 late, .int .i64 every] 23 (0, 0)) := (by rw [← hV]; exact blk_alloc (heap_new _ _) _); have k2 : RB V (w.heap.size + 1) rzero := (by rw [← hV]; exact heap_new' _ _ _ (by simp)); have HB := Lib.hid (show Below w.heap.size w V from by rw [← hV]; exact (by repeat (first | (with_reducible exact Below.refl _ _) | (with_reducible refine Below.drew ?_) | (with_reducible refine below_drewN ?_ _) | ((with_reducible refine Below.alloc ?_ ?_ _); rotate_left; (first | omega | (simp <;> omega)); rotate_right) | ((with_reducible refine Below.setCell ?_ ?_ _); rotate_left; (first | omega | (simp <;> omega)); rotate_right) | (with_reducible assumption) | (refine Below.trans ?_ (Below.mono (by assumption) ?_); rotate_left; (first | omega | (simp <;> omega)); rotate_right)))); clear hV
    go_wp2_with fail
    refine (CM.out _).mono ?_
    rintro e W1 ⟨rfl, hb1⟩
    have hz1 : w.heap.size + 1 < W1.heap.size := lt_of_block (blk_below k2 hb1 (lt_of_block k2)); (go_upto_region 2 with fail); generalize hV : World.alloc _ _ = V1; have jr : V1.heap[w.heap.size]? = some (.cells #[.int .i64 lost, .int .i64 ret, .int .i64 desc, .int .i64 late, .int .i64 every] 23 (0, 0)) := (by rw [← hV]; exact blk_alloc (blk_below kr hb1 (lt_of_block kr)) _); have j2 : RB V1 (w.heap.size + 1) rzero := (by rw [← hV]; exact blk_alloc (blk_below k2 hb1 (lt_of_block k2)) _); have jc : V1.heap[W1.heap.size]? = some (.cells #[.int .i64 0, .int .i64 0, .bool false, .int .i64 0, .int .i64 0] 52 (0, 0)) := (by rw [← hV]; exact heap_new _ _); have HB1 := Lib.hid (show Below w.heap.size w V1 by rw [← hV]; exact (HB.out.trans (hb1.mono HB.out.size)).alloc (by omega) _); clear hV kr k2 HB hb1; (have cf_0 := blk_cell jr 0 rfl; have ff_0 := blk_free jr 0; have cf_1 := blk_cell jr 1 rfl; have ff_1 := blk_free jr 1; have cf_2 := blk_cell jr 2 rfl; have ff_2 := blk_free jr 2; have cf_3 := blk_cell jr 3 rfl; have ff_3 := blk_free jr 3; have cf_4 := blk_cell jr 4 rfl; have ff_4 := blk_free jr 4; have lf := lt_of_block jr); have JR := Lib.hid jr; have JC := Lib.hid jc; clear jr jc; go_wp2_with fail
    refine (WI.out _).mono ?_
    rintro e w' ⟨rfl, rfl⟩
    go_wp2_with fail
    refine (VA.out _).mono ?_
    rintro e W2 ⟨rfl, hb2⟩
    have i2 := blk_below j2 hb2 (lt_of_block j2)
    have HB2 := Lib.hid (HB1.out.trans (hb2.mono HB1.out.size))
    clear hb2
    go_wp2_with (refine wpList_store_row rfl 54 _ _ rfl _ _ rfl rfl 54 _ i2 (by kernel_rfl) rfl (rag_one rzero) ?_)
    exact bodyPost_ret (results_ct rfl _ _ _ _ _ (0, 0) _ rfl (setRow_heap _ _ _ _ _ _ i2) Try.underlying54 rfl (by kernel_rfl)) rfl ⟨rfl, below_setRow HB2.out (by omega) _⟩
theorem rpnew_yes (id lost ret desc late every d : Int) (w : World) (h : Plt.newE id lost ret desc late every d = 0) :
    Calls Try.prog 41 #[.int .i64 id, .agg #[.int .i64 lost, .int .i64 ret, .int .i64 desc, .int .i64 late, .int .i64 every], .int .i64 d] w fun e w' => e = .returned (.tuple #[.agg (rag (Plt.new id lost ret desc late every d)).toArray, .int .i64 0]) ∧ Below w.heap.size w w' := by
  have hh : Ck.Clk.inB id 1 64 = true ∧ Plt.ruOk lost ret desc late every = true ∧ (0 ≤ d ∧ d ≤ 100000) := by
    unfold Plt.newE at h
    split at h
    · assumption
    · omega
  obtain ⟨hi, hr, hd⟩ := hh
  have WI := Lib.hid (fun W : World => rto_yes id 1 64 W (Ck.Clk.inB_iff.1 hi))
  have VA := Lib.hid (fun W : World => by have := rpvalid_any lost ret desc late every W; rw [hr] at this; exact this)
  have CM := Lib.hid (fun W : World => Ck.rNew_yes d W hd)
  clear h hi hr hd
  go_enter Try.func41, Try.ntmps41; go_upto_region 1 with fail; generalize hV : World.alloc _ _ = V; have kr : V.heap[w.heap.size]? = some (.cells #[.int .i64 lost, .int .i64 ret, .int .i64 desc, .int .i64 late, .int .i64 every] 23 (0, 0)) := (by rw [← hV]; exact blk_alloc (heap_new _ _) _); have k2 : RB V (w.heap.size + 1) rzero := (by rw [← hV]; exact heap_new' _ _ _ (by simp)); have HB := Lib.hid (show Below w.heap.size w V from by rw [← hV]; exact (by repeat (first | (with_reducible exact Below.refl _ _) | (with_reducible refine Below.drew ?_) | (with_reducible refine below_drewN ?_ _) | ((with_reducible refine Below.alloc ?_ ?_ _); rotate_left; (first | omega | (simp <;> omega)); rotate_right) | ((with_reducible refine Below.setCell ?_ ?_ _); rotate_left; (first | omega | (simp <;> omega)); rotate_right) | (with_reducible assumption) | (refine Below.trans ?_ (Below.mono (by assumption) ?_); rotate_left; (first | omega | (simp <;> omega)); rotate_right)))); clear hV
  obtain ⟨xd, hxd⟩ : ∃ xd : Int, xd = d := ⟨_, rfl⟩
  go_wp2_with fail
  refine (CM.out _).mono ?_
  rintro e W1 ⟨rfl, hb1⟩
  subst hxd
  have hz1 : w.heap.size + 1 < W1.heap.size := lt_of_block (blk_below k2 hb1 (lt_of_block k2)); (go_upto_region 2 with fail); generalize hV : World.alloc _ _ = V1; have jr : V1.heap[w.heap.size]? = some (.cells #[.int .i64 lost, .int .i64 ret, .int .i64 desc, .int .i64 late, .int .i64 every] 23 (0, 0)) := (by rw [← hV]; exact blk_alloc (blk_below kr hb1 (lt_of_block kr)) _); have j2 : RB V1 (w.heap.size + 1) rzero := (by rw [← hV]; exact blk_alloc (blk_below k2 hb1 (lt_of_block k2)) _); have jc : V1.heap[W1.heap.size]? = some (.cells #[.int .i64 xd, .int .i64 0, .bool false, .int .i64 0, .int .i64 0] 52 (0, 0)) := (by rw [← hV]; exact heap_new _ _); have HB1 := Lib.hid (show Below w.heap.size w V1 by rw [← hV]; exact (HB.out.trans (hb1.mono HB.out.size)).alloc (by omega) _); clear hV kr k2 HB hb1; (have cf_0 := blk_cell jr 0 rfl; have ff_0 := blk_free jr 0; have cf_1 := blk_cell jr 1 rfl; have ff_1 := blk_free jr 1; have cf_2 := blk_cell jr 2 rfl; have ff_2 := blk_free jr 2; have cf_3 := blk_cell jr 3 rfl; have ff_3 := blk_free jr 3; have cf_4 := blk_cell jr 4 rfl; have ff_4 := blk_free jr 4; have lf := lt_of_block jr); have JR := Lib.hid jr; have JC := Lib.hid jc; clear jr jc; go_wp2_with fail
  refine (WI.out _).mono ?_
  rintro e w' ⟨rfl, rfl⟩
  go_wp2_with fail
  refine (VA.out _).mono ?_
  rintro e W2 ⟨rfl, hb2⟩
  have i2 := blk_below j2 hb2 (lt_of_block j2)
  have ir := blk_below JR.out hb2 (lt_of_block JR.out)
  have ic := blk_below JC.out hb2 (lt_of_block JC.out)
  have HB2 := Lib.hid (HB1.out.trans (hb2.mono HB1.out.size))
  clear hb2 j2 JR JC
  clear cf_0 ff_0 cf_1 ff_1 cf_2 ff_2 cf_3 ff_3 cf_4 ff_4
  have cg_0 := blk_cell ir 0 rfl; have fg_0 := blk_free ir 0; have cg_1 := blk_cell ir 1 rfl; have fg_1 := blk_free ir 1; have cg_2 := blk_cell ir 2 rfl; have fg_2 := blk_free ir 2; have cg_3 := blk_cell ir 3 rfl; have fg_3 := blk_free ir 3; have cg_4 := blk_cell ir 4 rfl; have fg_4 := blk_free ir 4; have lg := lt_of_block ir
  have ch_0 := blk_cell ic 0 rfl; have fh_0 := blk_free ic 0; have ch_1 := blk_cell ic 1 rfl; have fh_1 := blk_free ic 1; have ch_2 := blk_cell ic 2 rfl; have fh_2 := blk_free ic 2; have ch_3 := blk_cell ic 3 rfl; have fh_3 := blk_free ic 3; have ch_4 := blk_cell ic 4 rfl; have fh_4 := blk_free ic 4; have lh := lt_of_block ic
  clear ir ic
  go_wp2_with (refine wpList_store_row rfl 54 _ _ rfl _ _ rfl rfl 54 _ i2 (by kernel_rfl) rfl (rag_one (Plt.new id lost ret desc late every xd)) ?_)
  exact bodyPost_ret (results_ct rfl _ _ _ _ _ (0, 0) _ rfl (setRow_heap _ _ _ _ _ _ i2) Try.underlying54 rfl (by kernel_rfl)) rfl ⟨rfl, below_setRow HB2.out (by omega) _⟩
end Go.Proofs.Ytjidchaejicjaaa

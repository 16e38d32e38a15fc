/- What a pilot tells; New, Copy. -/
import Derived.Test.YtjidchaejicjaaaPlK
namespace Go.Proofs.Ytjidchaejicjaaa
open Go.RowKit
set_option maxHeartbeats 8000000
set_option maxRecDepth 100000
set_option linter.unusedSimpArgs false
set_option linter.unusedVariables false
attribute [local go_sem ↓] Go.wp_at_zero Go.wp_at_succ
attribute [local go_sem high] run_mn run_mx
theorem ret_pii {a b c d : Int} (h : a = b) (g : c = d) : Ending.returned (.tuple #[.int .i64 a, .int .i64 c]) = .returned (.tuple #[.int .i64 b, .int .i64 d]) := by rw [h, g]
def hasV (n : Int) (is : Bool) : Int := if is then n else 0
def hasE (is : Bool) : Int := if is then 0 else 9
theorem phas_any (v : Value) (n : Int) (is : Bool) (w : World) :
    Calls Try.prog 35 #[v, .int .i64 n, .bool is] w fun e w' => e = .returned (.tuple #[.int .i64 (hasV n is), .int .i64 (hasE is)]) ∧ w = w' := by
  cases is
  all_goals
    go_enter Try.func35, Try.ntmps35
    go_wp2_with fail
    go_returns
    exact ⟨rfl, rfl⟩
section
variable {w w' : World} {base b c : Nat} {s : Plt.St}
theorem pstate_any (h : IsP w base b c s) (hs : Plt.Inv s) :
    Calls Try.prog 13 #[.pointer (some ⟨b, 0, none⟩)] w fun e w' => e = .returned (.int .i64 s.st) ∧ w = w' := by
  have N := Lib.hid (pnone_any h hs)
  have c7 : w.cell? ⟨b, 7, none⟩ = some (.int .i64 s.st) := blk_cell h.blk 7 rfl
  clear h hs
  go_enter Try.func13, Try.ntmps13
  go_wp2_with fail
  refine N.out.mono ?_
  rintro e w' ⟨rfl, rfl⟩
  go_wp2_with fail
  go_returns
  exact ⟨rfl, rfl⟩
theorem pstate_nil (w : World) :
    Calls Try.prog 13 #[.pointer none] w fun e w' => e = .returned (.int .i64 0) ∧ w = w' := by
  go_enter Try.func13, Try.ntmps13
  go_wp2_with fail
  refine (pnone_nil _).mono ?_
  rintro e w' ⟨rfl, rfl⟩
  go_wp2_with fail
  go_returns
  exact ⟨rfl, rfl⟩
theorem pprog_any (h : IsP w base b c s) (hs : Plt.Inv s) :
    Calls Try.prog 46 #[.pointer (some ⟨b, 0, none⟩)] w fun e w' => e = .returned (.tuple #[.int .i64 (hasV s.prog s.loaded), .int .i64 (hasE s.loaded)]) ∧ Below w.heap.size w w' := by
  have N := Lib.hid (pnone_any h hs)
  have c15 : w.cell? ⟨b, 15, none⟩ = some (.int .i64 s.prog) := blk_cell h.blk 15 rfl
  have c9 : w.cell? ⟨b, 9, none⟩ = some (.bool s.loaded) := blk_cell h.blk 9 rfl
  clear h hs
  go_enter Try.func46, Try.ntmps46
  go_wp2_with fail
  refine N.out.mono ?_
  rintro e w' ⟨rfl, rfl⟩
  go_wp2_with fail
  go_quiet ((go_at_call 35; exact Calls.quiet_of_same ((phas_any _ _ _ _).mono fun _ _ ⟨h1, h2⟩ => ⟨h1, h2.symm⟩)))
  go_wp2_with fail
  go_returns
  exact ⟨rfl, (by repeat (first | (with_reducible exact Below.refl _ _) | (with_reducible refine Below.drew ?_) | (with_reducible refine below_drewN ?_ _) | ((with_reducible refine Below.alloc ?_ ?_ _); rotate_left; (first | omega | (simp <;> omega)); rotate_right) | ((with_reducible refine Below.setCell ?_ ?_ _); rotate_left; (first | omega | (simp <;> omega)); rotate_right) | (with_reducible assumption) | (refine Below.trans ?_ (Below.mono (by assumption) ?_); rotate_left; (first | omega | (simp <;> omega)); rotate_right)))⟩
theorem pstart_any (h : IsP w base b c s) (hs : Plt.Inv s) :
    Calls Try.prog 14 #[.pointer (some ⟨b, 0, none⟩)] w fun e w' => e = .returned (.tuple #[.int .i64 (hasV s.start s.given), .int .i64 (hasE s.given)]) ∧ Below w.heap.size w w' := by
  have N := Lib.hid (pnone_any h hs)
  have c16 : w.cell? ⟨b, 16, none⟩ = some (.int .i64 s.start) := blk_cell h.blk 16 rfl
  have c10 : w.cell? ⟨b, 10, none⟩ = some (.bool s.given) := blk_cell h.blk 10 rfl
  clear h hs
  go_enter Try.func14, Try.ntmps14
  go_wp2_with fail
  refine N.out.mono ?_
  rintro e w' ⟨rfl, rfl⟩
  go_wp2_with fail
  go_quiet ((go_at_call 35; exact Calls.quiet_of_same ((phas_any _ _ _ _).mono fun _ _ ⟨h1, h2⟩ => ⟨h1, h2.symm⟩)))
  go_wp2_with fail
  go_returns
  exact ⟨rfl, (by repeat (first | (with_reducible exact Below.refl _ _) | (with_reducible refine Below.drew ?_) | (with_reducible refine below_drewN ?_ _) | ((with_reducible refine Below.alloc ?_ ?_ _); rotate_left; (first | omega | (simp <;> omega)); rotate_right) | ((with_reducible refine Below.setCell ?_ ?_ _); rotate_left; (first | omega | (simp <;> omega)); rotate_right) | (with_reducible assumption) | (refine Below.trans ?_ (Below.mono (by assumption) ?_); rotate_left; (first | omega | (simp <;> omega)); rotate_right)))⟩
theorem psince_any (h : IsP w base b c s) (hs : Plt.Inv s) :
    Calls Try.prog 17 #[.pointer (some ⟨b, 0, none⟩)] w fun e w' => e = .returned (.tuple #[.int .i64 (hasV s.since s.begun), .int .i64 (hasE s.begun)]) ∧ Below w.heap.size w w' := by
  have N := Lib.hid (pnone_any h hs)
  have c14 : w.cell? ⟨b, 14, none⟩ = some (.int .i64 s.since) := blk_cell h.blk 14 rfl
  have c8 : w.cell? ⟨b, 8, none⟩ = some (.bool s.begun) := blk_cell h.blk 8 rfl
  clear h hs
  go_enter Try.func17, Try.ntmps17
  go_wp2_with fail
  refine N.out.mono ?_
  rintro e w' ⟨rfl, rfl⟩
  go_wp2_with fail
  go_quiet ((go_at_call 35; exact Calls.quiet_of_same ((phas_any _ _ _ _).mono fun _ _ ⟨h1, h2⟩ => ⟨h1, h2.symm⟩)))
  go_wp2_with fail
  go_returns
  exact ⟨rfl, (by repeat (first | (with_reducible exact Below.refl _ _) | (with_reducible refine Below.drew ?_) | (with_reducible refine below_drewN ?_ _) | ((with_reducible refine Below.alloc ?_ ?_ _); rotate_left; (first | omega | (simp <;> omega)); rotate_right) | ((with_reducible refine Below.setCell ?_ ?_ _); rotate_left; (first | omega | (simp <;> omega)); rotate_right) | (with_reducible assumption) | (refine Below.trans ?_ (Below.mono (by assumption) ?_); rotate_left; (first | omega | (simp <;> omega)); rotate_right)))⟩
theorem pnext_nil (w : World) :
    Calls Try.prog 23 #[.pointer none] w fun e w' => e = .returned (.tuple #[.int .i64 0, .int .i64 1]) ∧ w = w' := by
  go_enter Try.func23, Try.ntmps23
  go_wp2_with fail
  refine (pnone_nil _).mono ?_
  rintro e w' ⟨rfl, rfl⟩
  go_wp2_with fail
  go_returns
  exact ⟨rfl, rfl⟩
theorem ptick_nil (now : Int) (w : World) :
    Calls Try.prog 15 #[.pointer none, .int .i64 now] w fun e w' => e = .returned (.tuple #[.slice none 0 0, .int .i64 1]) ∧ w = w' := by
  go_enter Try.func15, Try.ntmps15
  go_wp2_with fail
  refine (pnone_nil _).mono ?_
  rintro e w' ⟨rfl, rfl⟩
  go_wp2_with fail
  go_returns
  exact ⟨rfl, rfl⟩
theorem pcopy_nil (w : World) :
    Calls Try.prog 24 #[.pointer none] w fun e w' => e = .returned (.pointer none) ∧ w = w' := by
  go_enter Try.func24, Try.ntmps24
  go_wp2_with fail
  go_returns
  exact ⟨rfl, rfl⟩
theorem pcopy_any (h : IsP w base b c s) :
    Calls Try.prog 24 #[.pointer (some ⟨b, 0, none⟩)] w fun e w' => ∃ b' c', e = .returned (.pointer (some ⟨b', 0, none⟩)) ∧ IsP w' w.heap.size b' c' s ∧ Below w.heap.size w w' := by
  have HH := Lib.hid h
  have k0 : w.heap[b]? = some (.cells (pcl s c).toArray 76 (0, 0)) := h.blk
  have hone : (pcl s c).toArray.all (·.oneCell') = true := by kernel_rfl
  clear h
  have z1 := heap_new w (.cells #[.int .i64 0, .int .i64 0, .int .i64 0, .int .i64 0, .int .i64 0, .int .i64 0, .pointer none, .int .i64 0, .bool false, .bool false, .bool false, .bool false, .int .i64 0, .int .i64 0, .int .i64 0, .int .i64 0, .int .i64 0, .int .i64 0, .int .i64 0] 76 (0, 0))
  have HB1 := Lib.hid (show Below w.heap.size w (w.alloc (.cells #[.int .i64 0, .int .i64 0, .int .i64 0, .int .i64 0, .int .i64 0, .int .i64 0, .pointer none, .int .i64 0, .bool false, .bool false, .bool false, .bool false, .int .i64 0, .int .i64 0, .int .i64 0, .int .i64 0, .int .i64 0, .int .i64 0, .int .i64 0] 76 (0, 0))) from (Below.refl _ _).alloc (Nat.le_refl _) _)
  have HO := Lib.hid hone
  clear hone
  go_enter Try.func24, Try.ntmps24
  go_upto_region 4 with (first | (refine wpList_load_row rfl 76 _ rfl _ rfl 76 _ (0, 0) _ k0 Try.underlying76 rfl (by kernel_rfl) ?_) | (refine wpList_store_row rfl 76 _ _ rfl _ _ rfl rfl 76 _ z1 (by kernel_rfl) rfl HO.out ?_))
  generalize hV : World.setRow _ _ _ = V
  have k1 : V.heap[w.heap.size]? = some (.cells (pcl s c).toArray 76 (0, 0)) := by rw [← hV]; exact setRow_heap _ _ _ _ _ _ z1
  have HV := Lib.hid (show Below w.heap.size w V by rw [← hV]; exact below_setRow HB1.out (Nat.le_refl _) _)
  have HP := Lib.hid (show IsP V base b c s from HH.out.below HV.out (Nat.le_refl _))
  clear hV z1 k0 HB1
  have c6 : V.cell? ⟨b, 6, none⟩ = some (.pointer (some ⟨c, 0, none⟩)) := blk_cell HP.out.blk 6 rfl
  have hk := k1
  simp only [pcl] at hk
  have f6 := blk_free hk 6
  have d6 : V.cell? ⟨w.heap.size, 6, none⟩ = some (.pointer (some ⟨c, 0, none⟩)) := blk_cell hk 6 rfl
  have hzV : w.heap.size < V.heap.size := lt_of_block k1
  have K1 := Lib.hid k1
  clear hk k1
  (go_upto_region 5 with (go_at_call 51; refine (Ck.copy_clk c s.d s.r true s.cs s.lo s.hi _ (by first | exact HP.out.clk | exact Ck.clk_drewN HP.out.clk _)).mono ?_; rintro e w2 ⟨rfl, hk2, hb2⟩; have HB2 := Lib.hid (show Below V.heap.size V w2 by first | exact hb2 | exact (below_drewN (Below.refl _ _) _).trans hb2); have HC2 := Lib.hid hk2; have j1 := blk_below K1.out HB2.out hzV; have HJ := Lib.hid j1; clear hb2 hk2; have hk := j1; simp only [pcl] at hk; have f6 := blk_free hk 6; have d6 : w2.cell? ⟨w.heap.size, 6, none⟩ = some (.pointer (some ⟨c, 0, none⟩)) := blk_cell hk 6 rfl; clear hk j1))
  generalize hW : World.setCell _ _ _ = W
  have hW1 : IsP W w.heap.size w.heap.size V.heap.size s := ⟨by simp only [pcl]; rw [← hW]; have hk := HJ.out; simp only [pcl] at hk; exact (by apply Eq.trans; (repeat (first | (with_reducible assumption) | (with_reducible apply blk_set) | ((with_reducible apply blk_far); rotate_left; (first | omega | (simp <;> omega)); rotate_right) | (with_reducible apply blk_drew) | (with_reducible apply blk_drewN) | ((with_reducible apply heap_new'); (first | rfl | (simp <;> fail))) | (with_reducible apply blk_alloc))); (first | with_reducible rfl | (simp <;> fail) | rfl)), by rw [← hW]; exact Ck.clk_far HC2.out (by show _ ≠ w.heap.size; omega) _, Nat.le_refl _, by omega⟩
  have hW2 : Below w.heap.size w W := by rw [← hW]; exact (HV.out.trans (HB2.out.mono HV.out.size)).setCell (Nat.le_refl _) _
  have HW := Lib.hid (And.intro hW1 hW2)
  clear hW hW1 hW2 c6 f6 d6
  go_wp2_with fail
  go_returns
  exact ⟨_, _, rfl, HW.out.1, HW.out.2⟩
theorem ck_new (d : Int) (w : World) : Calls Try.prog 32 #[.int .i64 d] w fun e w' => ∃ p x, e = .returned (.tuple #[.pointer p, .int .i64 x]) ∧ Below w.heap.size w w' := by
  by_cases h : 0 ≤ d ∧ d ≤ 100000
  · exact (Ck.new_yes d w h).mono fun e w' ⟨h1, _, h2⟩ => ⟨_, _, h1, h2⟩
  · exact (Ck.new_no d w h).mono fun e w' ⟨h1, h2⟩ => ⟨_, _, h1, by subst h2; exact Below.refl _ _⟩
def PNewPost (base : Nat) (s : Plt.St) (w : World) (e : Ending) (w' : World) : Prop := ∃ b c, e = .returned (.tuple #[.pointer (some ⟨b, 0, none⟩), .int .i64 0]) ∧ IsP w' base b c s ∧ Below w.heap.size w w'
theorem pnew_no (id lost ret desc late every d : Int) (w : World) (h : Plt.newE id lost ret desc late every d ≠ 0) :
    Calls Try.prog 12 #[.int .i64 id, .agg #[.int .i64 lost, .int .i64 ret, .int .i64 desc, .int .i64 late, .int .i64 every], .int .i64 d] w fun e w' => e = .returned (.tuple #[.pointer none, .int .i64 2]) ∧ Below w.heap.size w w' := by
  by_cases hi : 1 ≤ id ∧ id ≤ 64
  case neg =>
    have WI := Lib.hid (fun W : World => pwithin_no id 1 64 W hi)
    clear h hi
    go_enter Try.func12, Try.ntmps12
    go_upto_region 1 with fail
    generalize hV : World.alloc _ _ = V; have k0 : V.heap[w.heap.size]? = some (.cells #[.int .i64 lost, .int .i64 ret, .int .i64 desc, .int .i64 late, .int .i64 every] 23 (0, 0)) := (by rw [← hV]; exact heap_new _ _); have HB := Lib.hid (show Below w.heap.size w V by rw [← hV]; exact (Below.refl _ _).alloc (Nat.le_refl _) _); clear hV
    go_wp2_with fail
    refine (ck_new d _).mono ?_
    rintro e w1 ⟨p, x, rfl, hb1⟩
    have j0 := blk_below k0 hb1 (lt_of_block k0); have HB1 := Lib.hid (HB.out.trans (hb1.mono HB.out.size)); clear k0 hb1 HB; (have cf_0 := blk_cell j0 0 rfl; have ff_0 := blk_free j0 0; have cf_1 := blk_cell j0 1 rfl; have ff_1 := blk_free j0 1; have cf_2 := blk_cell j0 2 rfl; have ff_2 := blk_free j0 2; have cf_3 := blk_cell j0 3 rfl; have ff_3 := blk_free j0 3; have cf_4 := blk_cell j0 4 rfl; have ff_4 := blk_free j0 4; have lf := lt_of_block j0); clear j0; go_wp2_with fail
    refine (WI.out _).mono ?_
    rintro e w' ⟨rfl, rfl⟩
    go_wp2_with fail
    go_returns
    exact ⟨rfl, HB1.out⟩
  have WI := Lib.hid (fun W : World => pwithin_yes id 1 64 W hi)
  cases hr : Plt.ruOk lost ret desc late every
  · have VA := Lib.hid (fun W : World => by have := pvalid_any lost ret desc late every W; rw [hr] at this; exact this)
    clear h hi hr
    go_enter Try.func12, Try.ntmps12
    go_upto_region 1 with fail
    generalize hV : World.alloc _ _ = V; have k0 : V.heap[w.heap.size]? = some (.cells #[.int .i64 lost, .int .i64 ret, .int .i64 desc, .int .i64 late, .int .i64 every] 23 (0, 0)) := (by rw [← hV]; exact heap_new _ _); have HB := Lib.hid (show Below w.heap.size w V by rw [← hV]; exact (Below.refl _ _).alloc (Nat.le_refl _) _); clear hV
    go_wp2_with fail
    refine (ck_new d _).mono ?_
    rintro e w1 ⟨p, x, rfl, hb1⟩
    have j0 := blk_below k0 hb1 (lt_of_block k0); have HB1 := Lib.hid (HB.out.trans (hb1.mono HB.out.size)); clear k0 hb1 HB; (have cf_0 := blk_cell j0 0 rfl; have ff_0 := blk_free j0 0; have cf_1 := blk_cell j0 1 rfl; have ff_1 := blk_free j0 1; have cf_2 := blk_cell j0 2 rfl; have ff_2 := blk_free j0 2; have cf_3 := blk_cell j0 3 rfl; have ff_3 := blk_free j0 3; have cf_4 := blk_cell j0 4 rfl; have ff_4 := blk_free j0 4; have lf := lt_of_block j0); clear j0; go_wp2_with fail
    refine (WI.out _).mono ?_
    rintro e w' ⟨rfl, rfl⟩
    go_wp2_with fail
    refine (VA.out _).mono ?_
    rintro e w2 ⟨rfl, hb2⟩
    have HB2 := Lib.hid (HB1.out.trans (hb2.mono HB1.out.size))
    clear hb2
    go_wp2_with fail
    go_returns
    exact ⟨rfl, HB2.out⟩
  · have VA := Lib.hid (fun W : World => by have := pvalid_any lost ret desc late every W; rw [hr] at this; exact this)
    have hd : ¬ (0 ≤ d ∧ d ≤ 100000) := fun hd => h (by unfold Plt.newE; rw [if_pos ⟨inB_yes hi, hr, hd⟩])
    have CN := Lib.hid (fun W : World => Ck.new_no d W hd)
    clear h hi hr hd
    go_enter Try.func12, Try.ntmps12
    go_upto_region 1 with fail
    generalize hV : World.alloc _ _ = V; have k0 : V.heap[w.heap.size]? = some (.cells #[.int .i64 lost, .int .i64 ret, .int .i64 desc, .int .i64 late, .int .i64 every] 23 (0, 0)) := (by rw [← hV]; exact heap_new _ _); have HB := Lib.hid (show Below w.heap.size w V by rw [← hV]; exact (Below.refl _ _).alloc (Nat.le_refl _) _); clear hV
    go_wp2_with fail
    refine (CN.out _).mono ?_
    rintro e w1 ⟨rfl, rfl⟩
    have hb1 := Below.refl V.heap.size V
    have j0 := blk_below k0 hb1 (lt_of_block k0); have HB1 := Lib.hid (HB.out.trans (hb1.mono HB.out.size)); clear k0 hb1 HB; (have cf_0 := blk_cell j0 0 rfl; have ff_0 := blk_free j0 0; have cf_1 := blk_cell j0 1 rfl; have ff_1 := blk_free j0 1; have cf_2 := blk_cell j0 2 rfl; have ff_2 := blk_free j0 2; have cf_3 := blk_cell j0 3 rfl; have ff_3 := blk_free j0 3; have cf_4 := blk_cell j0 4 rfl; have ff_4 := blk_free j0 4; have lf := lt_of_block j0); clear j0; go_wp2_with fail
    refine (WI.out _).mono ?_
    rintro e w' ⟨rfl, rfl⟩
    go_wp2_with fail
    refine (VA.out _).mono ?_
    rintro e w2 ⟨rfl, hb2⟩
    have HB2 := Lib.hid (HB1.out.trans (hb2.mono HB1.out.size))
    clear hb2
    go_wp2_with fail
    go_returns
    exact ⟨rfl, HB2.out⟩
theorem pnew_yes (id lost ret desc late every d : Int) (w : World) (h : Plt.newE id lost ret desc late every d = 0) :
    Calls Try.prog 12 #[.int .i64 id, .agg #[.int .i64 lost, .int .i64 ret, .int .i64 desc, .int .i64 late, .int .i64 every], .int .i64 d] w (PNewPost w.heap.size (Plt.new id lost ret desc late every d) w) := by
  have hh : Ck.Clk.inB id 1 64 = true ∧ Plt.ruOk lost ret desc late every = true ∧ (0 ≤ d ∧ d ≤ 100000) := by
    unfold Plt.newE at h
    split at h
    · assumption
    · omega
  obtain ⟨hi, hr, hd⟩ := hh
  have WI := Lib.hid (fun W : World => pwithin_yes id 1 64 W (Ck.Clk.inB_iff.1 hi))
  have VA := Lib.hid (fun W : World => by have := pvalid_any lost ret desc late every W; rw [hr] at this; exact this)
  have CN := Lib.hid (fun W : World => Ck.new_yes d W hd)
  clear h hi hr hd
  go_enter Try.func12, Try.ntmps12
  go_upto_region 1 with fail
  generalize hV : World.alloc _ _ = V; have k0 : V.heap[w.heap.size]? = some (.cells #[.int .i64 lost, .int .i64 ret, .int .i64 desc, .int .i64 late, .int .i64 every] 23 (0, 0)) := (by rw [← hV]; exact heap_new _ _); have HB := Lib.hid (show Below w.heap.size w V by rw [← hV]; exact (Below.refl _ _).alloc (Nat.le_refl _) _); clear hV
  have hzV : w.heap.size < V.heap.size := lt_of_block k0
  go_wp2_with fail
  refine (CN.out _).mono ?_
  rintro e w1 ⟨rfl, hk1, hb1⟩
  have HK1 := Lib.hid hk1
  clear hk1
  have HJ := Lib.hid (blk_below k0 hb1 (lt_of_block k0))
  have hz1 := hb1.size
  have j0 := blk_below k0 hb1 (lt_of_block k0); have HB1 := Lib.hid (HB.out.trans (hb1.mono HB.out.size)); clear k0 hb1 HB; (have cf_0 := blk_cell j0 0 rfl; have ff_0 := blk_free j0 0; have cf_1 := blk_cell j0 1 rfl; have ff_1 := blk_free j0 1; have cf_2 := blk_cell j0 2 rfl; have ff_2 := blk_free j0 2; have cf_3 := blk_cell j0 3 rfl; have ff_3 := blk_free j0 3; have cf_4 := blk_cell j0 4 rfl; have ff_4 := blk_free j0 4; have lf := lt_of_block j0); clear j0; go_wp2_with fail
  refine (WI.out _).mono ?_
  rintro e w' ⟨rfl, rfl⟩
  go_wp2_with fail
  refine (VA.out _).mono ?_
  rintro e w2 ⟨rfl, hb2⟩
  have HB2 := Lib.hid (HB1.out.trans (hb2.mono HB1.out.size))
  have HK2 := Lib.hid (Ck.clk_below HK1.out hb2 (Ck.clk_lt HK1.out))
  have j2 := blk_below HJ.out hb2 (lt_of_block HJ.out)
  clear hb2 HB1 HK1 HJ
  clear cf_0 ff_0 cf_1 ff_1 cf_2 ff_2 cf_3 ff_3 cf_4 ff_4
  have cg_0 := blk_cell j2 0 rfl; have fg_0 := blk_free j2 0; have cg_1 := blk_cell j2 1 rfl; have fg_1 := blk_free j2 1; have cg_2 := blk_cell j2 2 rfl; have fg_2 := blk_free j2 2; have cg_3 := blk_cell j2 3 rfl; have fg_3 := blk_free j2 3; have cg_4 := blk_cell j2 4 rfl; have fg_4 := blk_free j2 4; have lg := lt_of_block j2
  clear j2
  go_wp2_with fail
  go_returns
  exact ⟨_, V.heap.size, rfl, ⟨heap_new _ _, Ck.clk_alloc HK2.out _, HB2.out.size, by omega⟩, HB2.out.alloc HB2.out.size _⟩
end
end Go.Proofs.Ytjidchaejicjaaa

/- made. -/
import Derived.Test.YtgdpoiapkaahfaaLkKn
import Derived.Test.YtgdpoiapkaahfaaRLkA
namespace Go.Proofs.Ytgdpoiapkaahfaa
open Go.RowKit
set_option maxHeartbeats 16000000
set_option maxRecDepth 100000
set_option linter.unusedSimpArgs false
set_option linter.unusedVariables false
attribute [local go_sem ↓] Go.wp_at_zero Go.wp_at_succ
theorem made_no (r : Lnk.Ru) (w : World) (hv : Lnk.vld r = false) :
    Calls Try.prog 9 #[.agg (rul r).toArray] w fun e w' => e = .returned (.tuple #[.pointer none, rlv ⟨0, 0, 0, 0, 0⟩ ⟨0, 0, [], 0, 0, 0⟩ none 0 0, .bool true]) ∧ Below w.heap.size w w' := by
  have N := Lib.hid (fun W : World => lnew_no r W hv)
  have R := Lib.hid (fun W : World => rnew_no r W hv)
  clear hv
  simp only [rul, rlv, rll] at *
  go_enter Try.func9, Try.ntmps9
  go_wp2_with fail
  refine (N.out _).mono ?_
  rintro e w1 ⟨rfl, hb1⟩
  have hz1 := hb1.size; try simp at hz1
  have a1 := blk_below (q := w.heap.size) (by repeat (first | (with_reducible assumption) | ((with_reducible apply blk_far); rotate_left; (first | omega | (simp <;> omega)); rotate_right) | (with_reducible apply blk_drew) | (with_reducible apply blk_drewN) | (with_reducible exact heap_new _ _) | ((with_reducible apply heap_new'); (first | rfl | (simp <;> fail))) | (with_reducible apply blk_alloc))) hb1 (by first | omega | (simp; done) | (simp; omega))
  have b1 := blk_below (q := w.heap.size + 1) (by repeat (first | (with_reducible assumption) | ((with_reducible apply blk_far); rotate_left; (first | omega | (simp <;> omega)); rotate_right) | (with_reducible apply blk_drew) | (with_reducible apply blk_drewN) | (with_reducible exact heap_new _ _) | ((with_reducible apply heap_new'); (first | rfl | (simp <;> fail))) | (with_reducible apply blk_alloc))) hb1 (by first | omega | (simp; done) | (simp; omega))
  have HB1 := (show Below w.heap.size w w1 from (by repeat (first | (with_reducible exact Below.refl _ _) | (with_reducible refine Below.drew ?_) | (with_reducible refine below_drewN ?_ _) | ((with_reducible refine Below.alloc ?_ ?_ _); rotate_left; (first | omega | (simp <;> omega)); rotate_right) | ((with_reducible refine Below.setCell ?_ ?_ _); rotate_left; (first | omega | (simp <;> omega)); rotate_right) | (with_reducible assumption) | (refine Below.trans ?_ (Below.mono (by assumption) ?_); rotate_left; (first | omega | (simp <;> omega)); rotate_right))))
  clear hb1
  have ca_0 := blk_cell a1 0 rfl; have fa_0 := blk_free a1 0; have ca_1 := blk_cell a1 1 rfl; have fa_1 := blk_free a1 1; have ca_2 := blk_cell a1 2 rfl; have fa_2 := blk_free a1 2; have ca_3 := blk_cell a1 3 rfl; have fa_3 := blk_free a1 3; have ca_4 := blk_cell a1 4 rfl; have fa_4 := blk_free a1 4; have la := lt_of_block a1
  go_wp2_with fail
  refine (R.out _).mono ?_
  rintro e w2 ⟨rfl, hb2⟩
  have hz2 := hb2.size
  have b2 := blk_below b1 hb2 (by first | omega | (simp; done) | (simp; omega))
  have HB2 := (show Below w.heap.size w w2 from (by repeat (first | (with_reducible exact Below.refl _ _) | (with_reducible refine Below.drew ?_) | (with_reducible refine below_drewN ?_ _) | ((with_reducible refine Below.alloc ?_ ?_ _); rotate_left; (first | omega | (simp <;> omega)); rotate_right) | ((with_reducible refine Below.setCell ?_ ?_ _); rotate_left; (first | omega | (simp <;> omega)); rotate_right) | (with_reducible assumption) | (refine Below.trans ?_ (Below.mono (by assumption) ?_); rotate_left; (first | omega | (simp <;> omega)); rotate_right))))
  clear hb2 ca_0 fa_0 ca_1 fa_1 ca_2 fa_2 ca_3 fa_3 ca_4 fa_4 la a1 b1 HB1
  go_wp2_with fail
  generalize hV : World.alloc _ _ = V
  have k1 : V.heap[w.heap.size + 1]? = some (.cells #[.int .i64 0, .int .i64 0, .int .i64 0, .int .i64 0, .int .i64 0, .int .u64 0, .int .i64 0, .slice none 0 0, .int .i64 0, .int .i64 0, .int .i64 0] 28 (0, 0)) := by rw [← hV]; exact (by repeat (first | (with_reducible assumption) | ((with_reducible apply blk_far); rotate_left; (first | omega | (simp <;> omega)); rotate_right) | (with_reducible apply blk_drew) | (with_reducible apply blk_drewN) | (with_reducible exact heap_new _ _) | ((with_reducible apply heap_new'); (first | rfl | (simp <;> fail))) | (with_reducible apply blk_alloc)))
  have k2 : V.heap[w2.heap.size]? = some (.cells #[.int .i64 0, .int .i64 0, .int .i64 0, .int .i64 0, .int .i64 0, .int .u64 0, .int .i64 0, .slice none 0 0, .int .i64 0, .int .i64 0, .int .i64 0] 28 (0, 0)) := by rw [← hV]; exact (by repeat (first | (with_reducible assumption) | ((with_reducible apply blk_far); rotate_left; (first | omega | (simp <;> omega)); rotate_right) | (with_reducible apply blk_drew) | (with_reducible apply blk_drewN) | (with_reducible exact heap_new _ _) | ((with_reducible apply heap_new'); (first | rfl | (simp <;> fail))) | (with_reducible apply blk_alloc)))
  have HB : Below w.heap.size w V := by rw [← hV]; exact (by repeat (first | (with_reducible exact Below.refl _ _) | (with_reducible refine Below.drew ?_) | (with_reducible refine below_drewN ?_ _) | ((with_reducible refine Below.alloc ?_ ?_ _); rotate_left; (first | omega | (simp <;> omega)); rotate_right) | ((with_reducible refine Below.setCell ?_ ?_ _); rotate_left; (first | omega | (simp <;> omega)); rotate_right) | (with_reducible assumption) | (refine Below.trans ?_ (Below.mono (by assumption) ?_); rotate_left; (first | omega | (simp <;> omega)); rotate_right)))
  clear hV b2 HB2
  have cb_0 := blk_cell k1 0 rfl; have fb_0 := blk_free k1 0; have cb_1 := blk_cell k1 1 rfl; have fb_1 := blk_free k1 1; have cb_2 := blk_cell k1 2 rfl; have fb_2 := blk_free k1 2; have cb_3 := blk_cell k1 3 rfl; have fb_3 := blk_free k1 3; have cb_4 := blk_cell k1 4 rfl; have fb_4 := blk_free k1 4; have cb_5 := blk_cell k1 5 rfl; have fb_5 := blk_free k1 5; have cb_6 := blk_cell k1 6 rfl; have fb_6 := blk_free k1 6; have cb_7 := blk_cell k1 7 rfl; have fb_7 := blk_free k1 7; have cb_8 := blk_cell k1 8 rfl; have fb_8 := blk_free k1 8; have cb_9 := blk_cell k1 9 rfl; have fb_9 := blk_free k1 9; have cb_10 := blk_cell k1 10 rfl; have fb_10 := blk_free k1 10; have lb := lt_of_block k1
  have cc_0 := blk_cell k2 0 rfl; have fc_0 := blk_free k2 0; have cc_1 := blk_cell k2 1 rfl; have fc_1 := blk_free k2 1; have cc_2 := blk_cell k2 2 rfl; have fc_2 := blk_free k2 2; have cc_3 := blk_cell k2 3 rfl; have fc_3 := blk_free k2 3; have cc_4 := blk_cell k2 4 rfl; have fc_4 := blk_free k2 4; have cc_5 := blk_cell k2 5 rfl; have fc_5 := blk_free k2 5; have cc_6 := blk_cell k2 6 rfl; have fc_6 := blk_free k2 6; have cc_7 := blk_cell k2 7 rfl; have fc_7 := blk_free k2 7; have cc_8 := blk_cell k2 8 rfl; have fc_8 := blk_free k2 8; have cc_9 := blk_cell k2 9 rfl; have fc_9 := blk_free k2 9; have cc_10 := blk_cell k2 10 rfl; have fc_10 := blk_free k2 10; have lc := lt_of_block k2
  go_region
  all_goals go_wp2_with fail
  generalize hWf : World.setCell _ _ _ = Wf
  have hf : Wf.heap[w.heap.size + 1]? = some (.cells #[.int .i64 0, .int .i64 0, .int .i64 0, .int .i64 0, .int .i64 0, .int .u64 0, .int .i64 0, .slice none 0 0, .int .i64 0, .int .i64 0, .int .i64 0] 28 (0, 0)) := by rw [← hWf]; exact (by apply Eq.trans; (repeat (first | (with_reducible assumption) | (with_reducible apply blk_set) | ((with_reducible apply blk_far); rotate_left; (first | omega | (simp <;> omega)); rotate_right) | (with_reducible apply blk_drew) | (with_reducible apply blk_drewN) | ((with_reducible apply heap_new'); (first | rfl | (simp <;> fail))) | (with_reducible apply blk_alloc))); (first | with_reducible rfl | (simp <;> fail) | rfl))
  have hB : Below w.heap.size w Wf := by rw [← hWf]; exact (by repeat (first | (with_reducible exact Below.refl _ _) | (with_reducible refine Below.drew ?_) | (with_reducible refine below_drewN ?_ _) | ((with_reducible refine Below.alloc ?_ ?_ _); rotate_left; (first | omega | (simp <;> omega)); rotate_right) | ((with_reducible refine Below.setCell ?_ ?_ _); rotate_left; (first | omega | (simp <;> omega)); rotate_right) | (with_reducible assumption) | (refine Below.trans ?_ (Below.mono (by assumption) ?_); rotate_left; (first | omega | (simp <;> omega)); rotate_right)))
  clear hWf
  have cm_0 := blk_cell hf 0 rfl; have fm_0 := blk_free hf 0; have cm_1 := blk_cell hf 1 rfl; have fm_1 := blk_free hf 1; have cm_2 := blk_cell hf 2 rfl; have fm_2 := blk_free hf 2; have cm_3 := blk_cell hf 3 rfl; have fm_3 := blk_free hf 3; have cm_4 := blk_cell hf 4 rfl; have fm_4 := blk_free hf 4; have cm_5 := blk_cell hf 5 rfl; have fm_5 := blk_free hf 5; have cm_6 := blk_cell hf 6 rfl; have fm_6 := blk_free hf 6; have cm_7 := blk_cell hf 7 rfl; have fm_7 := blk_free hf 7; have cm_8 := blk_cell hf 8 rfl; have fm_8 := blk_free hf 8; have cm_9 := blk_cell hf 9 rfl; have fm_9 := blk_free hf 9; have cm_10 := blk_cell hf 10 rfl; have fm_10 := blk_free hf 10; have lm := lt_of_block hf
  refine bodyPost_ret (v := .tuple #[.pointer none, .agg #[.int .i64 0, .int .i64 0, .int .i64 0, .int .i64 0, .int .i64 0, .int .u64 0, .int .i64 0, .slice none 0 0, .int .i64 0, .int .i64 0, .int .i64 0], .bool true]) ?_ rfl ⟨rfl, by first | exact hB | exact hB.drew⟩
  simp [results, Try.results9, go_sem, cm_0, cm_1, cm_2, cm_3, cm_4, cm_5, cm_6, cm_7, cm_8, cm_9, cm_10]
/-- made makes both -/
def MadePost (r : Lnk.Ru) (w : World) (e : Ending) (w' : World) : Prop :=
  ∃ b, e = .returned (.tuple #[.pointer (some ⟨b, 0, none⟩), rlv r (Lnk.new r) none 0 0, .bool true]) ∧ IsLk w' w.heap.size b none 0 r (Lnk.new r) ∧ Below w.heap.size w w'
theorem made_yes (r : Lnk.Ru) (w : World) (hv : Lnk.vld r = true) (hse : r.seed ≤ 9223372036854775807) :
    Calls Try.prog 9 #[.agg (rul r).toArray] w (MadePost r w) := by
  have N := Lib.hid (fun W : World => lnew_yes r W hv hse)
  have R := Lib.hid (fun W : World => rnew_yes r W hv hse)
  clear hv hse
  obtain ⟨s, hs⟩ : ∃ s, s = Lnk.new r := ⟨_, rfl⟩
  rw [← hs] at R
  have HS := Lib.hid hs
  clear hs
  simp only [rul, rlv, rll] at *
  go_enter Try.func9, Try.ntmps9
  go_wp2_with fail
  refine (N.out _).mono ?_
  rintro e w1 ⟨b, rfl, hl1, hb1⟩
  have hz1 := hb1.size; try simp at hz1
  have a1 := blk_below (q := w.heap.size) (by repeat (first | (with_reducible assumption) | ((with_reducible apply blk_far); rotate_left; (first | omega | (simp <;> omega)); rotate_right) | (with_reducible apply blk_drew) | (with_reducible apply blk_drewN) | (with_reducible exact heap_new _ _) | ((with_reducible apply heap_new'); (first | rfl | (simp <;> fail))) | (with_reducible apply blk_alloc))) hb1 (by first | omega | (simp; done) | (simp; omega))
  have b1 := blk_below (q := w.heap.size + 1) (by repeat (first | (with_reducible assumption) | ((with_reducible apply blk_far); rotate_left; (first | omega | (simp <;> omega)); rotate_right) | (with_reducible apply blk_drew) | (with_reducible apply blk_drewN) | (with_reducible exact heap_new _ _) | ((with_reducible apply heap_new'); (first | rfl | (simp <;> fail))) | (with_reducible apply blk_alloc))) hb1 (by first | omega | (simp; done) | (simp; omega))
  have HB1 := (show Below w.heap.size w w1 from (by repeat (first | (with_reducible exact Below.refl _ _) | (with_reducible refine Below.drew ?_) | (with_reducible refine below_drewN ?_ _) | ((with_reducible refine Below.alloc ?_ ?_ _); rotate_left; (first | omega | (simp <;> omega)); rotate_right) | ((with_reducible refine Below.setCell ?_ ?_ _); rotate_left; (first | omega | (simp <;> omega)); rotate_right) | (with_reducible assumption) | (refine Below.trans ?_ (Below.mono (by assumption) ?_); rotate_left; (first | omega | (simp <;> omega)); rotate_right))))
  have hge : w.heap.size + 2 ≤ b := by have := hl1.ge; simpa using this
  have HL1 := Lib.hid hl1
  clear hb1 hl1
  have ca_0 := blk_cell a1 0 rfl; have fa_0 := blk_free a1 0; have ca_1 := blk_cell a1 1 rfl; have fa_1 := blk_free a1 1; have ca_2 := blk_cell a1 2 rfl; have fa_2 := blk_free a1 2; have ca_3 := blk_cell a1 3 rfl; have fa_3 := blk_free a1 3; have ca_4 := blk_cell a1 4 rfl; have fa_4 := blk_free a1 4; have la := lt_of_block a1
  go_wp2_with fail
  refine (R.out _).mono ?_
  rintro e w2 ⟨rfl, hb2⟩
  have hz2 := hb2.size
  have b2 := blk_below b1 hb2 (by first | omega | (simp; done) | (simp; omega))
  have HB2 := (show Below w.heap.size w w2 from (by repeat (first | (with_reducible exact Below.refl _ _) | (with_reducible refine Below.drew ?_) | (with_reducible refine below_drewN ?_ _) | ((with_reducible refine Below.alloc ?_ ?_ _); rotate_left; (first | omega | (simp <;> omega)); rotate_right) | ((with_reducible refine Below.setCell ?_ ?_ _); rotate_left; (first | omega | (simp <;> omega)); rotate_right) | (with_reducible assumption) | (refine Below.trans ?_ (Below.mono (by assumption) ?_); rotate_left; (first | omega | (simp <;> omega)); rotate_right))))
  have HL2 := Lib.hid (HL1.out.below hb2 (Nat.le_refl _))
  clear hb2 ca_0 fa_0 ca_1 fa_1 ca_2 fa_2 ca_3 fa_3 ca_4 fa_4 la a1 b1 HB1 HL1
  go_wp2_with fail
  generalize hV : World.alloc _ _ = V
  have k1 : V.heap[w.heap.size + 1]? = some (.cells #[.int .i64 0, .int .i64 0, .int .i64 0, .int .i64 0, .int .i64 0, .int .u64 0, .int .i64 0, .slice none 0 0, .int .i64 0, .int .i64 0, .int .i64 0] 28 (0, 0)) := by rw [← hV]; exact (by repeat (first | (with_reducible assumption) | ((with_reducible apply blk_far); rotate_left; (first | omega | (simp <;> omega)); rotate_right) | (with_reducible apply blk_drew) | (with_reducible apply blk_drewN) | (with_reducible exact heap_new _ _) | ((with_reducible apply heap_new'); (first | rfl | (simp <;> fail))) | (with_reducible apply blk_alloc)))
  have k2 : V.heap[w2.heap.size]? = some (.cells #[.int .i64 r.loss, .int .i64 r.twice, .int .i64 r.least, .int .i64 r.most, .int .i64 r.seed, .int .u64 s.x, .int .i64 s.now, .slice none 0 0, .int .i64 s.sent, .int .i64 s.lost, .int .i64 s.dbl] 28 (0, 0)) := by rw [← hV]; exact (by repeat (first | (with_reducible assumption) | ((with_reducible apply blk_far); rotate_left; (first | omega | (simp <;> omega)); rotate_right) | (with_reducible apply blk_drew) | (with_reducible apply blk_drewN) | (with_reducible exact heap_new _ _) | ((with_reducible apply heap_new'); (first | rfl | (simp <;> fail))) | (with_reducible apply blk_alloc)))
  have HB := Lib.hid (show Below w.heap.size w V by rw [← hV]; exact (by repeat (first | (with_reducible exact Below.refl _ _) | (with_reducible refine Below.drew ?_) | (with_reducible refine below_drewN ?_ _) | ((with_reducible refine Below.alloc ?_ ?_ _); rotate_left; (first | omega | (simp <;> omega)); rotate_right) | ((with_reducible refine Below.setCell ?_ ?_ _); rotate_left; (first | omega | (simp <;> omega)); rotate_right) | (with_reducible assumption) | (refine Below.trans ?_ (Below.mono (by assumption) ?_); rotate_left; (first | omega | (simp <;> omega)); rotate_right))))
  have HL := Lib.hid (show IsLk V _ b none 0 r (Lnk.new r) by rw [← hV]; exact HL2.out.alloc _)
  clear hV b2 HB2 HL2
  have cb_0 := blk_cell k1 0 rfl; have fb_0 := blk_free k1 0; have cb_1 := blk_cell k1 1 rfl; have fb_1 := blk_free k1 1; have cb_2 := blk_cell k1 2 rfl; have fb_2 := blk_free k1 2; have cb_3 := blk_cell k1 3 rfl; have fb_3 := blk_free k1 3; have cb_4 := blk_cell k1 4 rfl; have fb_4 := blk_free k1 4; have cb_5 := blk_cell k1 5 rfl; have fb_5 := blk_free k1 5; have cb_6 := blk_cell k1 6 rfl; have fb_6 := blk_free k1 6; have cb_7 := blk_cell k1 7 rfl; have fb_7 := blk_free k1 7; have cb_8 := blk_cell k1 8 rfl; have fb_8 := blk_free k1 8; have cb_9 := blk_cell k1 9 rfl; have fb_9 := blk_free k1 9; have cb_10 := blk_cell k1 10 rfl; have fb_10 := blk_free k1 10; have lb := lt_of_block k1
  have cc_0 := blk_cell k2 0 rfl; have fc_0 := blk_free k2 0; have cc_1 := blk_cell k2 1 rfl; have fc_1 := blk_free k2 1; have cc_2 := blk_cell k2 2 rfl; have fc_2 := blk_free k2 2; have cc_3 := blk_cell k2 3 rfl; have fc_3 := blk_free k2 3; have cc_4 := blk_cell k2 4 rfl; have fc_4 := blk_free k2 4; have cc_5 := blk_cell k2 5 rfl; have fc_5 := blk_free k2 5; have cc_6 := blk_cell k2 6 rfl; have fc_6 := blk_free k2 6; have cc_7 := blk_cell k2 7 rfl; have fc_7 := blk_free k2 7; have cc_8 := blk_cell k2 8 rfl; have fc_8 := blk_free k2 8; have cc_9 := blk_cell k2 9 rfl; have fc_9 := blk_free k2 9; have cc_10 := blk_cell k2 10 rfl; have fc_10 := blk_free k2 10; have lc := lt_of_block k2
  go_region
  all_goals go_wp2_with fail
  generalize hWf : World.setCell _ _ _ = Wf
  have hf : Wf.heap[w.heap.size + 1]? = some (.cells #[.int .i64 r.loss, .int .i64 r.twice, .int .i64 r.least, .int .i64 r.most, .int .i64 r.seed, .int .u64 s.x, .int .i64 s.now, .slice none 0 0, .int .i64 s.sent, .int .i64 s.lost, .int .i64 s.dbl] 28 (0, 0)) := by rw [← hWf]; exact (by apply Eq.trans; (repeat (first | (with_reducible assumption) | (with_reducible apply blk_set) | ((with_reducible apply blk_far); rotate_left; (first | omega | (simp <;> omega)); rotate_right) | (with_reducible apply blk_drew) | (with_reducible apply blk_drewN) | ((with_reducible apply heap_new'); (first | rfl | (simp <;> fail))) | (with_reducible apply blk_alloc))); (first | with_reducible rfl | (simp <;> fail) | rfl))
  have hK : Keeps (fun i => i = w.heap.size ∨ i = w.heap.size + 1) V Wf := by rw [← hWf]; exact (by repeat (first | with_reducible exact Keeps.refl _ _ | (with_reducible refine Keeps.setCell ?_ (.inl (.inr rfl)) _) | (with_reducible refine Keeps.setCell ?_ (.inl (.inl rfl)) _)))
  clear hWf
  have cm_0 := blk_cell hf 0 rfl; have fm_0 := blk_free hf 0; have cm_1 := blk_cell hf 1 rfl; have fm_1 := blk_free hf 1; have cm_2 := blk_cell hf 2 rfl; have fm_2 := blk_free hf 2; have cm_3 := blk_cell hf 3 rfl; have fm_3 := blk_free hf 3; have cm_4 := blk_cell hf 4 rfl; have fm_4 := blk_free hf 4; have cm_5 := blk_cell hf 5 rfl; have fm_5 := blk_free hf 5; have cm_6 := blk_cell hf 6 rfl; have fm_6 := blk_free hf 6; have cm_7 := blk_cell hf 7 rfl; have fm_7 := blk_free hf 7; have cm_8 := blk_cell hf 8 rfl; have fm_8 := blk_free hf 8; have cm_9 := blk_cell hf 9 rfl; have fm_9 := blk_free hf 9; have cm_10 := blk_cell hf 10 rfl; have fm_10 := blk_free hf 10; have lm := lt_of_block hf
  refine bodyPost_ret (v := .tuple #[.pointer (some ⟨b, 0, none⟩), .agg #[.int .i64 r.loss, .int .i64 r.twice, .int .i64 r.least, .int .i64 r.most, .int .i64 r.seed, .int .u64 s.x, .int .i64 s.now, .slice none 0 0, .int .i64 s.sent, .int .i64 s.lost, .int .i64 s.dbl], .bool true]) ?_ rfl ⟨b, ?_, ?_, ?_⟩
  · simp [results, Try.results9, go_sem, cm_0, cm_1, cm_2, cm_3, cm_4, cm_5, cm_6, cm_7, cm_8, cm_9, cm_10]
  · rw [← HS.out]; rfl
  · have h9 := (HL.out.kept hK (fun i hi hj => by rcases hi with hi | hi; (· omega); (· cases hi))).base (base' := w.heap.size) (by simp; omega)
    first | exact h9 | exact h9.drew
  · have h9 : Below w.heap.size w Wf := HB.out.trans (hK.below (fun i _ hi => by omega) (by have := HB.out.size; omega))
    first | exact h9 | exact h9.drew
end Go.Proofs.Ytgdpoiapkaahfaa

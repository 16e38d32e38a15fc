/- The reference's link: SendFrame; SameAll. -/
import Derived.Test.YtgdpoiapkaahfaaRLkC
namespace Go.Proofs.Ytgdpoiapkaahfaa
open Go.RowKit
set_option maxHeartbeats 8000000
set_option maxRecDepth 100000
set_option linter.unusedSimpArgs false
set_option linter.unusedVariables false
attribute [local go_sem ↓] Go.wp_at_zero Go.wp_at_succ
theorem rsend_any (r : Lnk.Ru) (s : Lnk.St) (A : Option Addr) (n c : Nat) (now : Int) (D : Option Addr) (m cap : Nat) (d : List Int) (w : World) (hnu : n = s.u.length) (hr : Lnk.vld r = true) (hs : Lnk.Inv s) (hsent : s.sent < 1000000000) (X : Nat → Prop) (h : RWay w X A n s.u) (hnc : n ≤ c)
    (hm : m ≤ 140737488355328) (hd : Rd w w.heap.size D m d) :
    Calls Try.prog 33 #[rlv r s A n c, .int .i64 now, .slice D m cap] w (RSendPost X r (Lnk.send r s now d) (Lnk.sendE s now m) w) := by
  by_cases he : Lnk.sendE s now m = 0
  · rw [he]
    exact rsend_yes r s A n c now D m cap d w hnu hr hs hsent X h hnc hd he
  · refine (rsend_no r s A n c now D m cap w hnu hm (by have := hs.2.2.1; omega) he).mono ?_
    rintro e w' ⟨rfl, hB⟩
    rw [send_is (by rw [hd.1]; exact he)]
    subst hnu
    exact ⟨A, c, rfl, (h.bound.below hB (fun i hi => hi.2)).mono (fun i hi => .inl hi.1), hnc, hB⟩
theorem rsendf_any (r : Lnk.Ru) (s : Lnk.St) (A : Option Addr) (n c : Nat) (now : Int) (k f t q : Int) (D : Option Addr) (m cap : Nat) (d : List Int) (w : World) (hnu : n = s.u.length) (hr : Lnk.vld r = true) (hs : Lnk.Inv s) (hsent : s.sent < 1000000000) (X : Nat → Prop) (h : RWay w X A n s.u) (hnc : n ≤ c)
    (hm : m ≤ 140737488355328) (hd : Rd w w.heap.size D m d) :
    Calls Try.prog 34 #[rlv r s A n c, .int .i64 now, .agg #[.int .i64 k, .int .i64 f, .int .i64 t, .int .i64 q, .slice D m cap]] w (RSendPost X r (sfS r s now k f t q d) (sfE s now k f t q m) w) := by
  have hdl := hd.1
  have HW := Lib.hid h.bound
  have HNU := Lib.hid hnu
  cases hv : Frm.vd k f t q m
  · have EN := Lib.hid (fun (W : World) => renc_no k f t q D m cap W hm hv)
    have E1 := Lib.hid (show sfE s now k f t q m = 2 by unfold sfE; rw [if_neg (by rw [hv]; simp)])
    have E2 := Lib.hid (show sfS r s now k f t q d = s by unfold sfS; rw [if_neg (by rw [hdl, hv]; simp)])
    clear hv h hd hs hr hdl hnu
    simp only [rlv, rll] at *
    go_enter Try.func34, Try.ntmps34
    go_wp2_with fail
    refine (EN.out _).mono ?_
    rintro e w1 ⟨rfl, hb1⟩
    have hz1 := hb1.size; try simp at hz1
    have k0 := blk_below (q := w.heap.size) (by repeat (first | (with_reducible assumption) | ((with_reducible apply blk_far); rotate_left; (first | omega | (simp <;> omega)); rotate_right) | (with_reducible apply blk_drew) | (with_reducible apply blk_drewN) | (with_reducible exact heap_new _ _) | ((with_reducible apply heap_new'); (first | rfl | (simp <;> fail))) | (with_reducible apply blk_alloc))) hb1 (by first | omega | (simp; done) | (simp; omega))
    have k1 := blk_below (q := w.heap.size + 2) (by repeat (first | (with_reducible assumption) | ((with_reducible apply blk_far); rotate_left; (first | omega | (simp <;> omega)); rotate_right) | (with_reducible apply blk_drew) | (with_reducible apply blk_drewN) | (with_reducible exact heap_new _ _) | ((with_reducible apply heap_new'); (first | rfl | (simp <;> fail))) | (with_reducible apply blk_alloc))) hb1 (by first | omega | (simp; done) | (simp; omega))
    have HB1 := Lib.hid (show Below w.heap.size w w1 from (by repeat (first | (with_reducible exact Below.refl _ _) | (with_reducible refine Below.drew ?_) | (with_reducible refine below_drewN ?_ _) | ((with_reducible refine Below.alloc ?_ ?_ _); rotate_left; (first | omega | (simp <;> omega)); rotate_right) | ((with_reducible refine Below.setCell ?_ ?_ _); rotate_left; (first | omega | (simp <;> omega)); rotate_right) | (with_reducible assumption) | (refine Below.trans ?_ (Below.mono (by assumption) ?_); rotate_left; (first | omega | (simp <;> omega)); rotate_right))))
    clear hb1
    have ca_0 := blk_cell k0 0 rfl; have fa_0 := blk_free k0 0; have ca_1 := blk_cell k0 1 rfl; have fa_1 := blk_free k0 1; have ca_2 := blk_cell k0 2 rfl; have fa_2 := blk_free k0 2; have ca_3 := blk_cell k0 3 rfl; have fa_3 := blk_free k0 3; have ca_4 := blk_cell k0 4 rfl; have fa_4 := blk_free k0 4; have ca_5 := blk_cell k0 5 rfl; have fa_5 := blk_free k0 5; have ca_6 := blk_cell k0 6 rfl; have fa_6 := blk_free k0 6; have ca_7 := blk_cell k0 7 rfl; have fa_7 := blk_free k0 7; have ca_8 := blk_cell k0 8 rfl; have fa_8 := blk_free k0 8; have ca_9 := blk_cell k0 9 rfl; have fa_9 := blk_free k0 9; have ca_10 := blk_cell k0 10 rfl; have fa_10 := blk_free k0 10; have la := lt_of_block k0
    have cb_0 := blk_cell k1 0 rfl; have fb_0 := blk_free k1 0; have cb_1 := blk_cell k1 1 rfl; have fb_1 := blk_free k1 1; have cb_2 := blk_cell k1 2 rfl; have fb_2 := blk_free k1 2; have cb_3 := blk_cell k1 3 rfl; have fb_3 := blk_free k1 3; have cb_4 := blk_cell k1 4 rfl; have fb_4 := blk_free k1 4; have cb_5 := blk_cell k1 5 rfl; have fb_5 := blk_free k1 5; have cb_6 := blk_cell k1 6 rfl; have fb_6 := blk_free k1 6; have cb_7 := blk_cell k1 7 rfl; have fb_7 := blk_free k1 7; have cb_8 := blk_cell k1 8 rfl; have fb_8 := blk_free k1 8; have cb_9 := blk_cell k1 9 rfl; have fb_9 := blk_free k1 9; have cb_10 := blk_cell k1 10 rfl; have fb_10 := blk_free k1 10; have lb := lt_of_block k1
    go_wp2_with fail
    generalize hWf : World.setCell _ _ _ = Wf
    have hf : Wf.heap[w.heap.size + 2]? = some (.cells #[.int .i64 r.loss, .int .i64 r.twice, .int .i64 r.least, .int .i64 r.most, .int .i64 r.seed, .int .u64 s.x, .int .i64 s.now, .slice A n c, .int .i64 s.sent, .int .i64 s.lost, .int .i64 s.dbl] 28 (0, 0)) := by rw [← hWf]; exact (by apply Eq.trans; (repeat (first | (with_reducible assumption) | (with_reducible apply blk_set) | ((with_reducible apply blk_far); rotate_left; (first | omega | (simp <;> omega)); rotate_right) | (with_reducible apply blk_drew) | (with_reducible apply blk_drewN) | ((with_reducible apply heap_new'); (first | rfl | (simp <;> fail))) | (with_reducible apply blk_alloc))); (first | with_reducible rfl | (simp <;> fail) | rfl))
    have hB1' := HB1.out
    have hB : Below w.heap.size w Wf := by rw [← hWf]; exact (by repeat (first | (with_reducible exact Below.refl _ _) | (with_reducible refine Below.drew ?_) | (with_reducible refine below_drewN ?_ _) | ((with_reducible refine Below.alloc ?_ ?_ _); rotate_left; (first | omega | (simp <;> omega)); rotate_right) | ((with_reducible refine Below.setCell ?_ ?_ _); rotate_left; (first | omega | (simp <;> omega)); rotate_right) | (with_reducible assumption) | (refine Below.trans ?_ (Below.mono (by assumption) ?_); rotate_left; (first | omega | (simp <;> omega)); rotate_right)))
    clear hWf k0 k1
    have cm_0 := blk_cell hf 0 rfl; have fm_0 := blk_free hf 0; have cm_1 := blk_cell hf 1 rfl; have fm_1 := blk_free hf 1; have cm_2 := blk_cell hf 2 rfl; have fm_2 := blk_free hf 2; have cm_3 := blk_cell hf 3 rfl; have fm_3 := blk_free hf 3; have cm_4 := blk_cell hf 4 rfl; have fm_4 := blk_free hf 4; have cm_5 := blk_cell hf 5 rfl; have fm_5 := blk_free hf 5; have cm_6 := blk_cell hf 6 rfl; have fm_6 := blk_free hf 6; have cm_7 := blk_cell hf 7 rfl; have fm_7 := blk_free hf 7; have cm_8 := blk_cell hf 8 rfl; have fm_8 := blk_free hf 8; have cm_9 := blk_cell hf 9 rfl; have fm_9 := blk_free hf 9; have cm_10 := blk_cell hf 10 rfl; have fm_10 := blk_free hf 10; have lm := lt_of_block hf
    refine bodyPost_ret (v := .tuple #[.agg #[.int .i64 r.loss, .int .i64 r.twice, .int .i64 r.least, .int .i64 r.most, .int .i64 r.seed, .int .u64 s.x, .int .i64 s.now, .slice A n c, .int .i64 s.sent, .int .i64 s.lost, .int .i64 s.dbl], .int .i64 2]) ?_ rfl ?_
    · simp [results, Try.results34, go_sem, cm_0, cm_1, cm_2, cm_3, cm_4, cm_5, cm_6, cm_7, cm_8, cm_9, cm_10]
    · rw [E1.out, E2.out]
      refine ⟨A, c, ?_, ?_, ?_, hB⟩
      · simp only [rlv, rll, HNU.out]
      · rw [← HNU.out]; exact (HW.out.below hB (fun i hi => hi.2)).mono (fun i hi => .inl hi.1)
      · rw [← HNU.out]; exact hnc
  · have hn64 : m ≤ 64 := (Frm.vd_bd hv).2.2.2.2
    have EN := Lib.hid (fun (W : World) (hW : Rd W W.heap.size D m d) => renc_yes k f t q D m cap d W hv hW)
    obtain ⟨s3, hs3⟩ : ∃ s3, s3 = sfS r s now k f t q d := ⟨_, rfl⟩
    have E1 := Lib.hid (show sfE s now k f t q m = Lnk.sendE s now (m + 10) by unfold sfE; rw [if_pos hv])
    have SD := Lib.hid (show ∀ (W : World) (A' : Option Addr) (cap' : Nat), RWay W (fun i => X i ∧ i < w.heap.size) A n s.u → Rd W W.heap.size A' (m + 10) (Frm.enc k f t q d) → Calls Try.prog 33 #[rlv r s A n c, .int .i64 now, .slice A' (m + 10) cap'] W (RSendPost (fun i => X i ∧ i < w.heap.size) r s3 (Lnk.sendE s now (m + 10)) W) from fun W A' cap' hW hR => by
      have e : s3 = Lnk.send r s now (Frm.enc k f t q d) := by rw [hs3]; unfold sfS; rw [if_pos (by rw [hdl]; exact hv)]
      rw [e]
      exact rsend_any r s A n c now A' (m + 10) cap' (Frm.enc k f t q d) W hnu hr hs hsent _ hW hnc (by omega) hR)
    obtain ⟨x, hx⟩ : ∃ x, x = Lnk.sendE s now (m + 10) := ⟨_, rfl⟩
    rw [← hx] at SD E1
    have HD := Lib.hid hd
    have HS3 := Lib.hid hs3
    clear hv h hd hs hr hdl hnu hs3 hx
    simp only [rlv, rll] at *
    go_enter Try.func34, Try.ntmps34
    go_wp2_with fail
    refine (EN.out _ (((HD.out.alloc (Nat.le_refl _) _).alloc (by simp) _).alloc (by simp; omega) _ |>.more (by simp; omega))).mono ?_
    rintro e w1 ⟨A1, cap1, rfl, hO, hb1⟩
    have hz1 := hb1.size; try simp at hz1
    have k0 := blk_below (q := w.heap.size) (by repeat (first | (with_reducible assumption) | ((with_reducible apply blk_far); rotate_left; (first | omega | (simp <;> omega)); rotate_right) | (with_reducible apply blk_drew) | (with_reducible apply blk_drewN) | (with_reducible exact heap_new _ _) | ((with_reducible apply heap_new'); (first | rfl | (simp <;> fail))) | (with_reducible apply blk_alloc))) hb1 (by first | omega | (simp; done) | (simp; omega))
    have k1 := blk_below (q := w.heap.size + 2) (by repeat (first | (with_reducible assumption) | ((with_reducible apply blk_far); rotate_left; (first | omega | (simp <;> omega)); rotate_right) | (with_reducible apply blk_drew) | (with_reducible apply blk_drewN) | (with_reducible exact heap_new _ _) | ((with_reducible apply heap_new'); (first | rfl | (simp <;> fail))) | (with_reducible apply blk_alloc))) hb1 (by first | omega | (simp; done) | (simp; omega))
    have hB1 := (show Below w.heap.size w w1 from (by repeat (first | (with_reducible exact Below.refl _ _) | (with_reducible refine Below.drew ?_) | (with_reducible refine below_drewN ?_ _) | ((with_reducible refine Below.alloc ?_ ?_ _); rotate_left; (first | omega | (simp <;> omega)); rotate_right) | ((with_reducible refine Below.setCell ?_ ?_ _); rotate_left; (first | omega | (simp <;> omega)); rotate_right) | (with_reducible assumption) | (refine Below.trans ?_ (Below.mono (by assumption) ?_); rotate_left; (first | omega | (simp <;> omega)); rotate_right))))
    have HB1 := Lib.hid hB1
    have HRW := Lib.hid (HW.out.below hB1 (fun i hi => hi.2))
    have HRD := Lib.hid hO.rd
    clear hb1 hB1 hO EN
    have ca_0 := blk_cell k0 0 rfl; have fa_0 := blk_free k0 0; have ca_1 := blk_cell k0 1 rfl; have fa_1 := blk_free k0 1; have ca_2 := blk_cell k0 2 rfl; have fa_2 := blk_free k0 2; have ca_3 := blk_cell k0 3 rfl; have fa_3 := blk_free k0 3; have ca_4 := blk_cell k0 4 rfl; have fa_4 := blk_free k0 4; have ca_5 := blk_cell k0 5 rfl; have fa_5 := blk_free k0 5; have ca_6 := blk_cell k0 6 rfl; have fa_6 := blk_free k0 6; have ca_7 := blk_cell k0 7 rfl; have fa_7 := blk_free k0 7; have ca_8 := blk_cell k0 8 rfl; have fa_8 := blk_free k0 8; have ca_9 := blk_cell k0 9 rfl; have fa_9 := blk_free k0 9; have ca_10 := blk_cell k0 10 rfl; have fa_10 := blk_free k0 10; have la := lt_of_block k0
    go_wp2_with fail
    refine (SD.out _ _ _ HRW.out HRD.out).mono ?_
    rintro e w2 ⟨A2, c2, rfl, hw2, hc2, hb2⟩
    have hz2 := hb2.size
    have j1 := blk_below k1 hb2 (by omega)
    have HW2 := Lib.hid hw2
    have HB2 := Lib.hid (HB1.out.trans (hb2.mono (by omega)))
    clear hb2 hw2 ca_0 fa_0 ca_1 fa_1 ca_2 fa_2 ca_3 fa_3 ca_4 fa_4 ca_5 fa_5 ca_6 fa_6 ca_7 fa_7 ca_8 fa_8 ca_9 fa_9 ca_10 fa_10 k0 k1 la HRW HRD SD
    simp only [rlv, rll] at *
    have cb_0 := blk_cell j1 0 rfl; have fb_0 := blk_free j1 0; have cb_1 := blk_cell j1 1 rfl; have fb_1 := blk_free j1 1; have cb_2 := blk_cell j1 2 rfl; have fb_2 := blk_free j1 2; have cb_3 := blk_cell j1 3 rfl; have fb_3 := blk_free j1 3; have cb_4 := blk_cell j1 4 rfl; have fb_4 := blk_free j1 4; have cb_5 := blk_cell j1 5 rfl; have fb_5 := blk_free j1 5; have cb_6 := blk_cell j1 6 rfl; have fb_6 := blk_free j1 6; have cb_7 := blk_cell j1 7 rfl; have fb_7 := blk_free j1 7; have cb_8 := blk_cell j1 8 rfl; have fb_8 := blk_free j1 8; have cb_9 := blk_cell j1 9 rfl; have fb_9 := blk_free j1 9; have cb_10 := blk_cell j1 10 rfl; have fb_10 := blk_free j1 10; have lb := lt_of_block j1
    go_wp2_with fail
    generalize hWf : World.setCell _ _ _ = Wf
    have hf : Wf.heap[w.heap.size + 2]? = some (.cells #[.int .i64 r.loss, .int .i64 r.twice, .int .i64 r.least, .int .i64 r.most, .int .i64 r.seed, .int .u64 s3.x, .int .i64 s3.now, .slice A2 s3.u.length c2, .int .i64 s3.sent, .int .i64 s3.lost, .int .i64 s3.dbl] 28 (0, 0)) := by rw [← hWf]; exact (by apply Eq.trans; (repeat (first | (with_reducible assumption) | (with_reducible apply blk_set) | ((with_reducible apply blk_far); rotate_left; (first | omega | (simp <;> omega)); rotate_right) | (with_reducible apply blk_drew) | (with_reducible apply blk_drewN) | ((with_reducible apply heap_new'); (first | rfl | (simp <;> fail))) | (with_reducible apply blk_alloc))); (first | with_reducible rfl | (simp <;> fail) | rfl))
    have hKf : Keeps (fun i => i = w.heap.size ∨ i = w.heap.size + 2) w2 Wf := by rw [← hWf]; exact (by repeat (first | with_reducible exact Keeps.refl _ _ | (with_reducible refine Keeps.setCell ?_ (.inl (.inr rfl)) _) | (with_reducible refine Keeps.setCell ?_ (.inl (.inl rfl)) _)))
    clear hWf j1 cb_0 fb_0 cb_1 fb_1 cb_2 fb_2 cb_3 fb_3 cb_4 fb_4 cb_5 fb_5 cb_6 fb_6 cb_7 fb_7 cb_8 fb_8 cb_9 fb_9 cb_10 fb_10
    have cm_0 := blk_cell hf 0 rfl; have fm_0 := blk_free hf 0; have cm_1 := blk_cell hf 1 rfl; have fm_1 := blk_free hf 1; have cm_2 := blk_cell hf 2 rfl; have fm_2 := blk_free hf 2; have cm_3 := blk_cell hf 3 rfl; have fm_3 := blk_free hf 3; have cm_4 := blk_cell hf 4 rfl; have fm_4 := blk_free hf 4; have cm_5 := blk_cell hf 5 rfl; have fm_5 := blk_free hf 5; have cm_6 := blk_cell hf 6 rfl; have fm_6 := blk_free hf 6; have cm_7 := blk_cell hf 7 rfl; have fm_7 := blk_free hf 7; have cm_8 := blk_cell hf 8 rfl; have fm_8 := blk_free hf 8; have cm_9 := blk_cell hf 9 rfl; have fm_9 := blk_free hf 9; have cm_10 := blk_cell hf 10 rfl; have fm_10 := blk_free hf 10; have lm := lt_of_block hf
    refine bodyPost_ret (v := .tuple #[.agg #[.int .i64 r.loss, .int .i64 r.twice, .int .i64 r.least, .int .i64 r.most, .int .i64 r.seed, .int .u64 s3.x, .int .i64 s3.now, .slice A2 s3.u.length c2, .int .i64 s3.sent, .int .i64 s3.lost, .int .i64 s3.dbl], .int .i64 x]) ?_ rfl ?_
    · simp [results, Try.results34, go_sem, cm_0, cm_1, cm_2, cm_3, cm_4, cm_5, cm_6, cm_7, cm_8, cm_9, cm_10]
    · have hB : Below w.heap.size w Wf := HB2.out.trans (hKf.below (fun i _ hi => by omega) (by omega))
      rw [E1.out, ← HS3.out]
      refine ⟨A2, c2, rfl, ?_, hc2, hB⟩
      exact (HW2.out.keep hKf (fun i hi hs => by rcases hi with hi | hi <;> omega)).mono (fun i hi => hi.imp (fun h => h.1) (fun h => by omega))
end Go.Proofs.Ytgdpoiapkaahfaa

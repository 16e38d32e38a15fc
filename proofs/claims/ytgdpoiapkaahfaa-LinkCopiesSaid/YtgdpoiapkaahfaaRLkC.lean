/- The reference's link: Send, SendFrame. -/
import Derived.Test.YtgdpoiapkaahfaaRLkB
namespace Go.Proofs.Ytgdpoiapkaahfaa
open Go.RowKit
set_option maxHeartbeats 8000000
set_option maxRecDepth 100000
set_option linter.unusedSimpArgs false
set_option linter.unusedVariables false
attribute [local go_sem ↓] Go.wp_at_zero Go.wp_at_succ
/-- what the reference's Send gives -/
def RSendPost (X : Nat → Prop) (r : Lnk.Ru) (s : Lnk.St) (x : Int) (w : World) (e : Ending) (w' : World) : Prop :=
  ∃ A' c', e = .returned (.tuple #[rlv r s A' s.u.length c', .int .i64 x]) ∧ RWay w' (fun i => X i ∨ w.heap.size ≤ i) A' s.u.length s.u ∧ s.u.length ≤ c' ∧ Below w.heap.size w w'
theorem rsend_no (r : Lnk.Ru) (s : Lnk.St) (A : Option Addr) (n c : Nat) (now : Int) (D : Option Addr) (m cap : Nat) (w : World) (hn : n = s.u.length) (hm : m ≤ 140737488355328) (hnn : n ≤ 1000000) (he : Lnk.sendE s now m ≠ 0) :
    Calls Try.prog 33 #[rlv r s A n c, .int .i64 now, .slice D m cap] w fun e w' => e = .returned (.tuple #[rlv r s A n c, .int .i64 (Lnk.sendE s now m)]) ∧ Below w.heap.size w w' := by
  have cases : (m < 1 ∧ Lnk.sendE s now m = 2) ∨ (128 < m ∧ Lnk.sendE s now m = 2) ∨ ((1 ≤ m ∧ m ≤ 128) ∧ now < s.now ∧ Lnk.sendE s now m = 3) ∨ ((1 ≤ m ∧ m ≤ 128) ∧ s.now ≤ now ∧ 1073741824 < now ∧ Lnk.sendE s now m = 3) ∨ ((1 ≤ m ∧ m ≤ 128) ∧ (s.now ≤ now ∧ now ≤ 1073741824) ∧ 999 ≤ n ∧ Lnk.sendE s now m = 7) := by
    unfold Lnk.sendE at he ⊢
    by_cases h1 : 1 ≤ m ∧ m ≤ 128
    · rw [if_neg (by simpa using h1)] at he ⊢
      by_cases h2 : s.now ≤ now ∧ now ≤ 1073741824
      · rw [if_neg (by simpa using h2)] at he ⊢
        by_cases h3 : 999 ≤ s.u.length
        · rw [if_pos h3]
          exact .inr (.inr (.inr (.inr ⟨h1, h2, by omega, rfl⟩)))
        · rw [if_neg h3] at he
          exact absurd rfl he
      · rw [if_pos h2]
        by_cases h3 : now < s.now
        · exact .inr (.inr (.inl ⟨h1, h3, rfl⟩))
        · exact .inr (.inr (.inr (.inl ⟨h1, by omega, by omega, rfl⟩)))
    · rw [if_pos h1]
      by_cases h3 : m < 1
      · exact .inl ⟨h3, rfl⟩
      · exact .inr (.inl ⟨by omega, rfl⟩)
  clear he hn
  simp only [rlv, rll] at *
  rcases cases with ⟨h1, E⟩ | ⟨h1, E⟩ | ⟨h1, h2, E⟩ | ⟨h1, h2, h3, E⟩ | ⟨h1, h2, h3, E⟩
  all_goals
    rw [E]
    clear E
    go_enter Try.func33, Try.ntmps33
    go_wp2_with fail
    refine bodyPost_ret (v := .tuple #[.agg #[.int .i64 r.loss, .int .i64 r.twice, .int .i64 r.least, .int .i64 r.most, .int .i64 r.seed, .int .u64 s.x, .int .i64 s.now, .slice A n c, .int .i64 s.sent, .int .i64 s.lost, .int .i64 s.dbl], _]) ?_ rfl ⟨rfl, (by repeat (first | (with_reducible exact Below.refl _ _) | (with_reducible refine Below.drew ?_) | (with_reducible refine below_drewN ?_ _) | ((with_reducible refine Below.alloc ?_ ?_ _); rotate_left; (first | omega | (simp <;> omega)); rotate_right) | ((with_reducible refine Below.setCell ?_ ?_ _); rotate_left; (first | omega | (simp <;> omega)); rotate_right) | (with_reducible assumption) | (refine Below.trans ?_ (Below.mono (by assumption) ?_); rotate_left; (first | omega | (simp <;> omega)); rotate_right)))⟩
    simp [results, Try.results33, go_sem]
theorem rsend_yes (r : Lnk.Ru) (s : Lnk.St) (A : Option Addr) (n c : Nat) (now : Int) (D : Option Addr) (m cap : Nat) (d : List Int) (w : World) (hnu : n = s.u.length) (hr : Lnk.vld r = true) (hs : Lnk.Inv s) (hsent : s.sent < 1000000000) (X : Nat → Prop) (h : RWay w X A n s.u) (hnc : n ≤ c)
    (hd : Rd w w.heap.size D m d) (he : Lnk.sendE s now m = 0) :
    Calls Try.prog 33 #[rlv r s A n c, .int .i64 now, .slice D m cap] w (RSendPost X r (Lnk.send r s now d) 0 w) := by
  obtain ⟨h1, h2, h3⟩ := Lnk.sendE_ok he
  have HE := Lib.hid (show Lnk.sendE s now d.length = 0 by rw [hd.1]; exact he)
  have HW := Lib.hid h.bound
  have HD := Lib.hid hd
  have HR := Lib.hid hr
  have HNU := Lib.hid hnu
  have h3' : n < 999 := by omega
  have HI := Lib.hid (Lnk.inv_send0 hs h2 hsent)
  obtain ⟨_, ⟨n1, n2⟩, _, _, ⟨p1, p2⟩, ⟨l1, l2⟩, q1, q2⟩ := hs
  obtain ⟨s1, hs1⟩ : ∃ s1, s1 = Lnk.send0 s now := ⟨_, rfl⟩
  have DR := Lib.hid (show ∀ W : World, Calls Try.prog 45 #[.agg #[.int .i64 r.loss, .int .i64 r.twice, .int .i64 r.least, .int .i64 r.most, .int .i64 r.seed, .int .u64 s.x, .int .i64 now, .slice A n c, .int .i64 (s.sent + 1), .int .i64 s.lost, .int .i64 s.dbl]] W
      fun e w' => e = .returned (.tuple #[rlv r s1 A n c, .int .i64 (Lnk.dr s.x)]) ∧ Below W.heap.size W w' from fun W => by rw [hs1]; exact rdraw_any r { s with now := now, sent := s.sent + 1 } A n c W)
  have hS1 := Lib.hid (show s1.u = s.u ∧ s1.now = now ∧ s1.lost = s.lost ∧ s1.dbl = s.dbl ∧ s1.sent = s.sent + 1 ∧ s1.x = Lnk.nx s.x by rw [hs1]; exact ⟨rfl, rfl, rfl, rfl, rfl, rfl⟩)
  have HS1 := Lib.hid hs1
  have hI1 : Lnk.Inv s1 := by rw [hs1]; exact HI.out
  have HI1 := Lib.hid hI1
  have hd1 := Lnk.dr_bd s.x
  obtain ⟨dx, hdx⟩ : ∃ dx, dx = Lnk.dr s.x := ⟨_, rfl⟩
  rw [← hdx] at DR hd1
  have HDX := Lib.hid hdx
  clear hdx hs1 h hd he hI1 hr hnu
  simp only [rlv, rll] at *
  obtain ⟨d1, d2⟩ := hd1
  go_enter Try.func33, Try.ntmps33
  go_wp2_with fail
  refine (DR.out _).mono ?_
  rintro e w1 ⟨rfl, hb1⟩
  have hz1 := hb1.size; try simp at hz1
  have k0 := blk_below (q := w.heap.size) (by repeat (first | (with_reducible assumption) | ((with_reducible apply blk_far); rotate_left; (first | omega | (simp <;> omega)); rotate_right) | (with_reducible apply blk_drew) | (with_reducible apply blk_drewN) | (with_reducible exact heap_new _ _) | ((with_reducible apply heap_new'); (first | rfl | (simp <;> fail))) | (with_reducible apply blk_alloc))) hb1 (by first | omega | (simp; done) | (simp; omega))
  have k1 := blk_below (q := w.heap.size + 1) (by repeat (first | (with_reducible assumption) | ((with_reducible apply blk_far); rotate_left; (first | omega | (simp <;> omega)); rotate_right) | (with_reducible apply blk_drew) | (with_reducible apply blk_drewN) | (with_reducible exact heap_new _ _) | ((with_reducible apply heap_new'); (first | rfl | (simp <;> fail))) | (with_reducible apply blk_alloc))) hb1 (by first | omega | (simp; done) | (simp; omega))
  have HB1 := (show Below w.heap.size w w1 from (by repeat (first | (with_reducible exact Below.refl _ _) | (with_reducible refine Below.drew ?_) | (with_reducible refine below_drewN ?_ _) | ((with_reducible refine Below.alloc ?_ ?_ _); rotate_left; (first | omega | (simp <;> omega)); rotate_right) | ((with_reducible refine Below.setCell ?_ ?_ _); rotate_left; (first | omega | (simp <;> omega)); rotate_right) | (with_reducible assumption) | (refine Below.trans ?_ (Below.mono (by assumption) ?_); rotate_left; (first | omega | (simp <;> omega)); rotate_right))))
  clear hb1 DR
  have ca_0 := blk_cell k0 0 rfl; have fa_0 := blk_free k0 0; have ca_1 := blk_cell k0 1 rfl; have fa_1 := blk_free k0 1; have ca_2 := blk_cell k0 2 rfl; have fa_2 := blk_free k0 2; have ca_3 := blk_cell k0 3 rfl; have fa_3 := blk_free k0 3; have ca_4 := blk_cell k0 4 rfl; have fa_4 := blk_free k0 4; have ca_5 := blk_cell k0 5 rfl; have fa_5 := blk_free k0 5; have ca_6 := blk_cell k0 6 rfl; have fa_6 := blk_free k0 6; have ca_7 := blk_cell k0 7 rfl; have fa_7 := blk_free k0 7; have ca_8 := blk_cell k0 8 rfl; have fa_8 := blk_free k0 8; have ca_9 := blk_cell k0 9 rfl; have fa_9 := blk_free k0 9; have ca_10 := blk_cell k0 10 rfl; have fa_10 := blk_free k0 10; have la := lt_of_block k0
  have cb_0 := blk_cell k1 0 rfl; have fb_0 := blk_free k1 0; have cb_1 := blk_cell k1 1 rfl; have fb_1 := blk_free k1 1; have cb_2 := blk_cell k1 2 rfl; have fb_2 := blk_free k1 2; have cb_3 := blk_cell k1 3 rfl; have fb_3 := blk_free k1 3; have cb_4 := blk_cell k1 4 rfl; have fb_4 := blk_free k1 4; have cb_5 := blk_cell k1 5 rfl; have fb_5 := blk_free k1 5; have cb_6 := blk_cell k1 6 rfl; have fb_6 := blk_free k1 6; have cb_7 := blk_cell k1 7 rfl; have fb_7 := blk_free k1 7; have cb_8 := blk_cell k1 8 rfl; have fb_8 := blk_free k1 8; have cb_9 := blk_cell k1 9 rfl; have fb_9 := blk_free k1 9; have cb_10 := blk_cell k1 10 rfl; have fb_10 := blk_free k1 10; have lb := lt_of_block k1
  go_upto_region 10 with fail
  generalize hW : World.setCell _ _ _ = W1
  have k0' : W1.heap[w.heap.size]? = some (.cells #[.int .i64 r.loss, .int .i64 r.twice, .int .i64 r.least, .int .i64 r.most, .int .i64 r.seed, .int .u64 s1.x, .int .i64 s1.now, .slice A n c, .int .i64 s1.sent, .int .i64 s1.lost, .int .i64 s1.dbl] 28 (0, 0)) := by rw [← hW]; exact (by apply Eq.trans; (repeat (first | (with_reducible assumption) | (with_reducible apply blk_set) | ((with_reducible apply blk_far); rotate_left; (first | omega | (simp <;> omega)); rotate_right) | (with_reducible apply blk_drew) | (with_reducible apply blk_drewN) | ((with_reducible apply heap_new'); (first | rfl | (simp <;> fail))) | (with_reducible apply blk_alloc))); (first | with_reducible rfl | (simp <;> fail) | rfl))
  have k1' : W1.heap[w.heap.size + 1]? = some (.cells #[.int .i64 0, .int .i64 0, .int .i64 0, .int .i64 0, .int .i64 0, .int .u64 0, .int .i64 0, .slice none 0 0, .int .i64 0, .int .i64 0, .int .i64 0] 28 (0, 0)) := by rw [← hW]; exact (by repeat (first | (with_reducible assumption) | ((with_reducible apply blk_far); rotate_left; (first | omega | (simp <;> omega)); rotate_right) | (with_reducible apply blk_drew) | (with_reducible apply blk_drewN) | (with_reducible exact heap_new _ _) | ((with_reducible apply heap_new'); (first | rfl | (simp <;> fail))) | (with_reducible apply blk_alloc)))
  have HBW : Below w.heap.size w W1 := by rw [← hW]; exact (by repeat (first | (with_reducible exact Below.refl _ _) | (with_reducible refine Below.drew ?_) | (with_reducible refine below_drewN ?_ _) | ((with_reducible refine Below.alloc ?_ ?_ _); rotate_left; (first | omega | (simp <;> omega)); rotate_right) | ((with_reducible refine Below.setCell ?_ ?_ _); rotate_left; (first | omega | (simp <;> omega)); rotate_right) | (with_reducible assumption) | (refine Below.trans ?_ (Below.mono (by assumption) ?_); rotate_left; (first | omega | (simp <;> omega)); rotate_right)))
  clear hW ca_0 fa_0 ca_1 fa_1 ca_2 fa_2 ca_3 fa_3 ca_4 fa_4 ca_5 fa_5 ca_6 fa_6 ca_7 fa_7 ca_8 fa_8 ca_9 fa_9 ca_10 fa_10 cb_0 fb_0 cb_1 fb_1 cb_2 fb_2 cb_3 fb_3 cb_4 fb_4 cb_5 fb_5 cb_6 fb_6 cb_7 fb_7 cb_8 fb_8 cb_9 fb_9 cb_10 fb_10 k0 k1 HB1 la
  have ca_0 := blk_cell k0' 0 rfl; have fa_0 := blk_free k0' 0; have ca_1 := blk_cell k0' 1 rfl; have fa_1 := blk_free k0' 1; have ca_2 := blk_cell k0' 2 rfl; have fa_2 := blk_free k0' 2; have ca_3 := blk_cell k0' 3 rfl; have fa_3 := blk_free k0' 3; have ca_4 := blk_cell k0' 4 rfl; have fa_4 := blk_free k0' 4; have ca_5 := blk_cell k0' 5 rfl; have fa_5 := blk_free k0' 5; have ca_6 := blk_cell k0' 6 rfl; have fa_6 := blk_free k0' 6; have ca_7 := blk_cell k0' 7 rfl; have fa_7 := blk_free k0' 7; have ca_8 := blk_cell k0' 8 rfl; have fa_8 := blk_free k0' 8; have ca_9 := blk_cell k0' 9 rfl; have fa_9 := blk_free k0' 9; have ca_10 := blk_cell k0' 10 rfl; have fa_10 := blk_free k0' 10; have la := lt_of_block k0'
  have cb_0 := blk_cell k1' 0 rfl; have fb_0 := blk_free k1' 0; have cb_1 := blk_cell k1' 1 rfl; have fb_1 := blk_free k1' 1; have cb_2 := blk_cell k1' 2 rfl; have fb_2 := blk_free k1' 2; have cb_3 := blk_cell k1' 3 rfl; have fb_3 := blk_free k1' 3; have cb_4 := blk_cell k1' 4 rfl; have fb_4 := blk_free k1' 4; have cb_5 := blk_cell k1' 5 rfl; have fb_5 := blk_free k1' 5; have cb_6 := blk_cell k1' 6 rfl; have fb_6 := blk_free k1' 6; have cb_7 := blk_cell k1' 7 rfl; have fb_7 := blk_free k1' 7; have cb_8 := blk_cell k1' 8 rfl; have fb_8 := blk_free k1' 8; have cb_9 := blk_cell k1' 9 rfl; have fb_9 := blk_free k1' 9; have cb_10 := blk_cell k1' 10 rfl; have fb_10 := blk_free k1' 10; have lb := lt_of_block k1'
  have hzW := HBW.size
  by_cases hlost : dx % 1000 < r.loss
  · have HLO := Lib.hid (show Lnk.sendL r s = true by unfold Lnk.sendL; rw [← HDX.out]; exact decide_eq_true hlost)
    have HFIN := Lib.hid (show Lnk.send r s now d = { s1 with lost := s1.lost + 1 } by
      unfold Lnk.send
      rw [if_pos HE.out, if_pos HLO.out, HS1.out]
      rfl)
    have l3 : 0 ≤ s1.lost ∧ s1.lost ≤ 1000000000 := by have := hS1.out.2.2.1; omega
    go_wp2_with fail
    generalize hWf : World.setCell _ _ _ = Wf
    have hf : Wf.heap[w.heap.size + 1]? = some (.cells #[.int .i64 r.loss, .int .i64 r.twice, .int .i64 r.least, .int .i64 r.most, .int .i64 r.seed, .int .u64 s1.x, .int .i64 s1.now, .slice A n c, .int .i64 s1.sent, .int .i64 (s1.lost + 1), .int .i64 s1.dbl] 28 (0, 0)) := by rw [← hWf]; exact (by apply Eq.trans; (repeat (first | (with_reducible assumption) | (with_reducible apply blk_set) | ((with_reducible apply blk_far); rotate_left; (first | omega | (simp <;> omega)); rotate_right) | (with_reducible apply blk_drew) | (with_reducible apply blk_drewN) | ((with_reducible apply heap_new'); (first | rfl | (simp <;> fail))) | (with_reducible apply blk_alloc))); (first | with_reducible rfl | (simp <;> fail) | rfl))
    have hKf : Keeps (fun i => i = w.heap.size ∨ i = w.heap.size + 1) W1 Wf := by rw [← hWf]; exact (by repeat (first | with_reducible exact Keeps.refl _ _ | (with_reducible refine Keeps.setCell ?_ (.inl (.inr rfl)) _) | (with_reducible refine Keeps.setCell ?_ (.inl (.inl rfl)) _)))
    clear hWf k0' k1'
    have cm_0 := blk_cell hf 0 rfl; have fm_0 := blk_free hf 0; have cm_1 := blk_cell hf 1 rfl; have fm_1 := blk_free hf 1; have cm_2 := blk_cell hf 2 rfl; have fm_2 := blk_free hf 2; have cm_3 := blk_cell hf 3 rfl; have fm_3 := blk_free hf 3; have cm_4 := blk_cell hf 4 rfl; have fm_4 := blk_free hf 4; have cm_5 := blk_cell hf 5 rfl; have fm_5 := blk_free hf 5; have cm_6 := blk_cell hf 6 rfl; have fm_6 := blk_free hf 6; have cm_7 := blk_cell hf 7 rfl; have fm_7 := blk_free hf 7; have cm_8 := blk_cell hf 8 rfl; have fm_8 := blk_free hf 8; have cm_9 := blk_cell hf 9 rfl; have fm_9 := blk_free hf 9; have cm_10 := blk_cell hf 10 rfl; have fm_10 := blk_free hf 10; have lm := lt_of_block hf
    refine bodyPost_ret (v := .tuple #[.agg #[.int .i64 r.loss, .int .i64 r.twice, .int .i64 r.least, .int .i64 r.most, .int .i64 r.seed, .int .u64 s1.x, .int .i64 s1.now, .slice A n c, .int .i64 s1.sent, .int .i64 (s1.lost + 1), .int .i64 s1.dbl], .int .i64 0]) ?_ rfl ?_
    · simp [results, Try.results33, go_sem, cm_0, cm_1, cm_2, cm_3, cm_4, cm_5, cm_6, cm_7, cm_8, cm_9, cm_10]
    · have hB : Below w.heap.size w Wf := HBW.trans (hKf.below (fun i _ hi => by omega) (by omega))
      rw [HFIN.out]
      have hu : s1.u = s.u := hS1.out.1
      refine ⟨A, c, ?_, ?_, ?_, hB⟩
      · simp only [rlv, rll, hu, HNU.out]
      · simp only [hu, ← HNU.out]
        exact (HW.out.below hB (fun i hi => hi.2)).mono (fun i hi => .inl hi.1)
      · simp only [hu, ← HNU.out]; exact hnc
  · have HLO := Lib.hid (show Lnk.sendL r s = false by unfold Lnk.sendL; rw [← HDX.out]; exact decide_eq_false hlost)
    obtain ⟨s2, hs2⟩ : ∃ s2, s2 = Lnk.put r s1 d := ⟨_, rfl⟩
    have hu2 : s2.u.length = n + 1 := by rw [hs2]; simp [Lnk.put, hS1.out.1, HNU.out]
    have hI2 : Lnk.Inv s2 := by rw [hs2]; exact Lnk.inv_put HR.out HI1.out HD.out.2.1 (by rw [HD.out.1]; exact h1.2) (by rw [hS1.out.1, ← HNU.out]; omega)
    have hsd2 : s2.dbl = s1.dbl ∧ s2.now = now ∧ s2.sent = s1.sent := by rw [hs2]; exact ⟨rfl, hS1.out.2.1, rfl⟩
    have hdb2 : 0 ≤ s2.dbl ∧ s2.dbl ≤ 1000000000 ∧ s2.dbl < s2.sent := by have := hS1.out; omega
    have PUT := Lib.hid (show ∀ W : World, RWay W (fun i => X i ∧ i < w.heap.size) A n s1.u → Rd W W.heap.size D m d → Calls Try.prog 46 #[rlv r s1 A n c, .int .i64 now, .slice D m cap] W (RPutPost (fun i => X i ∧ i < w.heap.size) r s2 (n + 1) W) from fun W hW hDW => by
      rw [hs2]; exact rput_any r s1 A n c now D m cap d W HR.out (by omega) hS1.out.2.1 (by omega) _ hW (by omega) hDW)
    have HFIN := Lib.hid (show Lnk.send r s now d = if Lnk.sendT r s2 then Lnk.send2 r s2 d else { s2 with x := Lnk.nx s2.x } by
      have e2 : s2 = Lnk.send1 r s now d := by rw [hs2, HS1.out]; rfl
      unfold Lnk.send
      rw [if_pos HE.out, if_neg (by rw [HLO.out]; simp), e2])
    have HU2 := Lib.hid hu2
    have HI2 := Lib.hid hI2
    have HSD2 := Lib.hid hsd2
    have HRW := Lib.hid (show RWay W1 (fun i => X i ∧ i < w.heap.size) A n s1.u by rw [hS1.out.1]; exact HW.out.below HBW (fun i hi => hi.2))
    have HRD := Lib.hid ((HD.out.below HBW (Nat.le_refl _)).more (by omega : w.heap.size ≤ W1.heap.size))
    clear hs2 hu2 hI2 hsd2
    simp only [rlv, rll] at *
    go_wp2_with fail
    refine (PUT.out _ HRW.out HRD.out).mono ?_
    rintro e w2 ⟨A2, c2, rfl, hw2, hc2, hb2⟩
    have hz2 := hb2.size
    have j0 := blk_below k0' hb2 (by omega)
    have j1 := blk_below k1' hb2 (by omega)
    have HW2 := Lib.hid hw2
    have HBX := Lib.hid (HBW.trans (hb2.mono (by omega)))
    clear hb2 hw2 ca_0 fa_0 ca_1 fa_1 ca_2 fa_2 ca_3 fa_3 ca_4 fa_4 ca_5 fa_5 ca_6 fa_6 ca_7 fa_7 ca_8 fa_8 ca_9 fa_9 ca_10 fa_10 k0' k1' HRW HRD PUT la
    have ca_0 := blk_cell j0 0 rfl; have fa_0 := blk_free j0 0; have ca_1 := blk_cell j0 1 rfl; have fa_1 := blk_free j0 1; have ca_2 := blk_cell j0 2 rfl; have fa_2 := blk_free j0 2; have ca_3 := blk_cell j0 3 rfl; have fa_3 := blk_free j0 3; have ca_4 := blk_cell j0 4 rfl; have fa_4 := blk_free j0 4; have ca_5 := blk_cell j0 5 rfl; have fa_5 := blk_free j0 5; have ca_6 := blk_cell j0 6 rfl; have fa_6 := blk_free j0 6; have ca_7 := blk_cell j0 7 rfl; have fa_7 := blk_free j0 7; have ca_8 := blk_cell j0 8 rfl; have fa_8 := blk_free j0 8; have ca_9 := blk_cell j0 9 rfl; have fa_9 := blk_free j0 9; have ca_10 := blk_cell j0 10 rfl; have fa_10 := blk_free j0 10; have la := lt_of_block j0
    have cb_0 := blk_cell j1 0 rfl; have fb_0 := blk_free j1 0; have cb_1 := blk_cell j1 1 rfl; have fb_1 := blk_free j1 1; have cb_2 := blk_cell j1 2 rfl; have fb_2 := blk_free j1 2; have cb_3 := blk_cell j1 3 rfl; have fb_3 := blk_free j1 3; have cb_4 := blk_cell j1 4 rfl; have fb_4 := blk_free j1 4; have cb_5 := blk_cell j1 5 rfl; have fb_5 := blk_free j1 5; have cb_6 := blk_cell j1 6 rfl; have fb_6 := blk_free j1 6; have cb_7 := blk_cell j1 7 rfl; have fb_7 := blk_free j1 7; have cb_8 := blk_cell j1 8 rfl; have fb_8 := blk_free j1 8; have cb_9 := blk_cell j1 9 rfl; have fb_9 := blk_free j1 9; have cb_10 := blk_cell j1 10 rfl; have fb_10 := blk_free j1 10; have lb := lt_of_block j1
    simp only [rlv, rll] at *
    go_upto_region 14 with fail
    generalize hV : World.setCell _ _ _ = W3
    have j0' : W3.heap[w.heap.size]? = some (.cells #[.int .i64 r.loss, .int .i64 r.twice, .int .i64 r.least, .int .i64 r.most, .int .i64 r.seed, .int .u64 s2.x, .int .i64 s2.now, .slice A2 (n + 1) c2, .int .i64 s2.sent, .int .i64 s2.lost, .int .i64 s2.dbl] 28 (0, 0)) := by rw [← hV]; exact (by apply Eq.trans; (repeat (first | (with_reducible assumption) | (with_reducible apply blk_set) | ((with_reducible apply blk_far); rotate_left; (first | omega | (simp <;> omega)); rotate_right) | (with_reducible apply blk_drew) | (with_reducible apply blk_drewN) | ((with_reducible apply heap_new'); (first | rfl | (simp <;> fail))) | (with_reducible apply blk_alloc))); (first | with_reducible rfl | (simp <;> fail) | rfl))
    have j1' : W3.heap[w.heap.size + 1]? = some (.cells #[.int .i64 0, .int .i64 0, .int .i64 0, .int .i64 0, .int .i64 0, .int .u64 0, .int .i64 0, .slice none 0 0, .int .i64 0, .int .i64 0, .int .i64 0] 28 (0, 0)) := by rw [← hV]; exact (by repeat (first | (with_reducible assumption) | ((with_reducible apply blk_far); rotate_left; (first | omega | (simp <;> omega)); rotate_right) | (with_reducible apply blk_drew) | (with_reducible apply blk_drewN) | (with_reducible exact heap_new _ _) | ((with_reducible apply heap_new'); (first | rfl | (simp <;> fail))) | (with_reducible apply blk_alloc)))
    have hK3 : Keeps (fun i => i = w.heap.size ∨ i = w.heap.size + 1) w2 W3 := by rw [← hV]; exact (by repeat (first | with_reducible exact Keeps.refl _ _ | (with_reducible refine Keeps.setCell ?_ (.inl (.inr rfl)) _) | (with_reducible refine Keeps.setCell ?_ (.inl (.inl rfl)) _)))
    have hzK3 := hK3.size
    have HB3 := Lib.hid (HBX.out.trans (hK3.below (B := w.heap.size) (fun i _ hi => by omega) (by omega)))
    have HK3 := Lib.hid hK3
    clear hV hK3 ca_0 fa_0 ca_1 fa_1 ca_2 fa_2 ca_3 fa_3 ca_4 fa_4 ca_5 fa_5 ca_6 fa_6 ca_7 fa_7 ca_8 fa_8 ca_9 fa_9 ca_10 fa_10 cb_0 fb_0 cb_1 fb_1 cb_2 fb_2 cb_3 fb_3 cb_4 fb_4 cb_5 fb_5 cb_6 fb_6 cb_7 fb_7 cb_8 fb_8 cb_9 fb_9 cb_10 fb_10 j0 j1 HBX la lb
    have ca_0 := blk_cell j0' 0 rfl; have fa_0 := blk_free j0' 0; have ca_1 := blk_cell j0' 1 rfl; have fa_1 := blk_free j0' 1; have ca_2 := blk_cell j0' 2 rfl; have fa_2 := blk_free j0' 2; have ca_3 := blk_cell j0' 3 rfl; have fa_3 := blk_free j0' 3; have ca_4 := blk_cell j0' 4 rfl; have fa_4 := blk_free j0' 4; have ca_5 := blk_cell j0' 5 rfl; have fa_5 := blk_free j0' 5; have ca_6 := blk_cell j0' 6 rfl; have fa_6 := blk_free j0' 6; have ca_7 := blk_cell j0' 7 rfl; have fa_7 := blk_free j0' 7; have ca_8 := blk_cell j0' 8 rfl; have fa_8 := blk_free j0' 8; have ca_9 := blk_cell j0' 9 rfl; have fa_9 := blk_free j0' 9; have ca_10 := blk_cell j0' 10 rfl; have fa_10 := blk_free j0' 10; have la := lt_of_block j0'
    have cb_0 := blk_cell j1' 0 rfl; have fb_0 := blk_free j1' 0; have cb_1 := blk_cell j1' 1 rfl; have fb_1 := blk_free j1' 1; have cb_2 := blk_cell j1' 2 rfl; have fb_2 := blk_free j1' 2; have cb_3 := blk_cell j1' 3 rfl; have fb_3 := blk_free j1' 3; have cb_4 := blk_cell j1' 4 rfl; have fb_4 := blk_free j1' 4; have cb_5 := blk_cell j1' 5 rfl; have fb_5 := blk_free j1' 5; have cb_6 := blk_cell j1' 6 rfl; have fb_6 := blk_free j1' 6; have cb_7 := blk_cell j1' 7 rfl; have fb_7 := blk_free j1' 7; have cb_8 := blk_cell j1' 8 rfl; have fb_8 := blk_free j1' 8; have cb_9 := blk_cell j1' 9 rfl; have fb_9 := blk_free j1' 9; have cb_10 := blk_cell j1' 10 rfl; have fb_10 := blk_free j1' 10; have lb := lt_of_block j1'
    have DR := Lib.hid (fun W : World => rdraw_any r s2 A2 (n + 1) c2 W)
    have hd3 := Lnk.dr_bd s2.x
    obtain ⟨dy, hdy⟩ : ∃ dy, dy = Lnk.dr s2.x := ⟨_, rfl⟩
    rw [← hdy] at DR hd3
    have HDY := Lib.hid hdy
    obtain ⟨y, hy⟩ : ∃ y, y = Lnk.nx s2.x := ⟨_, rfl⟩
    rw [← hy] at DR
    have HY := Lib.hid hy
    obtain ⟨d3, d4⟩ := hd3
    clear hdy hy
    simp only [rlv, rll] at *
    go_wp2_with fail
    refine (DR.out _).mono ?_
    rintro e w4 ⟨rfl, hb4⟩
    have hz4 := hb4.size
    have i0 := blk_below j0' hb4 (by omega)
    have i1 := blk_below j1' hb4 (by omega)
    have HB4 := Lib.hid hb4
    clear hb4 ca_0 fa_0 ca_1 fa_1 ca_2 fa_2 ca_3 fa_3 ca_4 fa_4 ca_5 fa_5 ca_6 fa_6 ca_7 fa_7 ca_8 fa_8 ca_9 fa_9 ca_10 fa_10 cb_0 fb_0 cb_1 fb_1 cb_2 fb_2 cb_3 fb_3 cb_4 fb_4 cb_5 fb_5 cb_6 fb_6 cb_7 fb_7 cb_8 fb_8 cb_9 fb_9 cb_10 fb_10 j0' j1' la lb DR
    have ca_0 := blk_cell i0 0 rfl; have fa_0 := blk_free i0 0; have ca_1 := blk_cell i0 1 rfl; have fa_1 := blk_free i0 1; have ca_2 := blk_cell i0 2 rfl; have fa_2 := blk_free i0 2; have ca_3 := blk_cell i0 3 rfl; have fa_3 := blk_free i0 3; have ca_4 := blk_cell i0 4 rfl; have fa_4 := blk_free i0 4; have ca_5 := blk_cell i0 5 rfl; have fa_5 := blk_free i0 5; have ca_6 := blk_cell i0 6 rfl; have fa_6 := blk_free i0 6; have ca_7 := blk_cell i0 7 rfl; have fa_7 := blk_free i0 7; have ca_8 := blk_cell i0 8 rfl; have fa_8 := blk_free i0 8; have ca_9 := blk_cell i0 9 rfl; have fa_9 := blk_free i0 9; have ca_10 := blk_cell i0 10 rfl; have fa_10 := blk_free i0 10; have la := lt_of_block i0
    have cb_0 := blk_cell i1 0 rfl; have fb_0 := blk_free i1 0; have cb_1 := blk_cell i1 1 rfl; have fb_1 := blk_free i1 1; have cb_2 := blk_cell i1 2 rfl; have fb_2 := blk_free i1 2; have cb_3 := blk_cell i1 3 rfl; have fb_3 := blk_free i1 3; have cb_4 := blk_cell i1 4 rfl; have fb_4 := blk_free i1 4; have cb_5 := blk_cell i1 5 rfl; have fb_5 := blk_free i1 5; have cb_6 := blk_cell i1 6 rfl; have fb_6 := blk_free i1 6; have cb_7 := blk_cell i1 7 rfl; have fb_7 := blk_free i1 7; have cb_8 := blk_cell i1 8 rfl; have fb_8 := blk_free i1 8; have cb_9 := blk_cell i1 9 rfl; have fb_9 := blk_free i1 9; have cb_10 := blk_cell i1 10 rfl; have fb_10 := blk_free i1 10; have lb := lt_of_block i1
    go_upto_region 15 with fail
    generalize hV : World.setCell _ _ _ = W5
    have i0' : W5.heap[w.heap.size]? = some (.cells #[.int .i64 r.loss, .int .i64 r.twice, .int .i64 r.least, .int .i64 r.most, .int .i64 r.seed, .int .u64 y, .int .i64 s2.now, .slice A2 (n + 1) c2, .int .i64 s2.sent, .int .i64 s2.lost, .int .i64 s2.dbl] 28 (0, 0)) := by rw [← hV]; exact (by apply Eq.trans; (repeat (first | (with_reducible assumption) | (with_reducible apply blk_set) | ((with_reducible apply blk_far); rotate_left; (first | omega | (simp <;> omega)); rotate_right) | (with_reducible apply blk_drew) | (with_reducible apply blk_drewN) | ((with_reducible apply heap_new'); (first | rfl | (simp <;> fail))) | (with_reducible apply blk_alloc))); (first | with_reducible rfl | (simp <;> fail) | rfl))
    have i1' : W5.heap[w.heap.size + 1]? = some (.cells #[.int .i64 0, .int .i64 0, .int .i64 0, .int .i64 0, .int .i64 0, .int .u64 0, .int .i64 0, .slice none 0 0, .int .i64 0, .int .i64 0, .int .i64 0] 28 (0, 0)) := by rw [← hV]; exact (by repeat (first | (with_reducible assumption) | ((with_reducible apply blk_far); rotate_left; (first | omega | (simp <;> omega)); rotate_right) | (with_reducible apply blk_drew) | (with_reducible apply blk_drewN) | (with_reducible exact heap_new _ _) | ((with_reducible apply heap_new'); (first | rfl | (simp <;> fail))) | (with_reducible apply blk_alloc)))
    have hK5 : Keeps (fun i => i = w.heap.size ∨ i = w.heap.size + 1) w4 W5 := by rw [← hV]; exact (by repeat (first | with_reducible exact Keeps.refl _ _ | (with_reducible refine Keeps.setCell ?_ (.inl (.inr rfl)) _) | (with_reducible refine Keeps.setCell ?_ (.inl (.inl rfl)) _)))
    have hzK5 := hK5.size
    have HB5 := Lib.hid ((HB3.out.trans (HB4.out.mono (by omega))).trans (hK5.below (B := w.heap.size) (fun i _ hi => by omega) (by omega)))
    clear hV ca_0 fa_0 ca_1 fa_1 ca_2 fa_2 ca_3 fa_3 ca_4 fa_4 ca_5 fa_5 ca_6 fa_6 ca_7 fa_7 ca_8 fa_8 ca_9 fa_9 ca_10 fa_10 cb_0 fb_0 cb_1 fb_1 cb_2 fb_2 cb_3 fb_3 cb_4 fb_4 cb_5 fb_5 cb_6 fb_6 cb_7 fb_7 cb_8 fb_8 cb_9 fb_9 cb_10 fb_10 i0 i1 la lb
    have HK35 := Lib.hid (show Keeps (fun i => i = w.heap.size ∨ i = w.heap.size + 1) w2 W5 from (HK3.out.trans (Keeps.of_below HB4.out (S := fun _ => False)) (fun _ _ h => absurd h id)).trans hK5 (fun _ _ h => h))
    clear hK5 HK3 HB4 HB3
    have ca_0 := blk_cell i0' 0 rfl; have fa_0 := blk_free i0' 0; have ca_1 := blk_cell i0' 1 rfl; have fa_1 := blk_free i0' 1; have ca_2 := blk_cell i0' 2 rfl; have fa_2 := blk_free i0' 2; have ca_3 := blk_cell i0' 3 rfl; have fa_3 := blk_free i0' 3; have ca_4 := blk_cell i0' 4 rfl; have fa_4 := blk_free i0' 4; have ca_5 := blk_cell i0' 5 rfl; have fa_5 := blk_free i0' 5; have ca_6 := blk_cell i0' 6 rfl; have fa_6 := blk_free i0' 6; have ca_7 := blk_cell i0' 7 rfl; have fa_7 := blk_free i0' 7; have ca_8 := blk_cell i0' 8 rfl; have fa_8 := blk_free i0' 8; have ca_9 := blk_cell i0' 9 rfl; have fa_9 := blk_free i0' 9; have ca_10 := blk_cell i0' 10 rfl; have fa_10 := blk_free i0' 10; have la := lt_of_block i0'
    have cb_0 := blk_cell i1' 0 rfl; have fb_0 := blk_free i1' 0; have cb_1 := blk_cell i1' 1 rfl; have fb_1 := blk_free i1' 1; have cb_2 := blk_cell i1' 2 rfl; have fb_2 := blk_free i1' 2; have cb_3 := blk_cell i1' 3 rfl; have fb_3 := blk_free i1' 3; have cb_4 := blk_cell i1' 4 rfl; have fb_4 := blk_free i1' 4; have cb_5 := blk_cell i1' 5 rfl; have fb_5 := blk_free i1' 5; have cb_6 := blk_cell i1' 6 rfl; have fb_6 := blk_free i1' 6; have cb_7 := blk_cell i1' 7 rfl; have fb_7 := blk_free i1' 7; have cb_8 := blk_cell i1' 8 rfl; have fb_8 := blk_free i1' 8; have cb_9 := blk_cell i1' 9 rfl; have fb_9 := blk_free i1' 9; have cb_10 := blk_cell i1' 10 rfl; have fb_10 := blk_free i1' 10; have lb := lt_of_block i1'
    by_cases htw : dy % 1000 < r.twice
    · have HTT := Lib.hid (show Lnk.sendT r s2 = true by unfold Lnk.sendT; rw [← HDY.out]; exact decide_eq_true htw)
      obtain ⟨s4, hs4⟩ : ∃ s4, s4 = Lnk.send2 r s2 d := ⟨_, rfl⟩
      have hu4 : s4.u.length = n + 2 := by rw [hs4]; simp [Lnk.send2, Lnk.put, HU2.out]
      have PUT := Lib.hid (show ∀ W : World, RWay W (fun i => (X i ∧ i < w.heap.size) ∨ W1.heap.size ≤ i) A2 (n + 1) s2.u → Rd W W.heap.size D m d → Calls Try.prog 46 #[.agg #[.int .i64 r.loss, .int .i64 r.twice, .int .i64 r.least, .int .i64 r.most, .int .i64 r.seed, .int .u64 y, .int .i64 s2.now, .slice A2 (n + 1) c2, .int .i64 s2.sent, .int .i64 s2.lost, .int .i64 (s2.dbl + 1)], .int .i64 now, .slice D m cap] W (RPutPost (fun i => (X i ∧ i < w.heap.size) ∨ W1.heap.size ≤ i) r s4 (n + 1 + 1) W) from fun W hW hDW => by
        rw [hs4, HY.out]; exact rput_any r { s2 with x := Lnk.nx s2.x, dbl := s2.dbl + 1 } A2 (n + 1) c2 now D m cap d W HR.out (by omega) HSD2.out.2.1 (by omega) _ hW (by omega) hDW)
      have HFIN2 := Lib.hid (show Lnk.send r s now d = s4 by rw [HFIN.out, if_pos HTT.out, hs4])
      have HU4 := Lib.hid hu4
      have hKd : Keeps (fun i => i = w.heap.size ∨ i = w.heap.size + 1) W5 (W5.setCell ⟨w.heap.size, 10, none⟩ (.int .i64 (s2.dbl + 1))) := (by repeat (first | with_reducible exact Keeps.refl _ _ | (with_reducible refine Keeps.setCell ?_ (.inl (.inr rfl)) _) | (with_reducible refine Keeps.setCell ?_ (.inl (.inl rfl)) _)))
      have HRW := Lib.hid ((HW2.out.keep (HK35.out.trans hKd (fun _ _ h => h)) (fun i hi hs => by rcases hi with hi | hi <;> omega)))
      have HRD := Lib.hid (((HD.out.below HB5.out (Nat.le_refl _)).set (p := ⟨w.heap.size, 10, none⟩) (Nat.le_refl _) (.int .i64 (s2.dbl + 1))).more (show w.heap.size ≤ (W5.setCell ⟨w.heap.size, 10, none⟩ (.int .i64 (s2.dbl + 1))).heap.size from by have := hKd.size; omega))
      have hzd := hKd.size
      have e0 := blk_set i0' 10 (.int .i64 (s2.dbl + 1))
      have e1 := blk_far i1' (a := ⟨w.heap.size, 10, none⟩) (by simp) (.int .i64 (s2.dbl + 1))
      have HBd := Lib.hid (HB5.out.trans (hKd.below (B := w.heap.size) (fun i _ hi => by omega) (by omega)))
      have HE0 := Lib.hid e0
      have HE1 := Lib.hid e1
      clear hs4 hu4 hKd e0 e1
      try simp only [rlv, rll] at *
      go_wp2_with fail
      refine (PUT.out _ HRW.out HRD.out).mono ?_
      rintro e w6 ⟨A4, c4, rfl, hw6, hc6, hb6⟩
      have hz6 := hb6.size
      have e0 := blk_below HE0.out hb6 (by have := lt_of_block HE0.out; exact this)
      have e1 := blk_below HE1.out hb6 (by have := lt_of_block HE1.out; exact this)
      have HW6 := Lib.hid hw6
      have HB6 := Lib.hid (HBd.out.trans (hb6.mono (by omega)))
      clear hb6 hw6 ca_0 fa_0 ca_1 fa_1 ca_2 fa_2 ca_3 fa_3 ca_4 fa_4 ca_5 fa_5 ca_6 fa_6 ca_7 fa_7 ca_8 fa_8 ca_9 fa_9 ca_10 fa_10 cb_0 fb_0 cb_1 fb_1 cb_2 fb_2 cb_3 fb_3 cb_4 fb_4 cb_5 fb_5 cb_6 fb_6 cb_7 fb_7 cb_8 fb_8 cb_9 fb_9 cb_10 fb_10 i0' i1' HRW HRD PUT HE0 HE1 la lb
      try simp only [rlv, rll] at *
      have e0' : w6.heap[w.heap.size]? = some (.cells #[.int .i64 r.loss, .int .i64 r.twice, .int .i64 r.least, .int .i64 r.most, .int .i64 r.seed, .int .u64 y, .int .i64 s2.now, .slice A2 (n + 1) c2, .int .i64 s2.sent, .int .i64 s2.lost, .int .i64 (s2.dbl + 1)] 28 (0, 0)) := e0
      clear e0
      have ca_0 := blk_cell e0' 0 rfl; have fa_0 := blk_free e0' 0; have ca_1 := blk_cell e0' 1 rfl; have fa_1 := blk_free e0' 1; have ca_2 := blk_cell e0' 2 rfl; have fa_2 := blk_free e0' 2; have ca_3 := blk_cell e0' 3 rfl; have fa_3 := blk_free e0' 3; have ca_4 := blk_cell e0' 4 rfl; have fa_4 := blk_free e0' 4; have ca_5 := blk_cell e0' 5 rfl; have fa_5 := blk_free e0' 5; have ca_6 := blk_cell e0' 6 rfl; have fa_6 := blk_free e0' 6; have ca_7 := blk_cell e0' 7 rfl; have fa_7 := blk_free e0' 7; have ca_8 := blk_cell e0' 8 rfl; have fa_8 := blk_free e0' 8; have ca_9 := blk_cell e0' 9 rfl; have fa_9 := blk_free e0' 9; have ca_10 := blk_cell e0' 10 rfl; have fa_10 := blk_free e0' 10; have la := lt_of_block e0'
      have cb_0 := blk_cell e1 0 rfl; have fb_0 := blk_free e1 0; have cb_1 := blk_cell e1 1 rfl; have fb_1 := blk_free e1 1; have cb_2 := blk_cell e1 2 rfl; have fb_2 := blk_free e1 2; have cb_3 := blk_cell e1 3 rfl; have fb_3 := blk_free e1 3; have cb_4 := blk_cell e1 4 rfl; have fb_4 := blk_free e1 4; have cb_5 := blk_cell e1 5 rfl; have fb_5 := blk_free e1 5; have cb_6 := blk_cell e1 6 rfl; have fb_6 := blk_free e1 6; have cb_7 := blk_cell e1 7 rfl; have fb_7 := blk_free e1 7; have cb_8 := blk_cell e1 8 rfl; have fb_8 := blk_free e1 8; have cb_9 := blk_cell e1 9 rfl; have fb_9 := blk_free e1 9; have cb_10 := blk_cell e1 10 rfl; have fb_10 := blk_free e1 10; have lb := lt_of_block e1
      go_upto_region 18 with fail
      generalize hV : World.setCell _ _ _ = W7
      have j0' : W7.heap[w.heap.size]? = some (.cells #[.int .i64 r.loss, .int .i64 r.twice, .int .i64 r.least, .int .i64 r.most, .int .i64 r.seed, .int .u64 s4.x, .int .i64 s4.now, .slice A4 (n + 1 + 1) c4, .int .i64 s4.sent, .int .i64 s4.lost, .int .i64 s4.dbl] 28 (0, 0)) := by rw [← hV]; exact (by apply Eq.trans; (repeat (first | (with_reducible assumption) | (with_reducible apply blk_set) | ((with_reducible apply blk_far); rotate_left; (first | omega | (simp <;> omega)); rotate_right) | (with_reducible apply blk_drew) | (with_reducible apply blk_drewN) | ((with_reducible apply heap_new'); (first | rfl | (simp <;> fail))) | (with_reducible apply blk_alloc))); (first | with_reducible rfl | (simp <;> fail) | rfl))
      have j1' : W7.heap[w.heap.size + 1]? = some (.cells #[.int .i64 0, .int .i64 0, .int .i64 0, .int .i64 0, .int .i64 0, .int .u64 0, .int .i64 0, .slice none 0 0, .int .i64 0, .int .i64 0, .int .i64 0] 28 (0, 0)) := by rw [← hV]; exact (by repeat (first | (with_reducible assumption) | ((with_reducible apply blk_far); rotate_left; (first | omega | (simp <;> omega)); rotate_right) | (with_reducible apply blk_drew) | (with_reducible apply blk_drewN) | (with_reducible exact heap_new _ _) | ((with_reducible apply heap_new'); (first | rfl | (simp <;> fail))) | (with_reducible apply blk_alloc)))
      have hK7 : Keeps (fun i => i = w.heap.size ∨ i = w.heap.size + 1) w6 W7 := by rw [← hV]; exact (by repeat (first | with_reducible exact Keeps.refl _ _ | (with_reducible refine Keeps.setCell ?_ (.inl (.inr rfl)) _) | (with_reducible refine Keeps.setCell ?_ (.inl (.inl rfl)) _)))
      have hzK7 := hK7.size
      clear hV ca_0 fa_0 ca_1 fa_1 ca_2 fa_2 ca_3 fa_3 ca_4 fa_4 ca_5 fa_5 ca_6 fa_6 ca_7 fa_7 ca_8 fa_8 ca_9 fa_9 ca_10 fa_10 cb_0 fb_0 cb_1 fb_1 cb_2 fb_2 cb_3 fb_3 cb_4 fb_4 cb_5 fb_5 cb_6 fb_6 cb_7 fb_7 cb_8 fb_8 cb_9 fb_9 cb_10 fb_10 e0' e1 la lb
      have ca_0 := blk_cell j0' 0 rfl; have fa_0 := blk_free j0' 0; have ca_1 := blk_cell j0' 1 rfl; have fa_1 := blk_free j0' 1; have ca_2 := blk_cell j0' 2 rfl; have fa_2 := blk_free j0' 2; have ca_3 := blk_cell j0' 3 rfl; have fa_3 := blk_free j0' 3; have ca_4 := blk_cell j0' 4 rfl; have fa_4 := blk_free j0' 4; have ca_5 := blk_cell j0' 5 rfl; have fa_5 := blk_free j0' 5; have ca_6 := blk_cell j0' 6 rfl; have fa_6 := blk_free j0' 6; have ca_7 := blk_cell j0' 7 rfl; have fa_7 := blk_free j0' 7; have ca_8 := blk_cell j0' 8 rfl; have fa_8 := blk_free j0' 8; have ca_9 := blk_cell j0' 9 rfl; have fa_9 := blk_free j0' 9; have ca_10 := blk_cell j0' 10 rfl; have fa_10 := blk_free j0' 10; have la := lt_of_block j0'
      have cb_0 := blk_cell j1' 0 rfl; have fb_0 := blk_free j1' 0; have cb_1 := blk_cell j1' 1 rfl; have fb_1 := blk_free j1' 1; have cb_2 := blk_cell j1' 2 rfl; have fb_2 := blk_free j1' 2; have cb_3 := blk_cell j1' 3 rfl; have fb_3 := blk_free j1' 3; have cb_4 := blk_cell j1' 4 rfl; have fb_4 := blk_free j1' 4; have cb_5 := blk_cell j1' 5 rfl; have fb_5 := blk_free j1' 5; have cb_6 := blk_cell j1' 6 rfl; have fb_6 := blk_free j1' 6; have cb_7 := blk_cell j1' 7 rfl; have fb_7 := blk_free j1' 7; have cb_8 := blk_cell j1' 8 rfl; have fb_8 := blk_free j1' 8; have cb_9 := blk_cell j1' 9 rfl; have fb_9 := blk_free j1' 9; have cb_10 := blk_cell j1' 10 rfl; have fb_10 := blk_free j1' 10; have lb := lt_of_block j1'
      go_wp2_with fail
      generalize hWf : World.setCell _ _ _ = Wf
      have hf : Wf.heap[w.heap.size + 1]? = some (.cells #[.int .i64 r.loss, .int .i64 r.twice, .int .i64 r.least, .int .i64 r.most, .int .i64 r.seed, .int .u64 s4.x, .int .i64 s4.now, .slice A4 (n + 1 + 1) c4, .int .i64 s4.sent, .int .i64 s4.lost, .int .i64 s4.dbl] 28 (0, 0)) := by rw [← hWf]; exact (by apply Eq.trans; (repeat (first | (with_reducible assumption) | (with_reducible apply blk_set) | ((with_reducible apply blk_far); rotate_left; (first | omega | (simp <;> omega)); rotate_right) | (with_reducible apply blk_drew) | (with_reducible apply blk_drewN) | ((with_reducible apply heap_new'); (first | rfl | (simp <;> fail))) | (with_reducible apply blk_alloc))); (first | with_reducible rfl | (simp <;> fail) | rfl))
      have hKf : Keeps (fun i => i = w.heap.size ∨ i = w.heap.size + 1) W7 Wf := by rw [← hWf]; exact (by repeat (first | with_reducible exact Keeps.refl _ _ | (with_reducible refine Keeps.setCell ?_ (.inl (.inr rfl)) _) | (with_reducible refine Keeps.setCell ?_ (.inl (.inl rfl)) _)))
      clear hWf j0' j1' ca_0 fa_0 ca_1 fa_1 ca_2 fa_2 ca_3 fa_3 ca_4 fa_4 ca_5 fa_5 ca_6 fa_6 ca_7 fa_7 ca_8 fa_8 ca_9 fa_9 ca_10 fa_10 cb_0 fb_0 cb_1 fb_1 cb_2 fb_2 cb_3 fb_3 cb_4 fb_4 cb_5 fb_5 cb_6 fb_6 cb_7 fb_7 cb_8 fb_8 cb_9 fb_9 cb_10 fb_10
      have cm_0 := blk_cell hf 0 rfl; have fm_0 := blk_free hf 0; have cm_1 := blk_cell hf 1 rfl; have fm_1 := blk_free hf 1; have cm_2 := blk_cell hf 2 rfl; have fm_2 := blk_free hf 2; have cm_3 := blk_cell hf 3 rfl; have fm_3 := blk_free hf 3; have cm_4 := blk_cell hf 4 rfl; have fm_4 := blk_free hf 4; have cm_5 := blk_cell hf 5 rfl; have fm_5 := blk_free hf 5; have cm_6 := blk_cell hf 6 rfl; have fm_6 := blk_free hf 6; have cm_7 := blk_cell hf 7 rfl; have fm_7 := blk_free hf 7; have cm_8 := blk_cell hf 8 rfl; have fm_8 := blk_free hf 8; have cm_9 := blk_cell hf 9 rfl; have fm_9 := blk_free hf 9; have cm_10 := blk_cell hf 10 rfl; have fm_10 := blk_free hf 10; have lm := lt_of_block hf
      refine bodyPost_ret (v := .tuple #[.agg #[.int .i64 r.loss, .int .i64 r.twice, .int .i64 r.least, .int .i64 r.most, .int .i64 r.seed, .int .u64 s4.x, .int .i64 s4.now, .slice A4 (n + 1 + 1) c4, .int .i64 s4.sent, .int .i64 s4.lost, .int .i64 s4.dbl], .int .i64 0]) ?_ rfl ?_
      · simp [results, Try.results33, go_sem, cm_0, cm_1, cm_2, cm_3, cm_4, cm_5, cm_6, cm_7, cm_8, cm_9, cm_10]
      · have hKall := hK7.trans hKf (fun _ _ h => h)
        have hB : Below w.heap.size w Wf := HB6.out.trans (hKall.below (fun i _ hi => by omega) (by omega))
        rw [HFIN2.out]
        refine ⟨A4, c4, ?_, ?_, ?_, hB⟩
        · simp only [rlv, rll, HU4.out]
        · simp only [HU4.out]
          exact (HW6.out.keep hKall (fun i hi hs => by rcases hi with (hi | hi) | hi <;> omega)).mono (fun i hi => hi.elim (fun h => h.imp (fun h => h.1) (fun h => by omega)) (fun h => .inr (by omega)))
        · simp only [HU4.out]; exact hc6
    · have HTT := Lib.hid (show Lnk.sendT r s2 = false by unfold Lnk.sendT; rw [← HDY.out]; exact decide_eq_false htw)
      go_wp2_with fail
      generalize hWf : World.setCell _ _ _ = Wf
      have hf : Wf.heap[w.heap.size + 1]? = some (.cells #[.int .i64 r.loss, .int .i64 r.twice, .int .i64 r.least, .int .i64 r.most, .int .i64 r.seed, .int .u64 y, .int .i64 s2.now, .slice A2 (n + 1) c2, .int .i64 s2.sent, .int .i64 s2.lost, .int .i64 s2.dbl] 28 (0, 0)) := by rw [← hWf]; exact (by apply Eq.trans; (repeat (first | (with_reducible assumption) | (with_reducible apply blk_set) | ((with_reducible apply blk_far); rotate_left; (first | omega | (simp <;> omega)); rotate_right) | (with_reducible apply blk_drew) | (with_reducible apply blk_drewN) | ((with_reducible apply heap_new'); (first | rfl | (simp <;> fail))) | (with_reducible apply blk_alloc))); (first | with_reducible rfl | (simp <;> fail) | rfl))
      have hKf : Keeps (fun i => i = w.heap.size ∨ i = w.heap.size + 1) W5 Wf := by rw [← hWf]; exact (by repeat (first | with_reducible exact Keeps.refl _ _ | (with_reducible refine Keeps.setCell ?_ (.inl (.inr rfl)) _) | (with_reducible refine Keeps.setCell ?_ (.inl (.inl rfl)) _)))
      clear hWf i0' i1' ca_0 fa_0 ca_1 fa_1 ca_2 fa_2 ca_3 fa_3 ca_4 fa_4 ca_5 fa_5 ca_6 fa_6 ca_7 fa_7 ca_8 fa_8 ca_9 fa_9 ca_10 fa_10 cb_0 fb_0 cb_1 fb_1 cb_2 fb_2 cb_3 fb_3 cb_4 fb_4 cb_5 fb_5 cb_6 fb_6 cb_7 fb_7 cb_8 fb_8 cb_9 fb_9 cb_10 fb_10
      have cm_0 := blk_cell hf 0 rfl; have fm_0 := blk_free hf 0; have cm_1 := blk_cell hf 1 rfl; have fm_1 := blk_free hf 1; have cm_2 := blk_cell hf 2 rfl; have fm_2 := blk_free hf 2; have cm_3 := blk_cell hf 3 rfl; have fm_3 := blk_free hf 3; have cm_4 := blk_cell hf 4 rfl; have fm_4 := blk_free hf 4; have cm_5 := blk_cell hf 5 rfl; have fm_5 := blk_free hf 5; have cm_6 := blk_cell hf 6 rfl; have fm_6 := blk_free hf 6; have cm_7 := blk_cell hf 7 rfl; have fm_7 := blk_free hf 7; have cm_8 := blk_cell hf 8 rfl; have fm_8 := blk_free hf 8; have cm_9 := blk_cell hf 9 rfl; have fm_9 := blk_free hf 9; have cm_10 := blk_cell hf 10 rfl; have fm_10 := blk_free hf 10; have lm := lt_of_block hf
      refine bodyPost_ret (v := .tuple #[.agg #[.int .i64 r.loss, .int .i64 r.twice, .int .i64 r.least, .int .i64 r.most, .int .i64 r.seed, .int .u64 y, .int .i64 s2.now, .slice A2 (n + 1) c2, .int .i64 s2.sent, .int .i64 s2.lost, .int .i64 s2.dbl], .int .i64 0]) ?_ rfl ?_
      · simp [results, Try.results33, go_sem, cm_0, cm_1, cm_2, cm_3, cm_4, cm_5, cm_6, cm_7, cm_8, cm_9, cm_10]
      · have hB : Below w.heap.size w Wf := HB5.out.trans (hKf.below (fun i _ hi => by omega) (by omega))
        have hKall := HK35.out.trans hKf (fun _ _ h => h)
        rw [HFIN.out, if_neg (by rw [HTT.out]; simp)]
        refine ⟨A2, c2, ?_, ?_, ?_, hB⟩
        · simp only [rlv, rll, HU2.out, HY.out]
        · simp only [HU2.out]
          exact (HW2.out.keep hKall (fun i hi hs => by rcases hi with hi | hi <;> omega)).mono (fun i hi => hi.imp (fun h => h.1) (fun h => by omega))
        · simp only [HU2.out]; exact hc2
end Go.Proofs.Ytgdpoiapkaahfaa

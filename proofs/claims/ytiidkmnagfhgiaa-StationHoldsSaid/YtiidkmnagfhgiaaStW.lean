/- The reference's Give of what is refused; Receive of what is refused, and of what says nothing. -/
import Derived.Test.YtiidkmnagfhgiaaStV
namespace Go.Proofs.Ytiidkmnagfhgiaa
open Go.RowKit
set_option maxHeartbeats 8000000
set_option maxRecDepth 100000
set_option linter.unusedSimpArgs false
set_option linter.unusedVariables false
attribute [local go_sem ↓] Go.wp_at_zero Go.wp_at_succ
theorem rgive_no1 (s : Stn.St) (hs : Stn.Inv s) (D : Option Addr) (dl dc : Nat) (A : Option Addr) (ac : Nat) (S : Option Addr) (sc : Nat) (now x : Int) (w : World) (hdl : dl = (Stn.data s).length) (h : IsR w D dc A ac S sc s) (he : Stn.giveE s 1 now x ≠ 0) :
    Calls Try.prog 36 #[.agg #[.int .i64 s.again, .int .i64 s.st, .int .i64 s.now, .int .i64 s.seq, .bool s.some, .int .i64 s.prog, .int .i64 s.cmd, .slice D dl dc, .int .i64 s.sent, .slice A s.n ac, .slice S s.n sc], .int .i64 1, .int .i64 now, .int .i64 x] w (RPost D s [] (Stn.giveE s 1 now x) w) := by
  have TM := Lib.hid (fun W : World => rtime_any s D dl dc A s.n ac S s.n sc now W)
  have MY := Lib.hid (fun W : World => rmay_any 1 s.st W (by omega) hs.st)
  have H := Lib.hid h
  have HDL := Lib.hid hdl
  have HE := Lib.hid he
  clear h hs hdl he
  by_cases g1 : 0 ≤ x ∧ x ≤ 4294967295
  · have r1 : ¬ ((1 : Int) = 1 ∧ ¬ (0 ≤ x ∧ x ≤ 4294967295)) := fun h => h.2 g1
    by_cases ht : Stn.timeE s now = 0
    · rw [ht] at TM
      have r3 : ¬ ((1 : Int) = 3 ∧ ¬ (now ≤ x ∧ x ≤ 3600000)) := fun h => by omega
      have hm : Stn.may 1 s.st = false := by
        cases hmm : Stn.may 1 s.st
        · rfl
        · exact absurd (by unfold Stn.giveE; rw [if_neg r1, if_neg (by simp [ht]), if_neg r3, if_neg (by simp [hmm])]) HE.out
      have E : Stn.giveE s 1 now x = 8 := by unfold Stn.giveE; rw [if_neg r1, if_neg (by simp [ht]), if_neg r3, if_pos hm]
      rw [E]
      rw [hm] at MY
      clear ht hm E r1 r3
      go_enter Try.func36, Try.ntmps36
      go_wp2_with fail
      generalize hV : World.alloc _ _ = V
      have k0 : V.heap[w.heap.size]? = some (.cells #[.int .i64 s.again, .int .i64 s.st, .int .i64 s.now, .int .i64 s.seq, .bool s.some, .int .i64 s.prog, .int .i64 s.cmd, .slice D dl dc, .int .i64 s.sent, .slice A s.n ac, .slice S s.n sc] 29 (0, 0)) := by rw [← hV]; exact blk_alloc (heap_new _ _) _
      have k1 : V.heap[w.heap.size + 1]? = some (.cells #[.int .i64 0, .int .i64 0, .int .i64 0, .int .i64 0, .bool false, .int .i64 0, .int .i64 0, .slice none 0 0, .int .i64 0, .slice none 0 0, .slice none 0 0] 29 (0, 0)) := by rw [← hV]; exact heap_new' _ _ _ (by simp)
      have hB0 : Below w.heap.size w V := by rw [← hV]; exact (by repeat (first | (with_reducible exact Below.refl _ _) | (with_reducible refine Below.drew ?_) | (with_reducible refine below_drewN ?_ _) | ((with_reducible refine Below.alloc ?_ ?_ _); rotate_left; (first | omega | (simp <;> omega)); rotate_right) | ((with_reducible refine Below.setCell ?_ ?_ _); rotate_left; (first | omega | (simp <;> omega)); rotate_right) | (with_reducible assumption) | (refine Below.trans ?_ (Below.mono (by assumption) ?_); rotate_left; (first | omega | (simp <;> omega)); rotate_right)))
      have hzV : w.heap.size ≤ V.heap.size := hB0.size
      clear hV
      refine (TM.out _).mono ?_
      rintro e w1 ⟨rfl, hB1⟩
      have j0 := blk_below k0 hB1 (lt_of_block k0)
      have j1 := blk_below k1 hB1 (lt_of_block k1)
      have hBw : Below w.heap.size w w1 := hB0.trans (hB1.mono hzV)
      clear k0 k1 hB1 hB0
      have ca_0 := blk_cell j0 0 rfl; have fa_0 := blk_free j0 0; have ca_1 := blk_cell j0 1 rfl; have fa_1 := blk_free j0 1; have ca_2 := blk_cell j0 2 rfl; have fa_2 := blk_free j0 2; have ca_3 := blk_cell j0 3 rfl; have fa_3 := blk_free j0 3; have ca_4 := blk_cell j0 4 rfl; have fa_4 := blk_free j0 4; have ca_5 := blk_cell j0 5 rfl; have fa_5 := blk_free j0 5; have ca_6 := blk_cell j0 6 rfl; have fa_6 := blk_free j0 6; have ca_7 := blk_cell j0 7 rfl; have fa_7 := blk_free j0 7; have ca_8 := blk_cell j0 8 rfl; have fa_8 := blk_free j0 8; have ca_9 := blk_cell j0 9 rfl; have fa_9 := blk_free j0 9; have ca_10 := blk_cell j0 10 rfl; have fa_10 := blk_free j0 10; have la := lt_of_block j0
      have cb_0 := blk_cell j1 0 rfl; have fb_0 := blk_free j1 0; have cb_1 := blk_cell j1 1 rfl; have fb_1 := blk_free j1 1; have cb_2 := blk_cell j1 2 rfl; have fb_2 := blk_free j1 2; have cb_3 := blk_cell j1 3 rfl; have fb_3 := blk_free j1 3; have cb_4 := blk_cell j1 4 rfl; have fb_4 := blk_free j1 4; have cb_5 := blk_cell j1 5 rfl; have fb_5 := blk_free j1 5; have cb_6 := blk_cell j1 6 rfl; have fb_6 := blk_free j1 6; have cb_7 := blk_cell j1 7 rfl; have fb_7 := blk_free j1 7; have cb_8 := blk_cell j1 8 rfl; have fb_8 := blk_free j1 8; have cb_9 := blk_cell j1 9 rfl; have fb_9 := blk_free j1 9; have cb_10 := blk_cell j1 10 rfl; have fb_10 := blk_free j1 10; have lb := lt_of_block j1
      go_wp2_with fail
      refine (MY.out _).mono ?_
      rintro e w' ⟨rfl, rfl⟩
      go_wp2_with fail
      generalize hWf : World.setCell _ _ _ = Wf
      have hf : Wf.heap[w.heap.size + 1]? = some (.cells #[.int .i64 s.again, .int .i64 s.st, .int .i64 s.now, .int .i64 s.seq, .bool s.some, .int .i64 s.prog, .int .i64 s.cmd, .slice D dl dc, .int .i64 s.sent, .slice A s.n ac, .slice S s.n sc] 29 (0, 0)) := by rw [← hWf]; exact (by apply Eq.trans; (repeat (first | (with_reducible assumption) | (with_reducible apply blk_set) | ((with_reducible apply blk_far); rotate_left; (first | omega | (simp <;> omega)); rotate_right) | (with_reducible apply blk_drew) | (with_reducible apply blk_drewN) | ((with_reducible apply heap_new'); (first | rfl | (simp <;> fail))) | (with_reducible apply blk_alloc))); (first | with_reducible rfl | (simp <;> fail) | rfl))
      have HBf := Lib.hid (show Below w.heap.size w Wf from by rw [← hWf]; exact (by repeat (first | (with_reducible exact Below.refl _ _) | (with_reducible refine Below.drew ?_) | (with_reducible refine below_drewN ?_ _) | ((with_reducible refine Below.alloc ?_ ?_ _); rotate_left; (first | omega | (simp <;> omega)); rotate_right) | ((with_reducible refine Below.setCell ?_ ?_ _); rotate_left; (first | omega | (simp <;> omega)); rotate_right) | (with_reducible assumption) | (refine Below.trans ?_ (Below.mono (by assumption) ?_); rotate_left; (first | omega | (simp <;> omega)); rotate_right))))
      clear hWf
      clear ca_0 fa_0 ca_1 fa_1 ca_2 fa_2 ca_3 fa_3 ca_4 fa_4 ca_5 fa_5 ca_6 fa_6 ca_7 fa_7 ca_8 fa_8 ca_9 fa_9 ca_10 fa_10
      clear cb_0 fb_0 cb_1 fb_1 cb_2 fb_2 cb_3 fb_3 cb_4 fb_4 cb_5 fb_5 cb_6 fb_6 cb_7 fb_7 cb_8 fb_8 cb_9 fb_9 cb_10 fb_10
      clear la lb
      have cm_0 := blk_cell hf 0 rfl; have fm_0 := blk_free hf 0; have cm_1 := blk_cell hf 1 rfl; have fm_1 := blk_free hf 1; have cm_2 := blk_cell hf 2 rfl; have fm_2 := blk_free hf 2; have cm_3 := blk_cell hf 3 rfl; have fm_3 := blk_free hf 3; have cm_4 := blk_cell hf 4 rfl; have fm_4 := blk_free hf 4; have cm_5 := blk_cell hf 5 rfl; have fm_5 := blk_free hf 5; have cm_6 := blk_cell hf 6 rfl; have fm_6 := blk_free hf 6; have cm_7 := blk_cell hf 7 rfl; have fm_7 := blk_free hf 7; have cm_8 := blk_cell hf 8 rfl; have fm_8 := blk_free hf 8; have cm_9 := blk_cell hf 9 rfl; have fm_9 := blk_free hf 9; have cm_10 := blk_cell hf 10 rfl; have fm_10 := blk_free hf 10; have lm := lt_of_block hf
      exact bodyPost_ret (v := .tuple #[.agg #[.int .i64 s.again, .int .i64 s.st, .int .i64 s.now, .int .i64 s.seq, .bool s.some, .int .i64 s.prog, .int .i64 s.cmd, .slice D dl dc, .int .i64 s.sent, .slice A s.n ac, .slice S s.n sc], .slice none 0 0, .int .i64 8]) (by simp [results, Try.results36, go_sem, cm_0, cm_1, cm_2, cm_3, cm_4, cm_5, cm_6, cm_7, cm_8, cm_9, cm_10]) rfl ⟨_, D, dc, A, ac, S, sc, by rw [rsl, ← HDL.out], H.out.below HBf.out (Nat.le_refl _), Rof.nil _ _, HBf.out, fun g hg => .inl hg⟩
    · have ht3 : Stn.timeE s now = 3 := (timeE_cases s now).resolve_left ht
      have E : Stn.giveE s 1 now x = 3 := by unfold Stn.giveE; rw [if_neg r1, if_pos ht]
      rw [E]
      rw [ht3] at TM
      clear ht ht3 E r1
      go_enter Try.func36, Try.ntmps36
      go_wp2_with fail
      generalize hV : World.alloc _ _ = V
      have k0 : V.heap[w.heap.size]? = some (.cells #[.int .i64 s.again, .int .i64 s.st, .int .i64 s.now, .int .i64 s.seq, .bool s.some, .int .i64 s.prog, .int .i64 s.cmd, .slice D dl dc, .int .i64 s.sent, .slice A s.n ac, .slice S s.n sc] 29 (0, 0)) := by rw [← hV]; exact blk_alloc (heap_new _ _) _
      have k1 : V.heap[w.heap.size + 1]? = some (.cells #[.int .i64 0, .int .i64 0, .int .i64 0, .int .i64 0, .bool false, .int .i64 0, .int .i64 0, .slice none 0 0, .int .i64 0, .slice none 0 0, .slice none 0 0] 29 (0, 0)) := by rw [← hV]; exact heap_new' _ _ _ (by simp)
      have hB0 : Below w.heap.size w V := by rw [← hV]; exact (by repeat (first | (with_reducible exact Below.refl _ _) | (with_reducible refine Below.drew ?_) | (with_reducible refine below_drewN ?_ _) | ((with_reducible refine Below.alloc ?_ ?_ _); rotate_left; (first | omega | (simp <;> omega)); rotate_right) | ((with_reducible refine Below.setCell ?_ ?_ _); rotate_left; (first | omega | (simp <;> omega)); rotate_right) | (with_reducible assumption) | (refine Below.trans ?_ (Below.mono (by assumption) ?_); rotate_left; (first | omega | (simp <;> omega)); rotate_right)))
      have hzV : w.heap.size ≤ V.heap.size := hB0.size
      clear hV
      refine (TM.out _).mono ?_
      rintro e w1 ⟨rfl, hB1⟩
      have j0 := blk_below k0 hB1 (lt_of_block k0)
      have j1 := blk_below k1 hB1 (lt_of_block k1)
      have hBw : Below w.heap.size w w1 := hB0.trans (hB1.mono hzV)
      clear k0 k1 hB1 hB0
      have ca_0 := blk_cell j0 0 rfl; have fa_0 := blk_free j0 0; have ca_1 := blk_cell j0 1 rfl; have fa_1 := blk_free j0 1; have ca_2 := blk_cell j0 2 rfl; have fa_2 := blk_free j0 2; have ca_3 := blk_cell j0 3 rfl; have fa_3 := blk_free j0 3; have ca_4 := blk_cell j0 4 rfl; have fa_4 := blk_free j0 4; have ca_5 := blk_cell j0 5 rfl; have fa_5 := blk_free j0 5; have ca_6 := blk_cell j0 6 rfl; have fa_6 := blk_free j0 6; have ca_7 := blk_cell j0 7 rfl; have fa_7 := blk_free j0 7; have ca_8 := blk_cell j0 8 rfl; have fa_8 := blk_free j0 8; have ca_9 := blk_cell j0 9 rfl; have fa_9 := blk_free j0 9; have ca_10 := blk_cell j0 10 rfl; have fa_10 := blk_free j0 10; have la := lt_of_block j0
      have cb_0 := blk_cell j1 0 rfl; have fb_0 := blk_free j1 0; have cb_1 := blk_cell j1 1 rfl; have fb_1 := blk_free j1 1; have cb_2 := blk_cell j1 2 rfl; have fb_2 := blk_free j1 2; have cb_3 := blk_cell j1 3 rfl; have fb_3 := blk_free j1 3; have cb_4 := blk_cell j1 4 rfl; have fb_4 := blk_free j1 4; have cb_5 := blk_cell j1 5 rfl; have fb_5 := blk_free j1 5; have cb_6 := blk_cell j1 6 rfl; have fb_6 := blk_free j1 6; have cb_7 := blk_cell j1 7 rfl; have fb_7 := blk_free j1 7; have cb_8 := blk_cell j1 8 rfl; have fb_8 := blk_free j1 8; have cb_9 := blk_cell j1 9 rfl; have fb_9 := blk_free j1 9; have cb_10 := blk_cell j1 10 rfl; have fb_10 := blk_free j1 10; have lb := lt_of_block j1
      go_wp2_with fail
      generalize hWf : World.setCell _ _ _ = Wf
      have hf : Wf.heap[w.heap.size + 1]? = some (.cells #[.int .i64 s.again, .int .i64 s.st, .int .i64 s.now, .int .i64 s.seq, .bool s.some, .int .i64 s.prog, .int .i64 s.cmd, .slice D dl dc, .int .i64 s.sent, .slice A s.n ac, .slice S s.n sc] 29 (0, 0)) := by rw [← hWf]; exact (by apply Eq.trans; (repeat (first | (with_reducible assumption) | (with_reducible apply blk_set) | ((with_reducible apply blk_far); rotate_left; (first | omega | (simp <;> omega)); rotate_right) | (with_reducible apply blk_drew) | (with_reducible apply blk_drewN) | ((with_reducible apply heap_new'); (first | rfl | (simp <;> fail))) | (with_reducible apply blk_alloc))); (first | with_reducible rfl | (simp <;> fail) | rfl))
      have HBf := Lib.hid (show Below w.heap.size w Wf from by rw [← hWf]; exact (by repeat (first | (with_reducible exact Below.refl _ _) | (with_reducible refine Below.drew ?_) | (with_reducible refine below_drewN ?_ _) | ((with_reducible refine Below.alloc ?_ ?_ _); rotate_left; (first | omega | (simp <;> omega)); rotate_right) | ((with_reducible refine Below.setCell ?_ ?_ _); rotate_left; (first | omega | (simp <;> omega)); rotate_right) | (with_reducible assumption) | (refine Below.trans ?_ (Below.mono (by assumption) ?_); rotate_left; (first | omega | (simp <;> omega)); rotate_right))))
      clear hWf
      clear ca_0 fa_0 ca_1 fa_1 ca_2 fa_2 ca_3 fa_3 ca_4 fa_4 ca_5 fa_5 ca_6 fa_6 ca_7 fa_7 ca_8 fa_8 ca_9 fa_9 ca_10 fa_10
      clear cb_0 fb_0 cb_1 fb_1 cb_2 fb_2 cb_3 fb_3 cb_4 fb_4 cb_5 fb_5 cb_6 fb_6 cb_7 fb_7 cb_8 fb_8 cb_9 fb_9 cb_10 fb_10
      clear la lb
      have cm_0 := blk_cell hf 0 rfl; have fm_0 := blk_free hf 0; have cm_1 := blk_cell hf 1 rfl; have fm_1 := blk_free hf 1; have cm_2 := blk_cell hf 2 rfl; have fm_2 := blk_free hf 2; have cm_3 := blk_cell hf 3 rfl; have fm_3 := blk_free hf 3; have cm_4 := blk_cell hf 4 rfl; have fm_4 := blk_free hf 4; have cm_5 := blk_cell hf 5 rfl; have fm_5 := blk_free hf 5; have cm_6 := blk_cell hf 6 rfl; have fm_6 := blk_free hf 6; have cm_7 := blk_cell hf 7 rfl; have fm_7 := blk_free hf 7; have cm_8 := blk_cell hf 8 rfl; have fm_8 := blk_free hf 8; have cm_9 := blk_cell hf 9 rfl; have fm_9 := blk_free hf 9; have cm_10 := blk_cell hf 10 rfl; have fm_10 := blk_free hf 10; have lm := lt_of_block hf
      exact bodyPost_ret (v := .tuple #[.agg #[.int .i64 s.again, .int .i64 s.st, .int .i64 s.now, .int .i64 s.seq, .bool s.some, .int .i64 s.prog, .int .i64 s.cmd, .slice D dl dc, .int .i64 s.sent, .slice A s.n ac, .slice S s.n sc], .slice none 0 0, .int .i64 3]) (by simp [results, Try.results36, go_sem, cm_0, cm_1, cm_2, cm_3, cm_4, cm_5, cm_6, cm_7, cm_8, cm_9, cm_10]) rfl ⟨_, D, dc, A, ac, S, sc, by rw [rsl, ← HDL.out], H.out.below HBf.out (Nat.le_refl _), Rof.nil _ _, HBf.out, fun g hg => .inl hg⟩
  · have E : Stn.giveE s 1 now x = 2 := by unfold Stn.giveE; rw [if_pos ⟨rfl, g1⟩]
    rw [E]
    clear E
    by_cases gx : x < 0
    all_goals
      (try (have gx2 : 4294967295 < x := by omega))
      clear g1
      go_enter Try.func36, Try.ntmps36
      go_wp2_with fail
      generalize hWf : World.alloc _ _ = Wf
      have hf : Wf.heap[w.heap.size + 1]? = some (.cells #[.int .i64 s.again, .int .i64 s.st, .int .i64 s.now, .int .i64 s.seq, .bool s.some, .int .i64 s.prog, .int .i64 s.cmd, .slice D dl dc, .int .i64 s.sent, .slice A s.n ac, .slice S s.n sc] 29 (0, 0)) := by rw [← hWf]; exact heap_new' _ _ _ (by simp)
      have HBf := Lib.hid (show Below w.heap.size w Wf from by rw [← hWf]; exact (by repeat (first | (with_reducible exact Below.refl _ _) | (with_reducible refine Below.drew ?_) | (with_reducible refine below_drewN ?_ _) | ((with_reducible refine Below.alloc ?_ ?_ _); rotate_left; (first | omega | (simp <;> omega)); rotate_right) | ((with_reducible refine Below.setCell ?_ ?_ _); rotate_left; (first | omega | (simp <;> omega)); rotate_right) | (with_reducible assumption) | (refine Below.trans ?_ (Below.mono (by assumption) ?_); rotate_left; (first | omega | (simp <;> omega)); rotate_right))))
      clear hWf
      have cm_0 := blk_cell hf 0 rfl; have fm_0 := blk_free hf 0; have cm_1 := blk_cell hf 1 rfl; have fm_1 := blk_free hf 1; have cm_2 := blk_cell hf 2 rfl; have fm_2 := blk_free hf 2; have cm_3 := blk_cell hf 3 rfl; have fm_3 := blk_free hf 3; have cm_4 := blk_cell hf 4 rfl; have fm_4 := blk_free hf 4; have cm_5 := blk_cell hf 5 rfl; have fm_5 := blk_free hf 5; have cm_6 := blk_cell hf 6 rfl; have fm_6 := blk_free hf 6; have cm_7 := blk_cell hf 7 rfl; have fm_7 := blk_free hf 7; have cm_8 := blk_cell hf 8 rfl; have fm_8 := blk_free hf 8; have cm_9 := blk_cell hf 9 rfl; have fm_9 := blk_free hf 9; have cm_10 := blk_cell hf 10 rfl; have fm_10 := blk_free hf 10; have lm := lt_of_block hf
      exact bodyPost_ret (v := .tuple #[.agg #[.int .i64 s.again, .int .i64 s.st, .int .i64 s.now, .int .i64 s.seq, .bool s.some, .int .i64 s.prog, .int .i64 s.cmd, .slice D dl dc, .int .i64 s.sent, .slice A s.n ac, .slice S s.n sc], .slice none 0 0, .int .i64 2]) (by simp [results, Try.results36, go_sem, cm_0, cm_1, cm_2, cm_3, cm_4, cm_5, cm_6, cm_7, cm_8, cm_9, cm_10]) rfl ⟨_, D, dc, A, ac, S, sc, by rw [rsl, ← HDL.out], H.out.below HBf.out (Nat.le_refl _), Rof.nil _ _, HBf.out, fun g hg => .inl hg⟩
theorem rgive_no2 (s : Stn.St) (hs : Stn.Inv s) (D : Option Addr) (dl dc : Nat) (A : Option Addr) (ac : Nat) (S : Option Addr) (sc : Nat) (now x : Int) (w : World) (hdl : dl = (Stn.data s).length) (h : IsR w D dc A ac S sc s) (he : Stn.giveE s 2 now x ≠ 0) :
    Calls Try.prog 36 #[.agg #[.int .i64 s.again, .int .i64 s.st, .int .i64 s.now, .int .i64 s.seq, .bool s.some, .int .i64 s.prog, .int .i64 s.cmd, .slice D dl dc, .int .i64 s.sent, .slice A s.n ac, .slice S s.n sc], .int .i64 2, .int .i64 now, .int .i64 x] w (RPost D s [] (Stn.giveE s 2 now x) w) := by
  have TM := Lib.hid (fun W : World => rtime_any s D dl dc A s.n ac S s.n sc now W)
  have MY := Lib.hid (fun W : World => rmay_any 2 s.st W (by omega) hs.st)
  have H := Lib.hid h
  have HDL := Lib.hid hdl
  have HE := Lib.hid he
  clear h hs hdl he
  have r1 : ¬ ((2 : Int) = 1 ∧ ¬ (0 ≤ x ∧ x ≤ 4294967295)) := fun h => by omega
  by_cases ht : Stn.timeE s now = 0
  · rw [ht] at TM
    have r3 : ¬ ((2 : Int) = 3 ∧ ¬ (now ≤ x ∧ x ≤ 3600000)) := fun h => by omega
    have hm : Stn.may 2 s.st = false := by
      cases hmm : Stn.may 2 s.st
      · rfl
      · exact absurd (by unfold Stn.giveE; rw [if_neg r1, if_neg (by simp [ht]), if_neg r3, if_neg (by simp [hmm])]) HE.out
    have E : Stn.giveE s 2 now x = 8 := by unfold Stn.giveE; rw [if_neg r1, if_neg (by simp [ht]), if_neg r3, if_pos hm]
    rw [E]
    rw [hm] at MY
    clear ht hm E r1 r3
    go_enter Try.func36, Try.ntmps36
    go_wp2_with fail
    generalize hV : World.alloc _ _ = V
    have k0 : V.heap[w.heap.size]? = some (.cells #[.int .i64 s.again, .int .i64 s.st, .int .i64 s.now, .int .i64 s.seq, .bool s.some, .int .i64 s.prog, .int .i64 s.cmd, .slice D dl dc, .int .i64 s.sent, .slice A s.n ac, .slice S s.n sc] 29 (0, 0)) := by rw [← hV]; exact blk_alloc (heap_new _ _) _
    have k1 : V.heap[w.heap.size + 1]? = some (.cells #[.int .i64 0, .int .i64 0, .int .i64 0, .int .i64 0, .bool false, .int .i64 0, .int .i64 0, .slice none 0 0, .int .i64 0, .slice none 0 0, .slice none 0 0] 29 (0, 0)) := by rw [← hV]; exact heap_new' _ _ _ (by simp)
    have hB0 : Below w.heap.size w V := by rw [← hV]; exact (by repeat (first | (with_reducible exact Below.refl _ _) | (with_reducible refine Below.drew ?_) | (with_reducible refine below_drewN ?_ _) | ((with_reducible refine Below.alloc ?_ ?_ _); rotate_left; (first | omega | (simp <;> omega)); rotate_right) | ((with_reducible refine Below.setCell ?_ ?_ _); rotate_left; (first | omega | (simp <;> omega)); rotate_right) | (with_reducible assumption) | (refine Below.trans ?_ (Below.mono (by assumption) ?_); rotate_left; (first | omega | (simp <;> omega)); rotate_right)))
    have hzV : w.heap.size ≤ V.heap.size := hB0.size
    clear hV
    refine (TM.out _).mono ?_
    rintro e w1 ⟨rfl, hB1⟩
    have j0 := blk_below k0 hB1 (lt_of_block k0)
    have j1 := blk_below k1 hB1 (lt_of_block k1)
    have hBw : Below w.heap.size w w1 := hB0.trans (hB1.mono hzV)
    clear k0 k1 hB1 hB0
    have ca_0 := blk_cell j0 0 rfl; have fa_0 := blk_free j0 0; have ca_1 := blk_cell j0 1 rfl; have fa_1 := blk_free j0 1; have ca_2 := blk_cell j0 2 rfl; have fa_2 := blk_free j0 2; have ca_3 := blk_cell j0 3 rfl; have fa_3 := blk_free j0 3; have ca_4 := blk_cell j0 4 rfl; have fa_4 := blk_free j0 4; have ca_5 := blk_cell j0 5 rfl; have fa_5 := blk_free j0 5; have ca_6 := blk_cell j0 6 rfl; have fa_6 := blk_free j0 6; have ca_7 := blk_cell j0 7 rfl; have fa_7 := blk_free j0 7; have ca_8 := blk_cell j0 8 rfl; have fa_8 := blk_free j0 8; have ca_9 := blk_cell j0 9 rfl; have fa_9 := blk_free j0 9; have ca_10 := blk_cell j0 10 rfl; have fa_10 := blk_free j0 10; have la := lt_of_block j0
    have cb_0 := blk_cell j1 0 rfl; have fb_0 := blk_free j1 0; have cb_1 := blk_cell j1 1 rfl; have fb_1 := blk_free j1 1; have cb_2 := blk_cell j1 2 rfl; have fb_2 := blk_free j1 2; have cb_3 := blk_cell j1 3 rfl; have fb_3 := blk_free j1 3; have cb_4 := blk_cell j1 4 rfl; have fb_4 := blk_free j1 4; have cb_5 := blk_cell j1 5 rfl; have fb_5 := blk_free j1 5; have cb_6 := blk_cell j1 6 rfl; have fb_6 := blk_free j1 6; have cb_7 := blk_cell j1 7 rfl; have fb_7 := blk_free j1 7; have cb_8 := blk_cell j1 8 rfl; have fb_8 := blk_free j1 8; have cb_9 := blk_cell j1 9 rfl; have fb_9 := blk_free j1 9; have cb_10 := blk_cell j1 10 rfl; have fb_10 := blk_free j1 10; have lb := lt_of_block j1
    go_wp2_with fail
    refine (MY.out _).mono ?_
    rintro e w' ⟨rfl, rfl⟩
    go_wp2_with fail
    generalize hWf : World.setCell _ _ _ = Wf
    have hf : Wf.heap[w.heap.size + 1]? = some (.cells #[.int .i64 s.again, .int .i64 s.st, .int .i64 s.now, .int .i64 s.seq, .bool s.some, .int .i64 s.prog, .int .i64 s.cmd, .slice D dl dc, .int .i64 s.sent, .slice A s.n ac, .slice S s.n sc] 29 (0, 0)) := by rw [← hWf]; exact (by apply Eq.trans; (repeat (first | (with_reducible assumption) | (with_reducible apply blk_set) | ((with_reducible apply blk_far); rotate_left; (first | omega | (simp <;> omega)); rotate_right) | (with_reducible apply blk_drew) | (with_reducible apply blk_drewN) | ((with_reducible apply heap_new'); (first | rfl | (simp <;> fail))) | (with_reducible apply blk_alloc))); (first | with_reducible rfl | (simp <;> fail) | rfl))
    have HBf := Lib.hid (show Below w.heap.size w Wf from by rw [← hWf]; exact (by repeat (first | (with_reducible exact Below.refl _ _) | (with_reducible refine Below.drew ?_) | (with_reducible refine below_drewN ?_ _) | ((with_reducible refine Below.alloc ?_ ?_ _); rotate_left; (first | omega | (simp <;> omega)); rotate_right) | ((with_reducible refine Below.setCell ?_ ?_ _); rotate_left; (first | omega | (simp <;> omega)); rotate_right) | (with_reducible assumption) | (refine Below.trans ?_ (Below.mono (by assumption) ?_); rotate_left; (first | omega | (simp <;> omega)); rotate_right))))
    clear hWf
    clear ca_0 fa_0 ca_1 fa_1 ca_2 fa_2 ca_3 fa_3 ca_4 fa_4 ca_5 fa_5 ca_6 fa_6 ca_7 fa_7 ca_8 fa_8 ca_9 fa_9 ca_10 fa_10
    clear cb_0 fb_0 cb_1 fb_1 cb_2 fb_2 cb_3 fb_3 cb_4 fb_4 cb_5 fb_5 cb_6 fb_6 cb_7 fb_7 cb_8 fb_8 cb_9 fb_9 cb_10 fb_10
    clear la lb
    have cm_0 := blk_cell hf 0 rfl; have fm_0 := blk_free hf 0; have cm_1 := blk_cell hf 1 rfl; have fm_1 := blk_free hf 1; have cm_2 := blk_cell hf 2 rfl; have fm_2 := blk_free hf 2; have cm_3 := blk_cell hf 3 rfl; have fm_3 := blk_free hf 3; have cm_4 := blk_cell hf 4 rfl; have fm_4 := blk_free hf 4; have cm_5 := blk_cell hf 5 rfl; have fm_5 := blk_free hf 5; have cm_6 := blk_cell hf 6 rfl; have fm_6 := blk_free hf 6; have cm_7 := blk_cell hf 7 rfl; have fm_7 := blk_free hf 7; have cm_8 := blk_cell hf 8 rfl; have fm_8 := blk_free hf 8; have cm_9 := blk_cell hf 9 rfl; have fm_9 := blk_free hf 9; have cm_10 := blk_cell hf 10 rfl; have fm_10 := blk_free hf 10; have lm := lt_of_block hf
    exact bodyPost_ret (v := .tuple #[.agg #[.int .i64 s.again, .int .i64 s.st, .int .i64 s.now, .int .i64 s.seq, .bool s.some, .int .i64 s.prog, .int .i64 s.cmd, .slice D dl dc, .int .i64 s.sent, .slice A s.n ac, .slice S s.n sc], .slice none 0 0, .int .i64 8]) (by simp [results, Try.results36, go_sem, cm_0, cm_1, cm_2, cm_3, cm_4, cm_5, cm_6, cm_7, cm_8, cm_9, cm_10]) rfl ⟨_, D, dc, A, ac, S, sc, by rw [rsl, ← HDL.out], H.out.below HBf.out (Nat.le_refl _), Rof.nil _ _, HBf.out, fun g hg => .inl hg⟩
  · have ht3 : Stn.timeE s now = 3 := (timeE_cases s now).resolve_left ht
    have E : Stn.giveE s 2 now x = 3 := by unfold Stn.giveE; rw [if_neg r1, if_pos ht]
    rw [E]
    rw [ht3] at TM
    clear ht ht3 E r1
    go_enter Try.func36, Try.ntmps36
    go_wp2_with fail
    generalize hV : World.alloc _ _ = V
    have k0 : V.heap[w.heap.size]? = some (.cells #[.int .i64 s.again, .int .i64 s.st, .int .i64 s.now, .int .i64 s.seq, .bool s.some, .int .i64 s.prog, .int .i64 s.cmd, .slice D dl dc, .int .i64 s.sent, .slice A s.n ac, .slice S s.n sc] 29 (0, 0)) := by rw [← hV]; exact blk_alloc (heap_new _ _) _
    have k1 : V.heap[w.heap.size + 1]? = some (.cells #[.int .i64 0, .int .i64 0, .int .i64 0, .int .i64 0, .bool false, .int .i64 0, .int .i64 0, .slice none 0 0, .int .i64 0, .slice none 0 0, .slice none 0 0] 29 (0, 0)) := by rw [← hV]; exact heap_new' _ _ _ (by simp)
    have hB0 : Below w.heap.size w V := by rw [← hV]; exact (by repeat (first | (with_reducible exact Below.refl _ _) | (with_reducible refine Below.drew ?_) | (with_reducible refine below_drewN ?_ _) | ((with_reducible refine Below.alloc ?_ ?_ _); rotate_left; (first | omega | (simp <;> omega)); rotate_right) | ((with_reducible refine Below.setCell ?_ ?_ _); rotate_left; (first | omega | (simp <;> omega)); rotate_right) | (with_reducible assumption) | (refine Below.trans ?_ (Below.mono (by assumption) ?_); rotate_left; (first | omega | (simp <;> omega)); rotate_right)))
    have hzV : w.heap.size ≤ V.heap.size := hB0.size
    clear hV
    refine (TM.out _).mono ?_
    rintro e w1 ⟨rfl, hB1⟩
    have j0 := blk_below k0 hB1 (lt_of_block k0)
    have j1 := blk_below k1 hB1 (lt_of_block k1)
    have hBw : Below w.heap.size w w1 := hB0.trans (hB1.mono hzV)
    clear k0 k1 hB1 hB0
    have ca_0 := blk_cell j0 0 rfl; have fa_0 := blk_free j0 0; have ca_1 := blk_cell j0 1 rfl; have fa_1 := blk_free j0 1; have ca_2 := blk_cell j0 2 rfl; have fa_2 := blk_free j0 2; have ca_3 := blk_cell j0 3 rfl; have fa_3 := blk_free j0 3; have ca_4 := blk_cell j0 4 rfl; have fa_4 := blk_free j0 4; have ca_5 := blk_cell j0 5 rfl; have fa_5 := blk_free j0 5; have ca_6 := blk_cell j0 6 rfl; have fa_6 := blk_free j0 6; have ca_7 := blk_cell j0 7 rfl; have fa_7 := blk_free j0 7; have ca_8 := blk_cell j0 8 rfl; have fa_8 := blk_free j0 8; have ca_9 := blk_cell j0 9 rfl; have fa_9 := blk_free j0 9; have ca_10 := blk_cell j0 10 rfl; have fa_10 := blk_free j0 10; have la := lt_of_block j0
    have cb_0 := blk_cell j1 0 rfl; have fb_0 := blk_free j1 0; have cb_1 := blk_cell j1 1 rfl; have fb_1 := blk_free j1 1; have cb_2 := blk_cell j1 2 rfl; have fb_2 := blk_free j1 2; have cb_3 := blk_cell j1 3 rfl; have fb_3 := blk_free j1 3; have cb_4 := blk_cell j1 4 rfl; have fb_4 := blk_free j1 4; have cb_5 := blk_cell j1 5 rfl; have fb_5 := blk_free j1 5; have cb_6 := blk_cell j1 6 rfl; have fb_6 := blk_free j1 6; have cb_7 := blk_cell j1 7 rfl; have fb_7 := blk_free j1 7; have cb_8 := blk_cell j1 8 rfl; have fb_8 := blk_free j1 8; have cb_9 := blk_cell j1 9 rfl; have fb_9 := blk_free j1 9; have cb_10 := blk_cell j1 10 rfl; have fb_10 := blk_free j1 10; have lb := lt_of_block j1
    go_wp2_with fail
    generalize hWf : World.setCell _ _ _ = Wf
    have hf : Wf.heap[w.heap.size + 1]? = some (.cells #[.int .i64 s.again, .int .i64 s.st, .int .i64 s.now, .int .i64 s.seq, .bool s.some, .int .i64 s.prog, .int .i64 s.cmd, .slice D dl dc, .int .i64 s.sent, .slice A s.n ac, .slice S s.n sc] 29 (0, 0)) := by rw [← hWf]; exact (by apply Eq.trans; (repeat (first | (with_reducible assumption) | (with_reducible apply blk_set) | ((with_reducible apply blk_far); rotate_left; (first | omega | (simp <;> omega)); rotate_right) | (with_reducible apply blk_drew) | (with_reducible apply blk_drewN) | ((with_reducible apply heap_new'); (first | rfl | (simp <;> fail))) | (with_reducible apply blk_alloc))); (first | with_reducible rfl | (simp <;> fail) | rfl))
    have HBf := Lib.hid (show Below w.heap.size w Wf from by rw [← hWf]; exact (by repeat (first | (with_reducible exact Below.refl _ _) | (with_reducible refine Below.drew ?_) | (with_reducible refine below_drewN ?_ _) | ((with_reducible refine Below.alloc ?_ ?_ _); rotate_left; (first | omega | (simp <;> omega)); rotate_right) | ((with_reducible refine Below.setCell ?_ ?_ _); rotate_left; (first | omega | (simp <;> omega)); rotate_right) | (with_reducible assumption) | (refine Below.trans ?_ (Below.mono (by assumption) ?_); rotate_left; (first | omega | (simp <;> omega)); rotate_right))))
    clear hWf
    clear ca_0 fa_0 ca_1 fa_1 ca_2 fa_2 ca_3 fa_3 ca_4 fa_4 ca_5 fa_5 ca_6 fa_6 ca_7 fa_7 ca_8 fa_8 ca_9 fa_9 ca_10 fa_10
    clear cb_0 fb_0 cb_1 fb_1 cb_2 fb_2 cb_3 fb_3 cb_4 fb_4 cb_5 fb_5 cb_6 fb_6 cb_7 fb_7 cb_8 fb_8 cb_9 fb_9 cb_10 fb_10
    clear la lb
    have cm_0 := blk_cell hf 0 rfl; have fm_0 := blk_free hf 0; have cm_1 := blk_cell hf 1 rfl; have fm_1 := blk_free hf 1; have cm_2 := blk_cell hf 2 rfl; have fm_2 := blk_free hf 2; have cm_3 := blk_cell hf 3 rfl; have fm_3 := blk_free hf 3; have cm_4 := blk_cell hf 4 rfl; have fm_4 := blk_free hf 4; have cm_5 := blk_cell hf 5 rfl; have fm_5 := blk_free hf 5; have cm_6 := blk_cell hf 6 rfl; have fm_6 := blk_free hf 6; have cm_7 := blk_cell hf 7 rfl; have fm_7 := blk_free hf 7; have cm_8 := blk_cell hf 8 rfl; have fm_8 := blk_free hf 8; have cm_9 := blk_cell hf 9 rfl; have fm_9 := blk_free hf 9; have cm_10 := blk_cell hf 10 rfl; have fm_10 := blk_free hf 10; have lm := lt_of_block hf
    exact bodyPost_ret (v := .tuple #[.agg #[.int .i64 s.again, .int .i64 s.st, .int .i64 s.now, .int .i64 s.seq, .bool s.some, .int .i64 s.prog, .int .i64 s.cmd, .slice D dl dc, .int .i64 s.sent, .slice A s.n ac, .slice S s.n sc], .slice none 0 0, .int .i64 3]) (by simp [results, Try.results36, go_sem, cm_0, cm_1, cm_2, cm_3, cm_4, cm_5, cm_6, cm_7, cm_8, cm_9, cm_10]) rfl ⟨_, D, dc, A, ac, S, sc, by rw [rsl, ← HDL.out], H.out.below HBf.out (Nat.le_refl _), Rof.nil _ _, HBf.out, fun g hg => .inl hg⟩
theorem rgive_no3 (s : Stn.St) (hs : Stn.Inv s) (D : Option Addr) (dl dc : Nat) (A : Option Addr) (ac : Nat) (S : Option Addr) (sc : Nat) (now x : Int) (w : World) (hdl : dl = (Stn.data s).length) (h : IsR w D dc A ac S sc s) (he : Stn.giveE s 3 now x ≠ 0) :
    Calls Try.prog 36 #[.agg #[.int .i64 s.again, .int .i64 s.st, .int .i64 s.now, .int .i64 s.seq, .bool s.some, .int .i64 s.prog, .int .i64 s.cmd, .slice D dl dc, .int .i64 s.sent, .slice A s.n ac, .slice S s.n sc], .int .i64 3, .int .i64 now, .int .i64 x] w (RPost D s [] (Stn.giveE s 3 now x) w) := by
  have TM := Lib.hid (fun W : World => rtime_any s D dl dc A s.n ac S s.n sc now W)
  have MY := Lib.hid (fun W : World => rmay_any 3 s.st W (by omega) hs.st)
  have H := Lib.hid h
  have HDL := Lib.hid hdl
  have HE := Lib.hid he
  clear h hs hdl he
  have r1 : ¬ ((3 : Int) = 1 ∧ ¬ (0 ≤ x ∧ x ≤ 4294967295)) := fun h => by omega
  by_cases ht : Stn.timeE s now = 0
  · rw [ht] at TM
    by_cases g3 : now ≤ x ∧ x ≤ 3600000
    · have r3 : ¬ ((3 : Int) = 3 ∧ ¬ (now ≤ x ∧ x ≤ 3600000)) := fun h => h.2 g3
      have hm : Stn.may 3 s.st = false := by
        cases hmm : Stn.may 3 s.st
        · rfl
        · exact absurd (by unfold Stn.giveE; rw [if_neg r1, if_neg (by simp [ht]), if_neg r3, if_neg (by simp [hmm])]) HE.out
      have E : Stn.giveE s 3 now x = 8 := by unfold Stn.giveE; rw [if_neg r1, if_neg (by simp [ht]), if_neg r3, if_pos hm]
      rw [E]
      rw [hm] at MY
      clear ht hm E r1 r3
      go_enter Try.func36, Try.ntmps36
      go_wp2_with fail
      generalize hV : World.alloc _ _ = V
      have k0 : V.heap[w.heap.size]? = some (.cells #[.int .i64 s.again, .int .i64 s.st, .int .i64 s.now, .int .i64 s.seq, .bool s.some, .int .i64 s.prog, .int .i64 s.cmd, .slice D dl dc, .int .i64 s.sent, .slice A s.n ac, .slice S s.n sc] 29 (0, 0)) := by rw [← hV]; exact blk_alloc (heap_new _ _) _
      have k1 : V.heap[w.heap.size + 1]? = some (.cells #[.int .i64 0, .int .i64 0, .int .i64 0, .int .i64 0, .bool false, .int .i64 0, .int .i64 0, .slice none 0 0, .int .i64 0, .slice none 0 0, .slice none 0 0] 29 (0, 0)) := by rw [← hV]; exact heap_new' _ _ _ (by simp)
      have hB0 : Below w.heap.size w V := by rw [← hV]; exact (by repeat (first | (with_reducible exact Below.refl _ _) | (with_reducible refine Below.drew ?_) | (with_reducible refine below_drewN ?_ _) | ((with_reducible refine Below.alloc ?_ ?_ _); rotate_left; (first | omega | (simp <;> omega)); rotate_right) | ((with_reducible refine Below.setCell ?_ ?_ _); rotate_left; (first | omega | (simp <;> omega)); rotate_right) | (with_reducible assumption) | (refine Below.trans ?_ (Below.mono (by assumption) ?_); rotate_left; (first | omega | (simp <;> omega)); rotate_right)))
      have hzV : w.heap.size ≤ V.heap.size := hB0.size
      clear hV
      refine (TM.out _).mono ?_
      rintro e w1 ⟨rfl, hB1⟩
      have j0 := blk_below k0 hB1 (lt_of_block k0)
      have j1 := blk_below k1 hB1 (lt_of_block k1)
      have hBw : Below w.heap.size w w1 := hB0.trans (hB1.mono hzV)
      clear k0 k1 hB1 hB0
      have ca_0 := blk_cell j0 0 rfl; have fa_0 := blk_free j0 0; have ca_1 := blk_cell j0 1 rfl; have fa_1 := blk_free j0 1; have ca_2 := blk_cell j0 2 rfl; have fa_2 := blk_free j0 2; have ca_3 := blk_cell j0 3 rfl; have fa_3 := blk_free j0 3; have ca_4 := blk_cell j0 4 rfl; have fa_4 := blk_free j0 4; have ca_5 := blk_cell j0 5 rfl; have fa_5 := blk_free j0 5; have ca_6 := blk_cell j0 6 rfl; have fa_6 := blk_free j0 6; have ca_7 := blk_cell j0 7 rfl; have fa_7 := blk_free j0 7; have ca_8 := blk_cell j0 8 rfl; have fa_8 := blk_free j0 8; have ca_9 := blk_cell j0 9 rfl; have fa_9 := blk_free j0 9; have ca_10 := blk_cell j0 10 rfl; have fa_10 := blk_free j0 10; have la := lt_of_block j0
      have cb_0 := blk_cell j1 0 rfl; have fb_0 := blk_free j1 0; have cb_1 := blk_cell j1 1 rfl; have fb_1 := blk_free j1 1; have cb_2 := blk_cell j1 2 rfl; have fb_2 := blk_free j1 2; have cb_3 := blk_cell j1 3 rfl; have fb_3 := blk_free j1 3; have cb_4 := blk_cell j1 4 rfl; have fb_4 := blk_free j1 4; have cb_5 := blk_cell j1 5 rfl; have fb_5 := blk_free j1 5; have cb_6 := blk_cell j1 6 rfl; have fb_6 := blk_free j1 6; have cb_7 := blk_cell j1 7 rfl; have fb_7 := blk_free j1 7; have cb_8 := blk_cell j1 8 rfl; have fb_8 := blk_free j1 8; have cb_9 := blk_cell j1 9 rfl; have fb_9 := blk_free j1 9; have cb_10 := blk_cell j1 10 rfl; have fb_10 := blk_free j1 10; have lb := lt_of_block j1
      go_wp2_with fail
      refine (MY.out _).mono ?_
      rintro e w' ⟨rfl, rfl⟩
      go_wp2_with fail
      generalize hWf : World.setCell _ _ _ = Wf
      have hf : Wf.heap[w.heap.size + 1]? = some (.cells #[.int .i64 s.again, .int .i64 s.st, .int .i64 s.now, .int .i64 s.seq, .bool s.some, .int .i64 s.prog, .int .i64 s.cmd, .slice D dl dc, .int .i64 s.sent, .slice A s.n ac, .slice S s.n sc] 29 (0, 0)) := by rw [← hWf]; exact (by apply Eq.trans; (repeat (first | (with_reducible assumption) | (with_reducible apply blk_set) | ((with_reducible apply blk_far); rotate_left; (first | omega | (simp <;> omega)); rotate_right) | (with_reducible apply blk_drew) | (with_reducible apply blk_drewN) | ((with_reducible apply heap_new'); (first | rfl | (simp <;> fail))) | (with_reducible apply blk_alloc))); (first | with_reducible rfl | (simp <;> fail) | rfl))
      have HBf := Lib.hid (show Below w.heap.size w Wf from by rw [← hWf]; exact (by repeat (first | (with_reducible exact Below.refl _ _) | (with_reducible refine Below.drew ?_) | (with_reducible refine below_drewN ?_ _) | ((with_reducible refine Below.alloc ?_ ?_ _); rotate_left; (first | omega | (simp <;> omega)); rotate_right) | ((with_reducible refine Below.setCell ?_ ?_ _); rotate_left; (first | omega | (simp <;> omega)); rotate_right) | (with_reducible assumption) | (refine Below.trans ?_ (Below.mono (by assumption) ?_); rotate_left; (first | omega | (simp <;> omega)); rotate_right))))
      clear hWf
      clear ca_0 fa_0 ca_1 fa_1 ca_2 fa_2 ca_3 fa_3 ca_4 fa_4 ca_5 fa_5 ca_6 fa_6 ca_7 fa_7 ca_8 fa_8 ca_9 fa_9 ca_10 fa_10
      clear cb_0 fb_0 cb_1 fb_1 cb_2 fb_2 cb_3 fb_3 cb_4 fb_4 cb_5 fb_5 cb_6 fb_6 cb_7 fb_7 cb_8 fb_8 cb_9 fb_9 cb_10 fb_10
      clear la lb
      have cm_0 := blk_cell hf 0 rfl; have fm_0 := blk_free hf 0; have cm_1 := blk_cell hf 1 rfl; have fm_1 := blk_free hf 1; have cm_2 := blk_cell hf 2 rfl; have fm_2 := blk_free hf 2; have cm_3 := blk_cell hf 3 rfl; have fm_3 := blk_free hf 3; have cm_4 := blk_cell hf 4 rfl; have fm_4 := blk_free hf 4; have cm_5 := blk_cell hf 5 rfl; have fm_5 := blk_free hf 5; have cm_6 := blk_cell hf 6 rfl; have fm_6 := blk_free hf 6; have cm_7 := blk_cell hf 7 rfl; have fm_7 := blk_free hf 7; have cm_8 := blk_cell hf 8 rfl; have fm_8 := blk_free hf 8; have cm_9 := blk_cell hf 9 rfl; have fm_9 := blk_free hf 9; have cm_10 := blk_cell hf 10 rfl; have fm_10 := blk_free hf 10; have lm := lt_of_block hf
      exact bodyPost_ret (v := .tuple #[.agg #[.int .i64 s.again, .int .i64 s.st, .int .i64 s.now, .int .i64 s.seq, .bool s.some, .int .i64 s.prog, .int .i64 s.cmd, .slice D dl dc, .int .i64 s.sent, .slice A s.n ac, .slice S s.n sc], .slice none 0 0, .int .i64 8]) (by simp [results, Try.results36, go_sem, cm_0, cm_1, cm_2, cm_3, cm_4, cm_5, cm_6, cm_7, cm_8, cm_9, cm_10]) rfl ⟨_, D, dc, A, ac, S, sc, by rw [rsl, ← HDL.out], H.out.below HBf.out (Nat.le_refl _), Rof.nil _ _, HBf.out, fun g hg => .inl hg⟩
    · have E : Stn.giveE s 3 now x = 3 := by unfold Stn.giveE; rw [if_neg r1, if_neg (by simp [ht]), if_pos ⟨rfl, g3⟩]
      rw [E]
      clear ht E r1
      by_cases gx : x < now
      all_goals
        (try (have gx2 : 3600000 < x := by omega))
        clear g3
        go_enter Try.func36, Try.ntmps36
        go_wp2_with fail
        generalize hV : World.alloc _ _ = V
        have k0 : V.heap[w.heap.size]? = some (.cells #[.int .i64 s.again, .int .i64 s.st, .int .i64 s.now, .int .i64 s.seq, .bool s.some, .int .i64 s.prog, .int .i64 s.cmd, .slice D dl dc, .int .i64 s.sent, .slice A s.n ac, .slice S s.n sc] 29 (0, 0)) := by rw [← hV]; exact blk_alloc (heap_new _ _) _
        have k1 : V.heap[w.heap.size + 1]? = some (.cells #[.int .i64 0, .int .i64 0, .int .i64 0, .int .i64 0, .bool false, .int .i64 0, .int .i64 0, .slice none 0 0, .int .i64 0, .slice none 0 0, .slice none 0 0] 29 (0, 0)) := by rw [← hV]; exact heap_new' _ _ _ (by simp)
        have hB0 : Below w.heap.size w V := by rw [← hV]; exact (by repeat (first | (with_reducible exact Below.refl _ _) | (with_reducible refine Below.drew ?_) | (with_reducible refine below_drewN ?_ _) | ((with_reducible refine Below.alloc ?_ ?_ _); rotate_left; (first | omega | (simp <;> omega)); rotate_right) | ((with_reducible refine Below.setCell ?_ ?_ _); rotate_left; (first | omega | (simp <;> omega)); rotate_right) | (with_reducible assumption) | (refine Below.trans ?_ (Below.mono (by assumption) ?_); rotate_left; (first | omega | (simp <;> omega)); rotate_right)))
        have hzV : w.heap.size ≤ V.heap.size := hB0.size
        clear hV
        refine (TM.out _).mono ?_
        rintro e w1 ⟨rfl, hB1⟩
        have j0 := blk_below k0 hB1 (lt_of_block k0)
        have j1 := blk_below k1 hB1 (lt_of_block k1)
        have hBw : Below w.heap.size w w1 := hB0.trans (hB1.mono hzV)
        clear k0 k1 hB1 hB0
        have ca_0 := blk_cell j0 0 rfl; have fa_0 := blk_free j0 0; have ca_1 := blk_cell j0 1 rfl; have fa_1 := blk_free j0 1; have ca_2 := blk_cell j0 2 rfl; have fa_2 := blk_free j0 2; have ca_3 := blk_cell j0 3 rfl; have fa_3 := blk_free j0 3; have ca_4 := blk_cell j0 4 rfl; have fa_4 := blk_free j0 4; have ca_5 := blk_cell j0 5 rfl; have fa_5 := blk_free j0 5; have ca_6 := blk_cell j0 6 rfl; have fa_6 := blk_free j0 6; have ca_7 := blk_cell j0 7 rfl; have fa_7 := blk_free j0 7; have ca_8 := blk_cell j0 8 rfl; have fa_8 := blk_free j0 8; have ca_9 := blk_cell j0 9 rfl; have fa_9 := blk_free j0 9; have ca_10 := blk_cell j0 10 rfl; have fa_10 := blk_free j0 10; have la := lt_of_block j0
        have cb_0 := blk_cell j1 0 rfl; have fb_0 := blk_free j1 0; have cb_1 := blk_cell j1 1 rfl; have fb_1 := blk_free j1 1; have cb_2 := blk_cell j1 2 rfl; have fb_2 := blk_free j1 2; have cb_3 := blk_cell j1 3 rfl; have fb_3 := blk_free j1 3; have cb_4 := blk_cell j1 4 rfl; have fb_4 := blk_free j1 4; have cb_5 := blk_cell j1 5 rfl; have fb_5 := blk_free j1 5; have cb_6 := blk_cell j1 6 rfl; have fb_6 := blk_free j1 6; have cb_7 := blk_cell j1 7 rfl; have fb_7 := blk_free j1 7; have cb_8 := blk_cell j1 8 rfl; have fb_8 := blk_free j1 8; have cb_9 := blk_cell j1 9 rfl; have fb_9 := blk_free j1 9; have cb_10 := blk_cell j1 10 rfl; have fb_10 := blk_free j1 10; have lb := lt_of_block j1
        go_wp2_with fail
        generalize hWf : World.setCell _ _ _ = Wf
        have hf : Wf.heap[w.heap.size + 1]? = some (.cells #[.int .i64 s.again, .int .i64 s.st, .int .i64 s.now, .int .i64 s.seq, .bool s.some, .int .i64 s.prog, .int .i64 s.cmd, .slice D dl dc, .int .i64 s.sent, .slice A s.n ac, .slice S s.n sc] 29 (0, 0)) := by rw [← hWf]; exact (by apply Eq.trans; (repeat (first | (with_reducible assumption) | (with_reducible apply blk_set) | ((with_reducible apply blk_far); rotate_left; (first | omega | (simp <;> omega)); rotate_right) | (with_reducible apply blk_drew) | (with_reducible apply blk_drewN) | ((with_reducible apply heap_new'); (first | rfl | (simp <;> fail))) | (with_reducible apply blk_alloc))); (first | with_reducible rfl | (simp <;> fail) | rfl))
        have HBf := Lib.hid (show Below w.heap.size w Wf from by rw [← hWf]; exact (by repeat (first | (with_reducible exact Below.refl _ _) | (with_reducible refine Below.drew ?_) | (with_reducible refine below_drewN ?_ _) | ((with_reducible refine Below.alloc ?_ ?_ _); rotate_left; (first | omega | (simp <;> omega)); rotate_right) | ((with_reducible refine Below.setCell ?_ ?_ _); rotate_left; (first | omega | (simp <;> omega)); rotate_right) | (with_reducible assumption) | (refine Below.trans ?_ (Below.mono (by assumption) ?_); rotate_left; (first | omega | (simp <;> omega)); rotate_right))))
        clear hWf
        clear ca_0 fa_0 ca_1 fa_1 ca_2 fa_2 ca_3 fa_3 ca_4 fa_4 ca_5 fa_5 ca_6 fa_6 ca_7 fa_7 ca_8 fa_8 ca_9 fa_9 ca_10 fa_10
        clear cb_0 fb_0 cb_1 fb_1 cb_2 fb_2 cb_3 fb_3 cb_4 fb_4 cb_5 fb_5 cb_6 fb_6 cb_7 fb_7 cb_8 fb_8 cb_9 fb_9 cb_10 fb_10
        clear la lb
        have cm_0 := blk_cell hf 0 rfl; have fm_0 := blk_free hf 0; have cm_1 := blk_cell hf 1 rfl; have fm_1 := blk_free hf 1; have cm_2 := blk_cell hf 2 rfl; have fm_2 := blk_free hf 2; have cm_3 := blk_cell hf 3 rfl; have fm_3 := blk_free hf 3; have cm_4 := blk_cell hf 4 rfl; have fm_4 := blk_free hf 4; have cm_5 := blk_cell hf 5 rfl; have fm_5 := blk_free hf 5; have cm_6 := blk_cell hf 6 rfl; have fm_6 := blk_free hf 6; have cm_7 := blk_cell hf 7 rfl; have fm_7 := blk_free hf 7; have cm_8 := blk_cell hf 8 rfl; have fm_8 := blk_free hf 8; have cm_9 := blk_cell hf 9 rfl; have fm_9 := blk_free hf 9; have cm_10 := blk_cell hf 10 rfl; have fm_10 := blk_free hf 10; have lm := lt_of_block hf
        exact bodyPost_ret (v := .tuple #[.agg #[.int .i64 s.again, .int .i64 s.st, .int .i64 s.now, .int .i64 s.seq, .bool s.some, .int .i64 s.prog, .int .i64 s.cmd, .slice D dl dc, .int .i64 s.sent, .slice A s.n ac, .slice S s.n sc], .slice none 0 0, .int .i64 3]) (by simp [results, Try.results36, go_sem, cm_0, cm_1, cm_2, cm_3, cm_4, cm_5, cm_6, cm_7, cm_8, cm_9, cm_10]) rfl ⟨_, D, dc, A, ac, S, sc, by rw [rsl, ← HDL.out], H.out.below HBf.out (Nat.le_refl _), Rof.nil _ _, HBf.out, fun g hg => .inl hg⟩
  · have ht3 : Stn.timeE s now = 3 := (timeE_cases s now).resolve_left ht
    have E : Stn.giveE s 3 now x = 3 := by unfold Stn.giveE; rw [if_neg r1, if_pos ht]
    rw [E]
    rw [ht3] at TM
    clear ht ht3 E r1
    go_enter Try.func36, Try.ntmps36
    go_wp2_with fail
    generalize hV : World.alloc _ _ = V
    have k0 : V.heap[w.heap.size]? = some (.cells #[.int .i64 s.again, .int .i64 s.st, .int .i64 s.now, .int .i64 s.seq, .bool s.some, .int .i64 s.prog, .int .i64 s.cmd, .slice D dl dc, .int .i64 s.sent, .slice A s.n ac, .slice S s.n sc] 29 (0, 0)) := by rw [← hV]; exact blk_alloc (heap_new _ _) _
    have k1 : V.heap[w.heap.size + 1]? = some (.cells #[.int .i64 0, .int .i64 0, .int .i64 0, .int .i64 0, .bool false, .int .i64 0, .int .i64 0, .slice none 0 0, .int .i64 0, .slice none 0 0, .slice none 0 0] 29 (0, 0)) := by rw [← hV]; exact heap_new' _ _ _ (by simp)
    have hB0 : Below w.heap.size w V := by rw [← hV]; exact (by repeat (first | (with_reducible exact Below.refl _ _) | (with_reducible refine Below.drew ?_) | (with_reducible refine below_drewN ?_ _) | ((with_reducible refine Below.alloc ?_ ?_ _); rotate_left; (first | omega | (simp <;> omega)); rotate_right) | ((with_reducible refine Below.setCell ?_ ?_ _); rotate_left; (first | omega | (simp <;> omega)); rotate_right) | (with_reducible assumption) | (refine Below.trans ?_ (Below.mono (by assumption) ?_); rotate_left; (first | omega | (simp <;> omega)); rotate_right)))
    have hzV : w.heap.size ≤ V.heap.size := hB0.size
    clear hV
    refine (TM.out _).mono ?_
    rintro e w1 ⟨rfl, hB1⟩
    have j0 := blk_below k0 hB1 (lt_of_block k0)
    have j1 := blk_below k1 hB1 (lt_of_block k1)
    have hBw : Below w.heap.size w w1 := hB0.trans (hB1.mono hzV)
    clear k0 k1 hB1 hB0
    have ca_0 := blk_cell j0 0 rfl; have fa_0 := blk_free j0 0; have ca_1 := blk_cell j0 1 rfl; have fa_1 := blk_free j0 1; have ca_2 := blk_cell j0 2 rfl; have fa_2 := blk_free j0 2; have ca_3 := blk_cell j0 3 rfl; have fa_3 := blk_free j0 3; have ca_4 := blk_cell j0 4 rfl; have fa_4 := blk_free j0 4; have ca_5 := blk_cell j0 5 rfl; have fa_5 := blk_free j0 5; have ca_6 := blk_cell j0 6 rfl; have fa_6 := blk_free j0 6; have ca_7 := blk_cell j0 7 rfl; have fa_7 := blk_free j0 7; have ca_8 := blk_cell j0 8 rfl; have fa_8 := blk_free j0 8; have ca_9 := blk_cell j0 9 rfl; have fa_9 := blk_free j0 9; have ca_10 := blk_cell j0 10 rfl; have fa_10 := blk_free j0 10; have la := lt_of_block j0
    have cb_0 := blk_cell j1 0 rfl; have fb_0 := blk_free j1 0; have cb_1 := blk_cell j1 1 rfl; have fb_1 := blk_free j1 1; have cb_2 := blk_cell j1 2 rfl; have fb_2 := blk_free j1 2; have cb_3 := blk_cell j1 3 rfl; have fb_3 := blk_free j1 3; have cb_4 := blk_cell j1 4 rfl; have fb_4 := blk_free j1 4; have cb_5 := blk_cell j1 5 rfl; have fb_5 := blk_free j1 5; have cb_6 := blk_cell j1 6 rfl; have fb_6 := blk_free j1 6; have cb_7 := blk_cell j1 7 rfl; have fb_7 := blk_free j1 7; have cb_8 := blk_cell j1 8 rfl; have fb_8 := blk_free j1 8; have cb_9 := blk_cell j1 9 rfl; have fb_9 := blk_free j1 9; have cb_10 := blk_cell j1 10 rfl; have fb_10 := blk_free j1 10; have lb := lt_of_block j1
    go_wp2_with fail
    generalize hWf : World.setCell _ _ _ = Wf
    have hf : Wf.heap[w.heap.size + 1]? = some (.cells #[.int .i64 s.again, .int .i64 s.st, .int .i64 s.now, .int .i64 s.seq, .bool s.some, .int .i64 s.prog, .int .i64 s.cmd, .slice D dl dc, .int .i64 s.sent, .slice A s.n ac, .slice S s.n sc] 29 (0, 0)) := by rw [← hWf]; exact (by apply Eq.trans; (repeat (first | (with_reducible assumption) | (with_reducible apply blk_set) | ((with_reducible apply blk_far); rotate_left; (first | omega | (simp <;> omega)); rotate_right) | (with_reducible apply blk_drew) | (with_reducible apply blk_drewN) | ((with_reducible apply heap_new'); (first | rfl | (simp <;> fail))) | (with_reducible apply blk_alloc))); (first | with_reducible rfl | (simp <;> fail) | rfl))
    have HBf := Lib.hid (show Below w.heap.size w Wf from by rw [← hWf]; exact (by repeat (first | (with_reducible exact Below.refl _ _) | (with_reducible refine Below.drew ?_) | (with_reducible refine below_drewN ?_ _) | ((with_reducible refine Below.alloc ?_ ?_ _); rotate_left; (first | omega | (simp <;> omega)); rotate_right) | ((with_reducible refine Below.setCell ?_ ?_ _); rotate_left; (first | omega | (simp <;> omega)); rotate_right) | (with_reducible assumption) | (refine Below.trans ?_ (Below.mono (by assumption) ?_); rotate_left; (first | omega | (simp <;> omega)); rotate_right))))
    clear hWf
    clear ca_0 fa_0 ca_1 fa_1 ca_2 fa_2 ca_3 fa_3 ca_4 fa_4 ca_5 fa_5 ca_6 fa_6 ca_7 fa_7 ca_8 fa_8 ca_9 fa_9 ca_10 fa_10
    clear cb_0 fb_0 cb_1 fb_1 cb_2 fb_2 cb_3 fb_3 cb_4 fb_4 cb_5 fb_5 cb_6 fb_6 cb_7 fb_7 cb_8 fb_8 cb_9 fb_9 cb_10 fb_10
    clear la lb
    have cm_0 := blk_cell hf 0 rfl; have fm_0 := blk_free hf 0; have cm_1 := blk_cell hf 1 rfl; have fm_1 := blk_free hf 1; have cm_2 := blk_cell hf 2 rfl; have fm_2 := blk_free hf 2; have cm_3 := blk_cell hf 3 rfl; have fm_3 := blk_free hf 3; have cm_4 := blk_cell hf 4 rfl; have fm_4 := blk_free hf 4; have cm_5 := blk_cell hf 5 rfl; have fm_5 := blk_free hf 5; have cm_6 := blk_cell hf 6 rfl; have fm_6 := blk_free hf 6; have cm_7 := blk_cell hf 7 rfl; have fm_7 := blk_free hf 7; have cm_8 := blk_cell hf 8 rfl; have fm_8 := blk_free hf 8; have cm_9 := blk_cell hf 9 rfl; have fm_9 := blk_free hf 9; have cm_10 := blk_cell hf 10 rfl; have fm_10 := blk_free hf 10; have lm := lt_of_block hf
    exact bodyPost_ret (v := .tuple #[.agg #[.int .i64 s.again, .int .i64 s.st, .int .i64 s.now, .int .i64 s.seq, .bool s.some, .int .i64 s.prog, .int .i64 s.cmd, .slice D dl dc, .int .i64 s.sent, .slice A s.n ac, .slice S s.n sc], .slice none 0 0, .int .i64 3]) (by simp [results, Try.results36, go_sem, cm_0, cm_1, cm_2, cm_3, cm_4, cm_5, cm_6, cm_7, cm_8, cm_9, cm_10]) rfl ⟨_, D, dc, A, ac, S, sc, by rw [rsl, ← HDL.out], H.out.below HBf.out (Nat.le_refl _), Rof.nil _ _, HBf.out, fun g hg => .inl hg⟩
theorem rgive_no4 (s : Stn.St) (hs : Stn.Inv s) (D : Option Addr) (dl dc : Nat) (A : Option Addr) (ac : Nat) (S : Option Addr) (sc : Nat) (now x : Int) (w : World) (hdl : dl = (Stn.data s).length) (h : IsR w D dc A ac S sc s) (he : Stn.giveE s 4 now x ≠ 0) :
    Calls Try.prog 36 #[.agg #[.int .i64 s.again, .int .i64 s.st, .int .i64 s.now, .int .i64 s.seq, .bool s.some, .int .i64 s.prog, .int .i64 s.cmd, .slice D dl dc, .int .i64 s.sent, .slice A s.n ac, .slice S s.n sc], .int .i64 4, .int .i64 now, .int .i64 x] w (RPost D s [] (Stn.giveE s 4 now x) w) := by
  have TM := Lib.hid (fun W : World => rtime_any s D dl dc A s.n ac S s.n sc now W)
  have MY := Lib.hid (fun W : World => rmay_any 4 s.st W (by omega) hs.st)
  have H := Lib.hid h
  have HDL := Lib.hid hdl
  have HE := Lib.hid he
  clear h hs hdl he
  have r1 : ¬ ((4 : Int) = 1 ∧ ¬ (0 ≤ x ∧ x ≤ 4294967295)) := fun h => by omega
  by_cases ht : Stn.timeE s now = 0
  · rw [ht] at TM
    have r3 : ¬ ((4 : Int) = 3 ∧ ¬ (now ≤ x ∧ x ≤ 3600000)) := fun h => by omega
    have hm : Stn.may 4 s.st = false := by
      cases hmm : Stn.may 4 s.st
      · rfl
      · exact absurd (by unfold Stn.giveE; rw [if_neg r1, if_neg (by simp [ht]), if_neg r3, if_neg (by simp [hmm])]) HE.out
    have E : Stn.giveE s 4 now x = 8 := by unfold Stn.giveE; rw [if_neg r1, if_neg (by simp [ht]), if_neg r3, if_pos hm]
    rw [E]
    rw [hm] at MY
    clear ht hm E r1 r3
    go_enter Try.func36, Try.ntmps36
    go_wp2_with fail
    generalize hV : World.alloc _ _ = V
    have k0 : V.heap[w.heap.size]? = some (.cells #[.int .i64 s.again, .int .i64 s.st, .int .i64 s.now, .int .i64 s.seq, .bool s.some, .int .i64 s.prog, .int .i64 s.cmd, .slice D dl dc, .int .i64 s.sent, .slice A s.n ac, .slice S s.n sc] 29 (0, 0)) := by rw [← hV]; exact blk_alloc (heap_new _ _) _
    have k1 : V.heap[w.heap.size + 1]? = some (.cells #[.int .i64 0, .int .i64 0, .int .i64 0, .int .i64 0, .bool false, .int .i64 0, .int .i64 0, .slice none 0 0, .int .i64 0, .slice none 0 0, .slice none 0 0] 29 (0, 0)) := by rw [← hV]; exact heap_new' _ _ _ (by simp)
    have hB0 : Below w.heap.size w V := by rw [← hV]; exact (by repeat (first | (with_reducible exact Below.refl _ _) | (with_reducible refine Below.drew ?_) | (with_reducible refine below_drewN ?_ _) | ((with_reducible refine Below.alloc ?_ ?_ _); rotate_left; (first | omega | (simp <;> omega)); rotate_right) | ((with_reducible refine Below.setCell ?_ ?_ _); rotate_left; (first | omega | (simp <;> omega)); rotate_right) | (with_reducible assumption) | (refine Below.trans ?_ (Below.mono (by assumption) ?_); rotate_left; (first | omega | (simp <;> omega)); rotate_right)))
    have hzV : w.heap.size ≤ V.heap.size := hB0.size
    clear hV
    refine (TM.out _).mono ?_
    rintro e w1 ⟨rfl, hB1⟩
    have j0 := blk_below k0 hB1 (lt_of_block k0)
    have j1 := blk_below k1 hB1 (lt_of_block k1)
    have hBw : Below w.heap.size w w1 := hB0.trans (hB1.mono hzV)
    clear k0 k1 hB1 hB0
    have ca_0 := blk_cell j0 0 rfl; have fa_0 := blk_free j0 0; have ca_1 := blk_cell j0 1 rfl; have fa_1 := blk_free j0 1; have ca_2 := blk_cell j0 2 rfl; have fa_2 := blk_free j0 2; have ca_3 := blk_cell j0 3 rfl; have fa_3 := blk_free j0 3; have ca_4 := blk_cell j0 4 rfl; have fa_4 := blk_free j0 4; have ca_5 := blk_cell j0 5 rfl; have fa_5 := blk_free j0 5; have ca_6 := blk_cell j0 6 rfl; have fa_6 := blk_free j0 6; have ca_7 := blk_cell j0 7 rfl; have fa_7 := blk_free j0 7; have ca_8 := blk_cell j0 8 rfl; have fa_8 := blk_free j0 8; have ca_9 := blk_cell j0 9 rfl; have fa_9 := blk_free j0 9; have ca_10 := blk_cell j0 10 rfl; have fa_10 := blk_free j0 10; have la := lt_of_block j0
    have cb_0 := blk_cell j1 0 rfl; have fb_0 := blk_free j1 0; have cb_1 := blk_cell j1 1 rfl; have fb_1 := blk_free j1 1; have cb_2 := blk_cell j1 2 rfl; have fb_2 := blk_free j1 2; have cb_3 := blk_cell j1 3 rfl; have fb_3 := blk_free j1 3; have cb_4 := blk_cell j1 4 rfl; have fb_4 := blk_free j1 4; have cb_5 := blk_cell j1 5 rfl; have fb_5 := blk_free j1 5; have cb_6 := blk_cell j1 6 rfl; have fb_6 := blk_free j1 6; have cb_7 := blk_cell j1 7 rfl; have fb_7 := blk_free j1 7; have cb_8 := blk_cell j1 8 rfl; have fb_8 := blk_free j1 8; have cb_9 := blk_cell j1 9 rfl; have fb_9 := blk_free j1 9; have cb_10 := blk_cell j1 10 rfl; have fb_10 := blk_free j1 10; have lb := lt_of_block j1
    go_wp2_with fail
    refine (MY.out _).mono ?_
    rintro e w' ⟨rfl, rfl⟩
    go_wp2_with fail
    generalize hWf : World.setCell _ _ _ = Wf
    have hf : Wf.heap[w.heap.size + 1]? = some (.cells #[.int .i64 s.again, .int .i64 s.st, .int .i64 s.now, .int .i64 s.seq, .bool s.some, .int .i64 s.prog, .int .i64 s.cmd, .slice D dl dc, .int .i64 s.sent, .slice A s.n ac, .slice S s.n sc] 29 (0, 0)) := by rw [← hWf]; exact (by apply Eq.trans; (repeat (first | (with_reducible assumption) | (with_reducible apply blk_set) | ((with_reducible apply blk_far); rotate_left; (first | omega | (simp <;> omega)); rotate_right) | (with_reducible apply blk_drew) | (with_reducible apply blk_drewN) | ((with_reducible apply heap_new'); (first | rfl | (simp <;> fail))) | (with_reducible apply blk_alloc))); (first | with_reducible rfl | (simp <;> fail) | rfl))
    have HBf := Lib.hid (show Below w.heap.size w Wf from by rw [← hWf]; exact (by repeat (first | (with_reducible exact Below.refl _ _) | (with_reducible refine Below.drew ?_) | (with_reducible refine below_drewN ?_ _) | ((with_reducible refine Below.alloc ?_ ?_ _); rotate_left; (first | omega | (simp <;> omega)); rotate_right) | ((with_reducible refine Below.setCell ?_ ?_ _); rotate_left; (first | omega | (simp <;> omega)); rotate_right) | (with_reducible assumption) | (refine Below.trans ?_ (Below.mono (by assumption) ?_); rotate_left; (first | omega | (simp <;> omega)); rotate_right))))
    clear hWf
    clear ca_0 fa_0 ca_1 fa_1 ca_2 fa_2 ca_3 fa_3 ca_4 fa_4 ca_5 fa_5 ca_6 fa_6 ca_7 fa_7 ca_8 fa_8 ca_9 fa_9 ca_10 fa_10
    clear cb_0 fb_0 cb_1 fb_1 cb_2 fb_2 cb_3 fb_3 cb_4 fb_4 cb_5 fb_5 cb_6 fb_6 cb_7 fb_7 cb_8 fb_8 cb_9 fb_9 cb_10 fb_10
    clear la lb
    have cm_0 := blk_cell hf 0 rfl; have fm_0 := blk_free hf 0; have cm_1 := blk_cell hf 1 rfl; have fm_1 := blk_free hf 1; have cm_2 := blk_cell hf 2 rfl; have fm_2 := blk_free hf 2; have cm_3 := blk_cell hf 3 rfl; have fm_3 := blk_free hf 3; have cm_4 := blk_cell hf 4 rfl; have fm_4 := blk_free hf 4; have cm_5 := blk_cell hf 5 rfl; have fm_5 := blk_free hf 5; have cm_6 := blk_cell hf 6 rfl; have fm_6 := blk_free hf 6; have cm_7 := blk_cell hf 7 rfl; have fm_7 := blk_free hf 7; have cm_8 := blk_cell hf 8 rfl; have fm_8 := blk_free hf 8; have cm_9 := blk_cell hf 9 rfl; have fm_9 := blk_free hf 9; have cm_10 := blk_cell hf 10 rfl; have fm_10 := blk_free hf 10; have lm := lt_of_block hf
    exact bodyPost_ret (v := .tuple #[.agg #[.int .i64 s.again, .int .i64 s.st, .int .i64 s.now, .int .i64 s.seq, .bool s.some, .int .i64 s.prog, .int .i64 s.cmd, .slice D dl dc, .int .i64 s.sent, .slice A s.n ac, .slice S s.n sc], .slice none 0 0, .int .i64 8]) (by simp [results, Try.results36, go_sem, cm_0, cm_1, cm_2, cm_3, cm_4, cm_5, cm_6, cm_7, cm_8, cm_9, cm_10]) rfl ⟨_, D, dc, A, ac, S, sc, by rw [rsl, ← HDL.out], H.out.below HBf.out (Nat.le_refl _), Rof.nil _ _, HBf.out, fun g hg => .inl hg⟩
  · have ht3 : Stn.timeE s now = 3 := (timeE_cases s now).resolve_left ht
    have E : Stn.giveE s 4 now x = 3 := by unfold Stn.giveE; rw [if_neg r1, if_pos ht]
    rw [E]
    rw [ht3] at TM
    clear ht ht3 E r1
    go_enter Try.func36, Try.ntmps36
    go_wp2_with fail
    generalize hV : World.alloc _ _ = V
    have k0 : V.heap[w.heap.size]? = some (.cells #[.int .i64 s.again, .int .i64 s.st, .int .i64 s.now, .int .i64 s.seq, .bool s.some, .int .i64 s.prog, .int .i64 s.cmd, .slice D dl dc, .int .i64 s.sent, .slice A s.n ac, .slice S s.n sc] 29 (0, 0)) := by rw [← hV]; exact blk_alloc (heap_new _ _) _
    have k1 : V.heap[w.heap.size + 1]? = some (.cells #[.int .i64 0, .int .i64 0, .int .i64 0, .int .i64 0, .bool false, .int .i64 0, .int .i64 0, .slice none 0 0, .int .i64 0, .slice none 0 0, .slice none 0 0] 29 (0, 0)) := by rw [← hV]; exact heap_new' _ _ _ (by simp)
    have hB0 : Below w.heap.size w V := by rw [← hV]; exact (by repeat (first | (with_reducible exact Below.refl _ _) | (with_reducible refine Below.drew ?_) | (with_reducible refine below_drewN ?_ _) | ((with_reducible refine Below.alloc ?_ ?_ _); rotate_left; (first | omega | (simp <;> omega)); rotate_right) | ((with_reducible refine Below.setCell ?_ ?_ _); rotate_left; (first | omega | (simp <;> omega)); rotate_right) | (with_reducible assumption) | (refine Below.trans ?_ (Below.mono (by assumption) ?_); rotate_left; (first | omega | (simp <;> omega)); rotate_right)))
    have hzV : w.heap.size ≤ V.heap.size := hB0.size
    clear hV
    refine (TM.out _).mono ?_
    rintro e w1 ⟨rfl, hB1⟩
    have j0 := blk_below k0 hB1 (lt_of_block k0)
    have j1 := blk_below k1 hB1 (lt_of_block k1)
    have hBw : Below w.heap.size w w1 := hB0.trans (hB1.mono hzV)
    clear k0 k1 hB1 hB0
    have ca_0 := blk_cell j0 0 rfl; have fa_0 := blk_free j0 0; have ca_1 := blk_cell j0 1 rfl; have fa_1 := blk_free j0 1; have ca_2 := blk_cell j0 2 rfl; have fa_2 := blk_free j0 2; have ca_3 := blk_cell j0 3 rfl; have fa_3 := blk_free j0 3; have ca_4 := blk_cell j0 4 rfl; have fa_4 := blk_free j0 4; have ca_5 := blk_cell j0 5 rfl; have fa_5 := blk_free j0 5; have ca_6 := blk_cell j0 6 rfl; have fa_6 := blk_free j0 6; have ca_7 := blk_cell j0 7 rfl; have fa_7 := blk_free j0 7; have ca_8 := blk_cell j0 8 rfl; have fa_8 := blk_free j0 8; have ca_9 := blk_cell j0 9 rfl; have fa_9 := blk_free j0 9; have ca_10 := blk_cell j0 10 rfl; have fa_10 := blk_free j0 10; have la := lt_of_block j0
    have cb_0 := blk_cell j1 0 rfl; have fb_0 := blk_free j1 0; have cb_1 := blk_cell j1 1 rfl; have fb_1 := blk_free j1 1; have cb_2 := blk_cell j1 2 rfl; have fb_2 := blk_free j1 2; have cb_3 := blk_cell j1 3 rfl; have fb_3 := blk_free j1 3; have cb_4 := blk_cell j1 4 rfl; have fb_4 := blk_free j1 4; have cb_5 := blk_cell j1 5 rfl; have fb_5 := blk_free j1 5; have cb_6 := blk_cell j1 6 rfl; have fb_6 := blk_free j1 6; have cb_7 := blk_cell j1 7 rfl; have fb_7 := blk_free j1 7; have cb_8 := blk_cell j1 8 rfl; have fb_8 := blk_free j1 8; have cb_9 := blk_cell j1 9 rfl; have fb_9 := blk_free j1 9; have cb_10 := blk_cell j1 10 rfl; have fb_10 := blk_free j1 10; have lb := lt_of_block j1
    go_wp2_with fail
    generalize hWf : World.setCell _ _ _ = Wf
    have hf : Wf.heap[w.heap.size + 1]? = some (.cells #[.int .i64 s.again, .int .i64 s.st, .int .i64 s.now, .int .i64 s.seq, .bool s.some, .int .i64 s.prog, .int .i64 s.cmd, .slice D dl dc, .int .i64 s.sent, .slice A s.n ac, .slice S s.n sc] 29 (0, 0)) := by rw [← hWf]; exact (by apply Eq.trans; (repeat (first | (with_reducible assumption) | (with_reducible apply blk_set) | ((with_reducible apply blk_far); rotate_left; (first | omega | (simp <;> omega)); rotate_right) | (with_reducible apply blk_drew) | (with_reducible apply blk_drewN) | ((with_reducible apply heap_new'); (first | rfl | (simp <;> fail))) | (with_reducible apply blk_alloc))); (first | with_reducible rfl | (simp <;> fail) | rfl))
    have HBf := Lib.hid (show Below w.heap.size w Wf from by rw [← hWf]; exact (by repeat (first | (with_reducible exact Below.refl _ _) | (with_reducible refine Below.drew ?_) | (with_reducible refine below_drewN ?_ _) | ((with_reducible refine Below.alloc ?_ ?_ _); rotate_left; (first | omega | (simp <;> omega)); rotate_right) | ((with_reducible refine Below.setCell ?_ ?_ _); rotate_left; (first | omega | (simp <;> omega)); rotate_right) | (with_reducible assumption) | (refine Below.trans ?_ (Below.mono (by assumption) ?_); rotate_left; (first | omega | (simp <;> omega)); rotate_right))))
    clear hWf
    clear ca_0 fa_0 ca_1 fa_1 ca_2 fa_2 ca_3 fa_3 ca_4 fa_4 ca_5 fa_5 ca_6 fa_6 ca_7 fa_7 ca_8 fa_8 ca_9 fa_9 ca_10 fa_10
    clear cb_0 fb_0 cb_1 fb_1 cb_2 fb_2 cb_3 fb_3 cb_4 fb_4 cb_5 fb_5 cb_6 fb_6 cb_7 fb_7 cb_8 fb_8 cb_9 fb_9 cb_10 fb_10
    clear la lb
    have cm_0 := blk_cell hf 0 rfl; have fm_0 := blk_free hf 0; have cm_1 := blk_cell hf 1 rfl; have fm_1 := blk_free hf 1; have cm_2 := blk_cell hf 2 rfl; have fm_2 := blk_free hf 2; have cm_3 := blk_cell hf 3 rfl; have fm_3 := blk_free hf 3; have cm_4 := blk_cell hf 4 rfl; have fm_4 := blk_free hf 4; have cm_5 := blk_cell hf 5 rfl; have fm_5 := blk_free hf 5; have cm_6 := blk_cell hf 6 rfl; have fm_6 := blk_free hf 6; have cm_7 := blk_cell hf 7 rfl; have fm_7 := blk_free hf 7; have cm_8 := blk_cell hf 8 rfl; have fm_8 := blk_free hf 8; have cm_9 := blk_cell hf 9 rfl; have fm_9 := blk_free hf 9; have cm_10 := blk_cell hf 10 rfl; have fm_10 := blk_free hf 10; have lm := lt_of_block hf
    exact bodyPost_ret (v := .tuple #[.agg #[.int .i64 s.again, .int .i64 s.st, .int .i64 s.now, .int .i64 s.seq, .bool s.some, .int .i64 s.prog, .int .i64 s.cmd, .slice D dl dc, .int .i64 s.sent, .slice A s.n ac, .slice S s.n sc], .slice none 0 0, .int .i64 3]) (by simp [results, Try.results36, go_sem, cm_0, cm_1, cm_2, cm_3, cm_4, cm_5, cm_6, cm_7, cm_8, cm_9, cm_10]) rfl ⟨_, D, dc, A, ac, S, sc, by rw [rsl, ← HDL.out], H.out.below HBf.out (Nat.le_refl _), Rof.nil _ _, HBf.out, fun g hg => .inl hg⟩
theorem rgive_no5 (s : Stn.St) (hs : Stn.Inv s) (D : Option Addr) (dl dc : Nat) (A : Option Addr) (ac : Nat) (S : Option Addr) (sc : Nat) (now x : Int) (w : World) (hdl : dl = (Stn.data s).length) (h : IsR w D dc A ac S sc s) (he : Stn.giveE s 5 now x ≠ 0) :
    Calls Try.prog 36 #[.agg #[.int .i64 s.again, .int .i64 s.st, .int .i64 s.now, .int .i64 s.seq, .bool s.some, .int .i64 s.prog, .int .i64 s.cmd, .slice D dl dc, .int .i64 s.sent, .slice A s.n ac, .slice S s.n sc], .int .i64 5, .int .i64 now, .int .i64 x] w (RPost D s [] (Stn.giveE s 5 now x) w) := by
  have TM := Lib.hid (fun W : World => rtime_any s D dl dc A s.n ac S s.n sc now W)
  have MY := Lib.hid (fun W : World => rmay_any 5 s.st W (by omega) hs.st)
  have H := Lib.hid h
  have HDL := Lib.hid hdl
  have HE := Lib.hid he
  clear h hs hdl he
  have r1 : ¬ ((5 : Int) = 1 ∧ ¬ (0 ≤ x ∧ x ≤ 4294967295)) := fun h => by omega
  by_cases ht : Stn.timeE s now = 0
  · rw [ht] at TM
    have r3 : ¬ ((5 : Int) = 3 ∧ ¬ (now ≤ x ∧ x ≤ 3600000)) := fun h => by omega
    have hm : Stn.may 5 s.st = false := by
      cases hmm : Stn.may 5 s.st
      · rfl
      · exact absurd (by unfold Stn.giveE; rw [if_neg r1, if_neg (by simp [ht]), if_neg r3, if_neg (by simp [hmm])]) HE.out
    have E : Stn.giveE s 5 now x = 8 := by unfold Stn.giveE; rw [if_neg r1, if_neg (by simp [ht]), if_neg r3, if_pos hm]
    rw [E]
    rw [hm] at MY
    clear ht hm E r1 r3
    go_enter Try.func36, Try.ntmps36
    go_wp2_with fail
    generalize hV : World.alloc _ _ = V
    have k0 : V.heap[w.heap.size]? = some (.cells #[.int .i64 s.again, .int .i64 s.st, .int .i64 s.now, .int .i64 s.seq, .bool s.some, .int .i64 s.prog, .int .i64 s.cmd, .slice D dl dc, .int .i64 s.sent, .slice A s.n ac, .slice S s.n sc] 29 (0, 0)) := by rw [← hV]; exact blk_alloc (heap_new _ _) _
    have k1 : V.heap[w.heap.size + 1]? = some (.cells #[.int .i64 0, .int .i64 0, .int .i64 0, .int .i64 0, .bool false, .int .i64 0, .int .i64 0, .slice none 0 0, .int .i64 0, .slice none 0 0, .slice none 0 0] 29 (0, 0)) := by rw [← hV]; exact heap_new' _ _ _ (by simp)
    have hB0 : Below w.heap.size w V := by rw [← hV]; exact (by repeat (first | (with_reducible exact Below.refl _ _) | (with_reducible refine Below.drew ?_) | (with_reducible refine below_drewN ?_ _) | ((with_reducible refine Below.alloc ?_ ?_ _); rotate_left; (first | omega | (simp <;> omega)); rotate_right) | ((with_reducible refine Below.setCell ?_ ?_ _); rotate_left; (first | omega | (simp <;> omega)); rotate_right) | (with_reducible assumption) | (refine Below.trans ?_ (Below.mono (by assumption) ?_); rotate_left; (first | omega | (simp <;> omega)); rotate_right)))
    have hzV : w.heap.size ≤ V.heap.size := hB0.size
    clear hV
    refine (TM.out _).mono ?_
    rintro e w1 ⟨rfl, hB1⟩
    have j0 := blk_below k0 hB1 (lt_of_block k0)
    have j1 := blk_below k1 hB1 (lt_of_block k1)
    have hBw : Below w.heap.size w w1 := hB0.trans (hB1.mono hzV)
    clear k0 k1 hB1 hB0
    have ca_0 := blk_cell j0 0 rfl; have fa_0 := blk_free j0 0; have ca_1 := blk_cell j0 1 rfl; have fa_1 := blk_free j0 1; have ca_2 := blk_cell j0 2 rfl; have fa_2 := blk_free j0 2; have ca_3 := blk_cell j0 3 rfl; have fa_3 := blk_free j0 3; have ca_4 := blk_cell j0 4 rfl; have fa_4 := blk_free j0 4; have ca_5 := blk_cell j0 5 rfl; have fa_5 := blk_free j0 5; have ca_6 := blk_cell j0 6 rfl; have fa_6 := blk_free j0 6; have ca_7 := blk_cell j0 7 rfl; have fa_7 := blk_free j0 7; have ca_8 := blk_cell j0 8 rfl; have fa_8 := blk_free j0 8; have ca_9 := blk_cell j0 9 rfl; have fa_9 := blk_free j0 9; have ca_10 := blk_cell j0 10 rfl; have fa_10 := blk_free j0 10; have la := lt_of_block j0
    have cb_0 := blk_cell j1 0 rfl; have fb_0 := blk_free j1 0; have cb_1 := blk_cell j1 1 rfl; have fb_1 := blk_free j1 1; have cb_2 := blk_cell j1 2 rfl; have fb_2 := blk_free j1 2; have cb_3 := blk_cell j1 3 rfl; have fb_3 := blk_free j1 3; have cb_4 := blk_cell j1 4 rfl; have fb_4 := blk_free j1 4; have cb_5 := blk_cell j1 5 rfl; have fb_5 := blk_free j1 5; have cb_6 := blk_cell j1 6 rfl; have fb_6 := blk_free j1 6; have cb_7 := blk_cell j1 7 rfl; have fb_7 := blk_free j1 7; have cb_8 := blk_cell j1 8 rfl; have fb_8 := blk_free j1 8; have cb_9 := blk_cell j1 9 rfl; have fb_9 := blk_free j1 9; have cb_10 := blk_cell j1 10 rfl; have fb_10 := blk_free j1 10; have lb := lt_of_block j1
    go_wp2_with fail
    refine (MY.out _).mono ?_
    rintro e w' ⟨rfl, rfl⟩
    go_wp2_with fail
    generalize hWf : World.setCell _ _ _ = Wf
    have hf : Wf.heap[w.heap.size + 1]? = some (.cells #[.int .i64 s.again, .int .i64 s.st, .int .i64 s.now, .int .i64 s.seq, .bool s.some, .int .i64 s.prog, .int .i64 s.cmd, .slice D dl dc, .int .i64 s.sent, .slice A s.n ac, .slice S s.n sc] 29 (0, 0)) := by rw [← hWf]; exact (by apply Eq.trans; (repeat (first | (with_reducible assumption) | (with_reducible apply blk_set) | ((with_reducible apply blk_far); rotate_left; (first | omega | (simp <;> omega)); rotate_right) | (with_reducible apply blk_drew) | (with_reducible apply blk_drewN) | ((with_reducible apply heap_new'); (first | rfl | (simp <;> fail))) | (with_reducible apply blk_alloc))); (first | with_reducible rfl | (simp <;> fail) | rfl))
    have HBf := Lib.hid (show Below w.heap.size w Wf from by rw [← hWf]; exact (by repeat (first | (with_reducible exact Below.refl _ _) | (with_reducible refine Below.drew ?_) | (with_reducible refine below_drewN ?_ _) | ((with_reducible refine Below.alloc ?_ ?_ _); rotate_left; (first | omega | (simp <;> omega)); rotate_right) | ((with_reducible refine Below.setCell ?_ ?_ _); rotate_left; (first | omega | (simp <;> omega)); rotate_right) | (with_reducible assumption) | (refine Below.trans ?_ (Below.mono (by assumption) ?_); rotate_left; (first | omega | (simp <;> omega)); rotate_right))))
    clear hWf
    clear ca_0 fa_0 ca_1 fa_1 ca_2 fa_2 ca_3 fa_3 ca_4 fa_4 ca_5 fa_5 ca_6 fa_6 ca_7 fa_7 ca_8 fa_8 ca_9 fa_9 ca_10 fa_10
    clear cb_0 fb_0 cb_1 fb_1 cb_2 fb_2 cb_3 fb_3 cb_4 fb_4 cb_5 fb_5 cb_6 fb_6 cb_7 fb_7 cb_8 fb_8 cb_9 fb_9 cb_10 fb_10
    clear la lb
    have cm_0 := blk_cell hf 0 rfl; have fm_0 := blk_free hf 0; have cm_1 := blk_cell hf 1 rfl; have fm_1 := blk_free hf 1; have cm_2 := blk_cell hf 2 rfl; have fm_2 := blk_free hf 2; have cm_3 := blk_cell hf 3 rfl; have fm_3 := blk_free hf 3; have cm_4 := blk_cell hf 4 rfl; have fm_4 := blk_free hf 4; have cm_5 := blk_cell hf 5 rfl; have fm_5 := blk_free hf 5; have cm_6 := blk_cell hf 6 rfl; have fm_6 := blk_free hf 6; have cm_7 := blk_cell hf 7 rfl; have fm_7 := blk_free hf 7; have cm_8 := blk_cell hf 8 rfl; have fm_8 := blk_free hf 8; have cm_9 := blk_cell hf 9 rfl; have fm_9 := blk_free hf 9; have cm_10 := blk_cell hf 10 rfl; have fm_10 := blk_free hf 10; have lm := lt_of_block hf
    exact bodyPost_ret (v := .tuple #[.agg #[.int .i64 s.again, .int .i64 s.st, .int .i64 s.now, .int .i64 s.seq, .bool s.some, .int .i64 s.prog, .int .i64 s.cmd, .slice D dl dc, .int .i64 s.sent, .slice A s.n ac, .slice S s.n sc], .slice none 0 0, .int .i64 8]) (by simp [results, Try.results36, go_sem, cm_0, cm_1, cm_2, cm_3, cm_4, cm_5, cm_6, cm_7, cm_8, cm_9, cm_10]) rfl ⟨_, D, dc, A, ac, S, sc, by rw [rsl, ← HDL.out], H.out.below HBf.out (Nat.le_refl _), Rof.nil _ _, HBf.out, fun g hg => .inl hg⟩
  · have ht3 : Stn.timeE s now = 3 := (timeE_cases s now).resolve_left ht
    have E : Stn.giveE s 5 now x = 3 := by unfold Stn.giveE; rw [if_neg r1, if_pos ht]
    rw [E]
    rw [ht3] at TM
    clear ht ht3 E r1
    go_enter Try.func36, Try.ntmps36
    go_wp2_with fail
    generalize hV : World.alloc _ _ = V
    have k0 : V.heap[w.heap.size]? = some (.cells #[.int .i64 s.again, .int .i64 s.st, .int .i64 s.now, .int .i64 s.seq, .bool s.some, .int .i64 s.prog, .int .i64 s.cmd, .slice D dl dc, .int .i64 s.sent, .slice A s.n ac, .slice S s.n sc] 29 (0, 0)) := by rw [← hV]; exact blk_alloc (heap_new _ _) _
    have k1 : V.heap[w.heap.size + 1]? = some (.cells #[.int .i64 0, .int .i64 0, .int .i64 0, .int .i64 0, .bool false, .int .i64 0, .int .i64 0, .slice none 0 0, .int .i64 0, .slice none 0 0, .slice none 0 0] 29 (0, 0)) := by rw [← hV]; exact heap_new' _ _ _ (by simp)
    have hB0 : Below w.heap.size w V := by rw [← hV]; exact (by repeat (first | (with_reducible exact Below.refl _ _) | (with_reducible refine Below.drew ?_) | (with_reducible refine below_drewN ?_ _) | ((with_reducible refine Below.alloc ?_ ?_ _); rotate_left; (first | omega | (simp <;> omega)); rotate_right) | ((with_reducible refine Below.setCell ?_ ?_ _); rotate_left; (first | omega | (simp <;> omega)); rotate_right) | (with_reducible assumption) | (refine Below.trans ?_ (Below.mono (by assumption) ?_); rotate_left; (first | omega | (simp <;> omega)); rotate_right)))
    have hzV : w.heap.size ≤ V.heap.size := hB0.size
    clear hV
    refine (TM.out _).mono ?_
    rintro e w1 ⟨rfl, hB1⟩
    have j0 := blk_below k0 hB1 (lt_of_block k0)
    have j1 := blk_below k1 hB1 (lt_of_block k1)
    have hBw : Below w.heap.size w w1 := hB0.trans (hB1.mono hzV)
    clear k0 k1 hB1 hB0
    have ca_0 := blk_cell j0 0 rfl; have fa_0 := blk_free j0 0; have ca_1 := blk_cell j0 1 rfl; have fa_1 := blk_free j0 1; have ca_2 := blk_cell j0 2 rfl; have fa_2 := blk_free j0 2; have ca_3 := blk_cell j0 3 rfl; have fa_3 := blk_free j0 3; have ca_4 := blk_cell j0 4 rfl; have fa_4 := blk_free j0 4; have ca_5 := blk_cell j0 5 rfl; have fa_5 := blk_free j0 5; have ca_6 := blk_cell j0 6 rfl; have fa_6 := blk_free j0 6; have ca_7 := blk_cell j0 7 rfl; have fa_7 := blk_free j0 7; have ca_8 := blk_cell j0 8 rfl; have fa_8 := blk_free j0 8; have ca_9 := blk_cell j0 9 rfl; have fa_9 := blk_free j0 9; have ca_10 := blk_cell j0 10 rfl; have fa_10 := blk_free j0 10; have la := lt_of_block j0
    have cb_0 := blk_cell j1 0 rfl; have fb_0 := blk_free j1 0; have cb_1 := blk_cell j1 1 rfl; have fb_1 := blk_free j1 1; have cb_2 := blk_cell j1 2 rfl; have fb_2 := blk_free j1 2; have cb_3 := blk_cell j1 3 rfl; have fb_3 := blk_free j1 3; have cb_4 := blk_cell j1 4 rfl; have fb_4 := blk_free j1 4; have cb_5 := blk_cell j1 5 rfl; have fb_5 := blk_free j1 5; have cb_6 := blk_cell j1 6 rfl; have fb_6 := blk_free j1 6; have cb_7 := blk_cell j1 7 rfl; have fb_7 := blk_free j1 7; have cb_8 := blk_cell j1 8 rfl; have fb_8 := blk_free j1 8; have cb_9 := blk_cell j1 9 rfl; have fb_9 := blk_free j1 9; have cb_10 := blk_cell j1 10 rfl; have fb_10 := blk_free j1 10; have lb := lt_of_block j1
    go_wp2_with fail
    generalize hWf : World.setCell _ _ _ = Wf
    have hf : Wf.heap[w.heap.size + 1]? = some (.cells #[.int .i64 s.again, .int .i64 s.st, .int .i64 s.now, .int .i64 s.seq, .bool s.some, .int .i64 s.prog, .int .i64 s.cmd, .slice D dl dc, .int .i64 s.sent, .slice A s.n ac, .slice S s.n sc] 29 (0, 0)) := by rw [← hWf]; exact (by apply Eq.trans; (repeat (first | (with_reducible assumption) | (with_reducible apply blk_set) | ((with_reducible apply blk_far); rotate_left; (first | omega | (simp <;> omega)); rotate_right) | (with_reducible apply blk_drew) | (with_reducible apply blk_drewN) | ((with_reducible apply heap_new'); (first | rfl | (simp <;> fail))) | (with_reducible apply blk_alloc))); (first | with_reducible rfl | (simp <;> fail) | rfl))
    have HBf := Lib.hid (show Below w.heap.size w Wf from by rw [← hWf]; exact (by repeat (first | (with_reducible exact Below.refl _ _) | (with_reducible refine Below.drew ?_) | (with_reducible refine below_drewN ?_ _) | ((with_reducible refine Below.alloc ?_ ?_ _); rotate_left; (first | omega | (simp <;> omega)); rotate_right) | ((with_reducible refine Below.setCell ?_ ?_ _); rotate_left; (first | omega | (simp <;> omega)); rotate_right) | (with_reducible assumption) | (refine Below.trans ?_ (Below.mono (by assumption) ?_); rotate_left; (first | omega | (simp <;> omega)); rotate_right))))
    clear hWf
    clear ca_0 fa_0 ca_1 fa_1 ca_2 fa_2 ca_3 fa_3 ca_4 fa_4 ca_5 fa_5 ca_6 fa_6 ca_7 fa_7 ca_8 fa_8 ca_9 fa_9 ca_10 fa_10
    clear cb_0 fb_0 cb_1 fb_1 cb_2 fb_2 cb_3 fb_3 cb_4 fb_4 cb_5 fb_5 cb_6 fb_6 cb_7 fb_7 cb_8 fb_8 cb_9 fb_9 cb_10 fb_10
    clear la lb
    have cm_0 := blk_cell hf 0 rfl; have fm_0 := blk_free hf 0; have cm_1 := blk_cell hf 1 rfl; have fm_1 := blk_free hf 1; have cm_2 := blk_cell hf 2 rfl; have fm_2 := blk_free hf 2; have cm_3 := blk_cell hf 3 rfl; have fm_3 := blk_free hf 3; have cm_4 := blk_cell hf 4 rfl; have fm_4 := blk_free hf 4; have cm_5 := blk_cell hf 5 rfl; have fm_5 := blk_free hf 5; have cm_6 := blk_cell hf 6 rfl; have fm_6 := blk_free hf 6; have cm_7 := blk_cell hf 7 rfl; have fm_7 := blk_free hf 7; have cm_8 := blk_cell hf 8 rfl; have fm_8 := blk_free hf 8; have cm_9 := blk_cell hf 9 rfl; have fm_9 := blk_free hf 9; have cm_10 := blk_cell hf 10 rfl; have fm_10 := blk_free hf 10; have lm := lt_of_block hf
    exact bodyPost_ret (v := .tuple #[.agg #[.int .i64 s.again, .int .i64 s.st, .int .i64 s.now, .int .i64 s.seq, .bool s.some, .int .i64 s.prog, .int .i64 s.cmd, .slice D dl dc, .int .i64 s.sent, .slice A s.n ac, .slice S s.n sc], .slice none 0 0, .int .i64 3]) (by simp [results, Try.results36, go_sem, cm_0, cm_1, cm_2, cm_3, cm_4, cm_5, cm_6, cm_7, cm_8, cm_9, cm_10]) rfl ⟨_, D, dc, A, ac, S, sc, by rw [rsl, ← HDL.out], H.out.below HBf.out (Nat.le_refl _), Rof.nil _ _, HBf.out, fun g hg => .inl hg⟩
theorem rgive_no6 (s : Stn.St) (hs : Stn.Inv s) (D : Option Addr) (dl dc : Nat) (A : Option Addr) (ac : Nat) (S : Option Addr) (sc : Nat) (now x : Int) (w : World) (hdl : dl = (Stn.data s).length) (h : IsR w D dc A ac S sc s) (he : Stn.giveE s 6 now x ≠ 0) :
    Calls Try.prog 36 #[.agg #[.int .i64 s.again, .int .i64 s.st, .int .i64 s.now, .int .i64 s.seq, .bool s.some, .int .i64 s.prog, .int .i64 s.cmd, .slice D dl dc, .int .i64 s.sent, .slice A s.n ac, .slice S s.n sc], .int .i64 6, .int .i64 now, .int .i64 x] w (RPost D s [] (Stn.giveE s 6 now x) w) := by
  have TM := Lib.hid (fun W : World => rtime_any s D dl dc A s.n ac S s.n sc now W)
  have MY := Lib.hid (fun W : World => rmay_any 6 s.st W (by omega) hs.st)
  have H := Lib.hid h
  have HDL := Lib.hid hdl
  have HE := Lib.hid he
  clear h hs hdl he
  have r1 : ¬ ((6 : Int) = 1 ∧ ¬ (0 ≤ x ∧ x ≤ 4294967295)) := fun h => by omega
  by_cases ht : Stn.timeE s now = 0
  · rw [ht] at TM
    have r3 : ¬ ((6 : Int) = 3 ∧ ¬ (now ≤ x ∧ x ≤ 3600000)) := fun h => by omega
    have hm : Stn.may 6 s.st = false := by
      cases hmm : Stn.may 6 s.st
      · rfl
      · exact absurd (by unfold Stn.giveE; rw [if_neg r1, if_neg (by simp [ht]), if_neg r3, if_neg (by simp [hmm])]) HE.out
    have E : Stn.giveE s 6 now x = 8 := by unfold Stn.giveE; rw [if_neg r1, if_neg (by simp [ht]), if_neg r3, if_pos hm]
    rw [E]
    rw [hm] at MY
    clear ht hm E r1 r3
    go_enter Try.func36, Try.ntmps36
    go_wp2_with fail
    generalize hV : World.alloc _ _ = V
    have k0 : V.heap[w.heap.size]? = some (.cells #[.int .i64 s.again, .int .i64 s.st, .int .i64 s.now, .int .i64 s.seq, .bool s.some, .int .i64 s.prog, .int .i64 s.cmd, .slice D dl dc, .int .i64 s.sent, .slice A s.n ac, .slice S s.n sc] 29 (0, 0)) := by rw [← hV]; exact blk_alloc (heap_new _ _) _
    have k1 : V.heap[w.heap.size + 1]? = some (.cells #[.int .i64 0, .int .i64 0, .int .i64 0, .int .i64 0, .bool false, .int .i64 0, .int .i64 0, .slice none 0 0, .int .i64 0, .slice none 0 0, .slice none 0 0] 29 (0, 0)) := by rw [← hV]; exact heap_new' _ _ _ (by simp)
    have hB0 : Below w.heap.size w V := by rw [← hV]; exact (by repeat (first | (with_reducible exact Below.refl _ _) | (with_reducible refine Below.drew ?_) | (with_reducible refine below_drewN ?_ _) | ((with_reducible refine Below.alloc ?_ ?_ _); rotate_left; (first | omega | (simp <;> omega)); rotate_right) | ((with_reducible refine Below.setCell ?_ ?_ _); rotate_left; (first | omega | (simp <;> omega)); rotate_right) | (with_reducible assumption) | (refine Below.trans ?_ (Below.mono (by assumption) ?_); rotate_left; (first | omega | (simp <;> omega)); rotate_right)))
    have hzV : w.heap.size ≤ V.heap.size := hB0.size
    clear hV
    refine (TM.out _).mono ?_
    rintro e w1 ⟨rfl, hB1⟩
    have j0 := blk_below k0 hB1 (lt_of_block k0)
    have j1 := blk_below k1 hB1 (lt_of_block k1)
    have hBw : Below w.heap.size w w1 := hB0.trans (hB1.mono hzV)
    clear k0 k1 hB1 hB0
    have ca_0 := blk_cell j0 0 rfl; have fa_0 := blk_free j0 0; have ca_1 := blk_cell j0 1 rfl; have fa_1 := blk_free j0 1; have ca_2 := blk_cell j0 2 rfl; have fa_2 := blk_free j0 2; have ca_3 := blk_cell j0 3 rfl; have fa_3 := blk_free j0 3; have ca_4 := blk_cell j0 4 rfl; have fa_4 := blk_free j0 4; have ca_5 := blk_cell j0 5 rfl; have fa_5 := blk_free j0 5; have ca_6 := blk_cell j0 6 rfl; have fa_6 := blk_free j0 6; have ca_7 := blk_cell j0 7 rfl; have fa_7 := blk_free j0 7; have ca_8 := blk_cell j0 8 rfl; have fa_8 := blk_free j0 8; have ca_9 := blk_cell j0 9 rfl; have fa_9 := blk_free j0 9; have ca_10 := blk_cell j0 10 rfl; have fa_10 := blk_free j0 10; have la := lt_of_block j0
    have cb_0 := blk_cell j1 0 rfl; have fb_0 := blk_free j1 0; have cb_1 := blk_cell j1 1 rfl; have fb_1 := blk_free j1 1; have cb_2 := blk_cell j1 2 rfl; have fb_2 := blk_free j1 2; have cb_3 := blk_cell j1 3 rfl; have fb_3 := blk_free j1 3; have cb_4 := blk_cell j1 4 rfl; have fb_4 := blk_free j1 4; have cb_5 := blk_cell j1 5 rfl; have fb_5 := blk_free j1 5; have cb_6 := blk_cell j1 6 rfl; have fb_6 := blk_free j1 6; have cb_7 := blk_cell j1 7 rfl; have fb_7 := blk_free j1 7; have cb_8 := blk_cell j1 8 rfl; have fb_8 := blk_free j1 8; have cb_9 := blk_cell j1 9 rfl; have fb_9 := blk_free j1 9; have cb_10 := blk_cell j1 10 rfl; have fb_10 := blk_free j1 10; have lb := lt_of_block j1
    go_wp2_with fail
    refine (MY.out _).mono ?_
    rintro e w' ⟨rfl, rfl⟩
    go_wp2_with fail
    generalize hWf : World.setCell _ _ _ = Wf
    have hf : Wf.heap[w.heap.size + 1]? = some (.cells #[.int .i64 s.again, .int .i64 s.st, .int .i64 s.now, .int .i64 s.seq, .bool s.some, .int .i64 s.prog, .int .i64 s.cmd, .slice D dl dc, .int .i64 s.sent, .slice A s.n ac, .slice S s.n sc] 29 (0, 0)) := by rw [← hWf]; exact (by apply Eq.trans; (repeat (first | (with_reducible assumption) | (with_reducible apply blk_set) | ((with_reducible apply blk_far); rotate_left; (first | omega | (simp <;> omega)); rotate_right) | (with_reducible apply blk_drew) | (with_reducible apply blk_drewN) | ((with_reducible apply heap_new'); (first | rfl | (simp <;> fail))) | (with_reducible apply blk_alloc))); (first | with_reducible rfl | (simp <;> fail) | rfl))
    have HBf := Lib.hid (show Below w.heap.size w Wf from by rw [← hWf]; exact (by repeat (first | (with_reducible exact Below.refl _ _) | (with_reducible refine Below.drew ?_) | (with_reducible refine below_drewN ?_ _) | ((with_reducible refine Below.alloc ?_ ?_ _); rotate_left; (first | omega | (simp <;> omega)); rotate_right) | ((with_reducible refine Below.setCell ?_ ?_ _); rotate_left; (first | omega | (simp <;> omega)); rotate_right) | (with_reducible assumption) | (refine Below.trans ?_ (Below.mono (by assumption) ?_); rotate_left; (first | omega | (simp <;> omega)); rotate_right))))
    clear hWf
    clear ca_0 fa_0 ca_1 fa_1 ca_2 fa_2 ca_3 fa_3 ca_4 fa_4 ca_5 fa_5 ca_6 fa_6 ca_7 fa_7 ca_8 fa_8 ca_9 fa_9 ca_10 fa_10
    clear cb_0 fb_0 cb_1 fb_1 cb_2 fb_2 cb_3 fb_3 cb_4 fb_4 cb_5 fb_5 cb_6 fb_6 cb_7 fb_7 cb_8 fb_8 cb_9 fb_9 cb_10 fb_10
    clear la lb
    have cm_0 := blk_cell hf 0 rfl; have fm_0 := blk_free hf 0; have cm_1 := blk_cell hf 1 rfl; have fm_1 := blk_free hf 1; have cm_2 := blk_cell hf 2 rfl; have fm_2 := blk_free hf 2; have cm_3 := blk_cell hf 3 rfl; have fm_3 := blk_free hf 3; have cm_4 := blk_cell hf 4 rfl; have fm_4 := blk_free hf 4; have cm_5 := blk_cell hf 5 rfl; have fm_5 := blk_free hf 5; have cm_6 := blk_cell hf 6 rfl; have fm_6 := blk_free hf 6; have cm_7 := blk_cell hf 7 rfl; have fm_7 := blk_free hf 7; have cm_8 := blk_cell hf 8 rfl; have fm_8 := blk_free hf 8; have cm_9 := blk_cell hf 9 rfl; have fm_9 := blk_free hf 9; have cm_10 := blk_cell hf 10 rfl; have fm_10 := blk_free hf 10; have lm := lt_of_block hf
    exact bodyPost_ret (v := .tuple #[.agg #[.int .i64 s.again, .int .i64 s.st, .int .i64 s.now, .int .i64 s.seq, .bool s.some, .int .i64 s.prog, .int .i64 s.cmd, .slice D dl dc, .int .i64 s.sent, .slice A s.n ac, .slice S s.n sc], .slice none 0 0, .int .i64 8]) (by simp [results, Try.results36, go_sem, cm_0, cm_1, cm_2, cm_3, cm_4, cm_5, cm_6, cm_7, cm_8, cm_9, cm_10]) rfl ⟨_, D, dc, A, ac, S, sc, by rw [rsl, ← HDL.out], H.out.below HBf.out (Nat.le_refl _), Rof.nil _ _, HBf.out, fun g hg => .inl hg⟩
  · have ht3 : Stn.timeE s now = 3 := (timeE_cases s now).resolve_left ht
    have E : Stn.giveE s 6 now x = 3 := by unfold Stn.giveE; rw [if_neg r1, if_pos ht]
    rw [E]
    rw [ht3] at TM
    clear ht ht3 E r1
    go_enter Try.func36, Try.ntmps36
    go_wp2_with fail
    generalize hV : World.alloc _ _ = V
    have k0 : V.heap[w.heap.size]? = some (.cells #[.int .i64 s.again, .int .i64 s.st, .int .i64 s.now, .int .i64 s.seq, .bool s.some, .int .i64 s.prog, .int .i64 s.cmd, .slice D dl dc, .int .i64 s.sent, .slice A s.n ac, .slice S s.n sc] 29 (0, 0)) := by rw [← hV]; exact blk_alloc (heap_new _ _) _
    have k1 : V.heap[w.heap.size + 1]? = some (.cells #[.int .i64 0, .int .i64 0, .int .i64 0, .int .i64 0, .bool false, .int .i64 0, .int .i64 0, .slice none 0 0, .int .i64 0, .slice none 0 0, .slice none 0 0] 29 (0, 0)) := by rw [← hV]; exact heap_new' _ _ _ (by simp)
    have hB0 : Below w.heap.size w V := by rw [← hV]; exact (by repeat (first | (with_reducible exact Below.refl _ _) | (with_reducible refine Below.drew ?_) | (with_reducible refine below_drewN ?_ _) | ((with_reducible refine Below.alloc ?_ ?_ _); rotate_left; (first | omega | (simp <;> omega)); rotate_right) | ((with_reducible refine Below.setCell ?_ ?_ _); rotate_left; (first | omega | (simp <;> omega)); rotate_right) | (with_reducible assumption) | (refine Below.trans ?_ (Below.mono (by assumption) ?_); rotate_left; (first | omega | (simp <;> omega)); rotate_right)))
    have hzV : w.heap.size ≤ V.heap.size := hB0.size
    clear hV
    refine (TM.out _).mono ?_
    rintro e w1 ⟨rfl, hB1⟩
    have j0 := blk_below k0 hB1 (lt_of_block k0)
    have j1 := blk_below k1 hB1 (lt_of_block k1)
    have hBw : Below w.heap.size w w1 := hB0.trans (hB1.mono hzV)
    clear k0 k1 hB1 hB0
    have ca_0 := blk_cell j0 0 rfl; have fa_0 := blk_free j0 0; have ca_1 := blk_cell j0 1 rfl; have fa_1 := blk_free j0 1; have ca_2 := blk_cell j0 2 rfl; have fa_2 := blk_free j0 2; have ca_3 := blk_cell j0 3 rfl; have fa_3 := blk_free j0 3; have ca_4 := blk_cell j0 4 rfl; have fa_4 := blk_free j0 4; have ca_5 := blk_cell j0 5 rfl; have fa_5 := blk_free j0 5; have ca_6 := blk_cell j0 6 rfl; have fa_6 := blk_free j0 6; have ca_7 := blk_cell j0 7 rfl; have fa_7 := blk_free j0 7; have ca_8 := blk_cell j0 8 rfl; have fa_8 := blk_free j0 8; have ca_9 := blk_cell j0 9 rfl; have fa_9 := blk_free j0 9; have ca_10 := blk_cell j0 10 rfl; have fa_10 := blk_free j0 10; have la := lt_of_block j0
    have cb_0 := blk_cell j1 0 rfl; have fb_0 := blk_free j1 0; have cb_1 := blk_cell j1 1 rfl; have fb_1 := blk_free j1 1; have cb_2 := blk_cell j1 2 rfl; have fb_2 := blk_free j1 2; have cb_3 := blk_cell j1 3 rfl; have fb_3 := blk_free j1 3; have cb_4 := blk_cell j1 4 rfl; have fb_4 := blk_free j1 4; have cb_5 := blk_cell j1 5 rfl; have fb_5 := blk_free j1 5; have cb_6 := blk_cell j1 6 rfl; have fb_6 := blk_free j1 6; have cb_7 := blk_cell j1 7 rfl; have fb_7 := blk_free j1 7; have cb_8 := blk_cell j1 8 rfl; have fb_8 := blk_free j1 8; have cb_9 := blk_cell j1 9 rfl; have fb_9 := blk_free j1 9; have cb_10 := blk_cell j1 10 rfl; have fb_10 := blk_free j1 10; have lb := lt_of_block j1
    go_wp2_with fail
    generalize hWf : World.setCell _ _ _ = Wf
    have hf : Wf.heap[w.heap.size + 1]? = some (.cells #[.int .i64 s.again, .int .i64 s.st, .int .i64 s.now, .int .i64 s.seq, .bool s.some, .int .i64 s.prog, .int .i64 s.cmd, .slice D dl dc, .int .i64 s.sent, .slice A s.n ac, .slice S s.n sc] 29 (0, 0)) := by rw [← hWf]; exact (by apply Eq.trans; (repeat (first | (with_reducible assumption) | (with_reducible apply blk_set) | ((with_reducible apply blk_far); rotate_left; (first | omega | (simp <;> omega)); rotate_right) | (with_reducible apply blk_drew) | (with_reducible apply blk_drewN) | ((with_reducible apply heap_new'); (first | rfl | (simp <;> fail))) | (with_reducible apply blk_alloc))); (first | with_reducible rfl | (simp <;> fail) | rfl))
    have HBf := Lib.hid (show Below w.heap.size w Wf from by rw [← hWf]; exact (by repeat (first | (with_reducible exact Below.refl _ _) | (with_reducible refine Below.drew ?_) | (with_reducible refine below_drewN ?_ _) | ((with_reducible refine Below.alloc ?_ ?_ _); rotate_left; (first | omega | (simp <;> omega)); rotate_right) | ((with_reducible refine Below.setCell ?_ ?_ _); rotate_left; (first | omega | (simp <;> omega)); rotate_right) | (with_reducible assumption) | (refine Below.trans ?_ (Below.mono (by assumption) ?_); rotate_left; (first | omega | (simp <;> omega)); rotate_right))))
    clear hWf
    clear ca_0 fa_0 ca_1 fa_1 ca_2 fa_2 ca_3 fa_3 ca_4 fa_4 ca_5 fa_5 ca_6 fa_6 ca_7 fa_7 ca_8 fa_8 ca_9 fa_9 ca_10 fa_10
    clear cb_0 fb_0 cb_1 fb_1 cb_2 fb_2 cb_3 fb_3 cb_4 fb_4 cb_5 fb_5 cb_6 fb_6 cb_7 fb_7 cb_8 fb_8 cb_9 fb_9 cb_10 fb_10
    clear la lb
    have cm_0 := blk_cell hf 0 rfl; have fm_0 := blk_free hf 0; have cm_1 := blk_cell hf 1 rfl; have fm_1 := blk_free hf 1; have cm_2 := blk_cell hf 2 rfl; have fm_2 := blk_free hf 2; have cm_3 := blk_cell hf 3 rfl; have fm_3 := blk_free hf 3; have cm_4 := blk_cell hf 4 rfl; have fm_4 := blk_free hf 4; have cm_5 := blk_cell hf 5 rfl; have fm_5 := blk_free hf 5; have cm_6 := blk_cell hf 6 rfl; have fm_6 := blk_free hf 6; have cm_7 := blk_cell hf 7 rfl; have fm_7 := blk_free hf 7; have cm_8 := blk_cell hf 8 rfl; have fm_8 := blk_free hf 8; have cm_9 := blk_cell hf 9 rfl; have fm_9 := blk_free hf 9; have cm_10 := blk_cell hf 10 rfl; have fm_10 := blk_free hf 10; have lm := lt_of_block hf
    exact bodyPost_ret (v := .tuple #[.agg #[.int .i64 s.again, .int .i64 s.st, .int .i64 s.now, .int .i64 s.seq, .bool s.some, .int .i64 s.prog, .int .i64 s.cmd, .slice D dl dc, .int .i64 s.sent, .slice A s.n ac, .slice S s.n sc], .slice none 0 0, .int .i64 3]) (by simp [results, Try.results36, go_sem, cm_0, cm_1, cm_2, cm_3, cm_4, cm_5, cm_6, cm_7, cm_8, cm_9, cm_10]) rfl ⟨_, D, dc, A, ac, S, sc, by rw [rsl, ← HDL.out], H.out.below HBf.out (Nat.le_refl _), Rof.nil _ _, HBf.out, fun g hg => .inl hg⟩
theorem rgive_any (s : Stn.St) (hs : Stn.Inv s) (D : Option Addr) (dl dc : Nat) (A : Option Addr) (ac : Nat) (S : Option Addr) (sc : Nat) (k now x : Int) (hk : 1 ≤ k ∧ k ≤ 6) (w : World) (hdl : dl = (Stn.data s).length) (h : IsR w D dc A ac S sc s) :
    Calls Try.prog 36 #[.agg #[.int .i64 s.again, .int .i64 s.st, .int .i64 s.now, .int .i64 s.seq, .bool s.some, .int .i64 s.prog, .int .i64 s.cmd, .slice D dl dc, .int .i64 s.sent, .slice A s.n ac, .slice S s.n sc], .int .i64 k, .int .i64 now, .int .i64 x] w (RPost D (Stn.give s k now x) (Stn.giveF s k now x) (Stn.giveE s k now x) w) := by
  have hk' : k = 1 ∨ k = 2 ∨ k = 3 ∨ k = 4 ∨ k = 5 ∨ k = 6 := by omega
  by_cases he : Stn.giveE s k now x = 0
  · have e1 : Stn.give s k now x = Stn.give0 s k now x := by unfold Stn.give; rw [if_pos he]
    have e2 : Stn.giveF s k now x = Stn.frames (Stn.give0 s k now x) := by unfold Stn.giveF; rw [if_pos he]
    rw [e1, e2, he]
    rcases hk' with rfl | rfl | rfl | rfl | rfl | rfl
    · exact rgive_1 s hs D dl dc A ac S sc now x w h he
    · exact rgive_2 s hs D dl dc A ac S sc now x w h he
    · exact rgive_3 s hs D dl dc A ac S sc now x w h he
    · exact rgive_4 s hs D dl dc A ac S sc now x w h he
    · exact rgive_5 s hs D dl dc A ac S sc now x w h he
    · exact rgive_6 s hs D dl dc A ac S sc now x w h he
  · have e1 : Stn.give s k now x = s := by unfold Stn.give; rw [if_neg he]
    have e2 : Stn.giveF s k now x = [] := by unfold Stn.giveF; rw [if_neg he]
    rw [e1, e2]
    rcases hk' with rfl | rfl | rfl | rfl | rfl | rfl
    · exact rgive_no1 s hs D dl dc A ac S sc now x w hdl h he
    · exact rgive_no2 s hs D dl dc A ac S sc now x w hdl h he
    · exact rgive_no3 s hs D dl dc A ac S sc now x w hdl h he
    · exact rgive_no4 s hs D dl dc A ac S sc now x w hdl h he
    · exact rgive_no5 s hs D dl dc A ac S sc now x w hdl h he
    · exact rgive_no6 s hs D dl dc A ac S sc now x w hdl h he
end Go.Proofs.Ytiidkmnagfhgiaa

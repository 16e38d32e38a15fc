/- The reference's Receive whole, New. -/
import Derived.Test.YtiidkmnagfhgiaaStZ
namespace Go.Proofs.Ytiidkmnagfhgiaa
open Go.RowKit
set_option maxHeartbeats 8000000
set_option maxRecDepth 100000
set_option linter.unusedSimpArgs false
set_option linter.unusedVariables false
attribute [local go_sem ↓] Go.wp_at_zero Go.wp_at_succ
theorem rrecv_any (s : Stn.St) (hs : Stn.Inv s) (D : Option Addr) (dl dc : Nat) (A : Option Addr) (ac : Nat) (S : Option Addr) (sc : Nat) (now : Int) (y : Fr) (FD : Option Addr) (cap : Nat) (w : World) (hn : y.d.length ≤ 140737488355328) (hd : Rd w w.heap.size FD y.d.length y.d) (hdl : dl = (Stn.data s).length) (h : IsR w D dc A ac S sc s) :
    Calls Try.prog 32 #[.agg #[.int .i64 s.again, .int .i64 s.st, .int .i64 s.now, .int .i64 s.seq, .bool s.some, .int .i64 s.prog, .int .i64 s.cmd, .slice D dl dc, .int .i64 s.sent, .slice A s.n ac, .slice S s.n sc], .int .i64 now, .agg #[.int .i64 y.k, .int .i64 y.f, .int .i64 y.t, .int .i64 y.s, .slice FD y.d.length cap]] w (RPost D (Stn.recv s now y) (Stn.recvF s now y) (Stn.recvE s now y) w) := by
  obtain ⟨k, f, t, q, d⟩ := y
  simp only at hn hd ⊢
  by_cases he : Stn.recvE s now ⟨k, f, t, q, d⟩ = 0
  · have e1 : Stn.recv s now ⟨k, f, t, q, d⟩ = Stn.recv1 s now ⟨k, f, t, q, d⟩ := by unfold Stn.recv; rw [if_pos he]
    have hok := recvE_ok he
    rw [he, e1]
    have hvd := Frm.vd_iff.1 hok.1
    have ht := hok.2.1
    have hfn := hok.2.2.1
    simp only at hvd ht hfn
    by_cases h1 : d.length = 1
    · rw [h1] at hd ⊢
      obtain ⟨bb, oo, rfl, hbb, hcc⟩ := hd.2.2 (by omega)
      by_cases h8 : k = 8
      · subst h8
        have hrep : Stn.isRep ⟨8, f, t, q, d⟩ = false := by unfold Stn.isRep; simp
        have e2 : Stn.recvF s now ⟨8, f, t, q, d⟩ = [] := by unfold Stn.recvF; rw [if_neg (by simp [hrep])]
        rw [e2]
        obtain ⟨i, hi⟩ : ∃ i : Nat, f = (i : Int) + 1 := ⟨(f - 1).toNat, by omega⟩
        by_cases ha : s.cmd ≠ 0 ∧ q = s.seq ∧ d.getD 0 0 = s.cmd
        · have hack : Stn.isAck s ⟨8, f, t, q, d⟩ = true := by unfold Stn.isAck; simp only [decide_eq_true ha.1, decide_eq_true ha.2.1, decide_eq_true ha.2.2]; rfl
          have e3 : Stn.recv1 s now ⟨8, f, t, q, d⟩ = Stn.acked { s with now := now } (i + 1) := by unfold Stn.recv1; rw [if_pos h1, if_pos hack]; simp only [hi]; rw [show ((i : Int) + 1).toNat = i + 1 by omega]
          rw [e3]
          exact rrecv_ack s hs D dl dc A ac S sc now f t q bb oo cap d _ w hd rfl hdl h he ha.1 ha.2.1 ha.2.2 i hi
        · have hack : Stn.isAck s ⟨8, f, t, q, d⟩ = false := by
            unfold Stn.isAck
            rw [Bool.eq_false_iff]
            intro hh
            simp only [Bool.and_eq_true, decide_eq_true_eq] at hh
            exact ha ⟨hh.1.1.2, hh.1.2, hh.2⟩
          have e3 : Stn.recv1 s now ⟨8, f, t, q, d⟩ = { s with now := now } := by unfold Stn.recv1; rw [if_pos h1, if_neg (by simp [hack]), if_neg (by simp [hrep])]
          rw [e3]
          exact rrecv_now2 s hs D dl dc A ac S sc now f t q bb oo cap d _ w hd rfl hdl h he (by
            by_cases g1 : s.cmd = 0
            · exact .inl g1
            · by_cases g2 : q = s.seq
              · exact .inr (.inr (fun g3 => ha ⟨g1, g2, g3⟩))
              · exact .inr (.inl g2))
      · have hack : Stn.isAck s ⟨k, f, t, q, d⟩ = false := by unfold Stn.isAck; simp [h8]
        by_cases h7 : d.getD 0 0 ≤ 7
        · have hrep : Stn.isRep ⟨k, f, t, q, d⟩ = true := by unfold Stn.isRep; rw [decide_eq_true h8, decide_eq_true h7]; rfl
          obtain ⟨i, hi⟩ : ∃ i : Nat, f = (i : Int) + 1 := ⟨(f - 1).toNat, by omega⟩
          have e2 : Stn.recvF s now ⟨k, f, t, q, d⟩ = [⟨7, 0, f, q, Frm.num4 now ++ Frm.num4 now⟩] := by unfold Stn.recvF; rw [if_pos ⟨he, h1, hrep⟩]
          have e3 : Stn.recv1 s now ⟨k, f, t, q, d⟩ = Stn.reported { s with now := now } (i + 1) (d.getD 0 0) now := by unfold Stn.recv1; rw [if_pos h1, if_neg (by simp [hack]), if_pos hrep]; simp only [hi]; rw [show ((i : Int) + 1).toNat = i + 1 by omega]
          rw [e2, e3]
          exact rrecv_rep s hs D dl dc A ac S sc now k f t q bb oo cap d _ w hd rfl hdl h he h8 h7 i hi
        · have hrep : Stn.isRep ⟨k, f, t, q, d⟩ = false := by unfold Stn.isRep; rw [decide_eq_false h7]; simp
          have e2 : Stn.recvF s now ⟨k, f, t, q, d⟩ = [] := by unfold Stn.recvF; rw [if_neg (by simp [hrep])]
          have e3 : Stn.recv1 s now ⟨k, f, t, q, d⟩ = { s with now := now } := by unfold Stn.recv1; rw [if_pos h1, if_neg (by simp [hack]), if_neg (by simp [hrep])]
          rw [e2, e3]
          exact rrecv_now3 s hs D dl dc A ac S sc now k f t q bb oo cap d _ w hd rfl hdl h he h8 (by omega)
    · have e2 : Stn.recvF s now ⟨k, f, t, q, d⟩ = [] := by unfold Stn.recvF; rw [if_neg (fun hh => h1 hh.2.1)]
      have e3 : Stn.recv1 s now ⟨k, f, t, q, d⟩ = { s with now := now } := by unfold Stn.recv1; rw [if_neg h1]
      rw [e2, e3]
      exact rrecv_now1 s hs D dl dc A ac S sc now k f t q FD d.length cap d w hd hdl h he h1
  · have e1 : Stn.recv s now ⟨k, f, t, q, d⟩ = s := by unfold Stn.recv; rw [if_neg he]
    have e2 : Stn.recvF s now ⟨k, f, t, q, d⟩ = [] := by unfold Stn.recvF; rw [if_neg (fun hh => he hh.1)]
    rw [e1, e2]
    exact rrecv_no s D dl dc A ac S sc now k f t q FD d.length cap d w hn (by have := hs.n; omega) rfl hdl h he
theorem rsnew_no (n again : Int) (w : World) (h : Stn.newE n again ≠ 0) : Calls Try.prog 19 #[.int .i64 n, .int .i64 again] w fun e w' => e = .returned (.tuple #[.agg #[.int .i64 0, .int .i64 0, .int .i64 0, .int .i64 0, .bool false, .int .i64 0, .int .i64 0, .slice none 0 0, .int .i64 0, .slice none 0 0, .slice none 0 0], .int .i64 2]) ∧ Below w.heap.size w w' := by
  have hh : ¬ (1 ≤ n ∧ n ≤ 64 ∧ 1 ≤ again ∧ again ≤ 60000) := fun hh => h (by unfold Stn.newE; rw [if_pos hh])
  clear h
  by_cases h1 : n < 1
  · clear hh
    go_enter Try.func19, Try.ntmps19
    go_wp2_with fail
    exact bodyPost_ret (v := .tuple #[.agg #[.int .i64 0, .int .i64 0, .int .i64 0, .int .i64 0, .bool false, .int .i64 0, .int .i64 0, .slice none 0 0, .int .i64 0, .slice none 0 0, .slice none 0 0], .int .i64 2]) (by simp [results, Try.results19, go_sem]) rfl ⟨rfl, (by repeat (first | (with_reducible exact Below.refl _ _) | (with_reducible refine Below.drew ?_) | (with_reducible refine below_drewN ?_ _) | ((with_reducible refine Below.alloc ?_ ?_ _); rotate_left; (first | omega | (simp <;> omega)); rotate_right) | ((with_reducible refine Below.setCell ?_ ?_ _); rotate_left; (first | omega | (simp <;> omega)); rotate_right) | (with_reducible assumption) | (refine Below.trans ?_ (Below.mono (by assumption) ?_); rotate_left; (first | omega | (simp <;> omega)); rotate_right)))⟩
  by_cases h2 : 64 < n
  · clear hh
    go_enter Try.func19, Try.ntmps19
    go_wp2_with fail
    exact bodyPost_ret (v := .tuple #[.agg #[.int .i64 0, .int .i64 0, .int .i64 0, .int .i64 0, .bool false, .int .i64 0, .int .i64 0, .slice none 0 0, .int .i64 0, .slice none 0 0, .slice none 0 0], .int .i64 2]) (by simp [results, Try.results19, go_sem]) rfl ⟨rfl, (by repeat (first | (with_reducible exact Below.refl _ _) | (with_reducible refine Below.drew ?_) | (with_reducible refine below_drewN ?_ _) | ((with_reducible refine Below.alloc ?_ ?_ _); rotate_left; (first | omega | (simp <;> omega)); rotate_right) | ((with_reducible refine Below.setCell ?_ ?_ _); rotate_left; (first | omega | (simp <;> omega)); rotate_right) | (with_reducible assumption) | (refine Below.trans ?_ (Below.mono (by assumption) ?_); rotate_left; (first | omega | (simp <;> omega)); rotate_right)))⟩
  by_cases h3 : again < 1
  · clear hh
    go_enter Try.func19, Try.ntmps19
    go_wp2_with fail
    exact bodyPost_ret (v := .tuple #[.agg #[.int .i64 0, .int .i64 0, .int .i64 0, .int .i64 0, .bool false, .int .i64 0, .int .i64 0, .slice none 0 0, .int .i64 0, .slice none 0 0, .slice none 0 0], .int .i64 2]) (by simp [results, Try.results19, go_sem]) rfl ⟨rfl, (by repeat (first | (with_reducible exact Below.refl _ _) | (with_reducible refine Below.drew ?_) | (with_reducible refine below_drewN ?_ _) | ((with_reducible refine Below.alloc ?_ ?_ _); rotate_left; (first | omega | (simp <;> omega)); rotate_right) | ((with_reducible refine Below.setCell ?_ ?_ _); rotate_left; (first | omega | (simp <;> omega)); rotate_right) | (with_reducible assumption) | (refine Below.trans ?_ (Below.mono (by assumption) ?_); rotate_left; (first | omega | (simp <;> omega)); rotate_right)))⟩
  have h4 : 60000 < again := by omega
  clear hh
  go_enter Try.func19, Try.ntmps19
  go_wp2_with fail
  exact bodyPost_ret (v := .tuple #[.agg #[.int .i64 0, .int .i64 0, .int .i64 0, .int .i64 0, .bool false, .int .i64 0, .int .i64 0, .slice none 0 0, .int .i64 0, .slice none 0 0, .slice none 0 0], .int .i64 2]) (by simp [results, Try.results19, go_sem]) rfl ⟨rfl, (by repeat (first | (with_reducible exact Below.refl _ _) | (with_reducible refine Below.drew ?_) | (with_reducible refine below_drewN ?_ _) | ((with_reducible refine Below.alloc ?_ ?_ _); rotate_left; (first | omega | (simp <;> omega)); rotate_right) | ((with_reducible refine Below.setCell ?_ ?_ _); rotate_left; (first | omega | (simp <;> omega)); rotate_right) | (with_reducible assumption) | (refine Below.trans ?_ (Below.mono (by assumption) ?_); rotate_left; (first | omega | (simp <;> omega)); rotate_right)))⟩
theorem rsnew_yes (n : Nat) (again : Int) (w : World) (h : Stn.newE n again = 0) : Calls Try.prog 19 #[.int .i64 n, .int .i64 again] w fun e w' => ∃ NA NS, e = .returned (.tuple #[.agg #[.int .i64 again, .int .i64 0, .int .i64 0, .int .i64 0, .bool false, .int .i64 0, .int .i64 0, .slice none 0 0, .int .i64 0, .slice (some ⟨NA, 0, none⟩) n n, .slice (some ⟨NS, 0, none⟩) n n], .int .i64 0]) ∧ IsR w' none 0 (some ⟨NA, 0, none⟩) n (some ⟨NS, 0, none⟩) n (Stn.new n again) ∧ Below w.heap.size w w' := by
  obtain ⟨i0, hi0, hz0, hz1, hz2⟩ := info_parts info_rrep
  obtain ⟨i1, hm0, hm1, hm2, hm3⟩ := info_parts info_bool
  have hh : 1 ≤ (n : Int) ∧ (n : Int) ≤ 64 ∧ 1 ≤ again ∧ again ≤ 60000 := by
    unfold Stn.newE at h
    split at h
    · assumption
    · omega
  obtain ⟨h1, h2, h3, h4⟩ := hh
  have hmk : ∀ W : World, (Instr.makeSlice 27 (.int .i64 (n : Int)) (.int .i64 (n : Int))).run Try.prog W = .ok (.slice (some ⟨W.heap.size, 0, none⟩) n n) (W.alloc (.cells (madeCells #[.bool false, .int .i64 0, .int .i64 0] (n * 3)) 84)) := fun W => by
    have := run_make (P := Try.prog) W 27 84 i0 _ Try.underlying27 hi0 hz0 .i64 .i64 n n (by omega) (Int.le_refl _) (by rw [hz2]; omega) (by omega)
    rw [hz1, Int.toNat_natCast] at this
    exact this
  have hmb : ∀ W : World, (Instr.makeSlice 26 (.int .i64 (n : Int)) (.int .i64 (n : Int))).run Try.prog W = .ok (.slice (some ⟨W.heap.size, 0, none⟩) n n) (W.alloc (.cells (madeCells #[.bool false] n) 4)) := fun W => by
    have := run_make (P := Try.prog) W 26 4 i1 _ Try.underlying26 hm0 hm1 .i64 .i64 n n (by omega) (Int.le_refl _) (by rw [hm3]; omega) (by omega)
    rw [hm2, Int.toNat_natCast, Nat.mul_one] at this
    exact this
  clear h
  go_enter Try.func19, Try.ntmps19
  go_wp2_with fail
  go_region
  all_goals go_wp2_with fail
  · exact bodyPost_ret (v := .tuple #[.agg #[.int .i64 again, .int .i64 0, .int .i64 0, .int .i64 0, .bool false, .int .i64 0, .int .i64 0, .slice none 0 0, .int .i64 0, .slice (some ⟨w.heap.size + 1, 0, none⟩) n n, .slice (some ⟨w.heap.size + 2, 0, none⟩) n n], .int .i64 0]) (by simp [results, Try.results19, go_sem]) rfl ⟨w.heap.size + 1, w.heap.size + 2, rfl, ⟨Row.nil _ _ _ _, Row.of_block (cur := madeCells #[.bool false] n) (blk_drew (blk_alloc (heap_new' _ _ _ (by simp)) _)) (Nat.zero_le _) (Nat.le_refl _) (by unfold maxLen; omega) (by rw [size_madeCells]; simp) (by rw [List.drop_zero, made_bools, List.take_of_length_le (by simp [bools, Stn.new])]; rfl), Row.of_block (cur := madeCells #[.bool false, .int .i64 0, .int .i64 0] (n * 3)) (blk_drew (heap_new' _ _ _ (by simp))) (Nat.zero_le _) (Nat.le_refl _) (by unfold maxLen; omega) (by rw [size_madeCells]; simp) (by rw [List.drop_zero, made_reps, List.take_of_length_le (by rw [length_repcs, List.length_replicate]; exact Nat.le_refl _)]; rfl)⟩, (by repeat (first | (with_reducible exact Below.refl _ _) | (with_reducible refine Below.drew ?_) | (with_reducible refine below_drewN ?_ _) | ((with_reducible refine Below.alloc ?_ ?_ _); rotate_left; (first | omega | (simp <;> omega)); rotate_right) | ((with_reducible refine Below.setCell ?_ ?_ _); rotate_left; (first | omega | (simp <;> omega)); rotate_right) | (with_reducible assumption) | (refine Below.trans ?_ (Below.mono (by assumption) ?_); rotate_left; (first | omega | (simp <;> omega)); rotate_right)))⟩
  · exact bodyPost_ret (v := .tuple #[.agg #[.int .i64 again, .int .i64 0, .int .i64 0, .int .i64 0, .bool false, .int .i64 0, .int .i64 0, .slice none 0 0, .int .i64 0, .slice (some ⟨w.heap.size + 2, 0, none⟩) n n, .slice (some ⟨w.heap.size + 1, 0, none⟩) n n], .int .i64 0]) (by simp [results, Try.results19, go_sem]) rfl ⟨w.heap.size + 2, w.heap.size + 1, rfl, ⟨Row.nil _ _ _ _, Row.of_block (cur := madeCells #[.bool false] n) (blk_drew (heap_new' _ _ _ (by simp))) (Nat.zero_le _) (Nat.le_refl _) (by unfold maxLen; omega) (by rw [size_madeCells]; simp) (by rw [List.drop_zero, made_bools, List.take_of_length_le (by simp [bools, Stn.new])]; rfl), Row.of_block (cur := madeCells #[.bool false, .int .i64 0, .int .i64 0] (n * 3)) (blk_drew (blk_alloc (heap_new' _ _ _ (by simp)) _)) (Nat.zero_le _) (Nat.le_refl _) (by unfold maxLen; omega) (by rw [size_madeCells]; simp) (by rw [List.drop_zero, made_reps, List.take_of_length_le (by rw [length_repcs, List.length_replicate]; exact Nat.le_refl _)]; rfl)⟩, (by repeat (first | (with_reducible exact Below.refl _ _) | (with_reducible refine Below.drew ?_) | (with_reducible refine below_drewN ?_ _) | ((with_reducible refine Below.alloc ?_ ?_ _); rotate_left; (first | omega | (simp <;> omega)); rotate_right) | ((with_reducible refine Below.setCell ?_ ?_ _); rotate_left; (first | omega | (simp <;> omega)); rotate_right) | (with_reducible assumption) | (refine Below.trans ?_ (Below.mono (by assumption) ?_); rotate_left; (first | omega | (simp <;> omega)); rotate_right)))⟩
end Go.Proofs.Ytiidkmnagfhgiaa

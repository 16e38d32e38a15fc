/- The reference: could bytes be the beginning of a frame? -/
import Derived.Test.YteakljjalmgicaaOpen
namespace Go.Proofs.Yteakljjalmgicaa
open Go.RowKit
set_option maxHeartbeats 4000000
set_option linter.unusedSimpArgs false
set_option linter.unusedVariables false
namespace Frm
theorem opB_0 {l : List Int} (h : l.length = 0) : opB l = true := by simp [opB, h]
theorem opB_a {l : List Int} (h : 1 ≤ l.length) (g : l.getD 0 0 ≠ 213) : opB l = false := by rw [opB, decide_eq_false_iff_not]; exact fun hh => g (hh.1 (by omega))
theorem opB_b {l : List Int} (h : 2 ≤ l.length) (g : l.getD 1 0 ≠ 76) : opB l = false := by rw [opB, decide_eq_false_iff_not]; exact fun hh => g (hh.2.1 (by omega))
theorem opB_s {l : List Int} (h : l.length < 8) (g0 : 1 ≤ l.length → l.getD 0 0 = 213) (g1 : 2 ≤ l.length → l.getD 1 0 = 76) : opB l = true := by
  rw [opB, decide_eq_true_iff]; exact ⟨fun _ => g0 (by omega), fun _ => g1 (by omega), fun _ => by omega⟩
theorem opB_l {l : List Int} (h : 8 ≤ l.length) (g0 : l.getD 0 0 = 213) (g1 : l.getD 1 0 = 76) : opB l = decide (l.getD 7 0 ≤ 64 ∧ (l.length : Int) < 10 + l.getD 7 0) := by
  rw [opB, decide_eq_decide]; exact ⟨fun hh => hh.2.2 h, fun hh => ⟨fun _ => g0, fun _ => g1, fun _ => hh⟩⟩
end Frm
theorem rbeg_any (A : Option Addr) (n cap : Nat) (l : List Int) (w : World) (hn : n ≤ 140737488355328) (h : Rd w w.heap.size A n l) :
    Calls Try.prog 34 #[.slice A n cap] w fun e w' => e = .returned (.bool (Frm.opB l)) ∧ w = w' := by
  obtain ⟨hl, hb, hr⟩ := h
  by_cases h0 : n = 0
  · have E := Lib.hid (Frm.opB_0 (hl.trans h0))
    subst h0
    clear hl hb hr
    go_enter Try.func34, Try.ntmps34
    go_wp2_with fail
    go_ret
    exact ⟨ret_bool (by first | exact E.out.symm | (rw [E.out]; simp; omega) | (rw [E.out]; simp)), rfl⟩
  obtain ⟨b, o, rfl, hbl, hc⟩ := hr (by omega)
  have k0 := hc 0 (by omega)
  rw [Nat.add_zero] at k0
  have y0 := hb.at_ 0
  obtain ⟨x, hx⟩ : ∃ x, l.getD 0 0 = x := ⟨_, rfl⟩
  rw [hx] at k0 y0
  have hn1 : 1 ≤ n := by omega
  clear h0 hr
  by_cases g0 : x = 213
  · subst g0
    by_cases h1 : n = 1
    · subst h1
      have E := Lib.hid (Frm.opB_s (l := l) (by omega) (fun _ => hx) (fun h => by omega))
      clear hl hb hc hx y0
      go_enter Try.func34, Try.ntmps34
      go_wp2_with fail
      go_ret
      exact ⟨ret_bool (by first | exact E.out.symm | (rw [E.out]; simp; omega) | (rw [E.out]; simp)), rfl⟩
    have k1 := hc 1 (by omega)
    obtain ⟨y, hy⟩ : ∃ y, l.getD 1 0 = y := ⟨_, rfl⟩
    rw [hy] at k1
    have hn2 : 2 ≤ n := by omega
    clear h1
    by_cases g1 : y = 76
    · subst g1
      rcases Nat.lt_or_ge n 8 with h8 | h8
      · have E := Lib.hid (Frm.opB_s (l := l) (by omega) (fun _ => hx) (fun _ => hy))
        clear hl hb hc hx hy y0
        go_enter Try.func34, Try.ntmps34
        go_wp2_with fail
        go_ret
        exact ⟨ret_bool (by first | exact E.out.symm | (rw [E.out]; simp; omega) | (rw [E.out]; simp)), rfl⟩
      · have k7 := hc 7 (by omega)
        have y7 := hb.at_ 7
        have EE := Lib.hid (Frm.opB_l (l := l) (by omega) hx hy)
        rw [hl] at EE
        generalize l.getD 7 0 = z at k7 y7 EE
        obtain ⟨z0, z1⟩ := y7
        clear hl hb hc hx hy y0
        rcases Int.lt_or_le 64 z with q1 | q1
        · have E := Lib.hid (EE.out.trans (show decide (z ≤ 64 ∧ (n : Int) < 10 + z) = false from decide_eq_false (by omega)))
          clear EE
          go_enter Try.func34, Try.ntmps34
          go_wp2_with fail
          go_ret
          exact ⟨ret_bool (by first | exact E.out.symm | (rw [E.out]; simp; omega) | (rw [E.out]; simp)), rfl⟩
        · rcases Int.lt_or_le (n : Int) (10 + z) with q2 | q2
          · have E := Lib.hid (EE.out.trans (show decide (z ≤ 64 ∧ (n : Int) < 10 + z) = true from decide_eq_true (by omega)))
            clear EE
            go_enter Try.func34, Try.ntmps34
            go_wp2_with fail
            go_ret
            exact ⟨ret_bool (by first | exact E.out.symm | (rw [E.out]; simp; omega) | (rw [E.out]; simp)), rfl⟩
          · have E := Lib.hid (EE.out.trans (show decide (z ≤ 64 ∧ (n : Int) < 10 + z) = false from decide_eq_false (by omega)))
            clear EE
            go_enter Try.func34, Try.ntmps34
            go_wp2_with fail
            go_ret
            exact ⟨ret_bool (by first | exact E.out.symm | (rw [E.out]; simp; omega) | (rw [E.out]; simp)), rfl⟩
    · have E := Lib.hid (Frm.opB_b (l := l) (by omega) (by rw [hy]; exact g1))
      have z := (show (y != 76) = true by simpa using g1)
      clear hl hb hc hx hy y0 g1
      go_enter Try.func34, Try.ntmps34
      go_wp2_with fail
      go_ret
      exact ⟨ret_bool (by first | exact E.out.symm | (rw [E.out]; simp; omega) | (rw [E.out]; simp)), rfl⟩
  · have E := Lib.hid (Frm.opB_a (l := l) (by omega) (by rw [hx]; exact g0))
    have z := (show (x != 213) = true by simpa using g0)
    clear hl hb hc hx y0 g0
    go_enter Try.func34, Try.ntmps34
    go_wp2_with fail
    go_ret
    exact ⟨ret_bool (by first | exact E.out.symm | (rw [E.out]; simp; omega) | (rw [E.out]; simp)), rfl⟩
end Go.Proofs.Yteakljjalmgicaa

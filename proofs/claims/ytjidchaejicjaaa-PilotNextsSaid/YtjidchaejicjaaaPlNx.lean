/- Nothing happens before Next, and something then: plain. -/
import Derived.Test.YtjidchaejicjaaaPlAS
namespace Go.Proofs.Ytjidchaejicjaaa
set_option linter.unusedVariables false
set_option linter.unusedSimpArgs false
set_option maxHeartbeats 1000000
namespace Plt
theorem run_rank : ∀ (k : Nat) (s : St) (l : Int), rank (run k s l).st ≤ rank s.st
  | 0, s, l => Nat.le_refl _
  | k + 1, s, l => by
    unfold run
    split
    · rename_i h
      have h1 := due_rank h
      have h2 := run_rank k (adv s) l
      omega
    · exact Nat.le_refl _
theorem run_turns {s : St} {l : Int} (h : due s l = true) : (run 4 s l).st ≠ s.st := by
  rw [← run_due h]
  have h1 := run_rank 4 (adv s) l
  have h2 := due_rank h
  intro e
  rw [e] at h1
  omega
theorem next_ge (s : St) : s.now ≤ next s := by unfold next; omega
/-- before the time that Next says a tick does nothing -/
theorem tick_quiet {s : St} (h : Inv s) (hb : s.begun = true) (hn : s.now < next s) (hl : next s ≤ 1000000000) : timE s (next s - 1) = 0 ∧ tickS s (next s - 1) = { s with now := next s - 1 } ∧ tickF s (next s - 1) = [] := by
  have hnow := h.now
  have hrp := h.rp
  obtain ⟨n, hnn⟩ : ∃ n, n = next s := ⟨_, rfl⟩
  rw [← hnn] at hn hl ⊢
  have ht : timE s (n - 1) = 0 := by
    unfold timE
    rw [if_pos ⟨Ck.Clk.inB_iff.2 (by omega), fun _ => by omega⟩]
  have hr : 0 < s.reports := by
    rcases Int.lt_or_le 0 s.reports with h0 | h0
    · exact h0
    · exfalso
      unfold next at hnn
      rw [if_neg (by omega)] at hnn
      split at hnn <;> omega
  have hx : n ≤ s.rep + s.every := by
    unfold next at hnn
    rw [if_pos hr] at hnn
    split at hnn <;> omega
  have hd : due { s with now := n - 1 } (n - 1) = false := by
    have he : due { s with now := n - 1 } (n - 1) = due s (n - 1) := rfl
    rw [he]
    unfold due
    cases hf : (evt s).2.2
    · rfl
    · rw [Bool.true_and, decide_eq_false_iff_not]
      unfold next at hnn
      rw [hf, if_pos rfl] at hnn
      omega
  have hp : pas s (n - 1) = { s with now := n - 1 } := by
    unfold pas
    have hbg : beg s (n - 1) = s := by unfold beg; rw [if_pos hb]
    rw [hbg]
    exact run_stop hd
  have ha : asks { s with now := n - 1 } (n - 1) = true := by
    unfold asks
    rw [decide_eq_true_eq]
    exact ⟨hr, by show n - 1 - s.rep < s.every; omega⟩
  refine ⟨ht, ?_, ?_⟩
  · unfold tickS tick
    rw [if_pos ht, hp, if_pos ha]
  · unfold tickF
    rw [hp, ha, if_neg (by simp)]
/-- at that time it does something -/
theorem tick_does {s : St} (h : Inv s) (hb : s.begun = true) (m : Int) (hm : m ≤ next s) (hl : next s ≤ 1000000000) (hl2 : -1000000000 ≤ next s ∨ True) :
    timE { s with now := m } (next s) = 0 ∧ ((tickF { s with now := m } (next s)).length = 1 ∨ (tickS { s with now := m } (next s)).st ≠ s.st) := by
  have hnow := h.now
  have hg := next_ge s
  obtain ⟨n, hnn⟩ : ∃ n, n = next s := ⟨_, rfl⟩
  rw [← hnn] at hm hl hg ⊢
  have ht : timE { s with now := m } n = 0 := by
    unfold timE
    rw [if_pos ⟨Ck.Clk.inB_iff.2 (by omega), fun _ => hm⟩]
  refine ⟨ht, ?_⟩
  obtain ⟨u, hu⟩ : ∃ u : St, u = { s with now := n } := ⟨_, rfl⟩
  have hp : pas { s with now := m } n = run 4 u n := by
    unfold pas
    have hbg : beg { s with now := m } n = { s with now := m } := by unfold beg; rw [if_pos hb]
    rw [hbg, hu]
  have hdu : due u n = due s n := by rw [hu]; rfl
  have hust : u.st = s.st := by rw [hu]
  have hst : (tickS { s with now := m } n).st = (run 4 u n).st := by
    unfold tickS tick
    rw [if_pos ht, hp]
    split <;> rfl
  cases hd : due s n
  · left
    have hr4 : run 4 u n = u := run_stop (by rw [hdu]; exact hd)
    have ha : asks u n = false := by
      unfold asks
      rw [decide_eq_false_iff_not]
      rintro ⟨h1, h2⟩
      have h1' : 0 < s.reports := by rw [hu] at h1; exact h1
      have h2' : n - s.rep < s.every := by rw [hu] at h2; exact h2
      unfold due at hd
      unfold next at hnn
      rw [if_pos h1'] at hnn
      cases hf : (evt s).2.2
      · rw [hf, if_neg (by simp)] at hnn
        omega
      · rw [hf, if_pos rfl] at hnn
        rw [hf, Bool.true_and, decide_eq_false_iff_not] at hd
        omega
    unfold tickF
    rw [hp, hr4, if_pos ⟨ht, ha⟩]
    rfl
  · right
    rw [hst, ← hust]
    exact run_turns (by rw [hdu]; exact hd)
end Plt
end Go.Proofs.Ytjidchaejicjaaa

/- Many messages on their way, plain: what a link holds behind k sends without losses and with equal delays. -/
import Derived.Test.YtgdpoiapkaahfaaLinkQ
namespace Go.Proofs.Ytgdpoiapkaahfaa
namespace Lnk
open Go.RowKit
set_option linter.unusedSimpArgs false
set_option linter.unusedVariables false
def fTw (t : Bool) : Int := if t then 1000 else 0
def fRu (seed : Int) (t : Bool) : Ru := ⟨0, fTw t, 10, 10, seed⟩
def fCnt (t : Bool) (k : Nat) : Nat := if t then 2 * k else k
structure FI (t : Bool) (s : St) (k : Nat) (tm : Int) : Prop where
  len : s.u.length = fCnt t k
  sent : s.sent = k
  now : 0 ≤ s.now ∧ s.now ≤ tm
  all : ∀ m ∈ s.u, m.1 ≤ tm + 10
theorem fi_new (seed : Int) (t : Bool) : FI t (new (fRu seed t)) 0 0 := ⟨by unfold fCnt; cases t <;> rfl, rfl, ⟨by simp [new], by simp [new]⟩, by simp [new]⟩
theorem fCnt_succ (t : Bool) (k : Nat) : fCnt t (k + 1) = fCnt t k + fCnt t 1 := by unfold fCnt; cases t <;> simp <;> omega
theorem FI.full {t : Bool} {s : St} {k : Nat} {tm : Int} (h : FI t s k tm) (now : Int) (hn : tm ≤ now) (h2 : now ≤ 1073741824) (hu : 999 ≤ s.u.length) : sendE s now 1 = 7 := by
  unfold sendE
  rw [if_neg (by omega), if_neg (by have := h.now; omega), if_pos hu]
theorem FI.room {t : Bool} {s : St} {k : Nat} {tm : Int} (h : FI t s k tm) (now : Int) (hn : tm ≤ now) (h2 : now ≤ 1073741824) (hu : s.u.length < 999) : sendE s now 1 = 0 := by
  unfold sendE
  rw [if_neg (by omega), if_neg (by have := h.now; omega), if_neg (by omega)]
theorem FI.step {t : Bool} {s : St} {k : Nat} {tm : Int} (h : FI t s k tm) (seed now : Int) (hn : tm ≤ now) (h2 : now ≤ 1073741824) (hu : s.u.length < 999) (b : List Int) (hb : b.length = 1) :
    FI t (send (fRu seed t) s now b) (k + 1) now := by
  obtain ⟨h1, h3, h4, h5⟩ := h
  have hm : ∀ x : Int, now + 10 + dr x % (10 - 10 + 1) = now + 10 := fun x => by
    have := Int.emod_one (dr x); simp
  have hL : sendL (fRu seed t) s = false := by
    unfold sendL fRu; simp; exact Int.emod_nonneg _ (by omega)
  have hE : sendE s now 1 = 0 := by
    unfold sendE
    rw [if_neg (by omega), if_neg (by omega), if_neg (by omega)]
  unfold send
  rw [hb, if_pos hE, hL, if_neg (by simp)]
  cases t
  · have hT : ∀ s1, sendT (fRu seed false) s1 = false := fun s1 => by
      unfold sendT fRu fTw; simp; exact Int.emod_nonneg _ (by omega)
    rw [hT, if_neg (by simp)]
    refine ⟨?_, ?_, ?_, ?_⟩
    · simp [send1, put, send0, fCnt] at h1 ⊢; omega
    · simp [send1, put, send0]; omega
    · simp [send1, put, send0]; omega
    · intro m hm'
      simp only [send1, put, send0, fRu, List.mem_append, List.mem_singleton] at hm'
      rcases hm' with hm' | rfl
      · have := h5 m hm'; omega
      · simp only [hm]; omega
  · have hT : ∀ s1, sendT (fRu seed true) s1 = true := fun s1 => by
      unfold sendT fRu fTw; simp; exact Int.emod_lt_of_pos _ (by omega)
    rw [hT, if_pos rfl]
    refine ⟨?_, ?_, ?_, ?_⟩
    · simp [send2, send1, put, send0, fCnt] at h1 ⊢; omega
    · simp [send2, send1, put, send0]; omega
    · simp [send2, send1, put, send0]; omega
    · intro m hm'
      simp only [send2, send1, put, send0, fRu, List.mem_append, List.mem_singleton] at hm'
      rcases hm' with (hm' | rfl) | rfl
      · have := h5 m hm'; omega
      · simp only [hm]; omega
      · simp only [hm]; omega
theorem FI.all_got {t : Bool} {s : St} {k : Nat} {tm : Int} (h : FI t s k tm) (now : Int) (hn : tm + 10 ≤ now) (h2 : now ≤ 1073741824) : recvE s now = 0 ∧ (got s now).length = s.u.length ∧ (recv s now).u = [] ∧ (recv s now).now = now ∧ (recv s now).sent = s.sent := by
  have hE : recvE s now = 0 := by unfold recvE; rw [if_pos (by have := h.now; omega)]
  refine ⟨hE, ?_, ?_, ?_, ?_⟩
  · unfold got; rw [if_pos hE, length_srt, List.filter_eq_self.2 (fun m hm => by have := h.all m hm; simp; omega)]
  · unfold recv; rw [if_pos hE]; exact List.filter_eq_nil_iff.2 (fun m hm => by have := h.all m hm; simp; omega)
  · unfold recv; rw [if_pos hE]
  · unfold recv; rw [if_pos hE]
end Lnk
end Go.Proofs.Ytgdpoiapkaahfaa

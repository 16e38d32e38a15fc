/- What a station keeps; its frames; what it does with a frame that comes in (no program in sight). -/
import Derived.Test.YtiidkmnagfhgiaaStnP
import Derived.Test.YtiidkmnagfhgiaaFrs
import Derived.Test.YtiidkmnagfhgiaaPut
import Derived.Test.YtiidkmnagfhgiaaVal
namespace Go.Proofs.Ytiidkmnagfhgiaa
namespace Stn
open Go.RowKit
set_option linter.unusedSimpArgs false
set_option linter.unusedVariables false
/-- the data of a command's frames -/
def data (s : St) : List Int := if s.cmd = 1 ∨ s.cmd = 2 then Frm.num4 s.prog else if s.cmd = 3 then Frm.num4 s.at_ else []
def frames (s : St) : List Fr := (miss s).map fun (i : Nat) => ⟨s.cmd, 0, (i : Int), s.seq, data s⟩
def giveF (s : St) (k now x : Int) : List Fr := if giveE s k now x = 0 then frames (give0 s k now x) else []
def tickF (s : St) (now : Int) : List Fr := if timeE s now = 0 ∧ tickYes s now = true then frames (tick s now) else []
def recvE (s : St) (now : Int) (y : Fr) : Int := if Frm.vd y.k y.f y.t y.s y.d.length = true ∧ y.t = 0 ∧ y.f ≤ s.n then timeE s now else 2
def isAck (s : St) (y : Fr) : Bool := decide (y.k = 8) && decide (s.cmd ≠ 0) && decide (y.s = s.seq) && decide (y.d.getD 0 0 = s.cmd)
def isRep (y : Fr) : Bool := decide (y.k ≠ 8) && decide (y.d.getD 0 0 ≤ 7)
def recv1 (s : St) (now : Int) (y : Fr) : St :=
  if y.d.length = 1 then (if isAck s y then acked { s with now := now } y.f.toNat else if isRep y then reported { s with now := now } y.f.toNat (y.d.getD 0 0) now else { s with now := now }) else { s with now := now }
def recv (s : St) (now : Int) (y : Fr) : St := if recvE s now y = 0 then recv1 s now y else s
def recvF (s : St) (now : Int) (y : Fr) : List Fr := if recvE s now y = 0 ∧ y.d.length = 1 ∧ isRep y = true then [⟨7, 0, y.f, y.s, Frm.num4 now ++ Frm.num4 now⟩] else []
/-- what a station keeps -/
structure Inv (s : St) : Prop where
  n : 1 ≤ s.n ∧ s.n ≤ 64
  again : 1 ≤ s.again ∧ s.again ≤ 60000
  st : 0 ≤ s.st ∧ s.st ≤ 9
  now : 0 ≤ s.now ∧ s.now ≤ 3600000
  seq : 0 ≤ s.seq ∧ s.seq ≤ 65535
  prog : 0 ≤ s.prog ∧ s.prog ≤ 4294967295
  cmd : 0 ≤ s.cmd ∧ s.cmd ≤ 6
  at_ : 0 ≤ s.at_ ∧ s.at_ ≤ 3600000
  sent : 0 ≤ s.sent ∧ s.sent ≤ s.now
  ack : s.ack.length = s.n
  seen : s.seen.length = s.n
  reps : ∀ x ∈ s.seen, (0 ≤ x.2.1 ∧ x.2.1 ≤ 7) ∧ (0 ≤ x.2.2 ∧ x.2.2 ≤ 3600000)
theorem inv_new {n : Nat} {again : Int} (h : newE n again = 0) : Inv (new n again) := by
  unfold newE at h
  split at h
  · rename_i hh
    refine ⟨by simp only [new]; omega, by simp only [new]; omega, by simp [new], by simp [new], by simp [new], by simp [new], by simp [new], by simp [new], by simp [new], by simp [new], by simp [new], ?_⟩
    intro x hx
    simp only [new] at hx
    rw [List.mem_replicate] at hx
    rw [hx.2]; simp
  · omega
theorem timeE_ok {s : St} {now : Int} (h : timeE s now = 0) : s.now ≤ now ∧ now ≤ 3600000 := by
  unfold timeE at h
  split at h
  · assumption
  · omega
theorem given_bd (k : Int) : 1 ≤ given k ∧ given k ≤ 8 := by unfold given; repeat' split; all_goals omega
theorem full_bd (k : Int) : 2 ≤ full k ∧ full k ≤ 9 := by unfold full; repeat' split; all_goals omega
theorem inv_give {s : St} {k now x : Int} (h : Inv s) (hk : 1 ≤ k ∧ k ≤ 6) : Inv (give s k now x) := by
  unfold give
  split
  · rename_i he
    have hb := given_bd k
    obtain ⟨h1, h2, h3, h4, h5, h6, h7, h8, h9, h10, h11, h12⟩ := h
    unfold giveE at he
    by_cases a : k = 1 ∧ ¬ (0 ≤ x ∧ x ≤ 4294967295)
    · rw [if_pos a] at he; omega
    · rw [if_neg a] at he
      by_cases b : timeE s now ≠ 0
      · rw [if_pos b] at he; omega
      · rw [if_neg b] at he
        have ht := timeE_ok (by omega : timeE s now = 0)
        by_cases c : k = 3 ∧ ¬ (now ≤ x ∧ x ≤ 3600000)
        · rw [if_pos c] at he; omega
        · refine ⟨h1, h2, ?_, ?_, ?_, ?_, ?_, ?_, ?_, by simp [give0], h11, h12⟩
          · simp only [give0]; omega
          · simp only [give0]; omega
          · simp only [give0]; omega
          · simp only [give0]; split <;> omega
          · simp only [give0]; omega
          · simp only [give0]; split <;> omega
          · simp only [give0]; omega
  · exact h
theorem inv_now {s : St} {now : Int} (h : Inv s) (ht : timeE s now = 0) : Inv { s with now := now } := by
  have ht := timeE_ok ht
  obtain ⟨h1, h2, h3, h4, h5, h6, h7, h8, h9, h10, h11, h12⟩ := h
  exact ⟨h1, h2, h3, by simp only; omega, h5, h6, h7, h8, by simp only; omega, h10, h11, h12⟩
theorem inv_tick {s : St} {now : Int} (h : Inv s) : Inv (tick s now) := by
  unfold tick
  split
  · rename_i ht
    split
    · have h' := inv_now h ht
      obtain ⟨h1, h2, h3, h4, h5, h6, h7, h8, h9, h10, h11, h12⟩ := h'
      exact ⟨h1, h2, h3, h4, h5, h6, h7, h8, by simp only at h4 ⊢; omega, h10, h11, h12⟩
    · exact inv_now h ht
  · exact h
theorem inv_acked {s : St} {f : Nat} (h : Inv s) : Inv (acked s f) := by
  have hf := full_bd s.cmd
  obtain ⟨h1, h2, h3, h4, h5, h6, h7, h8, h9, h10, h11, h12⟩ := h
  refine ⟨h1, h2, ?_, h4, h5, h6, h7, h8, h9, by simp [acked, h10], h11, h12⟩
  simp only [acked]
  split <;> omega
theorem inv_reported {s : St} {f : Nat} {p now : Int} (h : Inv s) (hp : 0 ≤ p ∧ p ≤ 7) (hn : 0 ≤ now ∧ now ≤ 3600000) : Inv (reported s f p now) := by
  obtain ⟨h1, h2, h3, h4, h5, h6, h7, h8, h9, h10, h11, h12⟩ := h
  refine ⟨h1, h2, h3, h4, h5, h6, h7, h8, h9, h10, by simp [reported, h11], ?_⟩
  intro x hx
  simp only [reported] at hx
  rcases List.mem_or_eq_of_mem_set hx with hx | rfl
  · exact h12 x hx
  · exact ⟨hp, hn⟩
theorem inv_recv {s : St} {now : Int} {y : Fr} (h : Inv s) (hy : By y.d) : Inv (recv s now y) := by
  unfold recv
  split
  · rename_i he
    unfold recvE at he
    split at he
    · have hi := inv_now h he
      have ht := timeE_ok he
      have hn := h.now
      unfold recv1
      split
      · split
        · exact inv_acked hi
        · split
          · rename_i hr
            unfold isRep at hr
            simp only [Bool.and_eq_true, decide_eq_true_eq] at hr
            exact inv_reported hi ⟨(hy.at_ 0).1, hr.2⟩ (by omega)
          · exact hi
      · exact hi
    · omega
  · exact h
end Stn
end Go.Proofs.Ytiidkmnagfhgiaa

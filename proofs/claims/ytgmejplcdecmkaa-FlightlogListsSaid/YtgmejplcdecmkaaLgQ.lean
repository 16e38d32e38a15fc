/- What a log is asked for: plain, no program in sight. -/
import Derived.Test.YtgmejplcdecmkaaLgP
namespace Go.Proofs.Ytgmejplcdecmkaa
set_option linter.unusedVariables false
set_option linter.unusedSimpArgs false
set_option maxHeartbeats 1000000
namespace Lg
def isPos (a t : Int) (r : Rc) : Bool := decide (r.k = 1 ∧ r.a = a ∧ r.t ≤ t)
/-- the last position, below a number -/
def lastAt (l : List Rc) (a t : Int) : Nat → Option Nat
  | 0 => none
  | n + 1 => if isPos a t (l.getD n r0) = true then some n else lastAt l a t n
/-- the records of an aircraft, their numbers -/
def ofL (l : List Rc) (a : Int) : Nat → List Nat
  | 0 => []
  | n + 1 => if (l.getD n r0).a = a then ofL l a n ++ [n] else ofL l a n
def isSt (a : Int) (r : Rc) : Bool := decide (r.k = 2 ∧ r.a = a)
/-- without those that have the state of the one before -/
def cpt (s : Int) : List Rc → List Rc
  | [] => []
  | r :: l => if r.s = s then cpt s l else r :: cpt r.s l
def cmp : List Rc → List Rc
  | [] => []
  | r :: l => r :: cpt r.s l
def rstep (out : List Rc) (r : Rc) : List Rc := if out.length = 0 ∨ (lastR out).s ≠ r.s then out ++ [r] else out
theorem rstep_cpt : ∀ (l out : List Rc), 0 < out.length → l.foldl rstep out = out ++ cpt (lastR out).s l
  | [], out, _ => by simp [cpt]
  | r :: l, out, h => by
    rw [List.foldl_cons]
    by_cases e : (lastR out).s = r.s
    · have e2 : rstep out r = out := by unfold rstep; rw [if_neg (fun hh => hh.elim (fun h0 => by omega) (fun h1 => h1 e))]
      rw [e2, rstep_cpt l out h]
      rw [cpt, if_pos e.symm]
    · have e2 : rstep out r = out ++ [r] := by unfold rstep; rw [if_pos (.inr e)]
      rw [e2, rstep_cpt l (out ++ [r]) (by simp), lastR_app]
      rw [cpt, if_neg (fun hh => e hh.symm)]
      simp
/-- one after the other is the same as at once -/
theorem rstep_cmp (l : List Rc) : l.foldl rstep [] = cmp l := by
  cases l with
  | nil => rfl
  | cons r l =>
    rw [List.foldl_cons]
    have e : rstep [] r = [r] := by unfold rstep; rw [if_pos (.inl rfl)]; rfl
    rw [e, rstep_cpt l [r] (by simp)]
    have : lastR [r] = r := lastR_app [] r
    rw [this]
    rfl
/-- how many records the aircraft below a number have together -/
def many (l : List Rc) (n : Nat) : Nat → Nat
  | 0 => 0
  | a + 1 => many l n a + (ofL l (a : Int) n).length
theorem many_succ (l : List Rc) (n : Nat) : ∀ a : Nat, many l (n + 1) a = many l n a + if 0 ≤ (l.getD n r0).a ∧ (l.getD n r0).a < (a : Int) then 1 else 0
  | 0 => by
    rw [if_neg (by omega)]
    rfl
  | a + 1 => by
    rw [many, many, many_succ l n a, ofL]
    by_cases e : (l.getD n r0).a = (a : Int)
    · rw [if_pos e, if_neg (by omega), if_pos (by omega)]
      simp
      omega
    · rw [if_neg e]
      by_cases h : 0 ≤ (l.getD n r0).a ∧ (l.getD n r0).a < (a : Int)
      · rw [if_pos h, if_pos (by omega)]; omega
      · rw [if_neg h, if_neg (by omega)]; omega
/-- together all -/
theorem many_all (l : List Rc) (h : ∀ i, i < l.length → 0 ≤ (l.getD i r0).a ∧ (l.getD i r0).a ≤ 64) : ∀ n, n ≤ l.length → many l n 65 = n
  | 0, _ => by
    have : ∀ a, many l 0 a = 0 := fun a => by induction a with
      | zero => rfl
      | succ a ih => rw [many, ih]; rfl
    exact this 65
  | n + 1, hn => by
    have := h n (by omega)
    rw [many_succ, many_all l h n (by omega), if_pos ⟨this.1, by omega⟩]
end Lg
end Go.Proofs.Ytgmejplcdecmkaa

/- A ground station, in plain numbers and lists (no program in sight). -/
import Derived.Test.YtiidkmnagfhgiaaBs
namespace Go.Proofs.Ytiidkmnagfhgiaa
namespace Stn
open Go.RowKit
set_option linter.unusedSimpArgs false
set_option linter.unusedVariables false
/-- a report: whether there is one, the state, when it came -/
abbrev Rep := Bool × Int × Int
/-- a station; ack and seen have an element for each aircraft -/
structure St where
  n : Nat
  again : Int
  st : Int
  now : Int
  seq : Int
  some : Bool
  prog : Int
  cmd : Int
  at_ : Int
  sent : Int
  ack : List Bool
  seen : List Rep
def new (n : Nat) (again : Int) : St := ⟨n, again, 0, 0, 0, false, 0, 0, 0, 0, List.replicate n false, List.replicate n (false, 0, 0)⟩
def newE (n again : Int) : Int := if 1 ≤ n ∧ n ≤ 64 ∧ 1 ≤ again ∧ again ≤ 60000 then 0 else 2
def timeE (s : St) (now : Int) : Int := if s.now ≤ now ∧ now ≤ 3600000 then 0 else 3
def may (k st : Int) : Bool :=
  if k = 1 then decide (st = 0 ∨ st = 2 ∨ st = 9) else if k = 2 then decide (st = 2) else if k = 3 then decide (st = 4) else if k = 4 then decide (st = 6) else if k = 5 then decide (st = 7) else decide (1 ≤ st ∧ st ≤ 7)
def given (k : Int) : Int := if k = 1 then 1 else if k = 2 then 3 else if k = 3 then 5 else if k = 4 then 7 else if k = 5 then 6 else 8
def full (k : Int) : Int := if k = 1 then 2 else if k = 2 then 4 else if k = 3 then 6 else if k = 4 then 7 else if k = 5 then 6 else 9
def giveE (s : St) (k now x : Int) : Int :=
  if k = 1 ∧ ¬ (0 ≤ x ∧ x ≤ 4294967295) then 2 else if timeE s now ≠ 0 then 3 else if k = 3 ∧ ¬ (now ≤ x ∧ x ≤ 3600000) then 3 else if may k s.st = false then 8 else 0
def give0 (s : St) (k now x : Int) : St :=
  { s with some := s.some || decide (k = 1), prog := if k = 1 then x else s.prog, at_ := if k = 3 then x else s.at_, st := given k, cmd := k, now := now, sent := now, seq := (s.seq + 1) % 65536, ack := List.replicate s.n false }
def give (s : St) (k now x : Int) : St := if giveE s k now x = 0 then give0 s k now x else s
/-- the number that a command's frames bear -/
def num (s : St) : Int := if s.cmd = 3 then s.at_ else s.prog
/-- the aircraft that miss the command: their indices from lo on -/
def missFrom : Nat → List Bool → List Nat
  | _, [] => []
  | lo, b :: l => if b then missFrom (lo + 1) l else lo :: missFrom (lo + 1) l
def miss (s : St) : List Nat := if s.cmd = 0 then [] else missFrom 1 s.ack
def tickYes (s : St) (now : Int) : Bool := decide (miss s ≠ []) && decide (s.sent + s.again ≤ now)
def tick (s : St) (now : Int) : St := if timeE s now = 0 then (if tickYes s now then { s with now := now, sent := now } else { s with now := now }) else s
/-- an acknowledgement of aircraft f -/
def acked (s : St) (f : Nat) : St :=
  { s with ack := s.ack.set (f - 1) true, st := if miss s ≠ [] ∧ missFrom 1 (s.ack.set (f - 1) true) = [] then full s.cmd else s.st }
def reported (s : St) (f : Nat) (p now : Int) : St := { s with seen := s.seen.set (f - 1) (true, p, now) }
theorem missFrom_all : ∀ (k lo : Nat), missFrom lo (List.replicate k false) = (List.range k).map (lo + ·)
  | 0, _ => rfl
  | k + 1, lo => by
    rw [List.replicate_succ, missFrom, if_neg (by simp), missFrom_all k (lo + 1), List.range_succ_eq_map, List.map_cons, List.map_map]
    congr 1
    exact List.map_congr_left (fun x _ => by simp only [Function.comp, Nat.succ_eq_add_one]; omega)
theorem missFrom_ge : ∀ (l : List Bool) (lo x : Nat), x ∈ missFrom lo l → lo ≤ x ∧ x < lo + l.length
  | [], _, _, h => by cases h
  | b :: l, lo, x, h => by
    unfold missFrom at h
    split at h
    · have := missFrom_ge l (lo + 1) x h; simp only [List.length_cons]; omega
    · rcases List.mem_cons.1 h with h | h
      · subst h; simp only [List.length_cons]; omega
      · have := missFrom_ge l (lo + 1) x h; simp only [List.length_cons]; omega
theorem mem_missFrom : ∀ (l : List Bool) (lo x : Nat), x ∈ missFrom lo l ↔ lo ≤ x ∧ l[x - lo]? = Option.some false
  | [], lo, x => by simp [missFrom]
  | b :: l, lo, x => by
    unfold missFrom
    have ih := mem_missFrom l (lo + 1) x
    rcases Nat.lt_trichotomy x lo with h | h | h
    · have h1 : x ∉ missFrom (lo + 1) l := fun hx => by have := (missFrom_ge l _ _ hx).1; omega
      cases b
      · rw [if_neg (by simp), List.mem_cons]
        constructor
        · rintro (h2 | h2)
          · omega
          · exact absurd h2 h1
        · intro h2; omega
      · rw [if_pos rfl]
        exact ⟨fun h2 => absurd h2 h1, fun h2 => by omega⟩
    · subst h
      have h1 : x ∉ missFrom (x + 1) l := fun hx => by have := (missFrom_ge l _ _ hx).1; omega
      cases b
      · rw [if_neg (by simp)]; simp
      · rw [if_pos rfl]
        exact ⟨fun h2 => absurd h2 h1, fun h2 => by simp at h2⟩
    · have e : (b :: l)[x - lo]? = l[x - (lo + 1)]? := by
        rw [show x - lo = (x - (lo + 1)) + 1 by omega, List.getElem?_cons_succ]
      rw [e]
      cases b
      · rw [if_neg (by simp), List.mem_cons, ih]
        constructor
        · rintro (h2 | h2)
          · omega
          · exact ⟨by omega, h2.2⟩
        · intro h2; exact .inr ⟨by omega, h2.2⟩
      · rw [if_pos rfl, ih]
        exact ⟨fun h2 => ⟨by omega, h2.2⟩, fun h2 => ⟨by omega, h2.2⟩⟩
theorem sorted_missFrom : ∀ (l : List Bool) (lo : Nat), (missFrom lo l).Pairwise (· < ·)
  | [], _ => by simp [missFrom]
  | b :: l, lo => by
    unfold missFrom
    split
    · exact sorted_missFrom l (lo + 1)
    · rw [List.pairwise_cons]
      exact ⟨fun x hx => by have := (missFrom_ge l (lo + 1) x hx).1; omega, sorted_missFrom l (lo + 1)⟩
/-- who acknowledges is struck from the list -/
theorem missFrom_set : ∀ (l : List Bool) (lo i : Nat), missFrom lo (l.set i true) = (missFrom lo l).filter (fun x => decide (x ≠ lo + i))
  | [], lo, i => by simp [missFrom]
  | b :: l, lo, 0 => by
    have h : ∀ x ∈ missFrom (lo + 1) l, decide (x ≠ lo) = true := fun x hx => by have := (missFrom_ge l (lo + 1) x hx).1; simp; omega
    rw [List.set_cons_zero]
    cases b
    · simp only [missFrom, if_true, Bool.false_eq_true, if_false, Nat.add_zero]
      rw [List.filter_cons, if_neg (by simp), List.filter_eq_self.2 h]
    · simp only [missFrom, if_true, Nat.add_zero]
      rw [List.filter_eq_self.2 h]
  | b :: l, lo, i + 1 => by
    rw [List.set_cons_succ]
    have ih := missFrom_set l (lo + 1) i
    rw [show lo + 1 + i = lo + (i + 1) by omega] at ih
    cases b
    · simp only [missFrom, Bool.false_eq_true, if_false]
      rw [ih, List.filter_cons, if_pos (by simp)]
    · simp only [missFrom, if_true]
      rw [ih]
end Stn
end Go.Proofs.Ytiidkmnagfhgiaa

/- The records of a log and its calls: plain, no program in sight. -/
import Derived.Test.YtgmejplcdecmkaaREnc
import Derived.Test.YtgmejplcdecmkaaPut
import Derived.Test.YtgmejplcdecmkaaFrs
namespace Go.Proofs.Ytgmejplcdecmkaa
set_option linter.unusedVariables false
set_option linter.unusedSimpArgs false
set_option maxHeartbeats 1000000
namespace Lg
/-- a record -/
structure Rc where
  (t a k x y z s : Int)
  f : Fr
  sum : Int
def r0 : Rc := ⟨0, 0, 0, 0, 0, 0, 0, fr0, 0⟩
def inP (v : Int) : Bool := decide (-1048576 ≤ v ∧ v ≤ 1048576)
def zF (f : Fr) : Bool := decide (f.k = 0 ∧ f.f = 0 ∧ f.t = 0 ∧ f.s = 0 ∧ f.d = [])
def zV (r : Rc) : Bool := decide (r.x = 0 ∧ r.y = 0 ∧ r.z = 0)
/-- valid, its Sum aside -/
def fine (r : Rc) : Bool :=
  decide (0 ≤ r.t ∧ r.t ≤ 3600000 ∧ 0 ≤ r.a ∧ r.a ≤ 64) &&
    (if r.k = 1 then decide (0 < r.a) && (inP r.x && inP r.y && inP r.z) && decide (r.s = 0) && zF r.f
     else if r.k = 2 then decide (0 ≤ r.s ∧ (r.s ≤ 7 ∨ r.s ≤ 9 ∧ r.a = 0)) && zV r && zF r.f
     else decide (r.k = 3) && Frm.vd r.f.k r.f.f r.f.t r.f.s r.f.d.length && decide (r.f.f = r.a ∨ r.f.t = r.a) && zV r && decide (r.s = 0))
/-- its bytes -/
def content (r : Rc) : List Int :=
  r.k :: (Frm.pn [r.t, r.a] ++ (if r.k = 1 then Frm.pn [r.x + 1048576, r.y + 1048576, r.z + 1048576] else if r.k = 2 then [r.s] else Frm.enc r.f.k r.f.f r.f.t r.f.s r.f.d))
def fh (h b : Int) : Int := IntKind.u32.wrap (bits .xor .u32 h b * 16777619)
def sumN (before : Int) (r : Rc) : Int := (content r).foldl fh (bits .xor .u32 before 2166136261)
def sumO (before : Int) (r : Rc) : Int := if fine r = true then sumN before r else 0
def sumE (r : Rc) : Int := if fine r = true then 0 else 2
def lastR (l : List Rc) : Rc := l.getD (l.length - 1) r0
def endS (l : List Rc) : Int := (lastR l).sum
def mayE (l : List Rc) (r : Rc) : Int := if fine r = true then (if 0 < l.length ∧ r.t < (lastR l).t then 8 else 0) else 2
def addE (l : List Rc) (r : Rc) : Int := if mayE l r ≠ 0 then mayE l r else if 10000 ≤ l.length then 7 else 0
def own (l : List Rc) (r : Rc) : Rc := { r with sum := sumN (endS l) r }
def add (l : List Rc) (r : Rc) : List Rc := if addE l r = 0 then l ++ [own l r] else l
/-- Load, from a record on: what is there, and the records that come -/
def ldE (l : List Rc) (r : Rc) : Int := if mayE l r ≠ 0 then mayE l r else if sumO (endS l) r ≠ r.sum then 400 else addE l r
def ld : List Rc → List Rc → List Rc × Nat × Int
  | out, [] => (out, 0, 0)
  | out, r :: l => if ldE out r = 0 then (let q := ld (add out r) l; if q.2.2 = 0 then q else (q.1, q.2.1 + 1, q.2.2)) else (out, 0, ldE out r)
/-- a log as it may be -/
inductive Good : List Rc → Prop where
  | nil : Good []
  | snoc {l : List Rc} {r : Rc} : Good l → mayE l r = 0 → l.length < 10000 → Good (l ++ [own l r])
theorem addE_zero {l : List Rc} {r : Rc} (h : addE l r = 0) : mayE l r = 0 ∧ l.length < 10000 := by
  unfold addE at h
  by_cases h1 : mayE l r ≠ 0
  · rw [if_pos h1] at h; exact absurd h h1
  · rw [if_neg h1] at h
    split at h
    · omega
    · exact ⟨by omega, by omega⟩
theorem addE_ok {l : List Rc} {r : Rc} (h : mayE l r = 0) (hl : l.length < 10000) : addE l r = 0 := by
  unfold addE
  rw [if_neg (by omega), if_neg (by omega)]
theorem good_add {l : List Rc} (h : Good l) (r : Rc) : Good (add l r) := by
  unfold add
  split
  · rename_i e
    obtain ⟨h1, h2⟩ := addE_zero e
    exact .snoc h h1 h2
  · exact h
theorem lastR_app (l : List Rc) (r : Rc) : lastR (l ++ [r]) = r := by
  unfold lastR
  simp [List.getD]
theorem mayE_sum (l : List Rc) (r : Rc) (z : Int) : mayE l { r with sum := z } = mayE l r := rfl
theorem sumN_sum (b : Int) (r : Rc) (z : Int) : sumN b { r with sum := z } = sumN b r := rfl
theorem own_sum (l : List Rc) (r : Rc) : (own l r).sum = sumN (endS l) r := by simp only [own]
theorem sumN_own (b : Int) (l : List Rc) (r : Rc) : sumN b (own l r) = sumN b r := sumN_sum b r (sumN (endS l) r)
theorem own_own (l : List Rc) (r : Rc) : own l (own l r) = own l r := by
  have h : ∀ z, own l { r with sum := z } = own l r := fun z => by unfold own; rw [sumN_sum]
  exact h (sumN (endS l) r)
theorem mayE_fine {l : List Rc} {r : Rc} (h : mayE l r = 0) : fine r = true := by
  unfold mayE at h
  split at h
  · assumption
  · omega
theorem ldE_own {l : List Rc} {r : Rc} (h : mayE l r = 0) (hl : l.length < 10000) : ldE l (own l r) = 0 := by
  have h1 : mayE l (own l r) = 0 := h
  unfold ldE
  rw [if_neg (by omega)]
  have e : sumO (endS l) (own l r) = (own l r).sum := by
    unfold sumO
    rw [if_pos (mayE_fine h1), sumN_own, own_sum]
  rw [if_neg (fun hh => hh e)]
  exact addE_ok h1 hl
theorem ld_app : ∀ (m out : List Rc) (n : List Rc), (ld out m).2.2 = 0 → ld out (m ++ n) = (let q := ld (ld out m).1 n; if q.2.2 = 0 then q else (q.1, q.2.1 + m.length, q.2.2))
  | [], out, n, _ => by
    show ld out n = (let q := ld out n; if q.2.2 = 0 then q else (q.1, q.2.1 + 0, q.2.2))
    simp only [Nat.add_zero]
    split <;> rfl
  | r :: m, out, n, h => by
    have he : ldE out r = 0 := by
      unfold ld at h
      split at h
      · assumption
      · exact h
    have h2 : (ld (add out r) m).2.2 = 0 := by
      unfold ld at h
      rw [if_pos he] at h
      simp only at h
      split at h
      · assumption
      · exact h
    have h3 := ld_app m (add out r) n h2
    have e1 : (ld out (r :: m)).1 = (ld (add out r) m).1 := by
      show (if ldE out r = 0 then _ else _ : List Rc × Nat × Int).1 = _
      rw [if_pos he]
      simp only
      rw [if_pos h2]
    rw [List.cons_append]
    show (if ldE out r = 0 then _ else _ : List Rc × Nat × Int) = _
    rw [if_pos he, h3, e1]
    simp only [List.length_cons]
    by_cases hq : (ld (ld (add out r) m).1 n).2.2 = 0
    · rw [if_pos hq, if_pos hq, if_pos hq]
    · rw [if_neg hq, if_neg hq, if_neg hq, Nat.add_assoc]
/-- a log is loaded from its records -/
theorem ld_good {l : List Rc} (h : Good l) : ld [] l = (l, 0, 0) := by
  induction h with
  | nil => rfl
  | snoc hg hm hl ih =>
    rename_i l r
    rw [ld_app l [] _ (by rw [ih]), ih]
    have h0 := ldE_own hm hl
    have ea : add l (own l r) = l ++ [own l r] := by
      unfold add
      rw [if_pos (addE_ok (show mayE l (own l r) = 0 from hm) hl)]
      rfl
    have e : ld l [own l r] = (l ++ [own l r], 0, 0) := by
      show (if ldE l (own l r) = 0 then _ else _ : List Rc × Nat × Int) = _
      rw [if_pos h0]
      simp only [ld, ea, if_true]
    simp only [e, if_true]
theorem good_take {l : List Rc} (h : Good l) : ∀ k, k ≤ l.length → Good (l.take k) := by
  induction h with
  | nil => intro k _; simp; exact .nil
  | snoc hg hm hl ih =>
    rename_i l r
    intro k hk
    by_cases e : k ≤ l.length
    · rw [List.take_append_of_le_length e]; exact ih k e
    · rw [List.take_of_length_le (by simp; omega)]
      exact .snoc hg hm hl
/-- each record is its own -/
theorem good_at {l : List Rc} (h : Good l) : ∀ k, k < l.length → mayE (l.take k) (l.getD k r0) = 0 ∧ (l.getD k r0).sum = sumN (endS (l.take k)) (l.getD k r0) ∧ fine (l.getD k r0) = true := by
  induction h with
  | nil => intro k hk; exact absurd hk (Nat.not_lt_zero _)
  | snoc hg hm hl ih =>
    rename_i l r
    intro k hk
    by_cases e : k < l.length
    · have h1 := ih k e
      have e1 : (l ++ [own l r]).getD k r0 = l.getD k r0 := by simp [List.getD, List.getElem?_append_left e]
      rw [List.take_append_of_le_length (by omega), e1]
      exact h1
    · obtain rfl : k = l.length := by simp at hk; omega
      have e1 : (l ++ [own l r]).getD l.length r0 = own l r := by simp [List.getD]
      rw [e1, List.take_append_of_le_length (Nat.le_refl _), List.take_length]
      exact ⟨hm, by rw [own_sum, sumN_own], mayE_fine hm⟩
/-- a Sum that is not its own is found -/
theorem ld_bad {l : List Rc} (h : Good l) {k : Nat} (hk : k < l.length) {z : Int} (hz : (l.getD k r0).sum ≠ z) :
    (ld [] (l.take k ++ { l.getD k r0 with sum := z } :: l.drop (k + 1))).2 = (k, 400) := by
  have hg := ld_good (good_take h k (by omega))
  obtain ⟨h1, h2, h3⟩ := good_at h k hk
  rw [ld_app _ [] _ (by rw [hg]), hg]
  have h0 : ldE (l.take k) { l.getD k r0 with sum := z } = 400 := by
    unfold ldE
    rw [mayE_sum, if_neg (by omega)]
    have e : sumO (endS (l.take k)) { l.getD k r0 with sum := z } = (l.getD k r0).sum := by
      unfold sumO
      rw [if_pos (show fine { l.getD k r0 with sum := z } = true from h3), sumN_sum, h2]
    rw [e, if_pos hz]
  have e : ld (l.take k) ({ l.getD k r0 with sum := z } :: l.drop (k + 1)) = (l.take k, 0, 400) := by
    show (if ldE (l.take k) { l.getD k r0 with sum := z } = 0 then _ else _ : List Rc × Nat × Int) = _
    rw [h0, if_neg (by decide)]
  simp only [e]
  rw [if_neg (by decide)]
  simp [List.length_take]
  omega
end Lg
end Go.Proofs.Ytgmejplcdecmkaa

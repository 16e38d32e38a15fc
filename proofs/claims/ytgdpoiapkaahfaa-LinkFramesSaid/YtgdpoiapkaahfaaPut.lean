/- PutNumbers. -/
import Derived.Test.YtgdpoiapkaahfaaInts
import Derived.Test.YtgdpoiapkaahfaaREnc
namespace Go.Proofs.Ytgdpoiapkaahfaa
open Go.RowKit
set_option maxHeartbeats 4000000
set_option linter.unusedSimpArgs false
set_option linter.unusedVariables false
namespace Frm
/-- a number that can be encoded -/
def okN (x : Int) : Bool := inB x 0 4294967295
def okAll (l : List Int) : Bool := l.all okN
/-- the four bytes of a number -/
def num4 (x : Int) : List Int := [x / 16777216, x / 65536 % 256, x / 256 % 256, x % 256]
def pn : List Int → List Int
  | [] => []
  | x :: l => num4 x ++ pn l
theorem pn_append (l m : List Int) : pn (l ++ m) = pn l ++ pn m := by
  induction l with
  | nil => rfl
  | cons x t ih => simp [pn, ih]
theorem pn_len (l : List Int) : (pn l).length = 4 * l.length := by
  induction l with
  | nil => rfl
  | cons x t ih => simp [pn, num4, ih]; omega
theorem okN_iff {x : Int} : okN x = true ↔ 0 ≤ x ∧ x ≤ 4294967295 := inB_iff
theorem num4_by {x : Int} (h : okN x = true) : By (num4 x) := by
  rw [okN_iff] at h
  intro y hy
  simp [num4] at hy
  omega
theorem pn_by {l : List Int} (h : okAll l = true) : By (pn l) := by
  induction l with
  | nil => intro x hx; cases hx
  | cons x t ih =>
    simp [okAll] at h
    exact By.append (num4_by h.1) (ih (by simpa [okAll] using h.2))
theorem okAll_at {l : List Int} (h : okAll l = true) {j : Nat} (hj : j < l.length) : okN (l.getD j 0) = true := by
  rw [okAll, List.all_eq_true] at h
  have := h _ (List.getElem_mem hj)
  simpa [List.getD, List.getElem?_eq_getElem hj] using this
theorem okAll_take {l : List Int} (h : okAll l = true) (j : Nat) : okAll (l.take j) = true := by
  rw [okAll, List.all_eq_true] at h ⊢
  exact fun x hx => h x (List.mem_of_mem_take hx)
end Frm
/-- what IndexFunc answers -/
def IPost (l : List Int) (e : Ending) : Prop := (Frm.okAll l = true ∧ e = .returned (.int .i64 (-1))) ∨ (Frm.okAll l = false ∧ ∃ r : Nat, r < l.length ∧ e = .returned (.int .i64 r))
end Go.Proofs.Ytgdpoiapkaahfaa

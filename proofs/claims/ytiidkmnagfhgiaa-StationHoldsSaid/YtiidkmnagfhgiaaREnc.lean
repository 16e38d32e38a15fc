/- The reference's Encode. -/
import Derived.Test.YtiidkmnagfhgiaaROpen
namespace Go.Proofs.Ytiidkmnagfhgiaa
open Go.RowKit
set_option maxHeartbeats 4000000
set_option linter.unusedSimpArgs false
set_option linter.unusedVariables false
namespace Frm
/-- the bytes from the kind on -/
def body (k f t s : Int) (d : List Int) : List Int := [k, f, t, s / 256, s % 256, (d.length : Int)] ++ d
/-- the encoding of a frame -/
def enc (k f t s : Int) (d : List Int) : List Int := [213, 76] ++ body k f t s d ++ [((crcN (body k f t s d) : Nat) : Int) / 256, ((crcN (body k f t s d) : Nat) : Int) % 256]
theorem By.append {l m : List Int} (h : By l) (g : By m) : By (l ++ m) := by
  intro x hx
  rcases List.mem_append.1 hx with h1 | h1
  · exact h x h1
  · exact g x h1
theorem vd_bd {k f t s : Int} {n : Nat} (h : vd k f t s n = true) : (1 ≤ k ∧ k ≤ 9) ∧ (0 ≤ f ∧ f ≤ 64) ∧ (0 ≤ t ∧ t ≤ 64) ∧ (0 ≤ s ∧ s ≤ 65535) ∧ n ≤ 64 := by
  rw [vd_iff] at h; omega
theorem body_by {k f t s : Int} {d : List Int} (h : vd k f t s d.length = true) (hd : By d) : By (body k f t s d) := by
  have := vd_bd h
  refine By.append ?_ hd
  intro x hx
  simp at hx
  omega
theorem head_by {k f t s : Int} {n : Nat} (h : vd k f t s n = true) : By [213, 76, k, f, t, s / 256, s % 256, (n : Int)] := by
  have := vd_bd h
  intro x hx
  simp at hx
  omega
end Frm
end Go.Proofs.Ytiidkmnagfhgiaa

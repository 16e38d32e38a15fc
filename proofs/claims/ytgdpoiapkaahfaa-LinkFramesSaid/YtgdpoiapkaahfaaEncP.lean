/- Encodings of frames, plain: they are read again (for laws that do not hold the program's own Decode). -/
import Derived.Test.YtgdpoiapkaahfaaRDec
import Derived.Test.YtgdpoiapkaahfaaREnc
import Derived.Test.YtgdpoiapkaahfaaFrs
namespace Go.Proofs.Ytgdpoiapkaahfaa
set_option maxHeartbeats 4000000
set_option linter.unusedSimpArgs false
set_option linter.unusedVariables false
namespace Frq
open Frm
/-- the encoding of a frame, as data -/
def encF (y : Fr) : List Int := enc y.k y.f y.t y.s y.d
def okF (y : Fr) : Prop := vd y.k y.f y.t y.s y.d.length = true ∧ By y.d
def bodF (y : Fr) : List Int := body y.k y.f y.t y.s y.d
def cF (y : Fr) : Nat := crcN (bodF y)
theorem encF_eq (y : Fr) : encF y = 213 :: 76 :: (bodF y ++ [(cF y : Int) / 256, (cF y : Int) % 256]) := rfl
theorem bodF_eq (y : Fr) : bodF y = y.k :: y.f :: y.t :: (y.s / 256) :: (y.s % 256) :: (y.d.length : Int) :: y.d := rfl
theorem bodF_len (y : Fr) : (bodF y).length = y.d.length + 6 := by simp [bodF_eq]
theorem encF_len (y : Fr) : (encF y).length = 10 + y.d.length := by simp [encF_eq, bodF_len]; omega
theorem bodF_by {y : Fr} (h : okF y) : By (bodF y) := body_by h.1 h.2
theorem cF_lt {y : Fr} (h : okF y) : cF y < 65536 := crcN_lt (bodF_by h)
theorem encF_by {y : Fr} (h : okF y) : By (encF y) := by
  have hc := cF_lt h
  have hb := bodF_by h
  intro x hx
  rw [encF_eq] at hx
  simp only [List.mem_cons, List.mem_append, List.not_mem_nil, or_false] at hx
  rcases hx with h1 | h1 | h1 | h1 | h1
  · omega
  · omega
  · exact hb x h1
  · omega
  · omega
theorem enc_dm {y : Fr} (r : List Int) : dm (encF y ++ r) = y.d.length := by simp [dm, encF_eq, bodF_eq]
theorem enc_sub (y : Fr) : ((encF y).drop 2).take (y.d.length + 6) = bodF y := by
  rw [encF_eq, ← bodF_len]
  simp
theorem getD_app (p q : List Int) (i : Nat) (h : p.length ≤ i) : (p ++ q).getD i 0 = q.getD (i - p.length) 0 := by
  simp [List.getD, List.getElem?_append_right h]
theorem enc_c1 (y : Fr) : (encF y).getD (y.d.length + 8) 0 = (cF y : Int) / 256 := by
  rw [show encF y = ([213, 76] ++ bodF y) ++ [(cF y : Int) / 256, (cF y : Int) % 256] from rfl, getD_app _ _ _ (by simp [bodF_len])]
  simp [bodF_len]
theorem enc_c2 (y : Fr) : (encF y).getD (y.d.length + 9) 0 = (cF y : Int) % 256 := by
  rw [show encF y = ([213, 76] ++ bodF y) ++ [(cF y : Int) / 256, (cF y : Int) % 256] from rfl, getD_app _ _ _ (by simp [bodF_len])]
  rw [show y.d.length + 9 - (([213, 76] : List Int) ++ bodF y).length = 1 by simp [bodF_len]]
  rfl
theorem enc_dS {y : Fr} (h : okF y) : dS (encF y) = y.s := by
  simp [dS, encF_eq, bodF_eq]; omega
theorem enc_dd (y : Fr) : dd (encF y) = y.d := by
  have hm : dm (encF y) = y.d.length := by simpa using enc_dm (y := y) []
  rw [dd, hm]
  simp [encF_eq, bodF_eq]
theorem enc_dE {y : Fr} (h : okF y) : dE (encF y) = 0 := by
  have hm : dm (encF y) = y.d.length := by simpa using enc_dm (y := y) []
  have hv := vd_bd h.1
  refine dE_0 ⟨rfl, rfl, ?_⟩ ?_ ?_ ?_
  · simp [encF_eq, bodF_eq]; omega
  · rw [encF_len, hm]
  · rw [dsum, hm, enc_sub, enc_c1, enc_c2]
    show ((cF y : Nat) : Int) = _
    omega
  · rw [enc_dS h, hm]
    simpa [encF_eq, bodF_eq] using h.1
end Frq
end Go.Proofs.Ytgdpoiapkaahfaa

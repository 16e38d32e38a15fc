/- The reference: could bytes be the beginning of a frame? -/
import Derived.Test.YtgmejplcdecmkaaOpen
namespace Go.Proofs.Ytgmejplcdecmkaa
open Go.RowKit
set_option maxHeartbeats 4000000
set_option linter.unusedSimpArgs false
set_option linter.unusedVariables false
namespace Frm
theorem opB_0 {l : List Int} (h : l.length = 0) : opB l = true := by simp [opB, h]
theorem opB_a {l : List Int} (h : 1 ≤ l.length) (g : l.getD 0 0 ≠ 213) : opB l = false := by rw [opB, decide_eq_false_iff_not]; exact fun hh => g (hh.1 (by omega))
theorem opB_b {l : List Int} (h : 2 ≤ l.length) (g : l.getD 1 0 ≠ 76) : opB l = false := by rw [opB, decide_eq_false_iff_not]; exact fun hh => g (hh.2.1 (by omega))
theorem opB_s {l : List Int} (h : l.length < 8) (g0 : 1 ≤ l.length → l.getD 0 0 = 213) (g1 : 2 ≤ l.length → l.getD 1 0 = 76) : opB l = true := by
  rw [opB, decide_eq_true_iff]; exact ⟨fun _ => g0 (by omega), fun _ => g1 (by omega), fun _ => by omega⟩
theorem opB_l {l : List Int} (h : 8 ≤ l.length) (g0 : l.getD 0 0 = 213) (g1 : l.getD 1 0 = 76) : opB l = decide (l.getD 7 0 ≤ 64 ∧ (l.length : Int) < 10 + l.getD 7 0) := by
  rw [opB, decide_eq_decide]; exact ⟨fun hh => hh.2.2 h, fun hh => ⟨fun _ => g0, fun _ => g1, fun _ => hh⟩⟩
end Frm
end Go.Proofs.Ytgmejplcdecmkaa

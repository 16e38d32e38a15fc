/- The reference's PutNumbers. -/
import Derived.Test.YtgdpoiapkaahfaaPut
import Derived.StillTailTactics
namespace Go.Proofs.Ytgdpoiapkaahfaa
open Go.RowKit
set_option maxHeartbeats 4000000
set_option linter.unusedSimpArgs false
set_option linter.unusedVariables false
/-- what encoding numbers leaves -/
def PPost (w : World) (n : Nat) (l : List Int) (e : Ending) (w' : World) : Prop :=
  ((16 < n ∨ Frm.okAll l = false) ∧ e = .returned (.tuple #[.slice none 0 0, .int .i64 2]) ∧ Below w.heap.size w w') ∨
  ((n ≤ 16 ∧ Frm.okAll l = true) ∧ ∃ A' cap', e = .returned (.tuple #[.slice A' (4 * n) cap', .int .i64 0]) ∧ Ow w' w.heap.size A' (4 * n) cap' (Frm.pn l) ∧ Below w.heap.size w w')
end Go.Proofs.Ytgdpoiapkaahfaa

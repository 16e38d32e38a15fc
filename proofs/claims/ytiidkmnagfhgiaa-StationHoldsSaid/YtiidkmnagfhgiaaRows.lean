/-
  No cell of these rows narrows 'for every input' (looked for: loops, veiled, ifaces, maps, wideKeys, modest, calm, conditions, laid).
  DERIVED. THE GIVEN ROWS OF THIS SEAT. 5 by the template 'for every input the law returns true; each argument reads behind the call as it read before'; 0 by the template 'total and deterministic' (their statements: YtiidkmnagfhgiaaTotals.lean).
  GIVEN WITH THE SEED: the statements are not yours to turn. If you find one false, say at which input.
  Laid BY PROGRAM, IN A SANDBOX (cutbox-rows.mjs): the forced cells as the released guide's own fill.sh prints them over the translation 9a39997df1215e9d… (all of the seat's roots in one cut). By AI agents, Wed Nov 11 2026. No macro, syntax, notation, axiom, sorry.
-/
import Derived.Test.YtiidkmnagfhgiaaChecked
import GoSem.Claim
import GoSem.ClaimJoined
import GoSem.ClaimMapViews
import Derived.JoinedTies
import Derived.KernelRfl
namespace Go.Proofs.Ytiidkmnagfhgiaa
/- THE CELL 'sum', in the pinned program and in every row, IS THE sha256 OF THE DUMP (.gsa) THAT YtiidkmnagfhgiaaProg.lean LOADS. Nothing in Lean hashes anything: it is a label: what it is worth is what the hold of that sum in a sandbox is worth. -/
noncomputable def Try.pinned : Pinned := { name := "ytiidkmnagfhgiaa", sum := "9a39997df1215e9d165b9eb40491f2abdc7d9e1cc9459e660d15f97c30def545", checked := Try.checked }
namespace Rows
def none {H : Type} : Left H := { results := [], args := [] }

/-- 'skylanternlaw36.StationNews': WHATEVER THE INPUT: true; the input reads as it did. -/
def stationNewsSpec : ChangeSpec := { name := "stationNews", fn := fun _ => fun
  | [d1, d2] => { results := [.lit (.bool true)], args := [d1, d2] }
  | _ => none }
def stationNewsRow : OpenClaim := { program := "ytiidkmnagfhgiaa", sum := "9a39997df1215e9d165b9eb40491f2abdc7d9e1cc9459e660d15f97c30def545", func := "skylantern/skylanternlaw36.StationNews", spec := "stationNews", unfollowed := true, recurses := true, apart := false }
def StationNewsSaid : Prop := stationNewsRow.holds Try.pinned (OpenSpec.ofChange stationNewsSpec)

/-- ITS FALSE NEIGHBOUR: 'it returns false'. Refute it at one input. -/
def stationNewsWrong : ChangeSpec := { name := "stationNews", fn := fun _ => fun
  | [d1, d2] => { results := [.lit (.bool false)], args := [d1, d2] }
  | _ => none }
def StationNewsWrongFalsely : Prop := stationNewsRow.holds Try.pinned (OpenSpec.ofChange stationNewsWrong)

/-- 'skylanternlaw36.StationActs': WHATEVER THE INPUT: true; the input reads as it did. -/
def stationActsSpec : ChangeSpec := { name := "stationActs", fn := fun _ => fun
  | [d1, d2, d3] => { results := [.lit (.bool true)], args := [d1, d2, d3] }
  | _ => none }
def stationActsRow : OpenClaim := { program := "ytiidkmnagfhgiaa", sum := "9a39997df1215e9d165b9eb40491f2abdc7d9e1cc9459e660d15f97c30def545", func := "skylantern/skylanternlaw36.StationActs", spec := "stationActs", unfollowed := true, recurses := true, apart := false }
def StationActsSaid : Prop := stationActsRow.holds Try.pinned (OpenSpec.ofChange stationActsSpec)

/-- ITS FALSE NEIGHBOUR: 'it returns false'. Refute it at one input. -/
def stationActsWrong : ChangeSpec := { name := "stationActs", fn := fun _ => fun
  | [d1, d2, d3] => { results := [.lit (.bool false)], args := [d1, d2, d3] }
  | _ => none }
def StationActsWrongFalsely : Prop := stationActsRow.holds Try.pinned (OpenSpec.ofChange stationActsWrong)

/-- 'skylanternlaw36.StationAcks': WHATEVER THE INPUT: true; the input reads as it did. -/
def stationAcksSpec : ChangeSpec := { name := "stationAcks", fn := fun _ => fun
  | [d1, d2] => { results := [.lit (.bool true)], args := [d1, d2] }
  | _ => none }
def stationAcksRow : OpenClaim := { program := "ytiidkmnagfhgiaa", sum := "9a39997df1215e9d165b9eb40491f2abdc7d9e1cc9459e660d15f97c30def545", func := "skylantern/skylanternlaw36.StationAcks", spec := "stationAcks", unfollowed := true, recurses := true, apart := false }
def StationAcksSaid : Prop := stationAcksRow.holds Try.pinned (OpenSpec.ofChange stationAcksSpec)

/-- ITS FALSE NEIGHBOUR: 'it returns false'. Refute it at one input. -/
def stationAcksWrong : ChangeSpec := { name := "stationAcks", fn := fun _ => fun
  | [d1, d2] => { results := [.lit (.bool false)], args := [d1, d2] }
  | _ => none }
def StationAcksWrongFalsely : Prop := stationAcksRow.holds Try.pinned (OpenSpec.ofChange stationAcksWrong)

/-- 'skylanternlaw36.StationCopies': WHATEVER THE INPUT: true; the input reads as it did. -/
def stationCopiesSpec : ChangeSpec := { name := "stationCopies", fn := fun _ => fun
  | [d1, d2, d3, d4] => { results := [.lit (.bool true)], args := [d1, d2, d3, d4] }
  | _ => none }
def stationCopiesRow : OpenClaim := { program := "ytiidkmnagfhgiaa", sum := "9a39997df1215e9d165b9eb40491f2abdc7d9e1cc9459e660d15f97c30def545", func := "skylantern/skylanternlaw36.StationCopies", spec := "stationCopies", unfollowed := true, recurses := true, apart := false }
def StationCopiesSaid : Prop := stationCopiesRow.holds Try.pinned (OpenSpec.ofChange stationCopiesSpec)

/-- ITS FALSE NEIGHBOUR: 'it returns false'. Refute it at one input. -/
def stationCopiesWrong : ChangeSpec := { name := "stationCopies", fn := fun _ => fun
  | [d1, d2, d3, d4] => { results := [.lit (.bool false)], args := [d1, d2, d3, d4] }
  | _ => none }
def StationCopiesWrongFalsely : Prop := stationCopiesRow.holds Try.pinned (OpenSpec.ofChange stationCopiesWrong)

/-- 'skylanternlaw36.StationHolds': WHATEVER THE INPUT: true; the input reads as it did. -/
def stationHoldsSpec : ChangeSpec := { name := "stationHolds", fn := fun _ => fun
  | [d1, d2] => { results := [.lit (.bool true)], args := [d1, d2] }
  | _ => none }
def stationHoldsRow : OpenClaim := { program := "ytiidkmnagfhgiaa", sum := "9a39997df1215e9d165b9eb40491f2abdc7d9e1cc9459e660d15f97c30def545", func := "skylantern/skylanternlaw36.StationHolds", spec := "stationHolds", unfollowed := true, recurses := true, apart := false }
def StationHoldsSaid : Prop := stationHoldsRow.holds Try.pinned (OpenSpec.ofChange stationHoldsSpec)

/-- ITS FALSE NEIGHBOUR: 'it returns false'. Refute it at one input. -/
def stationHoldsWrong : ChangeSpec := { name := "stationHolds", fn := fun _ => fun
  | [d1, d2] => { results := [.lit (.bool false)], args := [d1, d2] }
  | _ => none }
def StationHoldsWrongFalsely : Prop := stationHoldsRow.holds Try.pinned (OpenSpec.ofChange stationHoldsWrong)

/- THE SECOND FORM. 'bulk': how many values and letters a reading holds, each counted each time it is reached (what is shared counts as often as it is met; a slice's spare places count too). A statement '..UptoSaid' is the law's where the arguments, and the package variables that the reading takes, are together of bulk at most 1048576: NARROWER than '..Said'. Prove '..Said' where nothing that the law and all that it calls make is longer than what came in: it says more and counts as full. Else prove '..UptoSaid'. A law counts once. -/
mutual
def uptoBulk {H : Type} : DataW H → Nat
  | .lit (.string bytes) => bytes.length + 1
  | .lit _ => 1
  | .nil => 1
  | .ptr d => uptoBulk d + 1
  | .slice elems spare => uptoBulkAll elems + uptoBulkAll spare + 1
  | .agg parts => uptoBulkAll parts + 1
  | .iface _ d => uptoBulk d + 1
  | .map entries => uptoBulkEntries entries + 1
  | .held _ => 1
def uptoBulkAll {H : Type} : List (DataW H) → Nat
  | [] => 0
  | d :: r => uptoBulk d + uptoBulkAll r
def uptoBulkEntries {H : Type} : List (Lit × DataW H) → Nat
  | [] => 0
  | x :: r => uptoBulkEntry x + uptoBulkEntries r
def uptoBulkEntry {H : Type} : Lit × DataW H → Nat
  | (.string bytes, d) => bytes.length + uptoBulk d + 1
  | (_, d) => uptoBulk d + 1
 end
def uptoSmall : (H : Type) → List (DataW H) → Bool := fun _ ds => decide (uptoBulkAll ds ≤ 1048576)
def OpenSpec.upto (s : _root_.Go.ChangeSpec) : _root_.Go.OpenSpec := { _root_.Go.OpenSpec.ofChange s with cond := some uptoSmall }

/-- 'skylanternlaw36.StationNews', WHERE WHAT IT READS IS OF BULK AT MOST 1048576: true; the input reads as it did. -/
def stationNewsUptoRow : OpenClaim := { program := "ytiidkmnagfhgiaa", sum := "9a39997df1215e9d165b9eb40491f2abdc7d9e1cc9459e660d15f97c30def545", func := "skylantern/skylanternlaw36.StationNews", spec := "stationNews", unfollowed := true, recurses := true, apart := false, narrowed := true }
def StationNewsUptoSaid : Prop := stationNewsUptoRow.holds Try.pinned (OpenSpec.upto stationNewsSpec)

/-- 'skylanternlaw36.StationActs', WHERE WHAT IT READS IS OF BULK AT MOST 1048576: true; the input reads as it did. -/
def stationActsUptoRow : OpenClaim := { program := "ytiidkmnagfhgiaa", sum := "9a39997df1215e9d165b9eb40491f2abdc7d9e1cc9459e660d15f97c30def545", func := "skylantern/skylanternlaw36.StationActs", spec := "stationActs", unfollowed := true, recurses := true, apart := false, narrowed := true }
def StationActsUptoSaid : Prop := stationActsUptoRow.holds Try.pinned (OpenSpec.upto stationActsSpec)

/-- 'skylanternlaw36.StationAcks', WHERE WHAT IT READS IS OF BULK AT MOST 1048576: true; the input reads as it did. -/
def stationAcksUptoRow : OpenClaim := { program := "ytiidkmnagfhgiaa", sum := "9a39997df1215e9d165b9eb40491f2abdc7d9e1cc9459e660d15f97c30def545", func := "skylantern/skylanternlaw36.StationAcks", spec := "stationAcks", unfollowed := true, recurses := true, apart := false, narrowed := true }
def StationAcksUptoSaid : Prop := stationAcksUptoRow.holds Try.pinned (OpenSpec.upto stationAcksSpec)

/-- 'skylanternlaw36.StationCopies', WHERE WHAT IT READS IS OF BULK AT MOST 1048576: true; the input reads as it did. -/
def stationCopiesUptoRow : OpenClaim := { program := "ytiidkmnagfhgiaa", sum := "9a39997df1215e9d165b9eb40491f2abdc7d9e1cc9459e660d15f97c30def545", func := "skylantern/skylanternlaw36.StationCopies", spec := "stationCopies", unfollowed := true, recurses := true, apart := false, narrowed := true }
def StationCopiesUptoSaid : Prop := stationCopiesUptoRow.holds Try.pinned (OpenSpec.upto stationCopiesSpec)

/-- 'skylanternlaw36.StationHolds', WHERE WHAT IT READS IS OF BULK AT MOST 1048576: true; the input reads as it did. -/
def stationHoldsUptoRow : OpenClaim := { program := "ytiidkmnagfhgiaa", sum := "9a39997df1215e9d165b9eb40491f2abdc7d9e1cc9459e660d15f97c30def545", func := "skylantern/skylanternlaw36.StationHolds", spec := "stationHolds", unfollowed := true, recurses := true, apart := false, narrowed := true }
def StationHoldsUptoSaid : Prop := stationHoldsUptoRow.holds Try.pinned (OpenSpec.upto stationHoldsSpec)

end Rows
end Go.Proofs.Ytiidkmnagfhgiaa

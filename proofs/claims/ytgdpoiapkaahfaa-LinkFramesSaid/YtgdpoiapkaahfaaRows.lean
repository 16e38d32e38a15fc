/-
  No cell of these rows narrows 'for every input' (looked for: loops, veiled, ifaces, maps, wideKeys, modest, calm, conditions, laid).
  DERIVED. THE GIVEN ROWS OF THIS SEAT. 6 by the template 'for every input the law returns true; each argument reads behind the call as it read before'; 0 by the template 'total and deterministic' (their statements: YtgdpoiapkaahfaaTotals.lean).
  GIVEN WITH THE SEED: the statements are not yours to turn. If you find one false, say at which input.
  Laid BY PROGRAM, IN A SANDBOX (cutbox-rows.mjs): the forced cells as the released guide's own fill.sh prints them over the translation 8b81ebb7535d497d… (all of the seat's roots in one cut). By AI agents, Wed Nov 11 2026. No macro, syntax, notation, axiom, sorry.
-/
import Derived.Test.YtgdpoiapkaahfaaChecked
import GoSem.Claim
import GoSem.ClaimJoined
import GoSem.ClaimMapViews
import Derived.JoinedTies
import Derived.KernelRfl
namespace Go.Proofs.Ytgdpoiapkaahfaa
/- THE CELL 'sum', in the pinned program and in every row, IS THE sha256 OF THE DUMP (.gsa) THAT YtgdpoiapkaahfaaProg.lean LOADS. Nothing in Lean hashes anything: it is a label: what it is worth is what the hold of that sum in a sandbox is worth. -/
noncomputable def Try.pinned : Pinned := { name := "ytgdpoiapkaahfaa", sum := "8b81ebb7535d497d5f61308367b5e25e9cf677c38135120bdcb5f6605083b000", checked := Try.checked }
namespace Rows
def none {H : Type} : Left H := { results := [], args := [] }

/-- 'skylanternlaw35.LinkValids': WHATEVER THE INPUT: true; the input reads as it did. -/
def linkValidsSpec : ChangeSpec := { name := "linkValids", fn := fun _ => fun
  | [d] => { results := [.lit (.bool true)], args := [d] }
  | _ => none }
def linkValidsRow : OpenClaim := { program := "ytgdpoiapkaahfaa", sum := "8b81ebb7535d497d5f61308367b5e25e9cf677c38135120bdcb5f6605083b000", func := "skylantern/skylanternlaw35.LinkValids", spec := "linkValids", inPlace := ["slices.overlaps[skylantern/link.message]"], apart := false }
def LinkValidsSaid : Prop := linkValidsRow.holds Try.pinned (OpenSpec.ofChange linkValidsSpec)

/-- ITS FALSE NEIGHBOUR: 'it returns false'. Refute it at one input. -/
def linkValidsWrong : ChangeSpec := { name := "linkValids", fn := fun _ => fun
  | [d] => { results := [.lit (.bool false)], args := [d] }
  | _ => none }
def LinkValidsWrongFalsely : Prop := linkValidsRow.holds Try.pinned (OpenSpec.ofChange linkValidsWrong)

/-- 'skylanternlaw35.LinkActs': WHATEVER THE INPUT: true; the input reads as it did. -/
def linkActsSpec : ChangeSpec := { name := "linkActs", fn := fun _ => fun
  | [d1, d2] => { results := [.lit (.bool true)], args := [d1, d2] }
  | _ => none }
def linkActsRow : OpenClaim := { program := "ytgdpoiapkaahfaa", sum := "8b81ebb7535d497d5f61308367b5e25e9cf677c38135120bdcb5f6605083b000", func := "skylantern/skylanternlaw35.LinkActs", spec := "linkActs", inPlace := ["slices.overlaps[skylantern/link.message]"], apart := false }
def LinkActsSaid : Prop := linkActsRow.holds Try.pinned (OpenSpec.ofChange linkActsSpec)

/-- ITS FALSE NEIGHBOUR: 'it returns false'. Refute it at one input. -/
def linkActsWrong : ChangeSpec := { name := "linkActs", fn := fun _ => fun
  | [d1, d2] => { results := [.lit (.bool false)], args := [d1, d2] }
  | _ => none }
def LinkActsWrongFalsely : Prop := linkActsRow.holds Try.pinned (OpenSpec.ofChange linkActsWrong)

/-- 'skylanternlaw35.LinkFulls': WHATEVER THE INPUT: true; the input reads as it did. -/
def linkFullsSpec : ChangeSpec := { name := "linkFulls", fn := fun _ => fun
  | [d1, d2] => { results := [.lit (.bool true)], args := [d1, d2] }
  | _ => none }
def linkFullsRow : OpenClaim := { program := "ytgdpoiapkaahfaa", sum := "8b81ebb7535d497d5f61308367b5e25e9cf677c38135120bdcb5f6605083b000", func := "skylantern/skylanternlaw35.LinkFulls", spec := "linkFulls", inPlace := ["slices.overlaps[skylantern/link.message]"], apart := false }
def LinkFullsSaid : Prop := linkFullsRow.holds Try.pinned (OpenSpec.ofChange linkFullsSpec)

/-- ITS FALSE NEIGHBOUR: 'it returns false'. Refute it at one input. -/
def linkFullsWrong : ChangeSpec := { name := "linkFulls", fn := fun _ => fun
  | [d1, d2] => { results := [.lit (.bool false)], args := [d1, d2] }
  | _ => none }
def LinkFullsWrongFalsely : Prop := linkFullsRow.holds Try.pinned (OpenSpec.ofChange linkFullsWrong)

/-- 'skylanternlaw35.LinkCopies': WHATEVER THE INPUT: true; the input reads as it did. -/
def linkCopiesSpec : ChangeSpec := { name := "linkCopies", fn := fun _ => fun
  | [d1, d2, d3, d4] => { results := [.lit (.bool true)], args := [d1, d2, d3, d4] }
  | _ => none }
def linkCopiesRow : OpenClaim := { program := "ytgdpoiapkaahfaa", sum := "8b81ebb7535d497d5f61308367b5e25e9cf677c38135120bdcb5f6605083b000", func := "skylantern/skylanternlaw35.LinkCopies", spec := "linkCopies", inPlace := ["slices.overlaps[skylantern/link.message]"], apart := false }
def LinkCopiesSaid : Prop := linkCopiesRow.holds Try.pinned (OpenSpec.ofChange linkCopiesSpec)

/-- ITS FALSE NEIGHBOUR: 'it returns false'. Refute it at one input. -/
def linkCopiesWrong : ChangeSpec := { name := "linkCopies", fn := fun _ => fun
  | [d1, d2, d3, d4] => { results := [.lit (.bool false)], args := [d1, d2, d3, d4] }
  | _ => none }
def LinkCopiesWrongFalsely : Prop := linkCopiesRow.holds Try.pinned (OpenSpec.ofChange linkCopiesWrong)

/-- 'skylanternlaw35.LinkFrames': WHATEVER THE INPUT: true; the input reads as it did. -/
def linkFramesSpec : ChangeSpec := { name := "linkFrames", fn := fun _ => fun
  | [d1, d2, d3] => { results := [.lit (.bool true)], args := [d1, d2, d3] }
  | _ => none }
def linkFramesRow : OpenClaim := { program := "ytgdpoiapkaahfaa", sum := "8b81ebb7535d497d5f61308367b5e25e9cf677c38135120bdcb5f6605083b000", func := "skylantern/skylanternlaw35.LinkFrames", spec := "linkFrames", inPlace := ["slices.overlaps[skylantern/link.message]"], apart := false }
def LinkFramesSaid : Prop := linkFramesRow.holds Try.pinned (OpenSpec.ofChange linkFramesSpec)

/-- ITS FALSE NEIGHBOUR: 'it returns false'. Refute it at one input. -/
def linkFramesWrong : ChangeSpec := { name := "linkFrames", fn := fun _ => fun
  | [d1, d2, d3] => { results := [.lit (.bool false)], args := [d1, d2, d3] }
  | _ => none }
def LinkFramesWrongFalsely : Prop := linkFramesRow.holds Try.pinned (OpenSpec.ofChange linkFramesWrong)

/-- 'skylanternlaw35.LinkHolds': WHATEVER THE INPUT: true; the input reads as it did. -/
def linkHoldsSpec : ChangeSpec := { name := "linkHolds", fn := fun _ => fun
  | [d1, d2] => { results := [.lit (.bool true)], args := [d1, d2] }
  | _ => none }
def linkHoldsRow : OpenClaim := { program := "ytgdpoiapkaahfaa", sum := "8b81ebb7535d497d5f61308367b5e25e9cf677c38135120bdcb5f6605083b000", func := "skylantern/skylanternlaw35.LinkHolds", spec := "linkHolds", inPlace := ["slices.overlaps[skylantern/link.message]"], apart := false }
def LinkHoldsSaid : Prop := linkHoldsRow.holds Try.pinned (OpenSpec.ofChange linkHoldsSpec)

/-- ITS FALSE NEIGHBOUR: 'it returns false'. Refute it at one input. -/
def linkHoldsWrong : ChangeSpec := { name := "linkHolds", fn := fun _ => fun
  | [d1, d2] => { results := [.lit (.bool false)], args := [d1, d2] }
  | _ => none }
def LinkHoldsWrongFalsely : Prop := linkHoldsRow.holds Try.pinned (OpenSpec.ofChange linkHoldsWrong)

/- THE SECOND FORM. 'bulk': how many values and letters a reading holds, each counted each time it is reached (what is shared counts as often as it is met; a slice's spare places count too). A statement '..UptoSaid' is the law's where the arguments, and the package variables that the reading takes, are together of bulk at most 1048576: NARROWER than '..Said'. Prove '..Said' where nothing that the law and all that it calls make is longer than what came in: it says more and counts as full. Else prove '..UptoSaid'. A law counts once. -/
mutual
def uptoBulk {H : Type} : DataW H → Nat
  | .lit (.string bytes) => bytes.length + 1
  | .lit _ => 1
  | .nil => 1
  | .ptr d => uptoBulk d + 1
  | .slice elems spare => uptoBulkAll elems + uptoBulkAll spare + 1
  | .agg parts => uptoBulkAll parts + 1
  | .iface _ d => uptoBulk d + 1
  | .map entries => uptoBulkEntries entries + 1
  | .held _ => 1
def uptoBulkAll {H : Type} : List (DataW H) → Nat
  | [] => 0
  | d :: r => uptoBulk d + uptoBulkAll r
def uptoBulkEntries {H : Type} : List (Lit × DataW H) → Nat
  | [] => 0
  | x :: r => uptoBulkEntry x + uptoBulkEntries r
def uptoBulkEntry {H : Type} : Lit × DataW H → Nat
  | (.string bytes, d) => bytes.length + uptoBulk d + 1
  | (_, d) => uptoBulk d + 1
 end
def uptoSmall : (H : Type) → List (DataW H) → Bool := fun _ ds => decide (uptoBulkAll ds ≤ 1048576)
def OpenSpec.upto (s : _root_.Go.ChangeSpec) : _root_.Go.OpenSpec := { _root_.Go.OpenSpec.ofChange s with cond := some uptoSmall }

/-- 'skylanternlaw35.LinkValids', WHERE WHAT IT READS IS OF BULK AT MOST 1048576: true; the input reads as it did. -/
def linkValidsUptoRow : OpenClaim := { program := "ytgdpoiapkaahfaa", sum := "8b81ebb7535d497d5f61308367b5e25e9cf677c38135120bdcb5f6605083b000", func := "skylantern/skylanternlaw35.LinkValids", spec := "linkValids", inPlace := ["slices.overlaps[skylantern/link.message]"], apart := false, narrowed := true }
def LinkValidsUptoSaid : Prop := linkValidsUptoRow.holds Try.pinned (OpenSpec.upto linkValidsSpec)

/-- 'skylanternlaw35.LinkActs', WHERE WHAT IT READS IS OF BULK AT MOST 1048576: true; the input reads as it did. -/
def linkActsUptoRow : OpenClaim := { program := "ytgdpoiapkaahfaa", sum := "8b81ebb7535d497d5f61308367b5e25e9cf677c38135120bdcb5f6605083b000", func := "skylantern/skylanternlaw35.LinkActs", spec := "linkActs", inPlace := ["slices.overlaps[skylantern/link.message]"], apart := false, narrowed := true }
def LinkActsUptoSaid : Prop := linkActsUptoRow.holds Try.pinned (OpenSpec.upto linkActsSpec)

/-- 'skylanternlaw35.LinkFulls', WHERE WHAT IT READS IS OF BULK AT MOST 1048576: true; the input reads as it did. -/
def linkFullsUptoRow : OpenClaim := { program := "ytgdpoiapkaahfaa", sum := "8b81ebb7535d497d5f61308367b5e25e9cf677c38135120bdcb5f6605083b000", func := "skylantern/skylanternlaw35.LinkFulls", spec := "linkFulls", inPlace := ["slices.overlaps[skylantern/link.message]"], apart := false, narrowed := true }
def LinkFullsUptoSaid : Prop := linkFullsUptoRow.holds Try.pinned (OpenSpec.upto linkFullsSpec)

/-- 'skylanternlaw35.LinkCopies', WHERE WHAT IT READS IS OF BULK AT MOST 1048576: true; the input reads as it did. -/
def linkCopiesUptoRow : OpenClaim := { program := "ytgdpoiapkaahfaa", sum := "8b81ebb7535d497d5f61308367b5e25e9cf677c38135120bdcb5f6605083b000", func := "skylantern/skylanternlaw35.LinkCopies", spec := "linkCopies", inPlace := ["slices.overlaps[skylantern/link.message]"], apart := false, narrowed := true }
def LinkCopiesUptoSaid : Prop := linkCopiesUptoRow.holds Try.pinned (OpenSpec.upto linkCopiesSpec)

/-- 'skylanternlaw35.LinkFrames', WHERE WHAT IT READS IS OF BULK AT MOST 1048576: true; the input reads as it did. -/
def linkFramesUptoRow : OpenClaim := { program := "ytgdpoiapkaahfaa", sum := "8b81ebb7535d497d5f61308367b5e25e9cf677c38135120bdcb5f6605083b000", func := "skylantern/skylanternlaw35.LinkFrames", spec := "linkFrames", inPlace := ["slices.overlaps[skylantern/link.message]"], apart := false, narrowed := true }
def LinkFramesUptoSaid : Prop := linkFramesUptoRow.holds Try.pinned (OpenSpec.upto linkFramesSpec)

/-- 'skylanternlaw35.LinkHolds', WHERE WHAT IT READS IS OF BULK AT MOST 1048576: true; the input reads as it did. -/
def linkHoldsUptoRow : OpenClaim := { program := "ytgdpoiapkaahfaa", sum := "8b81ebb7535d497d5f61308367b5e25e9cf677c38135120bdcb5f6605083b000", func := "skylantern/skylanternlaw35.LinkHolds", spec := "linkHolds", inPlace := ["slices.overlaps[skylantern/link.message]"], apart := false, narrowed := true }
def LinkHoldsUptoSaid : Prop := linkHoldsUptoRow.holds Try.pinned (OpenSpec.upto linkHoldsSpec)

end Rows
end Go.Proofs.Ytgdpoiapkaahfaa

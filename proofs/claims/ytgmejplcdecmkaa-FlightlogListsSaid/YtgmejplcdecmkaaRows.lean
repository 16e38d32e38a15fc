/-
  No cell of these rows narrows 'for every input' (looked for: loops, veiled, ifaces, maps, wideKeys, modest, calm, conditions, laid).
  DERIVED. THE GIVEN ROWS OF THIS SEAT. 8 by the template 'for every input the law returns true; each argument reads behind the call as it read before'; 0 by the template 'total and deterministic' (their statements: YtgmejplcdecmkaaTotals.lean).
  GIVEN WITH THE SEED: the statements are not yours to turn. If you find one false, say at which input.
  Laid BY PROGRAM, IN A SANDBOX (cutbox-rows.mjs): the forced cells as the released guide's own fill.sh prints them over the translation 179c67189bf4b149… (all of the seat's roots in one cut). By AI agents, Wed Nov 11 2026. No macro, syntax, notation, axiom, sorry.
-/
import Derived.Test.YtgmejplcdecmkaaChecked
import GoSem.Claim
import GoSem.ClaimJoined
import GoSem.ClaimMapViews
import Derived.JoinedTies
import Derived.KernelRfl
namespace Go.Proofs.Ytgmejplcdecmkaa
/- THE CELL 'sum', in the pinned program and in every row, IS THE sha256 OF THE DUMP (.gsa) THAT YtgmejplcdecmkaaProg.lean LOADS. Nothing in Lean hashes anything: it is a label: what it is worth is what the hold of that sum in a sandbox is worth. -/
noncomputable def Try.pinned : Pinned := { name := "ytgmejplcdecmkaa", sum := "179c67189bf4b149fa79e305093c97781199291c3458e064843aa4d150d4df2a", checked := Try.checked }
namespace Rows
def none {H : Type} : Left H := { results := [], args := [] }

/-- 'skylanternlaw39.FlightlogSums': WHATEVER THE INPUT: true; the input reads as it did. -/
def flightlogSumsSpec : ChangeSpec := { name := "flightlogSums", fn := fun _ => fun
  | [d1, d2] => { results := [.lit (.bool true)], args := [d1, d2] }
  | _ => none }
def flightlogSumsRow : OpenClaim := { program := "ytgmejplcdecmkaa", sum := "179c67189bf4b149fa79e305093c97781199291c3458e064843aa4d150d4df2a", func := "skylantern/skylanternlaw39.FlightlogSums", spec := "flightlogSums", unfollowed := true, recurses := true, apart := false }
def FlightlogSumsSaid : Prop := flightlogSumsRow.holds Try.pinned (OpenSpec.ofChange flightlogSumsSpec)

/-- ITS FALSE NEIGHBOUR: 'it returns false'. Refute it at one input. -/
def flightlogSumsWrong : ChangeSpec := { name := "flightlogSums", fn := fun _ => fun
  | [d1, d2] => { results := [.lit (.bool false)], args := [d1, d2] }
  | _ => none }
def FlightlogSumsWrongFalsely : Prop := flightlogSumsRow.holds Try.pinned (OpenSpec.ofChange flightlogSumsWrong)

/-- 'skylanternlaw39.FlightlogLoads': WHATEVER THE INPUT: true; the input reads as it did. -/
def flightlogLoadsSpec : ChangeSpec := { name := "flightlogLoads", fn := fun _ => fun
  | [d] => { results := [.lit (.bool true)], args := [d] }
  | _ => none }
def flightlogLoadsRow : OpenClaim := { program := "ytgmejplcdecmkaa", sum := "179c67189bf4b149fa79e305093c97781199291c3458e064843aa4d150d4df2a", func := "skylantern/skylanternlaw39.FlightlogLoads", spec := "flightlogLoads", unfollowed := true, recurses := true, apart := false }
def FlightlogLoadsSaid : Prop := flightlogLoadsRow.holds Try.pinned (OpenSpec.ofChange flightlogLoadsSpec)

/-- ITS FALSE NEIGHBOUR: 'it returns false'. Refute it at one input. -/
def flightlogLoadsWrong : ChangeSpec := { name := "flightlogLoads", fn := fun _ => fun
  | [d] => { results := [.lit (.bool false)], args := [d] }
  | _ => none }
def FlightlogLoadsWrongFalsely : Prop := flightlogLoadsRow.holds Try.pinned (OpenSpec.ofChange flightlogLoadsWrong)

/-- 'skylanternlaw39.FlightlogFulls': WHATEVER THE INPUT: true; the input reads as it did. -/
def flightlogFullsSpec : ChangeSpec := { name := "flightlogFulls", fn := fun _ => fun
  | [d1, d2] => { results := [.lit (.bool true)], args := [d1, d2] }
  | _ => none }
def flightlogFullsRow : OpenClaim := { program := "ytgmejplcdecmkaa", sum := "179c67189bf4b149fa79e305093c97781199291c3458e064843aa4d150d4df2a", func := "skylantern/skylanternlaw39.FlightlogFulls", spec := "flightlogFulls", unfollowed := true, recurses := true, apart := false }
def FlightlogFullsSaid : Prop := flightlogFullsRow.holds Try.pinned (OpenSpec.ofChange flightlogFullsSpec)

/-- ITS FALSE NEIGHBOUR: 'it returns false'. Refute it at one input. -/
def flightlogFullsWrong : ChangeSpec := { name := "flightlogFulls", fn := fun _ => fun
  | [d1, d2] => { results := [.lit (.bool false)], args := [d1, d2] }
  | _ => none }
def FlightlogFullsWrongFalsely : Prop := flightlogFullsRow.holds Try.pinned (OpenSpec.ofChange flightlogFullsWrong)

/-- 'skylanternlaw39.FlightlogActs': WHATEVER THE INPUT: true; the input reads as it did. -/
def flightlogActsSpec : ChangeSpec := { name := "flightlogActs", fn := fun _ => fun
  | [d] => { results := [.lit (.bool true)], args := [d] }
  | _ => none }
def flightlogActsRow : OpenClaim := { program := "ytgmejplcdecmkaa", sum := "179c67189bf4b149fa79e305093c97781199291c3458e064843aa4d150d4df2a", func := "skylantern/skylanternlaw39.FlightlogActs", spec := "flightlogActs", unfollowed := true, recurses := true, apart := false }
def FlightlogActsSaid : Prop := flightlogActsRow.holds Try.pinned (OpenSpec.ofChange flightlogActsSpec)

/-- ITS FALSE NEIGHBOUR: 'it returns false'. Refute it at one input. -/
def flightlogActsWrong : ChangeSpec := { name := "flightlogActs", fn := fun _ => fun
  | [d] => { results := [.lit (.bool false)], args := [d] }
  | _ => none }
def FlightlogActsWrongFalsely : Prop := flightlogActsRow.holds Try.pinned (OpenSpec.ofChange flightlogActsWrong)

/-- 'skylanternlaw39.FlightlogReads': WHATEVER THE INPUT: true; the input reads as it did. -/
def flightlogReadsSpec : ChangeSpec := { name := "flightlogReads", fn := fun _ => fun
  | [d1, d2, d3, d4] => { results := [.lit (.bool true)], args := [d1, d2, d3, d4] }
  | _ => none }
def flightlogReadsRow : OpenClaim := { program := "ytgmejplcdecmkaa", sum := "179c67189bf4b149fa79e305093c97781199291c3458e064843aa4d150d4df2a", func := "skylantern/skylanternlaw39.FlightlogReads", spec := "flightlogReads", unfollowed := true, recurses := true, apart := false }
def FlightlogReadsSaid : Prop := flightlogReadsRow.holds Try.pinned (OpenSpec.ofChange flightlogReadsSpec)

/-- ITS FALSE NEIGHBOUR: 'it returns false'. Refute it at one input. -/
def flightlogReadsWrong : ChangeSpec := { name := "flightlogReads", fn := fun _ => fun
  | [d1, d2, d3, d4] => { results := [.lit (.bool false)], args := [d1, d2, d3, d4] }
  | _ => none }
def FlightlogReadsWrongFalsely : Prop := flightlogReadsRow.holds Try.pinned (OpenSpec.ofChange flightlogReadsWrong)

/-- 'skylanternlaw39.FlightlogLists': WHATEVER THE INPUT: true; the input reads as it did. -/
def flightlogListsSpec : ChangeSpec := { name := "flightlogLists", fn := fun _ => fun
  | [d1, d2, d3, d4] => { results := [.lit (.bool true)], args := [d1, d2, d3, d4] }
  | _ => none }
def flightlogListsRow : OpenClaim := { program := "ytgmejplcdecmkaa", sum := "179c67189bf4b149fa79e305093c97781199291c3458e064843aa4d150d4df2a", func := "skylantern/skylanternlaw39.FlightlogLists", spec := "flightlogLists", unfollowed := true, recurses := true, apart := false }
def FlightlogListsSaid : Prop := flightlogListsRow.holds Try.pinned (OpenSpec.ofChange flightlogListsSpec)

/-- ITS FALSE NEIGHBOUR: 'it returns false'. Refute it at one input. -/
def flightlogListsWrong : ChangeSpec := { name := "flightlogLists", fn := fun _ => fun
  | [d1, d2, d3, d4] => { results := [.lit (.bool false)], args := [d1, d2, d3, d4] }
  | _ => none }
def FlightlogListsWrongFalsely : Prop := flightlogListsRow.holds Try.pinned (OpenSpec.ofChange flightlogListsWrong)

/-- 'skylanternlaw39.FlightlogCopies': WHATEVER THE INPUT: true; the input reads as it did. -/
def flightlogCopiesSpec : ChangeSpec := { name := "flightlogCopies", fn := fun _ => fun
  | [d1, d2, d3] => { results := [.lit (.bool true)], args := [d1, d2, d3] }
  | _ => none }
def flightlogCopiesRow : OpenClaim := { program := "ytgmejplcdecmkaa", sum := "179c67189bf4b149fa79e305093c97781199291c3458e064843aa4d150d4df2a", func := "skylantern/skylanternlaw39.FlightlogCopies", spec := "flightlogCopies", unfollowed := true, recurses := true, apart := false }
def FlightlogCopiesSaid : Prop := flightlogCopiesRow.holds Try.pinned (OpenSpec.ofChange flightlogCopiesSpec)

/-- ITS FALSE NEIGHBOUR: 'it returns false'. Refute it at one input. -/
def flightlogCopiesWrong : ChangeSpec := { name := "flightlogCopies", fn := fun _ => fun
  | [d1, d2, d3] => { results := [.lit (.bool false)], args := [d1, d2, d3] }
  | _ => none }
def FlightlogCopiesWrongFalsely : Prop := flightlogCopiesRow.holds Try.pinned (OpenSpec.ofChange flightlogCopiesWrong)

/-- 'skylanternlaw39.FlightlogHolds': WHATEVER THE INPUT: true; the input reads as it did. -/
def flightlogHoldsSpec : ChangeSpec := { name := "flightlogHolds", fn := fun _ => fun
  | [d1, d2, d3] => { results := [.lit (.bool true)], args := [d1, d2, d3] }
  | _ => none }
def flightlogHoldsRow : OpenClaim := { program := "ytgmejplcdecmkaa", sum := "179c67189bf4b149fa79e305093c97781199291c3458e064843aa4d150d4df2a", func := "skylantern/skylanternlaw39.FlightlogHolds", spec := "flightlogHolds", unfollowed := true, recurses := true, apart := false }
def FlightlogHoldsSaid : Prop := flightlogHoldsRow.holds Try.pinned (OpenSpec.ofChange flightlogHoldsSpec)

/-- ITS FALSE NEIGHBOUR: 'it returns false'. Refute it at one input. -/
def flightlogHoldsWrong : ChangeSpec := { name := "flightlogHolds", fn := fun _ => fun
  | [d1, d2, d3] => { results := [.lit (.bool false)], args := [d1, d2, d3] }
  | _ => none }
def FlightlogHoldsWrongFalsely : Prop := flightlogHoldsRow.holds Try.pinned (OpenSpec.ofChange flightlogHoldsWrong)

/- THE SECOND FORM. 'bulk': how many values and letters a reading holds, each counted each time it is reached (what is shared counts as often as it is met; a slice's spare places count too). A statement '..UptoSaid' is the law's where the arguments, and the package variables that the reading takes, are together of bulk at most 1048576: NARROWER than '..Said'. Prove '..Said' where nothing that the law and all that it calls make is longer than what came in: it says more and counts as full. Else prove '..UptoSaid'. A law counts once. -/
mutual
def uptoBulk {H : Type} : DataW H → Nat
  | .lit (.string bytes) => bytes.length + 1
  | .lit _ => 1
  | .nil => 1
  | .ptr d => uptoBulk d + 1
  | .slice elems spare => uptoBulkAll elems + uptoBulkAll spare + 1
  | .agg parts => uptoBulkAll parts + 1
  | .iface _ d => uptoBulk d + 1
  | .map entries => uptoBulkEntries entries + 1
  | .held _ => 1
def uptoBulkAll {H : Type} : List (DataW H) → Nat
  | [] => 0
  | d :: r => uptoBulk d + uptoBulkAll r
def uptoBulkEntries {H : Type} : List (Lit × DataW H) → Nat
  | [] => 0
  | x :: r => uptoBulkEntry x + uptoBulkEntries r
def uptoBulkEntry {H : Type} : Lit × DataW H → Nat
  | (.string bytes, d) => bytes.length + uptoBulk d + 1
  | (_, d) => uptoBulk d + 1
 end
def uptoSmall : (H : Type) → List (DataW H) → Bool := fun _ ds => decide (uptoBulkAll ds ≤ 1048576)
def OpenSpec.upto (s : _root_.Go.ChangeSpec) : _root_.Go.OpenSpec := { _root_.Go.OpenSpec.ofChange s with cond := some uptoSmall }

/-- 'skylanternlaw39.FlightlogSums', WHERE WHAT IT READS IS OF BULK AT MOST 1048576: true; the input reads as it did. -/
def flightlogSumsUptoRow : OpenClaim := { program := "ytgmejplcdecmkaa", sum := "179c67189bf4b149fa79e305093c97781199291c3458e064843aa4d150d4df2a", func := "skylantern/skylanternlaw39.FlightlogSums", spec := "flightlogSums", unfollowed := true, recurses := true, apart := false, narrowed := true }
def FlightlogSumsUptoSaid : Prop := flightlogSumsUptoRow.holds Try.pinned (OpenSpec.upto flightlogSumsSpec)

/-- 'skylanternlaw39.FlightlogLoads', WHERE WHAT IT READS IS OF BULK AT MOST 1048576: true; the input reads as it did. -/
def flightlogLoadsUptoRow : OpenClaim := { program := "ytgmejplcdecmkaa", sum := "179c67189bf4b149fa79e305093c97781199291c3458e064843aa4d150d4df2a", func := "skylantern/skylanternlaw39.FlightlogLoads", spec := "flightlogLoads", unfollowed := true, recurses := true, apart := false, narrowed := true }
def FlightlogLoadsUptoSaid : Prop := flightlogLoadsUptoRow.holds Try.pinned (OpenSpec.upto flightlogLoadsSpec)

/-- 'skylanternlaw39.FlightlogFulls', WHERE WHAT IT READS IS OF BULK AT MOST 1048576: true; the input reads as it did. -/
def flightlogFullsUptoRow : OpenClaim := { program := "ytgmejplcdecmkaa", sum := "179c67189bf4b149fa79e305093c97781199291c3458e064843aa4d150d4df2a", func := "skylantern/skylanternlaw39.FlightlogFulls", spec := "flightlogFulls", unfollowed := true, recurses := true, apart := false, narrowed := true }
def FlightlogFullsUptoSaid : Prop := flightlogFullsUptoRow.holds Try.pinned (OpenSpec.upto flightlogFullsSpec)

/-- 'skylanternlaw39.FlightlogActs', WHERE WHAT IT READS IS OF BULK AT MOST 1048576: true; the input reads as it did. -/
def flightlogActsUptoRow : OpenClaim := { program := "ytgmejplcdecmkaa", sum := "179c67189bf4b149fa79e305093c97781199291c3458e064843aa4d150d4df2a", func := "skylantern/skylanternlaw39.FlightlogActs", spec := "flightlogActs", unfollowed := true, recurses := true, apart := false, narrowed := true }
def FlightlogActsUptoSaid : Prop := flightlogActsUptoRow.holds Try.pinned (OpenSpec.upto flightlogActsSpec)

/-- 'skylanternlaw39.FlightlogReads', WHERE WHAT IT READS IS OF BULK AT MOST 1048576: true; the input reads as it did. -/
def flightlogReadsUptoRow : OpenClaim := { program := "ytgmejplcdecmkaa", sum := "179c67189bf4b149fa79e305093c97781199291c3458e064843aa4d150d4df2a", func := "skylantern/skylanternlaw39.FlightlogReads", spec := "flightlogReads", unfollowed := true, recurses := true, apart := false, narrowed := true }
def FlightlogReadsUptoSaid : Prop := flightlogReadsUptoRow.holds Try.pinned (OpenSpec.upto flightlogReadsSpec)

/-- 'skylanternlaw39.FlightlogLists', WHERE WHAT IT READS IS OF BULK AT MOST 1048576: true; the input reads as it did. -/
def flightlogListsUptoRow : OpenClaim := { program := "ytgmejplcdecmkaa", sum := "179c67189bf4b149fa79e305093c97781199291c3458e064843aa4d150d4df2a", func := "skylantern/skylanternlaw39.FlightlogLists", spec := "flightlogLists", unfollowed := true, recurses := true, apart := false, narrowed := true }
def FlightlogListsUptoSaid : Prop := flightlogListsUptoRow.holds Try.pinned (OpenSpec.upto flightlogListsSpec)

/-- 'skylanternlaw39.FlightlogCopies', WHERE WHAT IT READS IS OF BULK AT MOST 1048576: true; the input reads as it did. -/
def flightlogCopiesUptoRow : OpenClaim := { program := "ytgmejplcdecmkaa", sum := "179c67189bf4b149fa79e305093c97781199291c3458e064843aa4d150d4df2a", func := "skylantern/skylanternlaw39.FlightlogCopies", spec := "flightlogCopies", unfollowed := true, recurses := true, apart := false, narrowed := true }
def FlightlogCopiesUptoSaid : Prop := flightlogCopiesUptoRow.holds Try.pinned (OpenSpec.upto flightlogCopiesSpec)

/-- 'skylanternlaw39.FlightlogHolds', WHERE WHAT IT READS IS OF BULK AT MOST 1048576: true; the input reads as it did. -/
def flightlogHoldsUptoRow : OpenClaim := { program := "ytgmejplcdecmkaa", sum := "179c67189bf4b149fa79e305093c97781199291c3458e064843aa4d150d4df2a", func := "skylantern/skylanternlaw39.FlightlogHolds", spec := "flightlogHolds", unfollowed := true, recurses := true, apart := false, narrowed := true }
def FlightlogHoldsUptoSaid : Prop := flightlogHoldsUptoRow.holds Try.pinned (OpenSpec.upto flightlogHoldsSpec)

end Rows
end Go.Proofs.Ytgmejplcdecmkaa

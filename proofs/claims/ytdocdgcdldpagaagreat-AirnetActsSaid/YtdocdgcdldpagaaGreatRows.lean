/-
  No cell of these rows narrows 'for every input' (looked for: loops, veiled, ifaces, maps, wideKeys, modest, calm, conditions, laid).
  DERIVED. THE GIVEN ROWS OF THIS SEAT. 5 by the template 'for every input the law returns true; each argument reads behind the call as it read before'; 0 by the template 'total and deterministic' (their statements: YtdocdgcdldpagaaGreatTotals.lean).
  GIVEN WITH THE SEED: the statements are not yours to turn. If you find one false, say at which input.
  Laid BY PROGRAM, IN A SANDBOX (cutbox-rows.mjs): the forced cells as the released guide's own fill.sh prints them over the translation e81da5ca4637409b… (all of the seat's roots in one cut). By AI agents, Wed Nov 11 2026. No macro, syntax, notation, axiom, sorry.
-/
import Derived.Test.YtdocdgcdldpagaaGreatChecked
import GoSem.Claim
import GoSem.ClaimJoined
import GoSem.ClaimMapViews
import Derived.JoinedTies
import Derived.KernelRfl
namespace Go.Proofs.YtdocdgcdldpagaaGreat
/- THE CELL 'sum', in the pinned program and in every row, IS THE sha256 OF THE DUMP (.gsa) THAT YtdocdgcdldpagaaGreatProg.lean LOADS. Nothing in Lean hashes anything: it is a label: what it is worth is what the hold of that sum in a sandbox is worth. -/
noncomputable def Tryz.pinned : Pinned := { name := "ytdocdgcdldpagaagreat", sum := "e81da5ca4637409b5afb90f6b04fab9ab156804f84a54751feac4e2f2b6dd3e4", checked := Tryz.checked }
namespace Rows
def none {H : Type} : Left H := { results := [], args := [] }

/-- 'skylanternlaw38.AirnetValids': WHATEVER THE INPUT: true; the input reads as it did. -/
def airnetValidsSpec : ChangeSpec := { name := "airnetValids", fn := fun _ => fun
  | [d] => { results := [.lit (.bool true)], args := [d] }
  | _ => none }
def airnetValidsRow : OpenClaim := { program := "ytdocdgcdldpagaagreat", sum := "e81da5ca4637409b5afb90f6b04fab9ab156804f84a54751feac4e2f2b6dd3e4", func := "skylantern/skylanternlaw38.AirnetValids", spec := "airnetValids", inPlace := ["slices.overlaps[skylantern/link.message]"], unfollowed := true, recurses := true, apart := false }
def AirnetValidsSaid : Prop := airnetValidsRow.holds Tryz.pinned (OpenSpec.ofChange airnetValidsSpec)

/-- ITS FALSE NEIGHBOUR: 'it returns false'. Refute it at one input. -/
def airnetValidsWrong : ChangeSpec := { name := "airnetValids", fn := fun _ => fun
  | [d] => { results := [.lit (.bool false)], args := [d] }
  | _ => none }
def AirnetValidsWrongFalsely : Prop := airnetValidsRow.holds Tryz.pinned (OpenSpec.ofChange airnetValidsWrong)

/-- 'skylanternlaw38.AirnetActs': WHATEVER THE INPUT: true; the input reads as it did. -/
def airnetActsSpec : ChangeSpec := { name := "airnetActs", fn := fun _ => fun
  | [d1, d2] => { results := [.lit (.bool true)], args := [d1, d2] }
  | _ => none }
def airnetActsRow : OpenClaim := { program := "ytdocdgcdldpagaagreat", sum := "e81da5ca4637409b5afb90f6b04fab9ab156804f84a54751feac4e2f2b6dd3e4", func := "skylantern/skylanternlaw38.AirnetActs", spec := "airnetActs", inPlace := ["slices.overlaps[skylantern/link.message]"], unfollowed := true, recurses := true, apart := false }
def AirnetActsSaid : Prop := airnetActsRow.holds Tryz.pinned (OpenSpec.ofChange airnetActsSpec)

/-- ITS FALSE NEIGHBOUR: 'it returns false'. Refute it at one input. -/
def airnetActsWrong : ChangeSpec := { name := "airnetActs", fn := fun _ => fun
  | [d1, d2] => { results := [.lit (.bool false)], args := [d1, d2] }
  | _ => none }
def AirnetActsWrongFalsely : Prop := airnetActsRow.holds Tryz.pinned (OpenSpec.ofChange airnetActsWrong)

/-- 'skylanternlaw38.AirnetLists': WHATEVER THE INPUT: true; the input reads as it did. -/
def airnetListsSpec : ChangeSpec := { name := "airnetLists", fn := fun _ => fun
  | [d1, d2, d3, d4] => { results := [.lit (.bool true)], args := [d1, d2, d3, d4] }
  | _ => none }
def airnetListsRow : OpenClaim := { program := "ytdocdgcdldpagaagreat", sum := "e81da5ca4637409b5afb90f6b04fab9ab156804f84a54751feac4e2f2b6dd3e4", func := "skylantern/skylanternlaw38.AirnetLists", spec := "airnetLists", inPlace := ["slices.overlaps[skylantern/link.message]"], unfollowed := true, recurses := true, apart := false }
def AirnetListsSaid : Prop := airnetListsRow.holds Tryz.pinned (OpenSpec.ofChange airnetListsSpec)

/-- ITS FALSE NEIGHBOUR: 'it returns false'. Refute it at one input. -/
def airnetListsWrong : ChangeSpec := { name := "airnetLists", fn := fun _ => fun
  | [d1, d2, d3, d4] => { results := [.lit (.bool false)], args := [d1, d2, d3, d4] }
  | _ => none }
def AirnetListsWrongFalsely : Prop := airnetListsRow.holds Tryz.pinned (OpenSpec.ofChange airnetListsWrong)

/-- 'skylanternlaw38.AirnetCopies': WHATEVER THE INPUT: true; the input reads as it did. -/
def airnetCopiesSpec : ChangeSpec := { name := "airnetCopies", fn := fun _ => fun
  | [d1, d2, d3, d4] => { results := [.lit (.bool true)], args := [d1, d2, d3, d4] }
  | _ => none }
def airnetCopiesRow : OpenClaim := { program := "ytdocdgcdldpagaagreat", sum := "e81da5ca4637409b5afb90f6b04fab9ab156804f84a54751feac4e2f2b6dd3e4", func := "skylantern/skylanternlaw38.AirnetCopies", spec := "airnetCopies", inPlace := ["slices.overlaps[skylantern/link.message]"], unfollowed := true, recurses := true, apart := false }
def AirnetCopiesSaid : Prop := airnetCopiesRow.holds Tryz.pinned (OpenSpec.ofChange airnetCopiesSpec)

/-- ITS FALSE NEIGHBOUR: 'it returns false'. Refute it at one input. -/
def airnetCopiesWrong : ChangeSpec := { name := "airnetCopies", fn := fun _ => fun
  | [d1, d2, d3, d4] => { results := [.lit (.bool false)], args := [d1, d2, d3, d4] }
  | _ => none }
def AirnetCopiesWrongFalsely : Prop := airnetCopiesRow.holds Tryz.pinned (OpenSpec.ofChange airnetCopiesWrong)

/-- 'skylanternlaw38.AirnetHolds': WHATEVER THE INPUT: true; the input reads as it did. -/
def airnetHoldsSpec : ChangeSpec := { name := "airnetHolds", fn := fun _ => fun
  | [d1, d2] => { results := [.lit (.bool true)], args := [d1, d2] }
  | _ => none }
def airnetHoldsRow : OpenClaim := { program := "ytdocdgcdldpagaagreat", sum := "e81da5ca4637409b5afb90f6b04fab9ab156804f84a54751feac4e2f2b6dd3e4", func := "skylantern/skylanternlaw38.AirnetHolds", spec := "airnetHolds", inPlace := ["slices.overlaps[skylantern/link.message]"], unfollowed := true, recurses := true, apart := false }
def AirnetHoldsSaid : Prop := airnetHoldsRow.holds Tryz.pinned (OpenSpec.ofChange airnetHoldsSpec)

/-- ITS FALSE NEIGHBOUR: 'it returns false'. Refute it at one input. -/
def airnetHoldsWrong : ChangeSpec := { name := "airnetHolds", fn := fun _ => fun
  | [d1, d2] => { results := [.lit (.bool false)], args := [d1, d2] }
  | _ => none }
def AirnetHoldsWrongFalsely : Prop := airnetHoldsRow.holds Tryz.pinned (OpenSpec.ofChange airnetHoldsWrong)

/- THE SECOND FORM. 'bulk': how many values and letters a reading holds, each counted each time it is reached (what is shared counts as often as it is met; a slice's spare places count too). A statement '..UptoSaid' is the law's where the arguments, and the package variables that the reading takes, are together of bulk at most 1048576: NARROWER than '..Said'. Prove '..Said' where nothing that the law and all that it calls make is longer than what came in: it says more and counts as full. Else prove '..UptoSaid'. A law counts once. -/
mutual
def uptoBulk {H : Type} : DataW H → Nat
  | .lit (.string bytes) => bytes.length + 1
  | .lit _ => 1
  | .nil => 1
  | .ptr d => uptoBulk d + 1
  | .slice elems spare => uptoBulkAll elems + uptoBulkAll spare + 1
  | .agg parts => uptoBulkAll parts + 1
  | .iface _ d => uptoBulk d + 1
  | .map entries => uptoBulkEntries entries + 1
  | .held _ => 1
def uptoBulkAll {H : Type} : List (DataW H) → Nat
  | [] => 0
  | d :: r => uptoBulk d + uptoBulkAll r
def uptoBulkEntries {H : Type} : List (Lit × DataW H) → Nat
  | [] => 0
  | x :: r => uptoBulkEntry x + uptoBulkEntries r
def uptoBulkEntry {H : Type} : Lit × DataW H → Nat
  | (.string bytes, d) => bytes.length + uptoBulk d + 1
  | (_, d) => uptoBulk d + 1
 end
def uptoSmall : (H : Type) → List (DataW H) → Bool := fun _ ds => decide (uptoBulkAll ds ≤ 1048576)
def OpenSpec.upto (s : _root_.Go.ChangeSpec) : _root_.Go.OpenSpec := { _root_.Go.OpenSpec.ofChange s with cond := some uptoSmall }

/-- 'skylanternlaw38.AirnetValids', WHERE WHAT IT READS IS OF BULK AT MOST 1048576: true; the input reads as it did. -/
def airnetValidsUptoRow : OpenClaim := { program := "ytdocdgcdldpagaagreat", sum := "e81da5ca4637409b5afb90f6b04fab9ab156804f84a54751feac4e2f2b6dd3e4", func := "skylantern/skylanternlaw38.AirnetValids", spec := "airnetValids", inPlace := ["slices.overlaps[skylantern/link.message]"], unfollowed := true, recurses := true, apart := false, narrowed := true }
def AirnetValidsUptoSaid : Prop := airnetValidsUptoRow.holds Tryz.pinned (OpenSpec.upto airnetValidsSpec)

/-- 'skylanternlaw38.AirnetActs', WHERE WHAT IT READS IS OF BULK AT MOST 1048576: true; the input reads as it did. -/
def airnetActsUptoRow : OpenClaim := { program := "ytdocdgcdldpagaagreat", sum := "e81da5ca4637409b5afb90f6b04fab9ab156804f84a54751feac4e2f2b6dd3e4", func := "skylantern/skylanternlaw38.AirnetActs", spec := "airnetActs", inPlace := ["slices.overlaps[skylantern/link.message]"], unfollowed := true, recurses := true, apart := false, narrowed := true }
def AirnetActsUptoSaid : Prop := airnetActsUptoRow.holds Tryz.pinned (OpenSpec.upto airnetActsSpec)

/-- 'skylanternlaw38.AirnetLists', WHERE WHAT IT READS IS OF BULK AT MOST 1048576: true; the input reads as it did. -/
def airnetListsUptoRow : OpenClaim := { program := "ytdocdgcdldpagaagreat", sum := "e81da5ca4637409b5afb90f6b04fab9ab156804f84a54751feac4e2f2b6dd3e4", func := "skylantern/skylanternlaw38.AirnetLists", spec := "airnetLists", inPlace := ["slices.overlaps[skylantern/link.message]"], unfollowed := true, recurses := true, apart := false, narrowed := true }
def AirnetListsUptoSaid : Prop := airnetListsUptoRow.holds Tryz.pinned (OpenSpec.upto airnetListsSpec)

/-- 'skylanternlaw38.AirnetCopies', WHERE WHAT IT READS IS OF BULK AT MOST 1048576: true; the input reads as it did. -/
def airnetCopiesUptoRow : OpenClaim := { program := "ytdocdgcdldpagaagreat", sum := "e81da5ca4637409b5afb90f6b04fab9ab156804f84a54751feac4e2f2b6dd3e4", func := "skylantern/skylanternlaw38.AirnetCopies", spec := "airnetCopies", inPlace := ["slices.overlaps[skylantern/link.message]"], unfollowed := true, recurses := true, apart := false, narrowed := true }
def AirnetCopiesUptoSaid : Prop := airnetCopiesUptoRow.holds Tryz.pinned (OpenSpec.upto airnetCopiesSpec)

/-- 'skylanternlaw38.AirnetHolds', WHERE WHAT IT READS IS OF BULK AT MOST 1048576: true; the input reads as it did. -/
def airnetHoldsUptoRow : OpenClaim := { program := "ytdocdgcdldpagaagreat", sum := "e81da5ca4637409b5afb90f6b04fab9ab156804f84a54751feac4e2f2b6dd3e4", func := "skylantern/skylanternlaw38.AirnetHolds", spec := "airnetHolds", inPlace := ["slices.overlaps[skylantern/link.message]"], unfollowed := true, recurses := true, apart := false, narrowed := true }
def AirnetHoldsUptoSaid : Prop := airnetHoldsUptoRow.holds Tryz.pinned (OpenSpec.upto airnetHoldsSpec)

end Rows
end Go.Proofs.YtdocdgcdldpagaaGreat

/-
  No cell of these rows narrows 'for every input' (looked for: loops, veiled, ifaces, maps, wideKeys, modest, calm, conditions, laid).
  DERIVED. THE GIVEN ROWS OF THIS SEAT. 6 by the template 'for every input the law returns true; each argument reads behind the call as it read before'; 0 by the template 'total and deterministic' (their statements: YtjidchaejicjaaaTotals.lean).
  GIVEN WITH THE SEED: the statements are not yours to turn. If you find one false, say at which input.
  Laid BY PROGRAM, IN A SANDBOX (cutbox-rows.mjs): the forced cells as the released guide's own fill.sh prints them over the translation b592fa96e32630ef… (all of the seat's roots in one cut). By AI agents, Wed Nov 11 2026. No macro, syntax, notation, axiom, sorry.
-/
import Derived.Test.YtjidchaejicjaaaChecked
import GoSem.Claim
import GoSem.ClaimJoined
import GoSem.ClaimMapViews
import Derived.JoinedTies
import Derived.KernelRfl
namespace Go.Proofs.Ytjidchaejicjaaa
/- THE CELL 'sum', in the pinned program and in every row, IS THE sha256 OF THE DUMP (.gsa) THAT YtjidchaejicjaaaProg.lean LOADS. Nothing in Lean hashes anything: it is a label: what it is worth is what the hold of that sum in a sandbox is worth. -/
noncomputable def Try.pinned : Pinned := { name := "ytjidchaejicjaaa", sum := "b592fa96e32630ef5f7be5512604d4646798cab48140a12f767913999d6756c1", checked := Try.checked }
namespace Rows
def none {H : Type} : Left H := { results := [], args := [] }

/-- 'skylanternlaw37.PilotHolds': WHATEVER THE INPUT: true; the input reads as it did. -/
def pilotHoldsSpec : ChangeSpec := { name := "pilotHolds", fn := fun _ => fun
  | [d1, d2, d3] => { results := [.lit (.bool true)], args := [d1, d2, d3] }
  | _ => none }
def pilotHoldsRow : OpenClaim := { program := "ytjidchaejicjaaa", sum := "b592fa96e32630ef5f7be5512604d4646798cab48140a12f767913999d6756c1", func := "skylantern/skylanternlaw37.PilotHolds", spec := "pilotHolds", unfollowed := true, recurses := true, apart := false }
def PilotHoldsSaid : Prop := pilotHoldsRow.holds Try.pinned (OpenSpec.ofChange pilotHoldsSpec)

/-- ITS FALSE NEIGHBOUR: 'it returns false'. Refute it at one input. -/
def pilotHoldsWrong : ChangeSpec := { name := "pilotHolds", fn := fun _ => fun
  | [d1, d2, d3] => { results := [.lit (.bool false)], args := [d1, d2, d3] }
  | _ => none }
def PilotHoldsWrongFalsely : Prop := pilotHoldsRow.holds Try.pinned (OpenSpec.ofChange pilotHoldsWrong)

/-- 'skylanternlaw37.PilotValids': WHATEVER THE INPUT: true; the input reads as it did. -/
def pilotValidsSpec : ChangeSpec := { name := "pilotValids", fn := fun _ => fun
  | [d1, d2, d3] => { results := [.lit (.bool true)], args := [d1, d2, d3] }
  | _ => none }
def pilotValidsRow : OpenClaim := { program := "ytjidchaejicjaaa", sum := "b592fa96e32630ef5f7be5512604d4646798cab48140a12f767913999d6756c1", func := "skylantern/skylanternlaw37.PilotValids", spec := "pilotValids", unfollowed := true, recurses := true, apart := false }
def PilotValidsSaid : Prop := pilotValidsRow.holds Try.pinned (OpenSpec.ofChange pilotValidsSpec)

/-- ITS FALSE NEIGHBOUR: 'it returns false'. Refute it at one input. -/
def pilotValidsWrong : ChangeSpec := { name := "pilotValids", fn := fun _ => fun
  | [d1, d2, d3] => { results := [.lit (.bool false)], args := [d1, d2, d3] }
  | _ => none }
def PilotValidsWrongFalsely : Prop := pilotValidsRow.holds Try.pinned (OpenSpec.ofChange pilotValidsWrong)

/-- 'skylanternlaw37.PilotActs': WHATEVER THE INPUT: true; the input reads as it did. -/
def pilotActsSpec : ChangeSpec := { name := "pilotActs", fn := fun _ => fun
  | [d1, d2, d3, d4] => { results := [.lit (.bool true)], args := [d1, d2, d3, d4] }
  | _ => none }
def pilotActsRow : OpenClaim := { program := "ytjidchaejicjaaa", sum := "b592fa96e32630ef5f7be5512604d4646798cab48140a12f767913999d6756c1", func := "skylantern/skylanternlaw37.PilotActs", spec := "pilotActs", unfollowed := true, recurses := true, apart := false }
def PilotActsSaid : Prop := pilotActsRow.holds Try.pinned (OpenSpec.ofChange pilotActsSpec)

/-- ITS FALSE NEIGHBOUR: 'it returns false'. Refute it at one input. -/
def pilotActsWrong : ChangeSpec := { name := "pilotActs", fn := fun _ => fun
  | [d1, d2, d3, d4] => { results := [.lit (.bool false)], args := [d1, d2, d3, d4] }
  | _ => none }
def PilotActsWrongFalsely : Prop := pilotActsRow.holds Try.pinned (OpenSpec.ofChange pilotActsWrong)

/-- 'skylanternlaw37.PilotNexts': WHATEVER THE INPUT: true; the input reads as it did. -/
def pilotNextsSpec : ChangeSpec := { name := "pilotNexts", fn := fun _ => fun
  | [d1, d2, d3, d4] => { results := [.lit (.bool true)], args := [d1, d2, d3, d4] }
  | _ => none }
def pilotNextsRow : OpenClaim := { program := "ytjidchaejicjaaa", sum := "b592fa96e32630ef5f7be5512604d4646798cab48140a12f767913999d6756c1", func := "skylantern/skylanternlaw37.PilotNexts", spec := "pilotNexts", unfollowed := true, recurses := true, apart := false }
def PilotNextsSaid : Prop := pilotNextsRow.holds Try.pinned (OpenSpec.ofChange pilotNextsSpec)

/-- ITS FALSE NEIGHBOUR: 'it returns false'. Refute it at one input. -/
def pilotNextsWrong : ChangeSpec := { name := "pilotNexts", fn := fun _ => fun
  | [d1, d2, d3, d4] => { results := [.lit (.bool false)], args := [d1, d2, d3, d4] }
  | _ => none }
def PilotNextsWrongFalsely : Prop := pilotNextsRow.holds Try.pinned (OpenSpec.ofChange pilotNextsWrong)

/-- 'skylanternlaw37.PilotCopies': WHATEVER THE INPUT: true; the input reads as it did. -/
def pilotCopiesSpec : ChangeSpec := { name := "pilotCopies", fn := fun _ => fun
  | [d1, d2, d3, d4] => { results := [.lit (.bool true)], args := [d1, d2, d3, d4] }
  | _ => none }
def pilotCopiesRow : OpenClaim := { program := "ytjidchaejicjaaa", sum := "b592fa96e32630ef5f7be5512604d4646798cab48140a12f767913999d6756c1", func := "skylantern/skylanternlaw37.PilotCopies", spec := "pilotCopies", unfollowed := true, recurses := true, apart := false }
def PilotCopiesSaid : Prop := pilotCopiesRow.holds Try.pinned (OpenSpec.ofChange pilotCopiesSpec)

/-- ITS FALSE NEIGHBOUR: 'it returns false'. Refute it at one input. -/
def pilotCopiesWrong : ChangeSpec := { name := "pilotCopies", fn := fun _ => fun
  | [d1, d2, d3, d4] => { results := [.lit (.bool false)], args := [d1, d2, d3, d4] }
  | _ => none }
def PilotCopiesWrongFalsely : Prop := pilotCopiesRow.holds Try.pinned (OpenSpec.ofChange pilotCopiesWrong)

/-- 'skylanternlaw37.PilotLosts': WHATEVER THE INPUT: true; the input reads as it did. -/
def pilotLostsSpec : ChangeSpec := { name := "pilotLosts", fn := fun _ => fun
  | [d1, d2] => { results := [.lit (.bool true)], args := [d1, d2] }
  | _ => none }
def pilotLostsRow : OpenClaim := { program := "ytjidchaejicjaaa", sum := "b592fa96e32630ef5f7be5512604d4646798cab48140a12f767913999d6756c1", func := "skylantern/skylanternlaw37.PilotLosts", spec := "pilotLosts", unfollowed := true, recurses := true, apart := false }
def PilotLostsSaid : Prop := pilotLostsRow.holds Try.pinned (OpenSpec.ofChange pilotLostsSpec)

/-- ITS FALSE NEIGHBOUR: 'it returns false'. Refute it at one input. -/
def pilotLostsWrong : ChangeSpec := { name := "pilotLosts", fn := fun _ => fun
  | [d1, d2] => { results := [.lit (.bool false)], args := [d1, d2] }
  | _ => none }
def PilotLostsWrongFalsely : Prop := pilotLostsRow.holds Try.pinned (OpenSpec.ofChange pilotLostsWrong)

/- THE SECOND FORM. 'bulk': how many values and letters a reading holds, each counted each time it is reached (what is shared counts as often as it is met; a slice's spare places count too). A statement '..UptoSaid' is the law's where the arguments, and the package variables that the reading takes, are together of bulk at most 1048576: NARROWER than '..Said'. Prove '..Said' where nothing that the law and all that it calls make is longer than what came in: it says more and counts as full. Else prove '..UptoSaid'. A law counts once. -/
mutual
def uptoBulk {H : Type} : DataW H → Nat
  | .lit (.string bytes) => bytes.length + 1
  | .lit _ => 1
  | .nil => 1
  | .ptr d => uptoBulk d + 1
  | .slice elems spare => uptoBulkAll elems + uptoBulkAll spare + 1
  | .agg parts => uptoBulkAll parts + 1
  | .iface _ d => uptoBulk d + 1
  | .map entries => uptoBulkEntries entries + 1
  | .held _ => 1
def uptoBulkAll {H : Type} : List (DataW H) → Nat
  | [] => 0
  | d :: r => uptoBulk d + uptoBulkAll r
def uptoBulkEntries {H : Type} : List (Lit × DataW H) → Nat
  | [] => 0
  | x :: r => uptoBulkEntry x + uptoBulkEntries r
def uptoBulkEntry {H : Type} : Lit × DataW H → Nat
  | (.string bytes, d) => bytes.length + uptoBulk d + 1
  | (_, d) => uptoBulk d + 1
 end
def uptoSmall : (H : Type) → List (DataW H) → Bool := fun _ ds => decide (uptoBulkAll ds ≤ 1048576)
def OpenSpec.upto (s : _root_.Go.ChangeSpec) : _root_.Go.OpenSpec := { _root_.Go.OpenSpec.ofChange s with cond := some uptoSmall }

/-- 'skylanternlaw37.PilotHolds', WHERE WHAT IT READS IS OF BULK AT MOST 1048576: true; the input reads as it did. -/
def pilotHoldsUptoRow : OpenClaim := { program := "ytjidchaejicjaaa", sum := "b592fa96e32630ef5f7be5512604d4646798cab48140a12f767913999d6756c1", func := "skylantern/skylanternlaw37.PilotHolds", spec := "pilotHolds", unfollowed := true, recurses := true, apart := false, narrowed := true }
def PilotHoldsUptoSaid : Prop := pilotHoldsUptoRow.holds Try.pinned (OpenSpec.upto pilotHoldsSpec)

/-- 'skylanternlaw37.PilotValids', WHERE WHAT IT READS IS OF BULK AT MOST 1048576: true; the input reads as it did. -/
def pilotValidsUptoRow : OpenClaim := { program := "ytjidchaejicjaaa", sum := "b592fa96e32630ef5f7be5512604d4646798cab48140a12f767913999d6756c1", func := "skylantern/skylanternlaw37.PilotValids", spec := "pilotValids", unfollowed := true, recurses := true, apart := false, narrowed := true }
def PilotValidsUptoSaid : Prop := pilotValidsUptoRow.holds Try.pinned (OpenSpec.upto pilotValidsSpec)

/-- 'skylanternlaw37.PilotActs', WHERE WHAT IT READS IS OF BULK AT MOST 1048576: true; the input reads as it did. -/
def pilotActsUptoRow : OpenClaim := { program := "ytjidchaejicjaaa", sum := "b592fa96e32630ef5f7be5512604d4646798cab48140a12f767913999d6756c1", func := "skylantern/skylanternlaw37.PilotActs", spec := "pilotActs", unfollowed := true, recurses := true, apart := false, narrowed := true }
def PilotActsUptoSaid : Prop := pilotActsUptoRow.holds Try.pinned (OpenSpec.upto pilotActsSpec)

/-- 'skylanternlaw37.PilotNexts', WHERE WHAT IT READS IS OF BULK AT MOST 1048576: true; the input reads as it did. -/
def pilotNextsUptoRow : OpenClaim := { program := "ytjidchaejicjaaa", sum := "b592fa96e32630ef5f7be5512604d4646798cab48140a12f767913999d6756c1", func := "skylantern/skylanternlaw37.PilotNexts", spec := "pilotNexts", unfollowed := true, recurses := true, apart := false, narrowed := true }
def PilotNextsUptoSaid : Prop := pilotNextsUptoRow.holds Try.pinned (OpenSpec.upto pilotNextsSpec)

/-- 'skylanternlaw37.PilotCopies', WHERE WHAT IT READS IS OF BULK AT MOST 1048576: true; the input reads as it did. -/
def pilotCopiesUptoRow : OpenClaim := { program := "ytjidchaejicjaaa", sum := "b592fa96e32630ef5f7be5512604d4646798cab48140a12f767913999d6756c1", func := "skylantern/skylanternlaw37.PilotCopies", spec := "pilotCopies", unfollowed := true, recurses := true, apart := false, narrowed := true }
def PilotCopiesUptoSaid : Prop := pilotCopiesUptoRow.holds Try.pinned (OpenSpec.upto pilotCopiesSpec)

/-- 'skylanternlaw37.PilotLosts', WHERE WHAT IT READS IS OF BULK AT MOST 1048576: true; the input reads as it did. -/
def pilotLostsUptoRow : OpenClaim := { program := "ytjidchaejicjaaa", sum := "b592fa96e32630ef5f7be5512604d4646798cab48140a12f767913999d6756c1", func := "skylantern/skylanternlaw37.PilotLosts", spec := "pilotLosts", unfollowed := true, recurses := true, apart := false, narrowed := true }
def PilotLostsUptoSaid : Prop := pilotLostsUptoRow.holds Try.pinned (OpenSpec.upto pilotLostsSpec)

end Rows
end Go.Proofs.Ytjidchaejicjaaa

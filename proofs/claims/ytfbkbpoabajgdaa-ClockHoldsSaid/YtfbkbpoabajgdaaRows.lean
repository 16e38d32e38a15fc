/-
  No cell of these rows narrows 'for every input' (looked for: loops, veiled, ifaces, maps, wideKeys, modest, calm, conditions, laid).
  DERIVED. THE GIVEN ROWS OF THIS SEAT. 7 by the template 'for every input the law returns true; each argument reads behind the call as it read before'; 0 by the template 'total and deterministic' (their statements: YtfbkbpoabajgdaaTotals.lean).
  GIVEN WITH THE SEED: the statements are not yours to turn. If you find one false, say at which input.
  Laid BY PROGRAM, IN A SANDBOX (cutbox-rows.mjs): the forced cells as the released guide's own fill.sh prints them over the translation b661197dd8ede142… (all of the seat's roots in one cut). By AI agents, Wed Nov 11 2026. No macro, syntax, notation, axiom, sorry.
-/
import Derived.Test.YtfbkbpoabajgdaaChecked
import GoSem.Claim
import GoSem.ClaimJoined
import GoSem.ClaimMapViews
import Derived.JoinedTies
import Derived.KernelRfl
namespace Go.Proofs.Ytfbkbpoabajgdaa
/- THE CELL 'sum', in the pinned program and in every row, IS THE sha256 OF THE DUMP (.gsa) THAT YtfbkbpoabajgdaaProg.lean LOADS. Nothing in Lean hashes anything: it is a label: what it is worth is what the hold of that sum in a sandbox is worth. -/
noncomputable def Try.pinned : Pinned := { name := "ytfbkbpoabajgdaa", sum := "b661197dd8ede1426916b93bcfb8a358320e3c5ed7d247138a659fe694f89028", checked := Try.checked }
namespace Rows
def none {H : Type} : Left H := { results := [], args := [] }

/-- 'skylanternlaw33.ClockLocals': WHATEVER THE INPUT: true; the input reads as it did. -/
def clockLocalsSpec : ChangeSpec := { name := "clockLocals", fn := fun _ => fun
  | [d1, d2, d3] => { results := [.lit (.bool true)], args := [d1, d2, d3] }
  | _ => none }
def clockLocalsRow : OpenClaim := { program := "ytfbkbpoabajgdaa", sum := "b661197dd8ede1426916b93bcfb8a358320e3c5ed7d247138a659fe694f89028", func := "skylantern/skylanternlaw33.ClockLocals", spec := "clockLocals", unfollowed := true, recurses := true, apart := false }
def ClockLocalsSaid : Prop := clockLocalsRow.holds Try.pinned (OpenSpec.ofChange clockLocalsSpec)

/-- ITS FALSE NEIGHBOUR: 'it returns false'. Refute it at one input. -/
def clockLocalsWrong : ChangeSpec := { name := "clockLocals", fn := fun _ => fun
  | [d1, d2, d3] => { results := [.lit (.bool false)], args := [d1, d2, d3] }
  | _ => none }
def ClockLocalsWrongFalsely : Prop := clockLocalsRow.holds Try.pinned (OpenSpec.ofChange clockLocalsWrong)

/-- 'skylanternlaw33.ClockGrows': WHATEVER THE INPUT: true; the input reads as it did. -/
def clockGrowsSpec : ChangeSpec := { name := "clockGrows", fn := fun _ => fun
  | [d1, d2, d3] => { results := [.lit (.bool true)], args := [d1, d2, d3] }
  | _ => none }
def clockGrowsRow : OpenClaim := { program := "ytfbkbpoabajgdaa", sum := "b661197dd8ede1426916b93bcfb8a358320e3c5ed7d247138a659fe694f89028", func := "skylantern/skylanternlaw33.ClockGrows", spec := "clockGrows", unfollowed := true, recurses := true, apart := false }
def ClockGrowsSaid : Prop := clockGrowsRow.holds Try.pinned (OpenSpec.ofChange clockGrowsSpec)

/-- ITS FALSE NEIGHBOUR: 'it returns false'. Refute it at one input. -/
def clockGrowsWrong : ChangeSpec := { name := "clockGrows", fn := fun _ => fun
  | [d1, d2, d3] => { results := [.lit (.bool false)], args := [d1, d2, d3] }
  | _ => none }
def ClockGrowsWrongFalsely : Prop := clockGrowsRow.holds Try.pinned (OpenSpec.ofChange clockGrowsWrong)

/-- 'skylanternlaw33.ClockMeets': WHATEVER THE INPUT: true; the input reads as it did. -/
def clockMeetsSpec : ChangeSpec := { name := "clockMeets", fn := fun _ => fun
  | [d1, d2] => { results := [.lit (.bool true)], args := [d1, d2] }
  | _ => none }
def clockMeetsRow : OpenClaim := { program := "ytfbkbpoabajgdaa", sum := "b661197dd8ede1426916b93bcfb8a358320e3c5ed7d247138a659fe694f89028", func := "skylantern/skylanternlaw33.ClockMeets", spec := "clockMeets", unfollowed := true, recurses := true, apart := false }
def ClockMeetsSaid : Prop := clockMeetsRow.holds Try.pinned (OpenSpec.ofChange clockMeetsSpec)

/-- ITS FALSE NEIGHBOUR: 'it returns false'. Refute it at one input. -/
def clockMeetsWrong : ChangeSpec := { name := "clockMeets", fn := fun _ => fun
  | [d1, d2] => { results := [.lit (.bool false)], args := [d1, d2] }
  | _ => none }
def ClockMeetsWrongFalsely : Prop := clockMeetsRow.holds Try.pinned (OpenSpec.ofChange clockMeetsWrong)

/-- 'skylanternlaw33.ClockAdds': WHATEVER THE INPUT: true; the input reads as it did. -/
def clockAddsSpec : ChangeSpec := { name := "clockAdds", fn := fun _ => fun
  | [d1, d2, d3] => { results := [.lit (.bool true)], args := [d1, d2, d3] }
  | _ => none }
def clockAddsRow : OpenClaim := { program := "ytfbkbpoabajgdaa", sum := "b661197dd8ede1426916b93bcfb8a358320e3c5ed7d247138a659fe694f89028", func := "skylantern/skylanternlaw33.ClockAdds", spec := "clockAdds", unfollowed := true, recurses := true, apart := false }
def ClockAddsSaid : Prop := clockAddsRow.holds Try.pinned (OpenSpec.ofChange clockAddsSpec)

/-- ITS FALSE NEIGHBOUR: 'it returns false'. Refute it at one input. -/
def clockAddsWrong : ChangeSpec := { name := "clockAdds", fn := fun _ => fun
  | [d1, d2, d3] => { results := [.lit (.bool false)], args := [d1, d2, d3] }
  | _ => none }
def ClockAddsWrongFalsely : Prop := clockAddsRow.holds Try.pinned (OpenSpec.ofChange clockAddsWrong)

/-- 'skylanternlaw33.ClockSures': WHATEVER THE INPUT: true; the input reads as it did. -/
def clockSuresSpec : ChangeSpec := { name := "clockSures", fn := fun _ => fun
  | [d1, d2, d3] => { results := [.lit (.bool true)], args := [d1, d2, d3] }
  | _ => none }
def clockSuresRow : OpenClaim := { program := "ytfbkbpoabajgdaa", sum := "b661197dd8ede1426916b93bcfb8a358320e3c5ed7d247138a659fe694f89028", func := "skylantern/skylanternlaw33.ClockSures", spec := "clockSures", unfollowed := true, recurses := true, apart := false }
def ClockSuresSaid : Prop := clockSuresRow.holds Try.pinned (OpenSpec.ofChange clockSuresSpec)

/-- ITS FALSE NEIGHBOUR: 'it returns false'. Refute it at one input. -/
def clockSuresWrong : ChangeSpec := { name := "clockSures", fn := fun _ => fun
  | [d1, d2, d3] => { results := [.lit (.bool false)], args := [d1, d2, d3] }
  | _ => none }
def ClockSuresWrongFalsely : Prop := clockSuresRow.holds Try.pinned (OpenSpec.ofChange clockSuresWrong)

/-- 'skylanternlaw33.ClockCopies': WHATEVER THE INPUT: true; the input reads as it did. -/
def clockCopiesSpec : ChangeSpec := { name := "clockCopies", fn := fun _ => fun
  | [d1, d2, d3, d4] => { results := [.lit (.bool true)], args := [d1, d2, d3, d4] }
  | _ => none }
def clockCopiesRow : OpenClaim := { program := "ytfbkbpoabajgdaa", sum := "b661197dd8ede1426916b93bcfb8a358320e3c5ed7d247138a659fe694f89028", func := "skylantern/skylanternlaw33.ClockCopies", spec := "clockCopies", unfollowed := true, recurses := true, apart := false }
def ClockCopiesSaid : Prop := clockCopiesRow.holds Try.pinned (OpenSpec.ofChange clockCopiesSpec)

/-- ITS FALSE NEIGHBOUR: 'it returns false'. Refute it at one input. -/
def clockCopiesWrong : ChangeSpec := { name := "clockCopies", fn := fun _ => fun
  | [d1, d2, d3, d4] => { results := [.lit (.bool false)], args := [d1, d2, d3, d4] }
  | _ => none }
def ClockCopiesWrongFalsely : Prop := clockCopiesRow.holds Try.pinned (OpenSpec.ofChange clockCopiesWrong)

/-- 'skylanternlaw33.ClockHolds': WHATEVER THE INPUT: true; the input reads as it did. -/
def clockHoldsSpec : ChangeSpec := { name := "clockHolds", fn := fun _ => fun
  | [d1, d2, d3, d4, d5, d6] => { results := [.lit (.bool true)], args := [d1, d2, d3, d4, d5, d6] }
  | _ => none }
def clockHoldsRow : OpenClaim := { program := "ytfbkbpoabajgdaa", sum := "b661197dd8ede1426916b93bcfb8a358320e3c5ed7d247138a659fe694f89028", func := "skylantern/skylanternlaw33.ClockHolds", spec := "clockHolds", unfollowed := true, recurses := true, apart := false }
def ClockHoldsSaid : Prop := clockHoldsRow.holds Try.pinned (OpenSpec.ofChange clockHoldsSpec)

/-- ITS FALSE NEIGHBOUR: 'it returns false'. Refute it at one input. -/
def clockHoldsWrong : ChangeSpec := { name := "clockHolds", fn := fun _ => fun
  | [d1, d2, d3, d4, d5, d6] => { results := [.lit (.bool false)], args := [d1, d2, d3, d4, d5, d6] }
  | _ => none }
def ClockHoldsWrongFalsely : Prop := clockHoldsRow.holds Try.pinned (OpenSpec.ofChange clockHoldsWrong)

/- THE SECOND FORM. 'bulk': how many values and letters a reading holds, each counted each time it is reached (what is shared counts as often as it is met; a slice's spare places count too). A statement '..UptoSaid' is the law's where the arguments, and the package variables that the reading takes, are together of bulk at most 1048576: NARROWER than '..Said'. Prove '..Said' where nothing that the law and all that it calls make is longer than what came in: it says more and counts as full. Else prove '..UptoSaid'. A law counts once. -/
mutual
def uptoBulk {H : Type} : DataW H → Nat
  | .lit (.string bytes) => bytes.length + 1
  | .lit _ => 1
  | .nil => 1
  | .ptr d => uptoBulk d + 1
  | .slice elems spare => uptoBulkAll elems + uptoBulkAll spare + 1
  | .agg parts => uptoBulkAll parts + 1
  | .iface _ d => uptoBulk d + 1
  | .map entries => uptoBulkEntries entries + 1
  | .held _ => 1
def uptoBulkAll {H : Type} : List (DataW H) → Nat
  | [] => 0
  | d :: r => uptoBulk d + uptoBulkAll r
def uptoBulkEntries {H : Type} : List (Lit × DataW H) → Nat
  | [] => 0
  | x :: r => uptoBulkEntry x + uptoBulkEntries r
def uptoBulkEntry {H : Type} : Lit × DataW H → Nat
  | (.string bytes, d) => bytes.length + uptoBulk d + 1
  | (_, d) => uptoBulk d + 1
 end
def uptoSmall : (H : Type) → List (DataW H) → Bool := fun _ ds => decide (uptoBulkAll ds ≤ 1048576)
def OpenSpec.upto (s : _root_.Go.ChangeSpec) : _root_.Go.OpenSpec := { _root_.Go.OpenSpec.ofChange s with cond := some uptoSmall }

/-- 'skylanternlaw33.ClockLocals', WHERE WHAT IT READS IS OF BULK AT MOST 1048576: true; the input reads as it did. -/
def clockLocalsUptoRow : OpenClaim := { program := "ytfbkbpoabajgdaa", sum := "b661197dd8ede1426916b93bcfb8a358320e3c5ed7d247138a659fe694f89028", func := "skylantern/skylanternlaw33.ClockLocals", spec := "clockLocals", unfollowed := true, recurses := true, apart := false, narrowed := true }
def ClockLocalsUptoSaid : Prop := clockLocalsUptoRow.holds Try.pinned (OpenSpec.upto clockLocalsSpec)

/-- 'skylanternlaw33.ClockGrows', WHERE WHAT IT READS IS OF BULK AT MOST 1048576: true; the input reads as it did. -/
def clockGrowsUptoRow : OpenClaim := { program := "ytfbkbpoabajgdaa", sum := "b661197dd8ede1426916b93bcfb8a358320e3c5ed7d247138a659fe694f89028", func := "skylantern/skylanternlaw33.ClockGrows", spec := "clockGrows", unfollowed := true, recurses := true, apart := false, narrowed := true }
def ClockGrowsUptoSaid : Prop := clockGrowsUptoRow.holds Try.pinned (OpenSpec.upto clockGrowsSpec)

/-- 'skylanternlaw33.ClockMeets', WHERE WHAT IT READS IS OF BULK AT MOST 1048576: true; the input reads as it did. -/
def clockMeetsUptoRow : OpenClaim := { program := "ytfbkbpoabajgdaa", sum := "b661197dd8ede1426916b93bcfb8a358320e3c5ed7d247138a659fe694f89028", func := "skylantern/skylanternlaw33.ClockMeets", spec := "clockMeets", unfollowed := true, recurses := true, apart := false, narrowed := true }
def ClockMeetsUptoSaid : Prop := clockMeetsUptoRow.holds Try.pinned (OpenSpec.upto clockMeetsSpec)

/-- 'skylanternlaw33.ClockAdds', WHERE WHAT IT READS IS OF BULK AT MOST 1048576: true; the input reads as it did. -/
def clockAddsUptoRow : OpenClaim := { program := "ytfbkbpoabajgdaa", sum := "b661197dd8ede1426916b93bcfb8a358320e3c5ed7d247138a659fe694f89028", func := "skylantern/skylanternlaw33.ClockAdds", spec := "clockAdds", unfollowed := true, recurses := true, apart := false, narrowed := true }
def ClockAddsUptoSaid : Prop := clockAddsUptoRow.holds Try.pinned (OpenSpec.upto clockAddsSpec)

/-- 'skylanternlaw33.ClockSures', WHERE WHAT IT READS IS OF BULK AT MOST 1048576: true; the input reads as it did. -/
def clockSuresUptoRow : OpenClaim := { program := "ytfbkbpoabajgdaa", sum := "b661197dd8ede1426916b93bcfb8a358320e3c5ed7d247138a659fe694f89028", func := "skylantern/skylanternlaw33.ClockSures", spec := "clockSures", unfollowed := true, recurses := true, apart := false, narrowed := true }
def ClockSuresUptoSaid : Prop := clockSuresUptoRow.holds Try.pinned (OpenSpec.upto clockSuresSpec)

/-- 'skylanternlaw33.ClockCopies', WHERE WHAT IT READS IS OF BULK AT MOST 1048576: true; the input reads as it did. -/
def clockCopiesUptoRow : OpenClaim := { program := "ytfbkbpoabajgdaa", sum := "b661197dd8ede1426916b93bcfb8a358320e3c5ed7d247138a659fe694f89028", func := "skylantern/skylanternlaw33.ClockCopies", spec := "clockCopies", unfollowed := true, recurses := true, apart := false, narrowed := true }
def ClockCopiesUptoSaid : Prop := clockCopiesUptoRow.holds Try.pinned (OpenSpec.upto clockCopiesSpec)

/-- 'skylanternlaw33.ClockHolds', WHERE WHAT IT READS IS OF BULK AT MOST 1048576: true; the input reads as it did. -/
def clockHoldsUptoRow : OpenClaim := { program := "ytfbkbpoabajgdaa", sum := "b661197dd8ede1426916b93bcfb8a358320e3c5ed7d247138a659fe694f89028", func := "skylantern/skylanternlaw33.ClockHolds", spec := "clockHolds", unfollowed := true, recurses := true, apart := false, narrowed := true }
def ClockHoldsUptoSaid : Prop := clockHoldsUptoRow.holds Try.pinned (OpenSpec.upto clockHoldsSpec)

end Rows
end Go.Proofs.Ytfbkbpoabajgdaa

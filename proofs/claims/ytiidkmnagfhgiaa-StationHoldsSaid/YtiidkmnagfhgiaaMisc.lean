/- start, slices.Equal and slices.Clone on bytes. -/
import Derived.Test.YtiidkmnagfhgiaaSame
import Derived.Test.YtiidkmnagfhgiaaApp
namespace Go.Proofs.Ytiidkmnagfhgiaa
open Go.RowKit
set_option maxHeartbeats 4000000
set_option linter.unusedSimpArgs false
set_option linter.unusedVariables false
theorem info_u8 : (Try.prog.info? 5).map (fun i => (i.zero, i.size, i.bytes)) = some (some (.int .u8 0), 1, 1) := by kernel_rfl
theorem getD_eq {l k : List Int} (h : l.length = k.length) (hh : ∀ i, i < l.length → l.getD i 0 = k.getD i 0) : l = k := by
  apply List.ext_getElem h
  intro i h1 h2
  have := hh i h1
  simpa [List.getD, List.getElem?_eq_getElem h1, List.getElem?_eq_getElem h2] using this
end Go.Proofs.Ytiidkmnagfhgiaa

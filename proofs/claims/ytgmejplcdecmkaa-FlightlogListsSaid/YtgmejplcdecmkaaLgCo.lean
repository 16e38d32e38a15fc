/- Two logs and their references that go their own ways. -/
import Derived.Test.YtgmejplcdecmkaaLgMh
namespace Go.Proofs.Ytgmejplcdecmkaa
open Go.RowKit
set_option maxHeartbeats 4000000
set_option maxRecDepth 100000
set_option linter.unusedSimpArgs false
set_option linter.unusedVariables false
namespace Lg
structure Pr2 (w : World) (base p : Nat) (A : Option Addr) (c : Nat) (vs : List RV) (X : Nat → Prop) (A2 : Option Addr) (us : List RV) (XJ : Nat → Prop) (p' : Nat) (A' : Option Addr) (c' : Nat) (vs' : List RV) (X' : Nat → Prop) (A2' : Option Addr) (us' : List RV) (XJ' : Nat → Prop) : Prop where
  x : LJ w base p A c vs X A2 us XJ
  y : LJ w base p' A' c' vs' X' A2' us' XJ'
  d : ∀ i, Two p A i → ¬ Two p' A' i
  e : ∀ i, XJ i → ¬ Two p' A' i
  f : ∀ i, XJ' i → ¬ Two p A i
section
variable {w w' : World} {base p c p' c' cn : Nat} {A A' A2 A2' An A2n : Option Addr} {vs vs' us us' vsn usn : List RV} {X X' XJ XJ' Xn XJn : Nat → Prop}
theorem Pr2.symm (h : Pr2 w base p A c vs X A2 us XJ p' A' c' vs' X' A2' us' XJ') : Pr2 w base p' A' c' vs' X' A2' us' XJ' p A c vs X A2 us XJ :=
  ⟨h.y, h.x, fun i h1 h2 => h.d i h2 h1, h.f, h.e⟩
theorem Pr2.below (h : Pr2 w base p A c vs X A2 us XJ p' A' c' vs' X' A2' us' XJ') (k : Below w.heap.size w w') : Pr2 w' base p A c vs X A2 us XJ p' A' c' vs' X' A2' us' XJ' :=
  ⟨h.x.below k, h.y.below k, h.d, h.e, h.f⟩
theorem Pr2.step (h : Pr2 w base p A c vs X A2 us XJ p' A' c' vs' X' A2' us' XJ') (g : LJ w' base p An cn vsn Xn A2n usn XJn) (k : Keeps (Two p A) w w') (hA : An = A ∨ ∃ g, blkOf An = some g ∧ w.heap.size ≤ g) (hJ : ∀ i, XJn i → XJ i ∨ w.heap.size ≤ i) :
    Pr2 w' base p An cn vsn Xn A2n usn XJn p' A' c' vs' X' A2' us' (fun i => XJ' i ∧ i < w.heap.size) := by
  have hp := h.x.lg.lt
  refine ⟨g, ⟨h.y.lg.kept k (fun i hi hh => h.d i hh hi) (fun i _ ht hh => h.x.lg.away ht (by decide) (by decide) hh), (h.y.j.mono (X' := fun i => XJ' i ∧ i < w.heap.size) (fun i hi hx => ⟨hx, hi⟩)).keep k (fun i hi => h.f i hi.1), fun i hi => h.y.dis i hi.1, h.y.eq, h.y.good⟩, fun i hi hh => ?_, fun i hi hh => ?_, fun i hi hh => ?_⟩
  · have hl := (h.y.lg.two_lt hh).2
    rcases hi with rfl | hi
    · exact h.d _ (.inl rfl) hh
    · rcases hA with rfl | ⟨g', e', hg⟩
      · exact h.d i (.inr hi) hh
      · rw [e'] at hi; injection hi with hi; omega
  · have hl := (h.y.lg.two_lt hh).2
    rcases hJ i hi with h1 | h1
    · exact h.e i h1 hh
    · omega
  · rcases hh with rfl | hh
    · exact h.f _ hi.1 (.inl rfl)
    · rcases hA with rfl | ⟨g', e', hg⟩
      · exact h.f i hi.1 (.inr hh)
      · rw [e'] at hh; injection hh with hh; have := hi.2; omega
theorem sameRs_comm (l m : List Rc) : sameRs l m = sameRs m l := by
  rw [Bool.eq_iff_iff, sameRs_iff, sameRs_iff]
  exact eq_comm
/-- a copy beside the log it was made of -/
theorem Pr2.copy (h : LJ w base p A c vs X A2 us XJ) (hbase : base ≤ w.heap.size) (k : Below w.heap.size w w') (g : IsLg w' w.heap.size p' A' c' vs X) : Pr2 w' base p A c vs X A2 us (fun i => XJ i ∧ i < w.heap.size) p' A' c' vs X A2 us (fun i => XJ i ∧ i < w.heap.size) := by
  have hj := (h.j.mono (X' := fun i => XJ i ∧ i < w.heap.size) (fun i hi hx => ⟨hx, hi⟩)).below k
  refine ⟨⟨h.lg.below k, hj, fun i hi => h.dis i hi.1, h.eq, h.good⟩, ⟨⟨g.blk, g.row.more hbase, g.dat, Nat.le_trans hbase g.ge⟩, hj, fun i hi hh => ?_, h.eq, h.good⟩, fun i hi hh => ?_, fun i hi hh => ?_, fun i hi => h.dis i hi.1⟩
  · have := (g.two_lt hh).1; have := hi.2; omega
  · have h1 := (g.two_lt hh).1
    have h2 := (h.lg.two_lt hi).2
    omega
  · have := (g.two_lt hh).1; have := hi.2; omega
end
end Lg
end Go.Proofs.Ytgmejplcdecmkaa

/- Slices of bytes: what a walk is told of them. -/
import Derived.Test.YtgmejplcdecmkaaRows
import Derived.WalkKit
import Derived.WalkSpells
import Derived.WalkLawsBesides
import Derived.Deep.QuietTactic
import Derived.BigQuiet
import Derived.BigRegion
import Derived.Lib.Hide
import Derived.IntWalk
import Derived.KernelRfl
import Derived.LoopTactic
import Derived.OwnWalk
import Derived.Laws.OwnMore
import Derived.Below
import Derived.Outline
import Derived.Deep.RegionHeld3
import Derived.Deep.RegionLaw
import Derived.Deep.DeepCutAuto
import Derived.Deep.LoopGhost
namespace Go.Proofs.Ytgmejplcdecmkaa
open Go.RowKit
set_option maxHeartbeats 4000000
set_option linter.unusedSimpArgs false
set_option linter.unusedVariables false
theorem ret_bool {a b : Bool} (h : a = b) : Ending.returned (.bool a) = .returned (.bool b) := by rw [h]
theorem ret_int {k : IntKind} {a b : Int} (h : a = b) : Ending.returned (.int k a) = .returned (.int k b) := by rw [h]
theorem ret_ii {k j : IntKind} {a b c d : Int} (h : a = b) (g : c = d) : Ending.returned (.tuple #[.int k a, .int j c]) = .returned (.tuple #[.int k b, .int j d]) := by rw [h, g]
theorem bcell {W w1 : World} (hb : Below W.heap.size W w1) : (∀ b o, b < W.heap.size → w1.cell? ⟨b, o, none⟩ = W.cell? ⟨b, o, none⟩) ∧ (∀ b o, b < W.heap.size → w1.frozen? ⟨b, o, none⟩ = W.frozen? ⟨b, o, none⟩) :=
  ⟨fun b o h => hb.cell (p := ⟨b, o, none⟩) h, fun b o h => hb.frozen (p := ⟨b, o, none⟩) h⟩
theorem heap_new (w : World) (o : Obj) : (w.alloc o).heap[w.heap.size]? = some o := by show (w.heap.push o)[w.heap.size]? = _; simp
theorem heap_new' (w : World) (o : Obj) (q : Nat) (hq : q = w.heap.size) : (w.alloc o).heap[q]? = some o := by subst hq; exact heap_new w o
theorem blk_cell {w : World} {q : Nat} {l : List Value} {t : TypeId} (h : w.heap[q]? = some (.cells l.toArray t (0, 0))) (i : Nat) {v : Value} (hv : l[i]? = some v) : w.cell? ⟨q, i, none⟩ = some v := by simp [World.cell?, h, hv]
theorem blk_free {w : World} {q : Nat} {cs : Array Value} {t : TypeId} (h : w.heap[q]? = some (.cells cs t (0, 0))) (i : Nat) : w.frozen? ⟨q, i, none⟩ = false := by simp [World.frozen?, h]
theorem blk_alloc {w : World} {q : Nat} {x : Obj} (h : w.heap[q]? = some x) (o : Obj) : (w.alloc o).heap[q]? = some x := (Below.heap_alloc w o q (lt_of_block h)).trans h
theorem blk_drew {w : World} {q : Nat} {x : Obj} (h : w.heap[q]? = some x) : w.drew.heap[q]? = some x := h
theorem blk_drewN {w : World} {q : Nat} {x : Obj} (h : w.heap[q]? = some x) (n : Nat) : (w.drewN n).heap[q]? = some x := h
theorem blk_far {w : World} {q : Nat} {x : Obj} (h : w.heap[q]? = some x) {a : Addr} (ha : q ≠ a.block) (u : Value) : (w.setCell a u).heap[q]? = some x := (Below.heap_setCell w a u q ha).trans h
theorem blk_set {w : World} {q : Nat} {cs : Array Value} {t : TypeId} (h : w.heap[q]? = some (.cells cs t (0, 0))) (i : Nat) (u : Value) : (w.setCell ⟨q, i, none⟩ u).heap[q]? = some (.cells (cs.setIfInBounds i u) t (0, 0)) := by
  have hlt := lt_of_block h
  have h' : w.heap[q] = .cells cs t (0, 0) := by simpa [Array.getElem?_eq_getElem hlt] using h
  show (w.heap.modify q _)[q]? = _
  rw [Array.getElem?_eq_getElem (by simpa using hlt), Array.getElem_modify_self, h']
  rfl
theorem blk_below {B : Nat} {w w' : World} {q : Nat} {x : Obj} (h : w.heap[q]? = some x) (k : Below B w w') (hq : q < B) : w'.heap[q]? = some x := (k.block q hq).trans h
theorem blk_only {W w' : World} {q : Nat} {row : Option Nat} {x : Obj} (h : W.heap[q]? = some x) (hg : W.grownBy w' row) (hne : some q ≠ row) : w'.heap[q]? = some x := (hg.block q (lt_of_block h) hne).trans h
theorem below_drewN {B : Nat} {a w : World} (h : Below B a w) (n : Nat) : Below B a (w.drewN n) := ⟨h.os, h.tape, h.output, h.size, h.block⟩
theorem only_drew {a w : World} {row : Option Nat} (h : a.grownBy w row) : a.grownBy w.drew row := ⟨h.os, h.tape, h.output, h.size, h.block⟩
theorem only_drewN {a w : World} {row : Option Nat} (h : a.grownBy w row) (n : Nat) : a.grownBy (w.drewN n) row := ⟨h.os, h.tape, h.output, h.size, h.block⟩
theorem only_of_below {a w : World} (h : Below a.heap.size a w) (row : Option Nat) : a.grownBy w row := ⟨h.os, h.tape, h.output, h.size, fun i hi _ => h.block i hi⟩
/-- bytes -/
def By (l : List Int) : Prop := ∀ x ∈ l, 0 ≤ x ∧ x < 256
def bv (l : List Int) : List Value := l.map (Value.int .u8)
/-- the slice at A of n elements reads as the bytes l; they lie below block B -/
def Rd (w : World) (B : Nat) (A : Option Addr) (n : Nat) (l : List Int) : Prop :=
  l.length = n ∧ By l ∧ (0 < n → ∃ b o, A = some ⟨b, o, none⟩ ∧ b < B ∧ ∀ i, i < n → w.cell? ⟨b, o + i, none⟩ = some (.int .u8 (l.getD i 0)))
section
variable {w w' : World} {B : Nat} {A : Option Addr} {n : Nat} {l : List Int}
theorem Rd.keep (h : Rd w B A n l) (hk : ∀ b o, b < B → w'.cell? ⟨b, o, none⟩ = w.cell? ⟨b, o, none⟩) : Rd w' B A n l :=
  ⟨h.1, h.2.1, fun hn => by
    obtain ⟨b, o, e, hb, hc⟩ := h.2.2 hn
    exact ⟨b, o, e, hb, fun i hi => (hk b _ hb).trans (hc i hi)⟩⟩
theorem Rd.below {B' : Nat} (h : Rd w B A n l) (k : Below B' w w') (hB : B ≤ B') : Rd w' B A n l := h.keep fun b o hb => k.cell (p := ⟨b, o, none⟩) (Nat.lt_of_lt_of_le hb hB)
theorem Rd.more {B' : Nat} (h : Rd w B A n l) (hB : B ≤ B') : Rd w B' A n l :=
  ⟨h.1, h.2.1, fun hn => by
    obtain ⟨b, o, e, hb, hc⟩ := h.2.2 hn
    exact ⟨b, o, e, by omega, hc⟩⟩
theorem Rd.drew (h : Rd w B A n l) : Rd w.drew B A n l := h
theorem Rd.drewN (h : Rd w B A n l) (k : Nat) : Rd (w.drewN k) B A n l := h
theorem Rd.alloc (h : Rd w B A n l) (hB : B ≤ w.heap.size) (o : Obj) : Rd (w.alloc o) B A n l := h.keep fun b o' hb => World.cell?_alloc_lt w o ⟨b, o', none⟩ (by show b < _; omega)
theorem Rd.set (h : Rd w B A n l) {p : Addr} (hB : B ≤ p.block) (u : Value) : Rd (w.setCell p u) B A n l :=
  h.keep fun b o hb => World.cell?_setCell_other w p ⟨b, o, none⟩ u (fun e => by subst e; simp at hB; omega)
theorem Rd.grown {row : Option Nat} (h : Rd w B A n l) (hg : w.grownBy w' row) (hB : B ≤ w.heap.size) (hr : ∀ g, row = some g → B ≤ g) : Rd w' B A n l :=
  h.keep fun b o hb => World.cell?_of_block (hg.block b (by omega) (fun e => by have := hr _ e.symm; omega))
theorem Rd.nil (w : World) (B : Nat) (A : Option Addr) : Rd w B A 0 [] := ⟨rfl, (by intro x hx; cases hx), fun h => absurd h (by omega)⟩
theorem By.at_ (h : By l) (i : Nat) : 0 ≤ l.getD i 0 ∧ l.getD i 0 < 256 := by
  by_cases hi : i < l.length
  · have : l.getD i 0 ∈ l := by simp [List.getD, List.getElem?_eq_getElem hi]
    exact h _ this
  · simp [List.getD, List.getElem?_eq_none (by omega : l.length ≤ i)]
theorem Rd.of_own {base : Nat} {e : TypeId} {c : Nat} (h : w.ownsRow base e 1 (.slice A n c) n (bv l)) (hb : By l) : Rd w w.heap.size A n l := by
  have hlen : l.length = n := by have := h.1; simpa [bv] using this
  refine ⟨hlen, hb, fun hn => ?_⟩
  rcases h.2 with ⟨he, _⟩ | ⟨g, cap, cur, hv, _, hh, h1, h2, h3, h4⟩
  · simp at he; omega
  · injection hv with hv
    subst hv
    have hlt := lt_of_block hh
    refine ⟨g, 0, rfl, hlt, fun i hi => ?_⟩
    have hc := World.ownsRow.cellAt h (g := g) i (by omega)
    rw [Nat.zero_add, hc, bv]
    simp [List.getElem?_eq_getElem (by omega : i < l.length), List.getD]
end
end Go.Proofs.Ytgmejplcdecmkaa

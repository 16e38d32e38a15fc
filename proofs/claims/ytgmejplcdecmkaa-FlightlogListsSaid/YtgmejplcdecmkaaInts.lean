/- Slices of numbers; SameInts. -/
import Derived.Test.YtgmejplcdecmkaaOpen
namespace Go.Proofs.Ytgmejplcdecmkaa
open Go.RowKit
set_option maxHeartbeats 4000000
set_option linter.unusedSimpArgs false
set_option linter.unusedVariables false
/-- numbers that fit an int -/
def I64 (l : List Int) : Prop := ∀ x ∈ l, -9223372036854775808 ≤ x ∧ x ≤ 9223372036854775807
def iv (l : List Int) : List Value := l.map (Value.int .i64)
/-- the slice at A of n elements reads as the numbers l; they lie below block B -/
def Ri (w : World) (B : Nat) (A : Option Addr) (n : Nat) (l : List Int) : Prop :=
  l.length = n ∧ I64 l ∧ (0 < n → ∃ b o, A = some ⟨b, o, none⟩ ∧ b < B ∧ ∀ i, i < n → w.cell? ⟨b, o + i, none⟩ = some (.int .i64 (l.getD i 0)))
section
variable {w w' : World} {B : Nat} {A : Option Addr} {n : Nat} {l : List Int}
theorem Ri.keep (h : Ri w B A n l) (hk : ∀ b o, b < B → w'.cell? ⟨b, o, none⟩ = w.cell? ⟨b, o, none⟩) : Ri w' B A n l :=
  ⟨h.1, h.2.1, fun hn => by
    obtain ⟨b, o, e, hb, hc⟩ := h.2.2 hn
    exact ⟨b, o, e, hb, fun i hi => (hk b _ hb).trans (hc i hi)⟩⟩
theorem Ri.below {B' : Nat} (h : Ri w B A n l) (k : Below B' w w') (hB : B ≤ B') : Ri w' B A n l := h.keep fun b o hb => k.cell (p := ⟨b, o, none⟩) (Nat.lt_of_lt_of_le hb hB)
theorem Ri.more {B' : Nat} (h : Ri w B A n l) (hB : B ≤ B') : Ri w B' A n l :=
  ⟨h.1, h.2.1, fun hn => by
    obtain ⟨b, o, e, hb, hc⟩ := h.2.2 hn
    exact ⟨b, o, e, by omega, hc⟩⟩
theorem Ri.drewN (h : Ri w B A n l) (k : Nat) : Ri (w.drewN k) B A n l := h
theorem Ri.nil (w : World) (B : Nat) (A : Option Addr) : Ri w B A 0 [] := ⟨rfl, (by intro x hx; cases hx), fun h => absurd h (by omega)⟩
theorem I64.at_ (h : I64 l) (i : Nat) : -9223372036854775808 ≤ l.getD i 0 ∧ l.getD i 0 ≤ 9223372036854775807 := by
  by_cases hi : i < l.length
  · have : l.getD i 0 ∈ l := by simp [List.getD, List.getElem?_eq_getElem hi]
    exact h _ this
  · simp [List.getD, List.getElem?_eq_none (by omega : l.length ≤ i)]
theorem Ri.of_own {base : Nat} {e : TypeId} {c : Nat} (h : w.ownsRow base e 1 (.slice A n c) n (iv l)) (hb : I64 l) : Ri w w.heap.size A n l := by
  have hlen : l.length = n := by have := h.1; simpa [iv] using this
  refine ⟨hlen, hb, fun hn => ?_⟩
  rcases h.2 with ⟨he, _⟩ | ⟨g, cap, cur, hv, _, hh, h1, h2, h3, h4⟩
  · simp at he; omega
  · injection hv with hv
    subst hv
    have hlt := lt_of_block hh
    refine ⟨g, 0, rfl, hlt, fun i hi => ?_⟩
    have hc := World.ownsRow.cellAt h (g := g) i (by omega)
    rw [Nat.zero_add, hc, iv]
    simp [List.getElem?_eq_getElem (by omega : i < l.length), List.getD]
end
end Go.Proofs.Ytgmejplcdecmkaa

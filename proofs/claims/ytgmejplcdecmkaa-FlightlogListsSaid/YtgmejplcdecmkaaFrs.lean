/- Slices of frames; SameAll. -/
import Derived.Test.YtgmejplcdecmkaaRPut
namespace Go.Proofs.Ytgmejplcdecmkaa
open Go.RowKit
set_option maxHeartbeats 4000000
set_option maxRecDepth 100000
set_option linter.unusedSimpArgs false
set_option linter.unusedVariables false
/-- a frame, as data -/
structure Fr where
  k : Int
  f : Int
  t : Int
  s : Int
  d : List Int
/-- two lists of frames are equal -/
def frEq (x y : Fr) : Bool := sameB x.k x.f x.t x.s y.k y.f y.t y.s x.d y.d
def frsEq : List Fr → List Fr → Bool
  | [], [] => true
  | x :: l, y :: m => frEq x y && frsEq l m
  | _, _ => false
theorem frEq_iff {x y : Fr} : frEq x y = true ↔ x = y := by
  cases x; cases y
  simp [frEq, sameB]
theorem frsEq_iff : ∀ {l m : List Fr}, frsEq l m = true ↔ l = m
  | [], [] => by simp [frsEq]
  | [], y :: m => by simp [frsEq]
  | x :: l, [] => by simp [frsEq]
  | x :: l, y :: m => by simp [frsEq, frEq_iff, frsEq_iff]
def fr0 : Fr := ⟨0, 0, 0, 0, []⟩
theorem frsEq_no {l m : List Fr} {j : Nat} (h : frEq (l.getD j fr0) (m.getD j fr0) = false) : frsEq l m = false := by
  cases hx : frsEq l m
  · rfl
  · rw [frsEq_iff] at hx
    subst hx
    rw [show frEq (l.getD j fr0) (l.getD j fr0) = true from frEq_iff.2 rfl] at h
    cases h
theorem frsEq_yes {l m : List Fr} (hl : l.length = m.length) (h : ∀ i, i < l.length → frEq (l.getD i fr0) (m.getD i fr0) = true) : frsEq l m = true := by
  rw [frsEq_iff]
  apply List.ext_getElem hl
  intro i h1 h2
  have := frEq_iff.1 (h i h1)
  simpa [List.getD, List.getElem?_eq_getElem h1, List.getElem?_eq_getElem h2] using this
theorem frsEq_len {l m : List Fr} (hl : l.length ≠ m.length) : frsEq l m = false := by
  cases hx : frsEq l m
  · rfl
  · rw [frsEq_iff] at hx
    subst hx
    exact absurd rfl hl
/-- the five cells of a frame at ⟨b, p⟩, and its bytes -/
def FrAt (w : World) (B b p : Nat) (x : Fr) : Prop :=
  ∃ (A : Option Addr) (cap : Nat), w.cell? ⟨b, p, none⟩ = some (.int .i64 x.k) ∧ w.cell? ⟨b, p + 1, none⟩ = some (.int .i64 x.f) ∧ w.cell? ⟨b, p + 2, none⟩ = some (.int .i64 x.t) ∧ w.cell? ⟨b, p + 3, none⟩ = some (.int .i64 x.s) ∧
    w.cell? ⟨b, p + 4, none⟩ = some (.slice A x.d.length cap) ∧ Rd w B A x.d.length x.d ∧ (A = none → x.d.length = 0 ∧ cap = 0) ∧ x.d.length ≤ cap ∧ cap ≤ maxLen
/-- the slice at A of n frames reads as the frames l; all of it lies below block B -/
def Rf (w : World) (B : Nat) (A : Option Addr) (n : Nat) (l : List Fr) : Prop :=
  l.length = n ∧ (0 < n → ∃ b o, A = some ⟨b, o, none⟩ ∧ b < B ∧ ∀ i, i < n → FrAt w B b (o + i * 5) (l.getD i fr0))
section
variable {w w' : World} {B : Nat} {A : Option Addr} {n : Nat} {l : List Fr}
theorem FrAt.keep {b p : Nat} {x : Fr} (h : FrAt w B b p x) (hb : b < B) (hk : ∀ b o, b < B → w'.cell? ⟨b, o, none⟩ = w.cell? ⟨b, o, none⟩) : FrAt w' B b p x := by
  obtain ⟨A, cap, h1, h2, h3, h4, h5, h6, h7⟩ := h
  exact ⟨A, cap, (hk _ _ hb).trans h1, (hk _ _ hb).trans h2, (hk _ _ hb).trans h3, (hk _ _ hb).trans h4, (hk _ _ hb).trans h5, h6.keep hk, h7⟩
theorem Rf.keep (h : Rf w B A n l) (hk : ∀ b o, b < B → w'.cell? ⟨b, o, none⟩ = w.cell? ⟨b, o, none⟩) : Rf w' B A n l :=
  ⟨h.1, fun hn => by
    obtain ⟨b, o, e, hb, hc⟩ := h.2 hn
    exact ⟨b, o, e, hb, fun i hi => (hc i hi).keep hb hk⟩⟩
theorem Rf.below {B' : Nat} (h : Rf w B A n l) (k : Below B' w w') (hB : B ≤ B') : Rf w' B A n l := h.keep fun b o hb => k.cell (p := ⟨b, o, none⟩) (Nat.lt_of_lt_of_le hb hB)
theorem FrAt.more {B' b p : Nat} {x : Fr} (h : FrAt w B b p x) (hB : B ≤ B') : FrAt w B' b p x := by
  obtain ⟨A, cap, h1, h2, h3, h4, h5, h6, h7⟩ := h
  exact ⟨A, cap, h1, h2, h3, h4, h5, h6.more hB, h7⟩
theorem Rf.more {B' : Nat} (h : Rf w B A n l) (hB : B ≤ B') : Rf w B' A n l :=
  ⟨h.1, fun hn => by
    obtain ⟨b, o, e, hb, hc⟩ := h.2 hn
    exact ⟨b, o, e, by omega, fun i hi => (hc i hi).more hB⟩⟩
theorem Rf.nil (w : World) (B : Nat) (A : Option Addr) : Rf w B A 0 [] := ⟨rfl, fun h => absurd h (by omega)⟩
end
end Go.Proofs.Ytgmejplcdecmkaa

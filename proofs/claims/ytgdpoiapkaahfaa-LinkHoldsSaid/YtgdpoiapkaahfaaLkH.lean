/- Two links with the same messages, and the slice of the times at which they were sent. -/
import Derived.Test.YtgdpoiapkaahfaaLkE
import Derived.Test.YtgdpoiapkaahfaaLinkH
namespace Go.Proofs.Ytgdpoiapkaahfaa
open Go.RowKit
set_option maxHeartbeats 4000000
set_option linter.unusedSimpArgs false
set_option linter.unusedVariables false
theorem info_int : (Try.prog.info? 3).map (fun i => (i.zero, i.size, i.bytes)) = some (some (.int .i64 0), 1, 8) := by kernel_rfl
def ats (ws : List Int) (i : Nat) : List Int := (List.range i).map (fun k => Lnk.sumT ws (k + 1))
theorem ats_succ (ws : List Int) (i : Nat) : ats ws (i + 1) = ats ws i ++ [Lnk.sumT ws (i + 1)] := by simp [ats, List.range_succ]
theorem ats_len (ws : List Int) (i : Nat) : (ats ws i).length = i := by simp [ats]
theorem ats_at (ws : List Int) {i k : Nat} (h : k < i) : (ats ws i)[k]? = some (Lnk.sumT ws (k + 1)) := by simp [ats, h]
structure H2 (B b1 b2 : Nat) (r : Lnk.Ru) (w : World) (A1 : Option Addr) (c1 : Nat) (A2 : Option Addr) (c2 : Nat) (O : Option Addr) (oc i : Nat) (xs : List Int) (s1 s2 : Lnk.St) : Prop where
  l1 : IsLk w B b1 A1 c1 r s1
  l2 : IsLk w B b2 A2 c2 r s2
  own : Row w B 3 1 O i oc (xs.map (Value.int .i64))
  d12 : ∀ j, Two b1 A1 j → ¬ Two b2 A2 j
  dO : ∀ g, blkOf O = some g → ¬ Two b1 A1 g ∧ ¬ Two b2 A2 g
section
variable {B b1 b2 : Nat} {r : Lnk.Ru} {w W w' : World} {A1 : Option Addr} {c1 : Nat} {A2 : Option Addr} {c2 : Nat} {O : Option Addr} {oc i : Nat} {xs : List Int} {s1 s2 : Lnk.St}
theorem IsLk.low {b c : Nat} {A : Option Addr} {s : Lnk.St} (h : IsLk w B b A c r s) {base' : Nat} (hb : base' ≤ B) : IsLk w base' b A c r s := ⟨h.blk, h.row.more hb, Nat.le_trans hb h.ge⟩
theorem H2.below (h : H2 B b1 b2 r w A1 c1 A2 c2 O oc i xs s1 s2) (k : Below w.heap.size w w') : H2 B b1 b2 r w' A1 c1 A2 c2 O oc i xs s1 s2 :=
  ⟨h.l1.below k (Nat.le_refl _), h.l2.below k (Nat.le_refl _), h.own.below k (Nat.le_refl _), h.d12, h.dO⟩
theorem H2.drewN (h : H2 B b1 b2 r w A1 c1 A2 c2 O oc i xs s1 s2) (q : Nat) : H2 B b1 b2 r (w.drewN q) A1 c1 A2 c2 O oc i xs s1 s2 :=
  ⟨h.l1.drewN q, h.l2.drewN q, h.own.drewN q, h.d12, h.dO⟩
theorem two_next {b : Nat} {A A' : Option Addr} {H : Nat} (hat : blkOf A' = blkOf A ∨ ∃ g, blkOf A' = some g ∧ H ≤ g) {j : Nat} (hj : Two b A' j) : Two b A j ∨ H ≤ j := by
  rcases Nat.lt_or_ge j H with h | h
  · exact .inl (two_new hat j h hj)
  · exact .inr h
theorem H2.to1 (h : H2 B b1 b2 r w A1 c1 A2 c2 O oc i xs s1 s2) {s' : Lnk.St} (k : LkTo B b1 A1 r s' w w') : ∃ A c, H2 B b1 b2 r w' A c A2 c2 O oc i xs s' s2 ∧ Keeps (Two b1 A1) w w' := by
  obtain ⟨A, c, h1, h2, h3⟩ := k
  have t2 := h.l2.two
  refine ⟨A, c, ⟨h1, h.l2.kept h2 (fun j hj hT => h.d12 j hT hj), h.own.kept h2 (fun g hg hT => (h.dO g hg).1 hT), fun j hj hT => ?_, fun g hg => ⟨fun hT => ?_, (h.dO g hg).2⟩⟩, h2⟩
  · rcases two_next h3 hj with h4 | h4
    · exact h.d12 j h4 hT
    · have := t2 j hT; omega
  · rcases two_next h3 hT with h4 | h4
    · exact (h.dO g hg).1 h4
    · have := (h.own.lt hg).2; omega
theorem H2.to2 (h : H2 B b1 b2 r w A1 c1 A2 c2 O oc i xs s1 s2) {s' : Lnk.St} (k : LkTo B b2 A2 r s' w w') : ∃ A c, H2 B b1 b2 r w' A1 c1 A c O oc i xs s1 s' ∧ Keeps (Two b2 A2) w w' := by
  obtain ⟨A, c, h1, h2, h3⟩ := k
  have t1 := h.l1.two
  refine ⟨A, c, ⟨h.l1.kept h2 (fun j hj hT => h.d12 j hj hT), h1, h.own.kept h2 (fun g hg hT => (h.dO g hg).2 hT), fun j hj hT => ?_, fun g hg => ⟨(h.dO g hg).1, fun hT => ?_⟩⟩, h2⟩
  · rcases two_next h3 hT with h4 | h4
    · exact h.d12 j hj h4
    · have := t1 j hj; omega
  · rcases two_next h3 hT with h4 | h4
    · exact (h.dO g hg).2 h4
    · have := (h.own.lt hg).2; omega
theorem H2.app {W' : World} (h : H2 B b1 b2 r w A1 c1 A2 c2 O oc i xs s1 s2) (hW : Below w.heap.size w W) {x : Int} {O' : Option Addr} {oc' : Nat} (ho : Row W' B 3 1 O' (i + 1) oc' (xs.map (Value.int .i64) ++ [.int .i64 x])) (hg : W.grownBy W' (blkOf O)) (hat : blkOf O' = blkOf O ∨ blkOf O' = some W.heap.size) :
    H2 B b1 b2 r W' A1 c1 A2 c2 O' oc' (i + 1) (xs ++ [x]) s1 s2 := by
  have t1 := h.l1.two
  have t2 := h.l2.two
  have hz := hW.size
  have h' := h.below hW
  have kg : Keeps (fun j => blkOf O = some j) W W' := Keeps.of_grown hg (fun g hg => hg)
  refine ⟨h'.l1.kept kg (fun j hj hT => (h.dO j hT).1 hj), h'.l2.kept kg (fun j hj hT => (h.dO j hT).2 hj), by rw [List.map_append]; exact ho, h.d12, fun g hg => ?_⟩
  rcases hat with h3 | h3
  · rw [h3] at hg; exact h.dO g hg
  · rw [h3] at hg; injection hg with hg; subst hg
    exact ⟨fun hT => by have := t1 _ hT; omega, fun hT => by have := t2 _ hT; omega⟩
theorem H2.bel1 (h : H2 B b1 b2 r w A1 c1 A2 c2 O oc i xs s1 s2) (k : Keeps (Two b1 A1) w w') (hB : B ≤ w.heap.size) : Below B w w' := k.below (fun j _ hj => h.l1.two_ge j hj) hB
theorem H2.bel2 (h : H2 B b1 b2 r w A1 c1 A2 c2 O oc i xs s1 s2) (k : Keeps (Two b2 A2) w w') (hB : B ≤ w.heap.size) : Below B w w' := k.below (fun j _ hj => h.l2.two_ge j hj) hB
end
end Go.Proofs.Ytgdpoiapkaahfaa

/- For the theorem of the stage: plain; and what an act does to the records that were seen. -/
import Derived.Test.YtgmejplcdecmkaaLgCo
namespace Go.Proofs.Ytgmejplcdecmkaa
open Go.RowKit
set_option maxHeartbeats 2000000
set_option maxRecDepth 100000
set_option linter.unusedSimpArgs false
set_option linter.unusedVariables false
namespace Lg
theorem ld_set {l : List Rc} (h : Good l) {k : Nat} (hk : k < l.length) {z : Int} (hz : (l.getD k r0).sum ≠ z) : (ld [] (l.set k { l.getD k r0 with sum := z })).2 = (k, 400) := by
  rw [List.set_eq_take_append_cons_drop, if_pos hk]
  exact ld_bad h hk hz
theorem add_yes {l : List Rc} {r : Rc} (h : addE l r = 0) : (add l r).length = l.length + 1 := by
  unfold add
  rw [if_pos h]
  simp
theorem add_nope {l : List Rc} {r : Rc} (h : addE l r ≠ 0) : add l r = l := by unfold add; rw [if_neg h]
theorem add_take (l : List Rc) (r : Rc) : (add l r).take l.length = l := by
  unfold add
  split
  · simp
  · simp
theorem good_ac {l : List Rc} (h : Good l) : ∀ i, i < l.length → 0 ≤ (l.getD i r0).a ∧ (l.getD i r0).a ≤ 64 := fun i hi => by
  have hf := (good_at h i hi).2.2
  have := (fine_ta hf).2
  exact this
theorem good_many {l : List Rc} (h : Good l) : many l l.length 65 = l.length := many_all l (good_ac h) _ (Nat.le_refl _)
/-- records that have been seen, in a row of their own -/
structure Sn (w : World) (base : Nat) (S : Option Addr) (m cs : Nat) (ss : List RV) : Prop where
  row : Row w base 32 13 S m cs (Lg.cs ss)
  dat : ∀ y ∈ ss, Dt w (fun _ => True) y
theorem Sn.rr {w : World} {base m cs : Nat} {S : Option Addr} {ss : List RV} (h : Sn w base S m cs ss) : Rr w w.heap.size S m ss := ⟨Rds.of_row h.row, fun y hy => (h.dat y hy).ok⟩
/-- it abides a log's own writes -/
theorem Sn.keep {w w' : World} {base bl p m cs c : Nat} {S A : Option Addr} {ss vs : List RV} {X : Nat → Prop} (h : Sn w base S m cs ss) (g : IsLg w bl p A c vs X) (k : Keeps (Two p A) w w') (hd : ∀ q, blkOf S = some q → ¬ Two p A q) : Sn w' base S m cs ss :=
  ⟨h.row.kept k hd, fun y hy => (h.dat y hy).keep k (fun i _ ht hh => g.away ht (by decide) (by decide) hh)⟩
theorem Sn.below {w w' : World} {base m cs : Nat} {S : Option Addr} {ss : List RV} (h : Sn w base S m cs ss) (k : Below w.heap.size w w') : Sn w' base S m cs ss :=
  ⟨h.row.kept (Keeps.of_below (S := fun _ => False) k) (fun _ _ h => h), fun y hy => (h.dat y hy).below k⟩
end Lg
end Go.Proofs.Ytgmejplcdecmkaa
/- Marks of ranges that are over, among the deferred calls. -/
namespace Go.Proofs.Ytgmejplcdecmkaa
open Go.RowKit
set_option maxHeartbeats 2000000
set_option linter.unusedSimpArgs false
set_option linter.unusedVariables false
/-- marks whose blocks hold no call -/
def Marks (G : Nat) (V : World) : Nat → List Deferred → Prop
  | _, [] => True
  | b, d :: ds => ∃ D, d = { target := .collected D, args := #[] } ∧ G ≤ D ∧ D < b ∧ V.heap[D]? = some (.deferred (some [])) ∧ Marks G V D ds
theorem Marks.kept {G : Nat} {V V' : World} : ∀ (ds : List Deferred) (b : Nat), Marks G V b ds → (∀ D, G ≤ D → D < b → V.heap[D]? = some (.deferred (some [])) → V'.heap[D]? = some (.deferred (some []))) → Marks G V' b ds
  | [], _, _, _ => trivial
  | d :: ds, b, ⟨D, h1, h2, h3, h4, h5⟩, hk => ⟨D, h1, h2, h3, hk D h2 h3 h4, Marks.kept ds D h5 (fun D' a b' c => hk D' a (by omega) c)⟩
theorem Marks.le {G b b' : Nat} {V : World} {ds : List Deferred} (h : Marks G V b ds) (hb : b ≤ b') : Marks G V b' ds := by
  cases ds with
  | nil => trivial
  | cons d ds =>
    obtain ⟨D, h1, h2, h3, h4, h5⟩ := h
    exact ⟨D, h1, h2, by omega, h4, h5⟩
theorem Marks.below {G b : Nat} {V V' : World} {ds : List Deferred} (h : Marks G V b ds) (k : Below V.heap.size V V') : Marks G V' b ds :=
  Marks.kept ds b h (fun D _ _ hD => (k.block D (Array.getElem?_eq_some_iff.1 hD).1).trans hD)
theorem Marks.setCell {G b g : Nat} {V : World} {ds : List Deferred} {cs : Array Value} {t : TypeId} {fr : Nat × Nat} (h : Marks G V b ds) (hg : V.heap[g]? = some (.cells cs t fr)) (o : Nat) (v : Value) : Marks G (V.setCell ⟨g, o, none⟩ v) b ds :=
  Marks.kept ds b h (fun D _ _ hD => blk_far hD (by
    intro e
    have e' : D = g := e
    subst e'
    rw [hD] at hg
    cases hg) v)
theorem marks_own {β : Type} {B G b : Nat} {ds : List Deferred} (hb : b ≤ B) : OwnFrom B (fun (_ : β) V => Marks G V b ds) := fun s A C row hs hg hr =>
  Marks.kept ds b hs (fun D _ hD hx => (hg.block D (Array.getElem?_eq_some_iff.1 hx).1 (fun e => by have := (hr D e.symm).1; omega)).trans hx)
theorem leaves_marks {F : Fence} {n : Nat} {P : Program} {fn : Func} {tmps : Array Value} {R : Ending → World → Prop} {G : Nat} : ∀ (ds : List Deferred) (b : Nat) (V : World), Marks G V b ds →
    (∀ V', Below G V V' → (∀ (k : Nat) (cs : Array Value) (t : TypeId) (fr : Nat × Nat), V.heap[k]? = some (Obj.cells cs t fr) → V'.heap[k]? = some (Obj.cells cs t fr)) → LeavesIn F n P fn tmps R [] .returning V') → LeavesInM F n P fn tmps R ds .returning V
  | [], _, V, _, h => h V (Below.refl _ _) (fun _ _ _ _ e => e)
  | d :: ds, b, V, ⟨D, h1, h2, h3, h4, h5⟩, h => by
    subst h1
    refine ⟨by simp, .inl ⟨_, _, rfl, run_takeDeferred h4, leaves_marks ds D _ (Marks.kept ds D h5 (fun D' _ hl hx => (World.putObj_heap_other (by omega)).trans hx)) (fun V' hb hc => h V' ?_ (fun k cs t fr e => ?_))⟩⟩
    · exact ((Below.refl G V).grown (grownBy_putObj' V D (.deferred none)) (by have := (Array.getElem?_eq_some_iff.1 h4).1; omega) (fun k e => by cases e; omega)).trans hb
    · refine hc k cs t fr ((World.putObj_heap_other (fun e' => ?_)).trans e)
      subst e'
      rw [h4] at e
      cases e
/-- what a box holds -/
def boxInt (w : World) (v : Value) : Nat := match v with
  | .pointer (some ⟨b, _, _⟩) => (match w.cell? ⟨b, 0, none⟩ with | some (.int _ k) => k.toNat | _ => 0)
  | _ => 0
theorem boxInt_is {w : World} {b : Nat} {x : Int} {k : IntKind} (h : w.cell? ⟨b, 0, none⟩ = some (.int k x)) : boxInt w (.pointer (some ⟨b, 0, none⟩)) = x.toNat := by
  unfold boxInt
  simp only [h]
namespace Lg
theorem many_mono (l : List Rc) (n : Nat) : ∀ a d : Nat, many l n a ≤ many l n (a + d)
  | _, 0 => Nat.le_refl _
  | a, d + 1 => Nat.le_trans (many_mono l n a d) (by rw [← Nat.add_assoc, many]; omega)
theorem many_lt {l : List Rc} {a : Nat} (h : Good l) (ha : a ≤ 65) : many l l.length a ≤ l.length := by
  have := many_mono l l.length a (65 - a)
  rw [show a + (65 - a) = 65 by omega, good_many h] at this
  exact this
end Lg
end Go.Proofs.Ytgmejplcdecmkaa

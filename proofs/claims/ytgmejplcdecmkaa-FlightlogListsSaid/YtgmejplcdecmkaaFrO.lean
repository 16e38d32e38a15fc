/- Slices of frames that a call owns. -/
import Derived.Test.YtgmejplcdecmkaaApp
import Derived.Test.YtgmejplcdecmkaaFrs
namespace Go.Proofs.Ytgmejplcdecmkaa
open Go.RowKit
set_option maxHeartbeats 4000000
set_option linter.unusedSimpArgs false
set_option linter.unusedVariables false
/-- a frame as a value: its cells -/
structure FV where
  x : Fr
  A : Option Addr
  cap : Nat
def FV.cells (v : FV) : List Value := [.int .i64 v.x.k, .int .i64 v.x.f, .int .i64 v.x.t, .int .i64 v.x.s, .slice v.A v.x.d.length v.cap]
theorem FV.cells_at : ∀ (vs : List FV) (i j : Nat) (h : i < vs.length), j < 5 → (vs.flatMap FV.cells)[i * 5 + j]? = (FV.cells vs[i])[j]?
  | [], i, j, h, _ => by simp at h
  | v :: vs, 0, j, h, hj => by
    rw [List.flatMap_cons, List.getElem?_append_left (by simp [FV.cells]; omega)]
    simp
  | v :: vs, i + 1, j, h, hj => by
    rw [List.flatMap_cons, List.getElem?_append_right (by simp [FV.cells]; omega)]
    rw [show (i + 1) * 5 + j - (FV.cells v).length = i * 5 + j by simp [FV.cells]; omega]
    rw [FV.cells_at vs i j (by simpa using h) hj]
    simp
/-- a slice of frames that a call owns, with the bytes of each -/
def Rof (w : World) (base : Nat) (v : Value) (l : List Fr) : Prop :=
  ∃ vs : List FV, vs.map (·.x) = l ∧ w.ownsRow base 30 5 v l.length (vs.flatMap FV.cells) ∧ ∀ y ∈ vs, Ow w base y.A y.x.d.length y.cap y.x.d
section
variable {w w' : World} {base : Nat} {v : Value} {l : List Fr}
theorem own_ne {b1 b2 s1 s2 n1 n2 : Nat} {e1 e2 : TypeId} {v1 v2 : Value} {x1 x2 : List Value} (h : w.ownsRow b1 e1 s1 v1 n1 x1) (g : w.ownsRow b2 e2 s2 v2 n2 x2) (hne : e1 ≠ e2) (q : Nat) (h1 : v1.ownBlock = some q) : some q ≠ v2.ownBlock := by
  intro h2
  rcases h.2 with ⟨e, _⟩ | ⟨a, _, _, e, _, ha, _⟩
  · rw [e] at h1; cases h1
  · rcases g.2 with ⟨e', _⟩ | ⟨c, _, _, e', _, hc, _⟩
    · rw [e'] at h2; cases h2
    · rw [e] at h1; rw [e'] at h2
      obtain rfl : a = q := by simpa [Value.ownBlock] using h1
      obtain rfl : a = c := by simpa [Value.ownBlock] using h2
      rw [ha] at hc
      injection hc with hc
      injection hc with _ hc
      exact hne hc
theorem Rof.nil (w : World) (base : Nat) : Rof w base (.slice none 0 0) [] := ⟨[], rfl, World.ownsRow_nil w base _ _, fun y hy => by cases hy⟩
theorem Rof.len {A : Option Addr} {n cap : Nat} (h : Rof w base (.slice A n cap) l) : l.length = n := by
  obtain ⟨vs, _, h2, _⟩ := h
  rcases h2.2 with ⟨e, h0⟩ | ⟨g, c, cur, e, _⟩
  · injection e with _ e _; omega
  · injection e with _ e _; omega
theorem Rof.form (h : Rof w base v l) : ∃ A cap, v = .slice A l.length cap := by
  obtain ⟨vs, _, h2, _⟩ := h
  rcases h2.2 with ⟨rfl, h0⟩ | ⟨g, c, cur, rfl, _⟩
  · exact ⟨none, 0, by rw [h0]⟩
  · exact ⟨_, _, rfl⟩
theorem Rof.below {B : Nat} (h : Rof w base v l) (k : Below B w w') (hB : w.heap.size ≤ B) : Rof w' base v l := by
  obtain ⟨vs, h1, h2, h3⟩ := h
  refine ⟨vs, h1, h2.kept (row := none) ⟨k.os, k.tape, k.output, k.size, fun i hi _ => k.block i (by omega)⟩ ?_, fun y hy => (h3 y hy).below k hB⟩
  rcases h2.2 with ⟨rfl, _⟩ | ⟨g, c, cur, rfl, _⟩
  · left; rfl
  · right; simp [Value.ownBlock]
theorem Rof.drewN (h : Rof w base v l) (q : Nat) : Rof (w.drewN q) base v l := h
theorem Rof.drew (h : Rof w base v l) : Rof w.drew base v l := h
theorem Rof.alloc (h : Rof w base v l) (o : Obj) : Rof (w.alloc o) base v l := h.below ((Below.refl w.heap.size w).alloc (Nat.le_refl _) o) (Nat.le_refl _)
theorem Rof.more {base' : Nat} (h : Rof w base v l) (hb : base' ≤ base) : Rof w base' v l := by
  obtain ⟨vs, h1, h2, h3⟩ := h
  refine ⟨vs, h1, ⟨h2.1, ?_⟩, fun y hy => (h3 y hy).more hb⟩
  rcases h2.2 with e | ⟨g, c, cur, e, hb', rest⟩
  · exact .inl e
  · exact .inr ⟨g, c, cur, e, by omega, rest⟩
/-- behind an append of one frame -/
theorem Rof.append {v' : Value} {vs : List FV} {y : FV} (h1 : vs.map (·.x) = l) (h2 : w.ownsRow base 30 5 v l.length (vs.flatMap FV.cells)) (h3 : ∀ y ∈ vs, Ow w base y.A y.x.d.length y.cap y.x.d) (hy : Ow w base y.A y.x.d.length y.cap y.x.d)
    (hg : w.grownBy w' v.ownBlock) (ho : w'.ownsRow base 30 5 v' (l.length + 1) (vs.flatMap FV.cells ++ y.cells)) : Rof w' base v' (l ++ [y.x]) := by
  refine ⟨vs ++ [y], by simp [h1], ?_, fun z hz => ?_⟩
  · rw [List.length_append, List.flatMap_append]
    simpa using ho
  · have hz' : Ow w base z.A z.x.d.length z.cap z.x.d := by
      rcases List.mem_append.1 hz with h | h
      · exact h3 z h
      · rw [List.mem_singleton.1 h]; exact hy
    exact hz'.grown hg (fun g e => own_ne hz'.1 h2 (by decide) g (by rw [e]; rfl))
theorem Rof.rf {A : Option Addr} {n cap : Nat} (h : Rof w base (.slice A n cap) l) : Rf w w.heap.size A n l := by
  have hl := h.len
  obtain ⟨vs, h1, h2, h3⟩ := h
  rw [hl] at h2
  refine ⟨hl, fun hn => ?_⟩
  rcases h2.2 with ⟨_, h0⟩ | ⟨g, c, cur, e, _, hh, _⟩
  · omega
  · injection e with e1 e2 e3
    subst e1; subst e3
    refine ⟨g, 0, rfl, lt_of_block hh, fun i hi => ?_⟩
    have hvl : vs.length = n := by rw [← hl, ← h1]; simp
    have hiv : i < vs.length := by omega
    have hx : l.getD i fr0 = vs[i].x := by rw [← h1]; simp [List.getD, List.getElem?_eq_getElem hiv]
    rw [hx]
    have hc : ∀ j u, j < 5 → (FV.cells vs[i])[j]? = some u → w.cell? ⟨g, i * 5 + j, none⟩ = some u := fun j u hj hu => by
      have := World.ownsRow.cellAt h2 (g := g) (i * 5 + j) (by omega)
      rw [this, FV.cells_at vs i j hiv hj, hu]
    have ho := h3 vs[i] (List.getElem_mem hiv)
    refine ⟨vs[i].A, vs[i].cap, ?_, ?_, ?_, ?_, ?_, ho.rd, ?_, ?_, ?_⟩
    · have := hc 0 _ (by omega) rfl; simpa using this
    · have := hc 1 _ (by omega) rfl; simpa using this
    · have := hc 2 _ (by omega) rfl; simpa using this
    · have := hc 3 _ (by omega) rfl; simpa using this
    · have := hc 4 _ (by omega) rfl; simpa using this
    · intro hA
      rcases ho.form with ⟨_, hz, hcp⟩ | ⟨q, hq, _⟩
      · exact ⟨hz, hcp⟩
      · rw [hA] at hq; cases hq
    · rcases ho.form with ⟨_, hz, hcp⟩ | ⟨q, hq, _, _, hle, _⟩ <;> omega
    · rcases ho.form with ⟨_, hz, hcp⟩ | ⟨q, hq, _, _, _, hle⟩
      · rw [hcp]; exact Nat.zero_le _
      · exact hle
end
theorem own_below {base size n : Nat} {e : TypeId} {v : Value} {xs : List Value} {w w' : World} (h : w.ownsRow base e size v n xs) (k : Below w.heap.size w w') : w'.ownsRow base e size v n xs := by
  refine h.kept (row := none) ⟨k.os, k.tape, k.output, k.size, fun i hi _ => k.block i hi⟩ ?_
  rcases h.2 with ⟨rfl, _⟩ | ⟨g, c, cur, rfl, _⟩
  · left; rfl
  · right; simp [Value.ownBlock]
theorem own_far {base size n : Nat} {e : TypeId} {v : Value} {xs : List Value} {w : World} {p : Addr} (h : w.ownsRow base e size v n xs) (hp : p.block < base) (u : Value) : (w.setCell p u).ownsRow base e size v n xs := by
  refine h.kept (row := some p.block) ⟨rfl, rfl, rfl, by simp [World.setCell], fun i hi hne => Below.heap_setCell w p u i (fun e => hne (by rw [e]))⟩ ?_
  right
  intro e
  have := (h.lt _ e).1
  omega
theorem Reads.newN (w : World) (cs : Array Value) (t : TypeId) (n size : Nat) (h : cs.size = n * size) : Reads (w.alloc (.cells cs t)) (w.heap.size + 1) size (some ⟨w.heap.size, 0, none⟩) n cs.toList := by
  refine ⟨by simpa using h, fun _ => ⟨_, rfl, by simp, fun i u hu => ?_⟩⟩
  rw [addr_add, Nat.zero_add]
  have h := heap_new w (.cells cs t)
  simp only [World.cell?, h]
  simpa using hu
theorem FV.one (y : FV) : ∀ v ∈ y.cells, v.oneCell' = true := by
  intro v hv
  simp only [FV.cells, List.mem_cons, List.not_mem_nil, or_false] at hv
  rcases hv with rfl | rfl | rfl | rfl | rfl <;> rfl
theorem info_fr : (Try.prog.info? 30).map (fun i => (i.zero, i.size, i.bytes)) = some (some (.agg #[.int .i64 0, .int .i64 0, .int .i64 0, .int .i64 0, .slice none 0 0]), 5, 56) := by kernel_rfl
end Go.Proofs.Ytgmejplcdecmkaa

/- The calls that come in: a slice of calls opened. -/
import Derived.Test.YtiidkmnagfhgiaaArg
namespace Go.Proofs.Ytiidkmnagfhgiaa
open Go.ChangeShapes Go.WideShapes Go.ChangeAt Go.RowKit Go.Joins Go.Deep
set_option linter.unusedVariables false
set_option linter.unusedSimpArgs false
set_option maxHeartbeats 4000000
set_option maxRecDepth 100000
/-- a call, as data -/
structure LAct where
  kind : Int
  now : Int
  n : Int
  f : Fr
def la0 : LAct := ⟨0, 0, 0, fr0⟩
def I64r (z : Int) : Prop := -9223372036854775808 ≤ z ∧ z ≤ 9223372036854775807
def LaOk (a : LAct) : Prop := I64r a.kind ∧ I64r a.now ∧ I64r a.n ∧ FrOk a.f
/-- the eight cells of a call at ⟨b, p⟩ -/
def LaAt (w : World) (B b p : Nat) (x : LAct) : Prop :=
  ∃ (E : Option Addr) (ce : Nat), w.cell? ⟨b, p, none⟩ = some (.int .i64 x.kind) ∧ w.cell? ⟨b, p + 1, none⟩ = some (.int .i64 x.now) ∧ w.cell? ⟨b, p + 2, none⟩ = some (.int .i64 x.n) ∧
    w.cell? ⟨b, p + 3, none⟩ = some (.int .i64 x.f.k) ∧ w.cell? ⟨b, p + 4, none⟩ = some (.int .i64 x.f.f) ∧ w.cell? ⟨b, p + 5, none⟩ = some (.int .i64 x.f.t) ∧ w.cell? ⟨b, p + 6, none⟩ = some (.int .i64 x.f.s) ∧ w.cell? ⟨b, p + 7, none⟩ = some (.slice E x.f.d.length ce) ∧
    Rd w B E x.f.d.length x.f.d ∧ Room E x.f.d.length ce
def LRf (w : World) (B : Nat) (A : Option Addr) (n : Nat) (l : List LAct) : Prop :=
  l.length = n ∧ (0 < n → ∃ b o, A = some ⟨b, o, none⟩ ∧ b < B ∧ ∀ i, i < n → LaAt w B b (o + i * 8) (l.getD i la0))
theorem LaAt.keep {w w' : World} {B b p : Nat} {x : LAct} (h : LaAt w B b p x) (hb : b < B) (hk : ∀ b o, b < B → w'.cell? ⟨b, o, none⟩ = w.cell? ⟨b, o, none⟩) : LaAt w' B b p x := by
  obtain ⟨E, ce, h0, h1, h2, h3, h4, h5, h6, h7, h8, h9⟩ := h
  exact ⟨E, ce, (hk _ _ hb).trans h0, (hk _ _ hb).trans h1, (hk _ _ hb).trans h2, (hk _ _ hb).trans h3, (hk _ _ hb).trans h4, (hk _ _ hb).trans h5, (hk _ _ hb).trans h6, (hk _ _ hb).trans h7, h8.keep hk, h9⟩
theorem LRf.below {w w' : World} {B B' n : Nat} {A : Option Addr} {l : List LAct} (h : LRf w B A n l) (k : Below B' w w') (hB : B ≤ B') : LRf w' B A n l :=
  ⟨h.1, fun hn => by
    obtain ⟨b, o, e, hb, hc⟩ := h.2 hn
    exact ⟨b, o, e, hb, fun i hi => (hc i hi).keep hb (fun b o hb' => k.cell (p := ⟨b, o, none⟩) (Nat.lt_of_lt_of_le hb' hB))⟩⟩
theorem c1int : Try.prog.cellsOf 3 = 1 := by kernel_rfl
theorem c1bytes : Try.prog.cellsOf 25 = 1 := by kernel_rfl
theorem c1kind : Try.prog.cellsOf 24 = 1 := by kernel_rfl
theorem cellsAct : Try.prog.cellsOf 42 = 8 := by kernel_rfl
section
variable {H : Type} {enc : TypeId × Value → H} {w : World} {fuel : Nat} {c : Value} {x : DataW H × List MemPlace}
theorem cells8 {l : List Value} (h : l.length = 8) : ∃ a b c d e f g i, l = [a, b, c, d, e, f, g, i] := by
  match l, h with
  | [a, b, c, d, e, f, g, i], _ => exact ⟨a, b, c, d, e, f, g, i, rfl⟩
theorem lacts_of (hf : DataW.trod enc Try.prog w 0 (fun _ => true) true fuel 34 [c] = some x) : ∃ (a : Option Addr) (len cap : Nat) (l : List LAct), c = .slice a len cap ∧ Room a len cap ∧ LRf w w.heap.size a len l ∧ ∀ y ∈ l, LaOk y := by
  rcases open_slice Try.underlying34 hf with ⟨hcs, _⟩ | ⟨x, l, c', m, n, D, Pl, hcs, _, hl, hm, hmm, _, hc⟩
  · simp at hcs
    exact ⟨none, 0, 0, [], hcs, ⟨by omega, by unfold maxLen; omega, fun _ => ⟨rfl, rfl⟩⟩, ⟨rfl, fun h => absurd h (by omega)⟩, by intro y hy; cases hy⟩
  · simp at hcs
    subst hcs
    simp at hmm
    subst hmm
    rw [cellsAct] at hc
    obtain ⟨b, o, spot⟩ := x
    have hs0 : 0 < l → spot = none := fun h0 => by
      obtain ⟨cs', hcell, ht'⟩ := hc 0 (by omega)
      obtain ⟨_, hcl, hat⟩ := World.cells?_some hcell
      obtain ⟨v0, v1, v2, v3, v4, v5, v6, v7, rfl⟩ := cells8 hcl
      have g0 := hat 0 (by omega)
      simp [Addr.add] at g0
      simpa using World.cell?_spot g0
    have key : ∀ i, i < l → ∃ y : LAct, LaOk y ∧ (spot = none ∧ b < w.heap.size) ∧ LaAt w w.heap.size b (o + i * 8) y := by
      intro i h1
      obtain ⟨cs', hcell, ht'⟩ := hc i (by omega)
      obtain ⟨_, hcl, hat⟩ := World.cells?_some hcell
      obtain ⟨ys, n', hn', hy, hlen, hyl, hff⟩ := DataW.trod_struct Try.underlying42 ht'
      obtain ⟨v0, v1, v2, v3, v4, v5, v6, v7, rfl⟩ := cells8 hcl
      have g := fun j hj => hat j hj
      have g0 := hat 0 (by omega); have g1 := hat 1 (by omega); have g2 := hat 2 (by omega); have g3 := hat 3 (by omega)
      have g4 := hat 4 (by omega); have g5 := hat 5 (by omega); have g6 := hat 6 (by omega); have g7 := hat 7 (by omega)
      simp only [Go.Deep.add_add] at g0 g1 g2 g3 g4 g5 g6 g7
      have hspot := hs0 (by omega)
      subst hspot
      simp only [add_none] at g0 g1 g2 g3 g4 g5 g6 g7
      have y0 : ys[0]? = some (ys[0]'(by rw [hyl]; decide)) := List.getElem?_eq_getElem _
      have y1 : ys[1]? = some (ys[1]'(by rw [hyl]; decide)) := List.getElem?_eq_getElem _
      have y2 : ys[2]? = some (ys[2]'(by rw [hyl]; decide)) := List.getElem?_eq_getElem _
      have y3 : ys[3]? = some (ys[3]'(by rw [hyl]; decide)) := List.getElem?_eq_getElem _
      have f0 : DataW.trod enc Try.prog w 0 (fun _ => true) true n' 24 (([v0, v1, v2, v3, v4, v5, v6, v7].drop 0).take (Try.prog.cellsOf 24)) = ys[0]? := hff 0 _ rfl
      have f1 : DataW.trod enc Try.prog w 0 (fun _ => true) true n' 3 (([v0, v1, v2, v3, v4, v5, v6, v7].drop 1).take (Try.prog.cellsOf 3)) = ys[1]? := hff 1 _ rfl
      have f2 : DataW.trod enc Try.prog w 0 (fun _ => true) true n' 3 (([v0, v1, v2, v3, v4, v5, v6, v7].drop 2).take (Try.prog.cellsOf 3)) = ys[2]? := hff 2 _ rfl
      have f3 : DataW.trod enc Try.prog w 0 (fun _ => true) true n' 40 (([v0, v1, v2, v3, v4, v5, v6, v7].drop 3).take (Try.prog.cellsOf 40)) = ys[3]? := hff 3 _ rfl
      rw [c1kind, y0] at f0; rw [c1int, y1] at f1; rw [c1int, y2] at f2; rw [cellsFr, y3] at f3
      obtain ⟨k0, e0, _, w0⟩ := DataW.trod_int Try.underlying24 f0
      obtain ⟨k1, e1, _, w1⟩ := DataW.trod_int Try.underlying3 f1
      obtain ⟨k2, e2, _, w2⟩ := DataW.trod_int Try.underlying3 f2
      obtain ⟨zs, m', _, _, _, hzl, hgg⟩ := DataW.trod_struct Try.underlying40 f3
      have z0 : zs[0]? = some (zs[0]'(by rw [hzl]; decide)) := List.getElem?_eq_getElem _
      have z1 : zs[1]? = some (zs[1]'(by rw [hzl]; decide)) := List.getElem?_eq_getElem _
      have z2 : zs[2]? = some (zs[2]'(by rw [hzl]; decide)) := List.getElem?_eq_getElem _
      have z3 : zs[3]? = some (zs[3]'(by rw [hzl]; decide)) := List.getElem?_eq_getElem _
      have z4 : zs[4]? = some (zs[4]'(by rw [hzl]; decide)) := List.getElem?_eq_getElem _
      have h0 : DataW.trod enc Try.prog w 0 (fun _ => true) true m' 24 (([v3, v4, v5, v6, v7].drop 0).take (Try.prog.cellsOf 24)) = zs[0]? := hgg 0 _ rfl
      have h1' : DataW.trod enc Try.prog w 0 (fun _ => true) true m' 3 (([v3, v4, v5, v6, v7].drop 1).take (Try.prog.cellsOf 3)) = zs[1]? := hgg 1 _ rfl
      have h2 : DataW.trod enc Try.prog w 0 (fun _ => true) true m' 3 (([v3, v4, v5, v6, v7].drop 2).take (Try.prog.cellsOf 3)) = zs[2]? := hgg 2 _ rfl
      have h3 : DataW.trod enc Try.prog w 0 (fun _ => true) true m' 3 (([v3, v4, v5, v6, v7].drop 3).take (Try.prog.cellsOf 3)) = zs[3]? := hgg 3 _ rfl
      have h4 : DataW.trod enc Try.prog w 0 (fun _ => true) true m' 25 (([v3, v4, v5, v6, v7].drop 4).take (Try.prog.cellsOf 25)) = zs[4]? := hgg 4 _ rfl
      rw [c1kind, z0] at h0; rw [c1int, z1] at h1'; rw [c1int, z2] at h2; rw [c1int, z3] at h3; rw [c1bytes, z4] at h4
      obtain ⟨q0, p0, _, x0⟩ := DataW.trod_int Try.underlying24 h0
      obtain ⟨q1, p1, _, x1⟩ := DataW.trod_int Try.underlying3 h1'
      obtain ⟨q2, p2, _, x2⟩ := DataW.trod_int Try.underlying3 h2
      obtain ⟨q3, p3, _, x3⟩ := DataW.trod_int Try.underlying3 h3
      obtain ⟨A2, l2, cp2, d2, p4, hroom2, hrd2⟩ := bytes_of h4
      have hd2 := hrd2.1
      subst hd2
      simp at e0 e1 e2 p0 p1 p2 p3 p4 g0 g1 g2 g3 g4 g5 g6 g7
      subst e0; subst e1; subst e2; subst p0; subst p1; subst p2; subst p3; subst p4
      refine ⟨⟨k0, k1, k2, ⟨q0, q1, q2, q3, d2⟩⟩, ⟨i64_wf w0, i64_wf w1, i64_wf w2, i64_wf x0, i64_wf x1, i64_wf x2, i64_wf x3⟩, ⟨rfl, by have := cell_lt g0; exact this⟩, A2, cp2, ?_⟩
      simp only [Nat.add_assoc]
      exact ⟨g0, g1, g2, g3, g4, g5, g6, g7, hrd2, hroom2⟩
    have ch : ∃ F : Nat → LAct, ∀ i, i < l → LaOk (F i) ∧ (spot = none ∧ b < w.heap.size) ∧ LaAt w w.heap.size b (o + i * 8) (F i) := by
      refine ⟨fun i => if h : i < l then Classical.choose (key i h) else la0, fun i hi => ?_⟩
      simp only [dif_pos hi]
      exact Classical.choose_spec (key i hi)
    obtain ⟨F, hF⟩ := ch
    refine ⟨some ⟨b, o, spot⟩, l, m, (List.range l).map F, rfl, ⟨hl, hm, (fun h => by cases h)⟩, ⟨by simp, fun h0 => ?_⟩, fun y hy => ?_⟩
    · obtain ⟨_, ⟨hs, hb⟩, _⟩ := hF 0 h0
      subst hs
      refine ⟨b, o, rfl, hb, fun i hi => ?_⟩
      have hg : ((List.range l).map F).getD i la0 = F i := by simp [List.getD, hi]
      rw [hg]
      exact (hF i hi).2.2
    · simp only [List.mem_map, List.mem_range] at hy
      obtain ⟨i, hi, rfl⟩ := hy
      exact (hF i hi).1
end
end Go.Proofs.Ytiidkmnagfhgiaa

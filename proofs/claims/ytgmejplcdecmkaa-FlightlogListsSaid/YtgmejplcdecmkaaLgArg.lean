/- The arguments of a log's laws: calls and records opened. -/
import Derived.Test.YtgmejplcdecmkaaArg
import Derived.Test.YtgmejplcdecmkaaLgA
namespace Go.Proofs.Ytgmejplcdecmkaa
open Go.ChangeShapes Go.WideShapes Go.ChangeAt Go.RowKit Go.Joins Go.Deep
set_option linter.unusedVariables false
set_option linter.unusedSimpArgs false
set_option maxHeartbeats 4000000
set_option maxRecDepth 100000
/-- a call of a log, as data -/
structure GAct where
  (kind t a x y z s : Int)
  f : Fr
def ga0 : GAct := ⟨0, 0, 0, 0, 0, 0, 0, fr0⟩
def I64r (z : Int) : Prop := -9223372036854775808 ≤ z ∧ z ≤ 9223372036854775807
def GaOk (a : GAct) : Prop := I64r a.kind ∧ I64r a.t ∧ I64r a.a ∧ I64r a.x ∧ I64r a.y ∧ I64r a.z ∧ I64r a.s ∧ FrOk a.f
/-- a record within Go's numbers -/
def RcOk (r : Lg.Rc) : Prop := I64r r.t ∧ I64r r.a ∧ I64r r.k ∧ I64r r.x ∧ I64r r.y ∧ I64r r.z ∧ I64r r.s ∧ FrOk r.f ∧ (0 ≤ r.sum ∧ r.sum ≤ 4294967295)
/-- a call as a value: its bytes lie at A with room cap -/
structure AV where
  x : GAct
  A : Option Addr
  cap : Nat
def av0 : AV := ⟨ga0, none, 0⟩
def AV.cells (v : AV) : List Value := [.int .i64 v.x.kind, .int .i64 v.x.t, .int .i64 v.x.a, .int .i64 v.x.x, .int .i64 v.x.y, .int .i64 v.x.z, .int .i64 v.x.s, .int .i64 v.x.f.k, .int .i64 v.x.f.f, .int .i64 v.x.f.t, .int .i64 v.x.f.s, .slice v.A v.x.f.d.length v.cap]
def AV.val (v : AV) : Value := .agg v.cells.toArray
def AvOk (w : World) (B : Nat) (y : AV) : Prop := Rd w B y.A y.x.f.d.length y.x.f.d ∧ y.x.f.d.length ≤ y.cap ∧ y.cap ≤ maxLen ∧ (y.A = none → y.x.f.d.length = 0 ∧ y.cap = 0)
theorem AvOk.below {w w' : World} {B B' : Nat} {y : AV} (h : AvOk w B y) (k : Below B' w w') (hB : B ≤ B') : AvOk w' B y := ⟨h.1.below k hB, h.2⟩
theorem AvOk.more {w : World} {B B' : Nat} {y : AV} (h : AvOk w B y) (hB : B ≤ B') : AvOk w B' y := ⟨h.1.more hB, h.2⟩
/-- the slice at A of n calls reads vs; all of it lies below block B -/
def Ra (w : World) (B : Nat) (A : Option Addr) (n : Nat) (vs : List AV) : Prop :=
  vs.length = n ∧ (0 < n → ∃ b o, A = some ⟨b, o, none⟩ ∧ b < B ∧ ∀ i, i < n → (∀ j u, (vs.getD i av0).cells[j]? = some u → w.cell? ⟨b, o + i * 12 + j, none⟩ = some u)) ∧ ∀ y ∈ vs, AvOk w B y
section
variable {w w' : World} {B B' n : Nat} {A : Option Addr} {vs : List AV}
theorem Ra.below (h : Ra w B A n vs) (k : Below B' w w') (hB : B ≤ B') : Ra w' B A n vs :=
  ⟨h.1, fun hn => by
    obtain ⟨b, o, e, hb, hc⟩ := h.2.1 hn
    exact ⟨b, o, e, hb, fun i hi j u hu => (k.cell (p := ⟨b, _, none⟩) (Nat.lt_of_lt_of_le hb hB)).trans (hc i hi j u hu)⟩, fun y hy => (h.2.2 y hy).below k hB⟩
theorem Ra.more (h : Ra w B A n vs) (hB : B ≤ B') : Ra w B' A n vs :=
  ⟨h.1, fun hn => by
    obtain ⟨b, o, e, hb, hc⟩ := h.2.1 hn
    exact ⟨b, o, e, Nat.lt_of_lt_of_le hb hB, hc⟩, fun y hy => (h.2.2 y hy).more hB⟩
theorem Ra.ok (h : Ra w B A n vs) {i : Nat} (hi : i < n) : AvOk w B (vs.getD i av0) := by
  have : i < vs.length := by rw [h.1]; exact hi
  refine h.2.2 _ ?_
  simp [List.getD, List.getElem?_eq_getElem this]
end
theorem cellsVec : Try.prog.cellsOf 25 = 3 := by kernel_rfl
theorem c1int : Try.prog.cellsOf 3 = 1 := by kernel_rfl
theorem c1u32 : Try.prog.cellsOf 22 = 1 := by kernel_rfl
theorem c1bytes : Try.prog.cellsOf 28 = 1 := by kernel_rfl
theorem c1kind : Try.prog.cellsOf 27 = 1 := by kernel_rfl
theorem c1rkind : Try.prog.cellsOf 23 = 1 := by kernel_rfl
theorem c1state : Try.prog.cellsOf 26 = 1 := by kernel_rfl
theorem cellsAct : Try.prog.cellsOf 83 = 12 := by kernel_rfl
theorem cellsRec : Try.prog.cellsOf 32 = 13 := by kernel_rfl
section
variable {H : Type} {enc : TypeId × Value → H} {w : World} {fuel : Nat} {c : Value} {x : DataW H × List MemPlace}
theorem u32_wf {z : Int} (h : (Lit.int .u32 z).wf = true) : 0 ≤ z ∧ z ≤ 4294967295 := by
  have h' : IntKind.u32.min ≤ z ∧ z ≤ IntKind.u32.max := by simpa [Lit.wf] using h
  exact ⟨Int.le_trans (by decide) h'.1, Int.le_trans h'.2 (by decide)⟩
theorem cells12 {l : List Value} (h : l.length = 12) : ∃ a b c d e f g i j k m n, l = [a, b, c, d, e, f, g, i, j, k, m, n] := by
  match l, h with
  | [a, b, c, d, e, f, g, i, j, k, m, n], _ => exact ⟨a, b, c, d, e, f, g, i, j, k, m, n, rfl⟩
theorem cells13 {l : List Value} (h : l.length = 13) : ∃ a b c d e f g i j k m n o, l = [a, b, c, d, e, f, g, i, j, k, m, n, o] := by
  match l, h with
  | [a, b, c, d, e, f, g, i, j, k, m, n, o], _ => exact ⟨a, b, c, d, e, f, g, i, j, k, m, n, o, rfl⟩
theorem vec_cells {a b c : Value} (hf : DataW.trod enc Try.prog w 0 (fun _ => true) true fuel 25 [a, b, c] = some x) : ∃ p q r : Int, a = .int .i64 p ∧ b = .int .i64 q ∧ c = .int .i64 r ∧ I64r p ∧ I64r q ∧ I64r r := by
  obtain ⟨ys, n', hn', hy, hlen, hyl, hff⟩ := DataW.trod_struct Try.underlying25 hf
  have y0 : ys[0]? = some (ys[0]'(by rw [hyl]; decide)) := List.getElem?_eq_getElem _
  have y1 : ys[1]? = some (ys[1]'(by rw [hyl]; decide)) := List.getElem?_eq_getElem _
  have y2 : ys[2]? = some (ys[2]'(by rw [hyl]; decide)) := List.getElem?_eq_getElem _
  have f0 : DataW.trod enc Try.prog w 0 (fun _ => true) true n' 3 (([a, b, c].drop 0).take (Try.prog.cellsOf 3)) = ys[0]? := hff 0 _ rfl
  have f1 : DataW.trod enc Try.prog w 0 (fun _ => true) true n' 3 (([a, b, c].drop 1).take (Try.prog.cellsOf 3)) = ys[1]? := hff 1 _ rfl
  have f2 : DataW.trod enc Try.prog w 0 (fun _ => true) true n' 3 (([a, b, c].drop 2).take (Try.prog.cellsOf 3)) = ys[2]? := hff 2 _ rfl
  rw [c1int, y0] at f0; rw [c1int, y1] at f1; rw [c1int, y2] at f2
  obtain ⟨k0, e0, _, w0⟩ := DataW.trod_int Try.underlying3 f0
  obtain ⟨k1, e1, _, w1⟩ := DataW.trod_int Try.underlying3 f1
  obtain ⟨k2, e2, _, w2⟩ := DataW.trod_int Try.underlying3 f2
  simp at e0 e1 e2
  exact ⟨k0, k1, k2, e0, e1, e2, i64_wf w0, i64_wf w1, i64_wf w2⟩
theorem frame_cells {v3 v4 v5 v6 v7 : Value} (hf : DataW.trod enc Try.prog w 0 (fun _ => true) true fuel 30 [v3, v4, v5, v6, v7] = some x) :
    ∃ (y : Fr) (A : Option Addr) (cap : Nat), v3 = .int .i64 y.k ∧ v4 = .int .i64 y.f ∧ v5 = .int .i64 y.t ∧ v6 = .int .i64 y.s ∧ v7 = .slice A y.d.length cap ∧ FrOk y ∧ Rd w w.heap.size A y.d.length y.d ∧ Room A y.d.length cap := by
  obtain ⟨zs, m', _, _, _, hzl, hgg⟩ := DataW.trod_struct Try.underlying30 hf
  have z0 : zs[0]? = some (zs[0]'(by rw [hzl]; decide)) := List.getElem?_eq_getElem _
  have z1 : zs[1]? = some (zs[1]'(by rw [hzl]; decide)) := List.getElem?_eq_getElem _
  have z2 : zs[2]? = some (zs[2]'(by rw [hzl]; decide)) := List.getElem?_eq_getElem _
  have z3 : zs[3]? = some (zs[3]'(by rw [hzl]; decide)) := List.getElem?_eq_getElem _
  have z4 : zs[4]? = some (zs[4]'(by rw [hzl]; decide)) := List.getElem?_eq_getElem _
  have h0 : DataW.trod enc Try.prog w 0 (fun _ => true) true m' 27 (([v3, v4, v5, v6, v7].drop 0).take (Try.prog.cellsOf 27)) = zs[0]? := hgg 0 _ rfl
  have h1' : DataW.trod enc Try.prog w 0 (fun _ => true) true m' 3 (([v3, v4, v5, v6, v7].drop 1).take (Try.prog.cellsOf 3)) = zs[1]? := hgg 1 _ rfl
  have h2 : DataW.trod enc Try.prog w 0 (fun _ => true) true m' 3 (([v3, v4, v5, v6, v7].drop 2).take (Try.prog.cellsOf 3)) = zs[2]? := hgg 2 _ rfl
  have h3 : DataW.trod enc Try.prog w 0 (fun _ => true) true m' 3 (([v3, v4, v5, v6, v7].drop 3).take (Try.prog.cellsOf 3)) = zs[3]? := hgg 3 _ rfl
  have h4 : DataW.trod enc Try.prog w 0 (fun _ => true) true m' 28 (([v3, v4, v5, v6, v7].drop 4).take (Try.prog.cellsOf 28)) = zs[4]? := hgg 4 _ rfl
  rw [c1kind, z0] at h0; rw [c1int, z1] at h1'; rw [c1int, z2] at h2; rw [c1int, z3] at h3; rw [c1bytes, z4] at h4
  obtain ⟨q0, p0, _, x0⟩ := DataW.trod_int Try.underlying27 h0
  obtain ⟨q1, p1, _, x1⟩ := DataW.trod_int Try.underlying3 h1'
  obtain ⟨q2, p2, _, x2⟩ := DataW.trod_int Try.underlying3 h2
  obtain ⟨q3, p3, _, x3⟩ := DataW.trod_int Try.underlying3 h3
  obtain ⟨A2, l2, cp2, d2, p4, hroom2, hrd2⟩ := bytes_of h4
  have hd2 := hrd2.1
  subst hd2
  simp at p0 p1 p2 p3 p4
  exact ⟨⟨q0, q1, q2, q3, d2⟩, A2, cp2, p0, p1, p2, p3, p4, ⟨i64_wf x0, i64_wf x1, i64_wf x2, i64_wf x3⟩, hrd2, hroom2⟩
theorem act_cells {l : List Value} (hl : l.length = 12) (hf : DataW.trod enc Try.prog w 0 (fun _ => true) true fuel 83 l = some x) : ∃ y : AV, l = y.cells ∧ GaOk y.x ∧ AvOk w w.heap.size y := by
  obtain ⟨v0, v1, v2, v3, v4, v5, v6, v7, v8, v9, v10, v11, rfl⟩ := cells12 hl
  obtain ⟨ys, n', hn', hy, hlen, hyl, hff⟩ := DataW.trod_struct Try.underlying83 hf
  have y0 : ys[0]? = some (ys[0]'(by rw [hyl]; decide)) := List.getElem?_eq_getElem _
  have y1 : ys[1]? = some (ys[1]'(by rw [hyl]; decide)) := List.getElem?_eq_getElem _
  have y2 : ys[2]? = some (ys[2]'(by rw [hyl]; decide)) := List.getElem?_eq_getElem _
  have y3 : ys[3]? = some (ys[3]'(by rw [hyl]; decide)) := List.getElem?_eq_getElem _
  have y4 : ys[4]? = some (ys[4]'(by rw [hyl]; decide)) := List.getElem?_eq_getElem _
  have y5 : ys[5]? = some (ys[5]'(by rw [hyl]; decide)) := List.getElem?_eq_getElem _
  have f0 : DataW.trod enc Try.prog w 0 (fun _ => true) true n' 3 (([v0, v1, v2, v3, v4, v5, v6, v7, v8, v9, v10, v11].drop 0).take (Try.prog.cellsOf 3)) = ys[0]? := hff 0 _ rfl
  have f1 : DataW.trod enc Try.prog w 0 (fun _ => true) true n' 3 (([v0, v1, v2, v3, v4, v5, v6, v7, v8, v9, v10, v11].drop 1).take (Try.prog.cellsOf 3)) = ys[1]? := hff 1 _ rfl
  have f2 : DataW.trod enc Try.prog w 0 (fun _ => true) true n' 3 (([v0, v1, v2, v3, v4, v5, v6, v7, v8, v9, v10, v11].drop 2).take (Try.prog.cellsOf 3)) = ys[2]? := hff 2 _ rfl
  have f3 : DataW.trod enc Try.prog w 0 (fun _ => true) true n' 25 (([v0, v1, v2, v3, v4, v5, v6, v7, v8, v9, v10, v11].drop 3).take (Try.prog.cellsOf 25)) = ys[3]? := hff 3 _ rfl
  have f4 : DataW.trod enc Try.prog w 0 (fun _ => true) true n' 26 (([v0, v1, v2, v3, v4, v5, v6, v7, v8, v9, v10, v11].drop 6).take (Try.prog.cellsOf 26)) = ys[4]? := hff 4 _ rfl
  have f5 : DataW.trod enc Try.prog w 0 (fun _ => true) true n' 30 (([v0, v1, v2, v3, v4, v5, v6, v7, v8, v9, v10, v11].drop 7).take (Try.prog.cellsOf 30)) = ys[5]? := hff 5 _ rfl
  rw [c1int, y0] at f0; rw [c1int, y1] at f1; rw [c1int, y2] at f2; rw [cellsVec, y3] at f3; rw [c1state, y4] at f4; rw [cellsFr, y5] at f5
  obtain ⟨k0, e0, _, w0⟩ := DataW.trod_int Try.underlying3 f0
  obtain ⟨k1, e1, _, w1⟩ := DataW.trod_int Try.underlying3 f1
  obtain ⟨k2, e2, _, w2⟩ := DataW.trod_int Try.underlying3 f2
  obtain ⟨p, q, r, e3, e4, e5, w3, w4, w5⟩ := vec_cells f3
  obtain ⟨k4, e6, _, w6⟩ := DataW.trod_int Try.underlying26 f4
  obtain ⟨y, A, cap, e7, e8, e9, e10, e11, w7, w8, w9⟩ := frame_cells f5
  simp at e0 e1 e2 e6
  subst e0; subst e1; subst e2; subst e3; subst e4; subst e5; subst e6; subst e7; subst e8; subst e9; subst e10; subst e11
  exact ⟨⟨⟨k0, k1, k2, p, q, r, k4, y⟩, A, cap⟩, rfl, ⟨i64_wf w0, i64_wf w1, i64_wf w2, w3, w4, w5, i64_wf w6, w7⟩, w8, w9⟩
theorem rec_cells {l : List Value} (hl : l.length = 13) (hf : DataW.trod enc Try.prog w 0 (fun _ => true) true fuel 32 l = some x) : ∃ y : Lg.RV, l = y.cells ∧ RcOk y.x ∧ Lg.Ok w w.heap.size y := by
  obtain ⟨v0, v1, v2, v3, v4, v5, v6, v7, v8, v9, v10, v11, v12, rfl⟩ := cells13 hl
  obtain ⟨ys, n', hn', hy, hlen, hyl, hff⟩ := DataW.trod_struct Try.underlying32 hf
  have y0 : ys[0]? = some (ys[0]'(by rw [hyl]; decide)) := List.getElem?_eq_getElem _
  have y1 : ys[1]? = some (ys[1]'(by rw [hyl]; decide)) := List.getElem?_eq_getElem _
  have y2 : ys[2]? = some (ys[2]'(by rw [hyl]; decide)) := List.getElem?_eq_getElem _
  have y3 : ys[3]? = some (ys[3]'(by rw [hyl]; decide)) := List.getElem?_eq_getElem _
  have y4 : ys[4]? = some (ys[4]'(by rw [hyl]; decide)) := List.getElem?_eq_getElem _
  have y5 : ys[5]? = some (ys[5]'(by rw [hyl]; decide)) := List.getElem?_eq_getElem _
  have y6 : ys[6]? = some (ys[6]'(by rw [hyl]; decide)) := List.getElem?_eq_getElem _
  have f0 : DataW.trod enc Try.prog w 0 (fun _ => true) true n' 3 (([v0, v1, v2, v3, v4, v5, v6, v7, v8, v9, v10, v11, v12].drop 0).take (Try.prog.cellsOf 3)) = ys[0]? := hff 0 _ rfl
  have f1 : DataW.trod enc Try.prog w 0 (fun _ => true) true n' 3 (([v0, v1, v2, v3, v4, v5, v6, v7, v8, v9, v10, v11, v12].drop 1).take (Try.prog.cellsOf 3)) = ys[1]? := hff 1 _ rfl
  have f2 : DataW.trod enc Try.prog w 0 (fun _ => true) true n' 23 (([v0, v1, v2, v3, v4, v5, v6, v7, v8, v9, v10, v11, v12].drop 2).take (Try.prog.cellsOf 23)) = ys[2]? := hff 2 _ rfl
  have f3 : DataW.trod enc Try.prog w 0 (fun _ => true) true n' 25 (([v0, v1, v2, v3, v4, v5, v6, v7, v8, v9, v10, v11, v12].drop 3).take (Try.prog.cellsOf 25)) = ys[3]? := hff 3 _ rfl
  have f4 : DataW.trod enc Try.prog w 0 (fun _ => true) true n' 26 (([v0, v1, v2, v3, v4, v5, v6, v7, v8, v9, v10, v11, v12].drop 6).take (Try.prog.cellsOf 26)) = ys[4]? := hff 4 _ rfl
  have f5 : DataW.trod enc Try.prog w 0 (fun _ => true) true n' 30 (([v0, v1, v2, v3, v4, v5, v6, v7, v8, v9, v10, v11, v12].drop 7).take (Try.prog.cellsOf 30)) = ys[5]? := hff 5 _ rfl
  have f6 : DataW.trod enc Try.prog w 0 (fun _ => true) true n' 22 (([v0, v1, v2, v3, v4, v5, v6, v7, v8, v9, v10, v11, v12].drop 12).take (Try.prog.cellsOf 22)) = ys[6]? := hff 6 _ rfl
  rw [c1int, y0] at f0; rw [c1int, y1] at f1; rw [c1rkind, y2] at f2; rw [cellsVec, y3] at f3; rw [c1state, y4] at f4; rw [cellsFr, y5] at f5; rw [c1u32, y6] at f6
  obtain ⟨k0, e0, _, w0⟩ := DataW.trod_int Try.underlying3 f0
  obtain ⟨k1, e1, _, w1⟩ := DataW.trod_int Try.underlying3 f1
  obtain ⟨k2, e2, _, w2⟩ := DataW.trod_int Try.underlying23 f2
  obtain ⟨p, q, r, e3, e4, e5, w3, w4, w5⟩ := vec_cells f3
  obtain ⟨k4, e6, _, w6⟩ := DataW.trod_int Try.underlying26 f4
  obtain ⟨y, A, cap, e7, e8, e9, e10, e11, w7, w8, w9⟩ := frame_cells f5
  obtain ⟨k6, e12, _, w12⟩ := DataW.trod_int Try.underlying22 f6
  simp at e0 e1 e2 e6 e12
  subst e0; subst e1; subst e2; subst e3; subst e4; subst e5; subst e6; subst e7; subst e8; subst e9; subst e10; subst e11; subst e12
  exact ⟨⟨⟨k0, k1, k2, p, q, r, k4, y, k6⟩, A, cap⟩, rfl, ⟨i64_wf w0, i64_wf w1, i64_wf w2, w3, w4, w5, i64_wf w6, w7, u32_wf w12⟩, w8, w9.1, w9.2.1, w9.2.2⟩
/-- a slice of calls -/
theorem gacts_of (hf : DataW.trod enc Try.prog w 0 (fun _ => true) true fuel 78 [c] = some x) : ∃ (a : Option Addr) (len cap : Nat) (l : List AV), c = .slice a len cap ∧ Room a len cap ∧ Ra w w.heap.size a len l ∧ ∀ y ∈ l, GaOk y.x := by
  rcases open_slice Try.underlying78 hf with ⟨hcs, _⟩ | ⟨x, l, c', m, n, D, Pl, hcs, _, hl, hm, hmm, _, hc⟩
  · simp at hcs
    exact ⟨none, 0, 0, [], hcs, ⟨by omega, by unfold maxLen; omega, fun _ => ⟨rfl, rfl⟩⟩, ⟨rfl, (fun h => absurd h (by omega)), (by intro y hy; cases hy)⟩, by intro y hy; cases hy⟩
  · simp at hcs
    subst hcs
    simp at hmm
    subst hmm
    rw [cellsAct] at hc
    obtain ⟨b, o, spot⟩ := x
    have hs0 : 0 < l → spot = none := fun h0 => by
      obtain ⟨cs', hcell, ht'⟩ := hc 0 (by omega)
      obtain ⟨_, hcl, hat⟩ := World.cells?_some hcell
      obtain ⟨y, rfl, _, _⟩ := act_cells hcl ht'
      have g0 := hat 0 (by omega)
      simp [Addr.add, AV.cells] at g0
      simpa using World.cell?_spot g0
    have key : ∀ i, i < l → ∃ y : AV, GaOk y.x ∧ AvOk w w.heap.size y ∧ (spot = none ∧ b < w.heap.size) ∧ ∀ j u, y.cells[j]? = some u → w.cell? ⟨b, o + i * 12 + j, none⟩ = some u := by
      intro i h1
      obtain ⟨cs', hcell, ht'⟩ := hc i (by omega)
      obtain ⟨_, hcl, hat⟩ := World.cells?_some hcell
      obtain ⟨y, rfl, hok, hav⟩ := act_cells hcl ht'
      have g0 := hat 0 (by omega)
      have hspot := hs0 (by omega)
      subst hspot
      refine ⟨y, hok, hav, ⟨rfl, ?_⟩, fun j u hu => ?_⟩
      · have : w.cell? (((⟨b, o, none⟩ : Addr).add (i * 12)).add 0) = some (.int .i64 y.x.kind) := g0
        have := cell_lt this
        simpa [add_none] using this
      · have hj : j < 12 := by
          rcases Nat.lt_or_ge j 12 with hj | hj
          · exact hj
          · rw [List.getElem?_eq_none (by exact hj)] at hu; cases hu
        have := hat j hj
        simp only [add_none] at this
        rw [this, hu]
    have ch : ∃ F : Nat → AV, ∀ i, i < l → GaOk (F i).x ∧ AvOk w w.heap.size (F i) ∧ (spot = none ∧ b < w.heap.size) ∧ ∀ j u, (F i).cells[j]? = some u → w.cell? ⟨b, o + i * 12 + j, none⟩ = some u := by
      refine ⟨fun i => if h : i < l then Classical.choose (key i h) else av0, fun i hi => ?_⟩
      simp only [dif_pos hi]
      exact Classical.choose_spec (key i hi)
    obtain ⟨F, hF⟩ := ch
    refine ⟨some ⟨b, o, spot⟩, l, m, (List.range l).map F, rfl, ⟨hl, hm, (fun h => by cases h)⟩, ⟨by simp, fun h0 => ?_, fun y hy => ?_⟩, fun y hy => ?_⟩
    · obtain ⟨_, _, ⟨hs, hb⟩, _⟩ := hF 0 h0
      subst hs
      refine ⟨b, o, rfl, hb, fun i hi => ?_⟩
      have hg : ((List.range l).map F).getD i av0 = F i := by simp [List.getD, hi]
      rw [hg]
      exact (hF i hi).2.2.2
    · simp only [List.mem_map, List.mem_range] at hy
      obtain ⟨i, hi, rfl⟩ := hy
      exact (hF i hi).2.1
    · simp only [List.mem_map, List.mem_range] at hy
      obtain ⟨i, hi, rfl⟩ := hy
      exact (hF i hi).1
/-- a slice of records -/
theorem recs_of (hf : DataW.trod enc Try.prog w 0 (fun _ => true) true fuel 40 [c] = some x) : ∃ (a : Option Addr) (len cap : Nat) (l : List Lg.RV), c = .slice a len cap ∧ Room a len cap ∧ Lg.Rr w w.heap.size a len l ∧ ∀ y ∈ l, RcOk y.x := by
  rcases open_slice Try.underlying40 hf with ⟨hcs, _⟩ | ⟨x, l, c', m, n, D, Pl, hcs, _, hl, hm, hmm, _, hc⟩
  · simp at hcs
    exact ⟨none, 0, 0, [], hcs, ⟨by omega, by unfold maxLen; omega, fun _ => ⟨rfl, rfl⟩⟩, Lg.Rr.nil _ _ _, by intro y hy; cases hy⟩
  · simp at hcs
    subst hcs
    simp at hmm
    subst hmm
    rw [cellsRec] at hc
    obtain ⟨b, o, spot⟩ := x
    have hs0 : 0 < l → spot = none := fun h0 => by
      obtain ⟨cs', hcell, ht'⟩ := hc 0 (by omega)
      obtain ⟨_, hcl, hat⟩ := World.cells?_some hcell
      obtain ⟨y, rfl, _, _⟩ := rec_cells hcl ht'
      have g0 := hat 0 (by omega)
      simp [Addr.add, Lg.RV.cells] at g0
      simpa using World.cell?_spot g0
    have key : ∀ i, i < l → ∃ y : Lg.RV, RcOk y.x ∧ Lg.Ok w w.heap.size y ∧ (spot = none ∧ b < w.heap.size) ∧ ∀ j u, y.cells[j]? = some u → w.cell? ⟨b, o + i * 13 + j, none⟩ = some u := by
      intro i h1
      obtain ⟨cs', hcell, ht'⟩ := hc i (by omega)
      obtain ⟨_, hcl, hat⟩ := World.cells?_some hcell
      obtain ⟨y, rfl, hok, hav⟩ := rec_cells hcl ht'
      have g0 := hat 0 (by omega)
      have hspot := hs0 (by omega)
      subst hspot
      refine ⟨y, hok, hav, ⟨rfl, ?_⟩, fun j u hu => ?_⟩
      · have : w.cell? (((⟨b, o, none⟩ : Addr).add (i * 13)).add 0) = some (.int .i64 y.x.t) := g0
        have := cell_lt this
        simpa [add_none] using this
      · have hj : j < 13 := by
          rcases Nat.lt_or_ge j 13 with hj | hj
          · exact hj
          · rw [List.getElem?_eq_none (by exact hj)] at hu; cases hu
        have := hat j hj
        simp only [add_none] at this
        rw [this, hu]
    have ch : ∃ F : Nat → Lg.RV, ∀ i, i < l → RcOk (F i).x ∧ Lg.Ok w w.heap.size (F i) ∧ (spot = none ∧ b < w.heap.size) ∧ ∀ j u, (F i).cells[j]? = some u → w.cell? ⟨b, o + i * 13 + j, none⟩ = some u := by
      refine ⟨fun i => if h : i < l then Classical.choose (key i h) else Lg.rv0, fun i hi => ?_⟩
      simp only [dif_pos hi]
      exact Classical.choose_spec (key i hi)
    obtain ⟨F, hF⟩ := ch
    have hlen : ((List.range l).map F).length = l := by simp
    refine ⟨some ⟨b, o, spot⟩, l, m, (List.range l).map F, rfl, ⟨hl, hm, (fun h => by cases h)⟩, ⟨⟨by rw [Lg.cs_len, hlen], fun h0 => ?_⟩, fun y hy => ?_⟩, fun y hy => ?_⟩
    · obtain ⟨_, _, ⟨hs, hb⟩, _⟩ := hF 0 h0
      subst hs
      refine ⟨b, o, rfl, hb, fun j u hu => ?_⟩
      have hj : j < l * 13 := by
        rcases Nat.lt_or_ge j (l * 13) with hj | hj
        · exact hj
        · rw [List.getElem?_eq_none (by rw [Lg.cs_len, hlen]; exact hj)] at hu; cases hu
      have hd := Nat.div_add_mod j 13
      have hi : j / 13 < l := by omega
      have hg : ((List.range l).map F).getD (j / 13) Lg.rv0 = F (j / 13) := by simp [List.getD, hi]
      have he : j / 13 * 13 + j % 13 = j := by omega
      have hc' := Lg.cs_at ((List.range l).map F) (j / 13) (j % 13) (by rw [hlen]; exact hi) (Nat.mod_lt _ (by omega))
      rw [he, hu, hg] at hc'
      have := (hF _ hi).2.2.2 _ _ hc'.symm
      rw [Nat.add_assoc, he] at this
      exact this
    · simp only [List.mem_map, List.mem_range] at hy
      obtain ⟨i, hi, rfl⟩ := hy
      exact (hF i hi).2.1
    · simp only [List.mem_map, List.mem_range] at hy
      obtain ⟨i, hi, rfl⟩ := hy
      exact (hF i hi).1
/-- a call -/
theorem gact_of {v : Value} {d : DataW H} {p : List MemPlace} {r : Reach} {b0 : Nat} (hv : Value.okWide Try.prog w r b0 83 v) (h : DataW.Trod enc Try.prog w 0 (fun _ => true) true 83 v d p) :
    ∃ y : AV, v = y.val ∧ GaOk y.x ∧ AvOk w w.heap.size y := by
  obtain ⟨cs, rfl, hsz⟩ := okWide_struct Try.underlying83 hv
  obtain ⟨l⟩ := cs
  have hl : l.length = 12 := hsz.trans cellsAct
  obtain ⟨fuel, hf⟩ := h
  have hf' : DataW.trod enc Try.prog w 0 (fun _ => true) true fuel 83 l = some (d, p) := hf
  obtain ⟨y, rfl, h1, h2⟩ := act_cells hl hf'
  exact ⟨y, rfl, h1, h2⟩
/-- a record -/
theorem rec_of {v : Value} {d : DataW H} {p : List MemPlace} {r : Reach} {b0 : Nat} (hv : Value.okWide Try.prog w r b0 32 v) (h : DataW.Trod enc Try.prog w 0 (fun _ => true) true 32 v d p) :
    ∃ y : Lg.RV, v = y.val ∧ RcOk y.x ∧ Lg.Ok w w.heap.size y := by
  obtain ⟨cs, rfl, hsz⟩ := okWide_struct Try.underlying32 hv
  obtain ⟨l⟩ := cs
  have hl : l.length = 13 := hsz.trans cellsRec
  obtain ⟨fuel, hf⟩ := h
  have hf' : DataW.trod enc Try.prog w 0 (fun _ => true) true fuel 32 l = some (d, p) := hf
  obtain ⟨y, rfl, h1, h2⟩ := rec_cells hl hf'
  exact ⟨y, rfl, h1, h2⟩
end
end Go.Proofs.Ytgmejplcdecmkaa

import Derived.Test.YtdocdgcdldpagaaGreatAp
import Derived.Test.YtdocdgcdldpagaaGreatAv03
import Derived.Test.YtdocdgcdldpagaaGreatAv37
namespace Go.Proofs.YtdocdgcdldpagaaGreat
open Go.ChangeShapes Go.WideShapes Go.ChangeAt Go.RowKit Go.Joins Go.Deep
set_option linter.unusedVariables false
set_option linter.unusedSimpArgs false
set_option maxHeartbeats 4000000
set_option maxRecDepth 100000
theorem ncell_rules : Tryz.prog.cellsOf 28 = 21 := by kernel_rfl
theorem ncell_prules : Tryz.prog.cellsOf 23 = 5 := by kernel_rfl
theorem ncell_lrules : Tryz.prog.cellsOf 25 = 5 := by kernel_rfl
theorem ncell_int : Tryz.prog.cellsOf 3 = 1 := by kernel_rfl
theorem ncell_ints : Tryz.prog.cellsOf 26 = 1 := by kernel_rfl
section
variable {H : Type} {enc : TypeId × Value → H} {w : World} {fuel : Nat} {c : Value} {x : DataW H × List MemPlace}
theorem Ei {p : Prop} (h : p := by
  have y0 : ys[0]? = some (ys[0]'C0) := List.getElem?_eq_getElem _
  have y1 : ys[1]? = some (ys[1]'C0) := List.getElem?_eq_getElem _
  have y2 : ys[2]? = some (ys[2]'C0) := List.getElem?_eq_getElem _
  have y3 : ys[3]? = some (ys[3]'C0) := List.getElem?_eq_getElem _
  have y4 : ys[4]? = some (ys[4]'C0) := List.getElem?_eq_getElem _
  have f0 : DataW.trod enc Tryz.prog w 0 (fun _ => true) true n' 3 (([a, b, c, d, e].drop 0).take (Tryz.prog.cellsOf 3)) = ys[0]? := hff 0 _ rfl
  have f1 : DataW.trod enc Tryz.prog w 0 (fun _ => true) true n' 3 (([a, b, c, d, e].drop 1).take (Tryz.prog.cellsOf 3)) = ys[1]? := hff 1 _ rfl
  have f2 : DataW.trod enc Tryz.prog w 0 (fun _ => true) true n' 3 (([a, b, c, d, e].drop 2).take (Tryz.prog.cellsOf 3)) = ys[2]? := hff 2 _ rfl
  have f3 : DataW.trod enc Tryz.prog w 0 (fun _ => true) true n' 3 (([a, b, c, d, e].drop 3).take (Tryz.prog.cellsOf 3)) = ys[3]? := hff 3 _ rfl
  have f4 : DataW.trod enc Tryz.prog w 0 (fun _ => true) true n' 3 (([a, b, c, d, e].drop 4).take (Tryz.prog.cellsOf 3)) = ys[4]? := hff 4 _ rfl
  rw [ncell_int, y0] at f0; rw [ncell_int, y1] at f1; rw [ncell_int, y2] at f2; rw [ncell_int, y3] at f3; rw [ncell_int, y4] at f4
  obtain ⟨k0, e0, _, w0⟩ := DataW.trod_int Tryz.underlying3 f0
  obtain ⟨k1, e1, _, w1⟩ := DataW.trod_int Tryz.underlying3 f1
  obtain ⟨k2, e2, _, w2⟩ := DataW.trod_int Tryz.underlying3 f2
  obtain ⟨k3, e3, _, w3⟩ := DataW.trod_int Tryz.underlying3 f3
  obtain ⟨k4, e4, _, w4⟩ := DataW.trod_int Tryz.underlying3 f4
  simp at e0 e1 e2 e3 e4
  exact ⟨k0, k1, k2, k3, k4, e0, e1, e2, e3, e4⟩
 ) : p := h
theorem pru_cells {a b c d e : Value} (hf : DataW.trod enc Tryz.prog w 0 (fun _ => true) true fuel 23 [a, b, c, d, e] = some x) : ∃ p q r s t : Int, a = .int .i64 p ∧ b = .int .i64 q ∧ c = .int .i64 r ∧ d = .int .i64 s ∧ e = .int .i64 t := by
  obtain ⟨ys, n', hn', hy, hlen, hyl, hff⟩ := DataW.trod_struct Tryz.underlying23 hf
  exact Ei
theorem lru_cells {a b c d e : Value} (hf : DataW.trod enc Tryz.prog w 0 (fun _ => true) true fuel 25 [a, b, c, d, e] = some x) : ∃ p q r s t : Int, a = .int .i64 p ∧ b = .int .i64 q ∧ c = .int .i64 r ∧ d = .int .i64 s ∧ e = .int .i64 t := by
  obtain ⟨ys, n', hn', hy, hlen, hyl, hff⟩ := DataW.trod_struct Tryz.underlying25 hf
  exact Ei
theorem cells21 {l : List Value} (h : l.length = 21) : ∃ v0 v1 v2 v3 v4 v5 v6 v7 v8 v9 v10 v11 v12 v13 v14 v15 v16 v17 v18 v19 v20, l = [v0, v1, v2, v3, v4, v5, v6, v7, v8, v9, v10, v11, v12, v13, v14, v15, v16, v17, v18, v19, v20] := by
  match l, h with
  | [v0, v1, v2, v3, v4, v5, v6, v7, v8, v9, v10, v11, v12, v13, v14, v15, v16, v17, v18, v19, v20], _ => exact ⟨v0, v1, v2, v3, v4, v5, v6, v7, v8, v9, v10, v11, v12, v13, v14, v15, v16, v17, v18, v19, v20, rfl⟩
theorem rules_of {v : Value} {d : DataW H} {p : List MemPlace} {r : Reach} {b0 : Nat} (hv : Value.okWide Tryz.prog w r b0 28 v) (h : DataW.Trod enc Tryz.prog w 0 (fun _ => true) true 28 v d p) :
    ∃ (r : Nt.Ru) (OA : Option Addr) (oc : Nat) (TA : Option Addr) (tc : Nat), v = rval r OA r.offs.length oc TA r.rates.length tc ∧ Ri w w.heap.size OA r.offs.length r.offs ∧ Ri w w.heap.size TA r.rates.length r.rates ∧ Room OA r.offs.length oc ∧ Room TA r.rates.length tc := by
  obtain ⟨cs, rfl, hsz⟩ := okWide_struct Tryz.underlying28 hv
  obtain ⟨l⟩ := cs
  obtain ⟨v0, v1, v2, v3, v4, v5, v6, v7, v8, v9, v10, v11, v12, v13, v14, v15, v16, v17, v18, v19, v20, rfl⟩ := cells21 (l := l) (hsz.trans ncell_rules)
  obtain ⟨fuel, hf⟩ := h
  obtain ⟨ys, n', _, hx, _, hyl, hff⟩ := DataW.trod_struct Tryz.underlying28 hf
  have y0 : ys[0]? = some (ys[0]'C0) := List.getElem?_eq_getElem _
  have y1 : ys[1]? = some (ys[1]'C0) := List.getElem?_eq_getElem _
  have y2 : ys[2]? = some (ys[2]'C0) := List.getElem?_eq_getElem _
  have y3 : ys[3]? = some (ys[3]'C0) := List.getElem?_eq_getElem _
  have y4 : ys[4]? = some (ys[4]'C0) := List.getElem?_eq_getElem _
  have y5 : ys[5]? = some (ys[5]'C0) := List.getElem?_eq_getElem _
  have y6 : ys[6]? = some (ys[6]'C0) := List.getElem?_eq_getElem _
  have y7 : ys[7]? = some (ys[7]'C0) := List.getElem?_eq_getElem _
  have y8 : ys[8]? = some (ys[8]'C0) := List.getElem?_eq_getElem _
  have f0 : DataW.trod enc Tryz.prog w 0 (fun _ => true) true n' 3 (([v0, v1, v2, v3, v4, v5, v6, v7, v8, v9, v10, v11, v12, v13, v14, v15, v16, v17, v18, v19, v20].drop 0).take (Tryz.prog.cellsOf 3)) = ys[0]? := hff 0 _ rfl
  have f1 : DataW.trod enc Tryz.prog w 0 (fun _ => true) true n' 3 (([v0, v1, v2, v3, v4, v5, v6, v7, v8, v9, v10, v11, v12, v13, v14, v15, v16, v17, v18, v19, v20].drop 1).take (Tryz.prog.cellsOf 3)) = ys[1]? := hff 1 _ rfl
  have f2 : DataW.trod enc Tryz.prog w 0 (fun _ => true) true n' 3 (([v0, v1, v2, v3, v4, v5, v6, v7, v8, v9, v10, v11, v12, v13, v14, v15, v16, v17, v18, v19, v20].drop 2).take (Tryz.prog.cellsOf 3)) = ys[2]? := hff 2 _ rfl
  have f3 : DataW.trod enc Tryz.prog w 0 (fun _ => true) true n' 3 (([v0, v1, v2, v3, v4, v5, v6, v7, v8, v9, v10, v11, v12, v13, v14, v15, v16, v17, v18, v19, v20].drop 3).take (Tryz.prog.cellsOf 3)) = ys[3]? := hff 3 _ rfl
  have f4 : DataW.trod enc Tryz.prog w 0 (fun _ => true) true n' 23 (([v0, v1, v2, v3, v4, v5, v6, v7, v8, v9, v10, v11, v12, v13, v14, v15, v16, v17, v18, v19, v20].drop 4).take (Tryz.prog.cellsOf 23)) = ys[4]? := hff 4 _ rfl
  have f5 : DataW.trod enc Tryz.prog w 0 (fun _ => true) true n' 25 (([v0, v1, v2, v3, v4, v5, v6, v7, v8, v9, v10, v11, v12, v13, v14, v15, v16, v17, v18, v19, v20].drop 9).take (Tryz.prog.cellsOf 25)) = ys[5]? := hff 5 _ rfl
  have f6 : DataW.trod enc Tryz.prog w 0 (fun _ => true) true n' 25 (([v0, v1, v2, v3, v4, v5, v6, v7, v8, v9, v10, v11, v12, v13, v14, v15, v16, v17, v18, v19, v20].drop 14).take (Tryz.prog.cellsOf 25)) = ys[6]? := hff 6 _ rfl
  have f7 : DataW.trod enc Tryz.prog w 0 (fun _ => true) true n' 26 (([v0, v1, v2, v3, v4, v5, v6, v7, v8, v9, v10, v11, v12, v13, v14, v15, v16, v17, v18, v19, v20].drop 19).take (Tryz.prog.cellsOf 26)) = ys[7]? := hff 7 _ rfl
  have f8 : DataW.trod enc Tryz.prog w 0 (fun _ => true) true n' 26 (([v0, v1, v2, v3, v4, v5, v6, v7, v8, v9, v10, v11, v12, v13, v14, v15, v16, v17, v18, v19, v20].drop 20).take (Tryz.prog.cellsOf 26)) = ys[8]? := hff 8 _ rfl
  rw [ncell_int, y0] at f0; rw [ncell_int, y1] at f1; rw [ncell_int, y2] at f2; rw [ncell_int, y3] at f3; rw [ncell_prules, y4] at f4; rw [ncell_lrules, y5] at f5; rw [ncell_lrules, y6] at f6; rw [ncell_ints, y7] at f7; rw [ncell_ints, y8] at f8
  obtain ⟨k0, e0, _, w0⟩ := DataW.trod_int Tryz.underlying3 f0
  obtain ⟨k1, e1, _, w1⟩ := DataW.trod_int Tryz.underlying3 f1
  obtain ⟨k2, e2, _, w2⟩ := DataW.trod_int Tryz.underlying3 f2
  obtain ⟨k3, e3, _, w3⟩ := DataW.trod_int Tryz.underlying3 f3
  obtain ⟨p0, p1, p2, p3, p4, a0, a1, a2, a3, a4⟩ := pru_cells f4
  obtain ⟨q0, q1, q2, q3, q4, b0, b1, b2, b3, b4⟩ := lru_cells f5
  obtain ⟨s0, s1, s2, s3, s4, c0, c1, c2, c3, c4⟩ := lru_cells f6
  obtain ⟨A7, l7, cp7, d7, e7, room7, rd7⟩ := ints_of f7
  obtain ⟨A8, l8, cp8, d8, e8, room8, rd8⟩ := ints_of f8
  simp at e0 e1 e2 e3 e7 e8
  have h7 := rd7.1
  have h8 := rd8.1
  subst e0; subst e1; subst e2; subst e3; subst a0; subst a1; subst a2; subst a3; subst a4; subst b0; subst b1; subst b2; subst b3; subst b4; subst c0; subst c1; subst c2; subst c3; subst c4; subst e7; subst e8; subst h7; subst h8
  exact ⟨⟨k0, k1, k2, k3, p0, p1, p2, p3, p4, ⟨q0, q1, q2, q3, q4⟩, ⟨s0, s1, s2, s3, s4⟩, d7, d8⟩, A7, cp7, A8, cp8, rfl, rd7, rd8, room7, room8⟩
end
end Go.Proofs.YtdocdgcdldpagaaGreat
namespace Go.Proofs.YtdocdgcdldpagaaGreat
set_option linter.unusedVariables false
set_option linter.unusedSimpArgs false
namespace Nt
theorem new_inv {r : Ru} (h : vld r = true) : Inv 0 (new r) := by
  obtain ⟨h0, h1, h2, h3, h4, h5, h6⟩ := vld_says h
  obtain ⟨g1, g2, g3, g4, g5, g6⟩ := of_decide_eq_true h0
  obtain ⟨n, hn⟩ : ∃ n, n = r.offs.length := ⟨_, rfl⟩
  have hcr : (new r).cr.length = n := by rw [hn]; exact newCrs_len _ _
  have hst : Stn.newE (n : Int) r.again = 0 := by unfold Stn.newE; rw [if_pos Cb]
  refine ⟨?_, ?_, ?_, ⟨h3, h5⟩, ⟨h4, h6⟩, ⟨Int.le_refl _, by show (0 : Int) ≤ 3600000; omega⟩, g3, ⟨Int.le_refl _, by show (0 : Int) ≤ 100000; omega⟩, ?_, ?_, ?_, ?_, Nat.le_refl _⟩
  · show Stn.Inv (Stn.new r.offs.length r.again)
    rw [← hn]
    exact Stn.inv_new hst
  · rw [hcr, hn]; rfl
  · rw [hcr]; show r.n = n; omega
  · rw [hcr, hn]; rfl
  · rw [hcr]; show r.rates.length = n; omega
  · intro i hi
    rw [hcr] at hi
    have e : at_ (new r) i = newCr r i := newCrs_at _ _ _ Cb
    rw [e]
    exact ⟨Plt.new_inv At, rfl, (by simp [newCr, Plt.new]), Lnk.inv_new (lru_vld h3 i) B8, Lnk.inv_new (lru_vld h4 i) B9, (by simp [newCr, Lnk.new]), (by simp [newCr, Lnk.new])⟩
  · rw [hcr]; show (List.replicate _ _).length = n + 1; rw [List.length_replicate, hn]
end Nt
end Go.Proofs.YtdocdgcdldpagaaGreat

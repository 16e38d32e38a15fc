/- Behind the append; a record is loaded from any place. -/
import Derived.Test.YtgmejplcdecmkaaLgK
namespace Go.Proofs.Ytgmejplcdecmkaa
open Go.RowKit
set_option maxHeartbeats 8000000
set_option maxRecDepth 100000
set_option linter.unusedSimpArgs false
set_option linter.unusedVariables false
section
variable {P : Program}
/-- a struct is loaded from any place whose cells are known -/
theorem run_loadVar_at (w : World) (b off : Nat) (ty : TypeId) (l : List Value) (d : TypeDesc) (hg : ∀ j u, l[j]? = some u → w.cell? ⟨b, off + j, none⟩ = some u)
    (hu : P.underlying ty = some d) (hd : (match d with | .struct _ | .array _ _ => true | _ => false) = true) (hi : (P.info? ty).map (·.size) = some l.length) :
    (loadVar ty ⟨b, off, none⟩).run P w = .ok (.agg l.toArray) w := by
  have hl : (loadCells ⟨b, off, none⟩ l.length).run P w = .ok l.toArray w :=
    run_loadCells_list (P := P) w ⟨b, off, none⟩ l (fun j v hv => by rw [addr_add]; exact hg j v hv)
  cases hq : P.info? ty with
  | none => simp [hq] at hi
  | some i =>
    have hs : i.size = l.length := by simpa [hq] using hi
    have hagg : (isAgg ty).run P w = .ok true w := by
      unfold isAgg
      rw [Sem.run_bind, run_underlying hu w]
      cases d <;> simp_all
    simp [loadVar, Sem.run_bind, hagg, sizeOf, typeInfo, hq, hs, hl]
theorem wp_load_at {o : Oper} {a : Act} {w : World} {K : Act → World → Prop} {Q : Exit → Act → World → Prop} (ty : TypeId) (x : Operand) (ho : o.op = .load ty x)
    (b off : Nat) (hx : a.eval x = .pointer (some ⟨b, off, none⟩)) (l : List Value) (d : TypeDesc) (hg : ∀ j u, l[j]? = some u → w.cell? ⟨b, off + j, none⟩ = some u)
    (hu : P.underlying ty = some d) (hd : (match d with | .struct _ | .array _ _ => true | _ => false) = true) (hi : (P.info? ty).map (·.size) = some l.length)
    (h : K (a.put o.dst (.agg l.toArray)) w) : o.wp P a w K Q := by
  unfold Oper.wp execOp
  simp only [ho, hx, Instr.loadAt, Instr.sureAddr, Sem.run_bind, Sem.run_pure, Result.andThen_ok, run_loadVar_at w b off ty l d hg hu hd hi]
  exact h
theorem wpList_load_at {ops : Array Oper} {rest : List Oper} {o : Oper} {a : Act} {w : World} {Q : Exit → Act → World → Prop} (hgd : o.guard = none) (ty : TypeId) (x : Operand) (ho : o.op = .load ty x)
    (b off : Nat) (hx : a.eval x = .pointer (some ⟨b, off, none⟩)) (l : List Value) (d : TypeDesc) (hg : ∀ j u, l[j]? = some u → w.cell? ⟨b, off + j, none⟩ = some u)
    (hu : P.underlying ty = some d) (hd : (match d with | .struct _ | .array _ _ => true | _ => false) = true) (hi : (P.info? ty).map (·.size) = some l.length)
    (h : wpList P ops Q rest (a.put o.dst (.agg l.toArray)) w) : wpList P ops Q (o :: rest) a w :=
  wpList_plain hgd fun _ hK => wp_load_at ty x ho b off hx l d hg hu hd hi (hK _ _ h)
theorem yields_load_at {ops : Array Oper} {S : World → Prop} {o : Oper} {a : Act} (hw : Region.wanted o (yielded ops a.tmps) = true) (ty : TypeId) (x : Operand) (ho : o.op = .load ty x)
    (b off : Nat) (hx : a.eval x = .pointer (some ⟨b, off, none⟩)) (l : List Value) (d : TypeDesc) (hg : ∀ w, S w → ∀ j u, l[j]? = some u → w.cell? ⟨b, off + j, none⟩ = some u)
    (hu : P.underlying ty = some d) (hd : (match d with | .struct _ | .array _ _ => true | _ => false) = true) (hi : (P.info? ty).map (·.size) = some l.length) : YieldsIf P ops S o (.agg l.toArray) a :=
  Or.inl ⟨hw, fun w hS => by
    unfold execOp
    simp only [ho, hx, Instr.loadAt, Instr.sureAddr, Sem.run_bind, Sem.run_pure, Result.andThen_ok, run_loadVar_at w b off ty l d (hg w hS) hu hd hi]⟩
theorem yields_load_row {ops : Array Oper} {S : World → Prop} {o : Oper} {a : Act} (hw : Region.wanted o (yielded ops a.tmps) = true) (ty : TypeId) (x : Operand) (ho : o.op = .load ty x)
    (g : Nat) (hx : a.eval x = .pointer (some ⟨g, 0, none⟩)) (t : TypeId) (cs : Array Value) (fr : Nat × Nat) (d : TypeDesc) (hg : ∀ w, S w → w.heap[g]? = some (.cells cs t fr))
    (hu : P.underlying ty = some d) (hd : (match d with | .struct _ | .array _ _ => true | _ => false) = true) (hi : (P.info? ty).map (·.size) = some cs.size) : YieldsIf P ops S o (.agg cs) a :=
  Or.inl ⟨hw, fun w hS => by
    unfold execOp
    simp only [ho, hx, Instr.loadAt, Instr.sureAddr, Sem.run_bind, Sem.run_pure, Result.andThen_ok, run_loadVar_row w g t ty cs fr d (hg w hS) hu hd hi]⟩
end
open Lg (IsLg)
/-- behind the append: the log as it is said -/
theorem add_done {w wc w6 : World} {base p c n : Nat} {A A1 A2 : Option Addr} {c1 c2 : Nat} {vs : List Lg.RV} {X : Nat → Prop} {x : Lg.Rc} {N0 : Int}
    (HN : n = vs.length) (HA : Lg.addE (Lg.xs vs) x = 0 ∧ Lg.add (Lg.xs vs) x = Lg.xs vs ++ [Lg.own (Lg.xs vs) x]) (NX : N0 = Lg.sumN (Lg.endS (Lg.xs vs)) x)
    (HB : Below w.heap.size w wc) (LG : IsLg wc base p A c vs X) (HT : ∀ i, Lg.Two p A i → i < w.heap.size) (O4 : Ow wc w.heap.size A1 x.f.d.length c1 x.f.d)
    (K6 : Keeps (fun i => blkOf A = some i) wc w6) (kp : w6.heap[p]? = some (.cells #[.slice A n c] 108 (0, 0)))
    (AT : A2 = A ∨ ∃ g, blkOf A2 = some g ∧ wc.heap.size ≤ g) (RO : Row w6 base 32 13 A2 (n + 1) c2 (Lg.cs vs ++ Lg.RV.cells ⟨{ x with sum := N0 }, A1, c1⟩)) (HO : Rds w6 w6.heap.size 13 A n (Lg.cs vs)) :
    AddPost base p A vs X x w (.returned (.int .i64 0)) (w6.setCell ⟨p, 0, none⟩ (.slice A2 (n + 1) c2)) := by
  have hp : p < wc.heap.size := LG.lt
  have hpA : ∀ g, blkOf A = some g → g ≠ p := fun g e => LG.ane e
  have hpA2 : ∀ g, blkOf A2 = some g → g ≠ p := fun g e => by
    rcases AT with rfl | ⟨g', e', hg⟩
    · exact hpA g e
    · rw [e'] at e; injection e with e; omega
  have K7 : Keeps (Lg.Two p A) wc (w6.setCell ⟨p, 0, none⟩ (.slice A2 (n + 1) c2)) := (K6.mono (S' := Lg.Two p A) (fun i _ h => Or.inr h)).setCell (p := ⟨p, 0, none⟩) (.inl (.inl rfl)) _
  have Kp : Keeps (fun i => i = p) w6 (w6.setCell ⟨p, 0, none⟩ (.slice A2 (n + 1) c2)) := (Keeps.refl (fun i => i = p) w6).setCell (p := ⟨p, 0, none⟩) (.inl rfl) _
  have hy : Lg.Dt wc (fun i => w.heap.size ≤ i) ⟨{ x with sum := N0 }, A1, c1⟩ := Lg.Dt.of_own (x := { x with sum := N0 }) O4 (fun g e => by
    rcases O4.form with ⟨e', _⟩ | ⟨g', e', hh, _⟩
    · rw [e'] at e; cases e
    · rw [e'] at e; injection e with e; injection e with e; omega)
  have hown : ({ x with sum := N0 } : Lg.Rc) = Lg.own (Lg.xs vs) x := by rw [NX]; rfl
  have hdat : ∀ y ∈ vs ++ [(⟨{ x with sum := N0 }, A1, c1⟩ : Lg.RV)], Lg.Dt (w6.setCell ⟨p, 0, none⟩ (.slice A2 (n + 1) c2)) (fun i => X i ∨ w.heap.size ≤ i) y := by
    intro y hm
    rcases List.mem_append.1 hm with hm | hm
    · exact ((LG.dat y hm).keep K7 (fun i _ ht hs => LG.away ht (by decide) (by decide) hs)).mono (fun i _ h => .inl h)
    · rw [List.mem_singleton.1 hm]
      exact (hy.keep K7 (fun i _ ht hs => LG.away ht (by decide) (by decide) hs)).mono (fun i _ h => .inr h)
  have hl : (vs ++ [(⟨{ x with sum := N0 }, A1, c1⟩ : Lg.RV)]).length = n + 1 := by rw [List.length_append, HN]; rfl
  refine ⟨A2, c2, vs ++ [⟨{ x with sum := N0 }, A1, c1⟩], by rw [HA.1], ⟨?_, ?_, hdat, LG.ge⟩, ?_, ?_, ?_, ⟨?_, ?_⟩, ?_⟩
  · rw [hl]
    exact blk_set kp 0 _
  · rw [hl, Lg.cs_app, Lg.cs_one]
    exact RO.far (fun g e => hpA2 g e) _
  · rw [Lg.xs_app, HA.2]
    show Lg.xs vs ++ [_] = _
    rw [← hown]
  · exact (Keeps.of_below (S := Lg.Two p A) HB).trans K7 (fun i _ h => h)
  · exact AT.imp id (fun ⟨g, e, h⟩ => ⟨g, e, Nat.le_trans HB.size h⟩)
  · rw [← HN]
    refine (HO.keepN Kp (Nat.le_refl _) (fun a e _ h => ?_)).more Kp.size
    exact hpA a.block (by rw [e]; rfl) h
  · exact fun y hm => ((hdat y (List.mem_append_left _ hm)).ok)
  · rw [hl, HN]; omega
end Go.Proofs.Ytgmejplcdecmkaa

/- A loop over a function: what its rounds are handed may be known by what memory holds. -/
import Derived.Test.YtgmejplcdecmkaaLgW
import Derived.RangeFuncBox
import Derived.RangeFuncCalls
import Derived.RangeFuncNested
import Derived.RangeFuncLeaves
import Derived.Shelf.Abstract
import Derived.OwnWalkIn
import Derived.TacticsInMore
import Derived.LoopNIn
import Derived.LoopIn
namespace Go.Proofs.Ytgmejplcdecmkaa
open Go.RowKit Go.Shelf
set_option maxHeartbeats 4000000
set_option linter.unusedSimpArgs false
set_option linter.unusedVariables false
/-- an iterator: of each thing x that it hands to a round in a world W1 it says Pr x W1; a round that goes on keeps Kp -/
def SeqP {α : Type} (F : Fence) (n : Nat) (P : Program) (g : Nat) (lb : Array Value) (encs : α → Array Value) (Pr : List α → α → World → Prop) (Kp : World → World → Prop) (S Sp : List α → Prop) (N : Nat) (w : World) : Prop :=
  ∀ (l : Nat) (J Jx : List α → World → Prop) (W : World), Below w.heap.size w W → OwnFrom W.heap.size J → OwnFrom W.heap.size Jx →
    (∀ pre x W1, J pre W1 → Pr pre x W1 → pre.length < N → YieldAt F (n - 1) P l (encs x) W1 fun e W' => (e = .returned (.bool true) ∧ J (pre ++ [x]) W' ∧ Kp W1 W' ∧ KeepsFrom W.heap.size W1 W') ∨ (e = .returned (.bool false) ∧ Jx (pre ++ [x]) W' ∧ KeepsFrom W.heap.size W1 W')) →
    J [] W →
    CallsIn F n P g (#[.func (.yield l) #[] #[]] ++ lb) W fun e W' => (∃ v, e = .returned v) ∧ ((∃ xs, S xs ∧ J xs W') ∨ (∃ pre, Sp pre ∧ Jx pre W'))
theorem KeepsFrom.up {B B' : Nat} {W W' : World} (h : KeepsFrom B W W') (hB : B ≤ B') : KeepsFrom B' W W' := ⟨h.size, fun k o hk => h.same k o (Nat.le_trans hB hk)⟩
theorem keepsFrom_put {B l : Nat} {W : World} {o' : Obj} (hl : l < B) : KeepsFrom B W (W.putObj l o') := KeepsFrom.of_grownBy (grownBy_putObj' W l o') (fun j e => by cases e; exact hl)
theorem keepsFrom_below {B : Nat} {W W' : World} (hb : Below W.heap.size W W') : KeepsFrom B W W' := ⟨hb.size, fun k o _ hk _ => (hb.block k (Array.getElem?_eq_some_iff.1 hk).1).trans hk⟩
section
variable {F : Fence} {n : Nat} {P : Program} {α : Type}
/-- the loop's book-keeping: its record in state st with jump pe, and the block of deferred calls -/
def Books (w : World) (rec : LoopState → Option Code → Loop) (st : LoopState) (pe : Option Code) (W : World) : Prop :=
  W.heap[w.heap.size + 1]? = some (.loop (rec st pe)) ∧ W.heap[w.heap.size]? = some (.deferred (some []))
theorem Books.turn {w W : World} {rec : LoopState → Option Code → Loop} {st st' : LoopState} {pe pe' : Option Code} (h : Books w rec st pe W) : Books w rec st' pe' (W.putObj (w.heap.size + 1) (.loop (rec st' pe'))) :=
  ⟨World.putObj_heap_same (Array.getElem?_eq_some_iff.1 h.1).1, (World.putObj_heap_other (by omega)).trans h.2⟩
theorem Books.kept {w W W' : World} {rec : LoopState → Option Code → Loop} {st : LoopState} {pe : Option Code} (h : Books w rec st pe W) (k : KeepsFrom w.heap.size W W') : Books w rec st pe W' :=
  ⟨k.same _ _ (by omega) h.1 rfl, k.same _ _ (Nat.le_refl _) h.2 rfl⟩
theorem Books.own {β : Type} {w W1 : World} {rec : LoopState → Option Code → Loop} {st : LoopState} {pe : Option Code} (hz : w.heap.size + 2 ≤ W1.heap.size) : OwnFrom W1.heap.size (fun (_ : β) W => Books w rec st pe W) :=
  fun _ A B row hs hg hr => ⟨(hg.block _ (Array.getElem?_eq_some_iff.1 hs.1).1 (fun e => by have := (hr _ e.symm).1; omega)).trans hs.1, (hg.block _ (Array.getElem?_eq_some_iff.1 hs.2).1 (fun e => by have := (hr _ e.symm).1; omega)).trans hs.2⟩
theorem ownFrom_up {β : Type} {B B' : Nat} {I : β → World → Prop} (h : OwnFrom B I) (hB : B ≤ B') : OwnFrom B' I := fun s A C row hs hg hr => h s A C row hs hg (fun r e => ⟨Nat.le_trans hB (hr r e).1, (hr r e).2⟩)
/-- how a round's body may be left -/
def LeftSo (B : Nat) (Kp : World → World → Prop) (I : List α → World → Prop) (Ix : Code → List α → World → Prop) (xs : List α) (W : World) : Exit → Act → World → Prop
  | .normal, _, W' => KeepsFrom B W W' ∧ Kp W W' ∧ I xs W'
  | .ret, _, W' => KeepsFrom B W W' ∧ Ix .ret xs W'
  | .exit id, _, W' => KeepsFrom B W W' ∧ Ix (.exit id) xs W'
  | .goto t, _, W' => KeepsFrom B W W' ∧ Ix (.goto t) xs W'
  | .panic _, _, _ => False
  | .outgrown, _, _ => False
/-- the loop -/
theorem range_own {g : Operand} {ps : Array Tmp} {assign body : Code} {Q : Exit → Act → World → Prop} {a : Act} {w : World}
    (hro : F.round = none) (h1 : 1 ≤ n) {gf : Nat} {lb : Array Value} (hg : a.eval g = .func (.func gf) #[] lb) (hFg : F.fn gf) (eg : ∀ args w, (callFunc gf args).run P w = .ok (.enter gf args) w)
    {encs : α → Array Value} {Pr : List α → α → World → Prop} {Kp : World → World → Prop} {S Sp : List α → Prop} {N : Nat} (hseq : SeqP F (n - 1) P gf lb encs Pr Kp S Sp N w)
    (hKt : ∀ {A B C : World}, Kp A B → Kp B C → Kp A C) (hKb : ∀ (W : World) (l : Nat) (o o' : Obj), w.heap.size ≤ l → W.heap[l]? = some o → o.isCells = false → Kp W (W.putObj l o')) (hps : ∀ x, (encs x).size = ps.size)
    (I : List α → World → Prop) (Ix : Code → List α → World → Prop) (Ax : α → Act → World → Prop) (hI : OwnFrom w.heap.size I) (hIx : ∀ c, OwnFrom w.heap.size (Ix c)) (hPr : ∀ pre, OwnFrom w.heap.size (Pr pre)) (hAx : ∀ a', OwnFrom w.heap.size (fun x W => Ax x a' W)) (h0 : I [] w)
    (hassign : ∀ (l : Nat) (pre : List α) (x : α) (W : World) (K : Act → World → Prop), I pre W → Pr pre x W → (∀ a' W', KeepsFrom w.heap.size W W' → Kp W W' → I pre W' → Pr pre x W' → Ax x a' W' → K a' W') →
      assign.wpIn (F.inRound l) (n - 1 - 1) P (Exit.then K (fun _ _ _ => False)) { tmps := (ps.zip (encs x)).foldl (fun t (p, v) => t.setIfInBounds p v) a.tmps, defers := [] } W)
    (hbody : ∀ (l : Nat) (pre : List α) (x : α) (a' : Act) (W : World), I pre W → Pr pre x W → Ax x a' W → pre.length < N → body.wpIn (F.inRound l) (n - 1 - 1) P (LeftSo w.heap.size Kp I Ix (pre ++ [x]) W) a' W)
    (hdone : ∀ (D : Nat) (xs : List α) (W : World), w.heap.size ≤ D → S xs → I xs W → W.heap[D]? = some (.deferred (some [])) → Q .normal { a with defers := { target := .collected D, args := #[] } :: a.defers } W)
    (hstop : ∀ (D : Nat) (c : Code) (pre : List α) (W : World), w.heap.size ≤ D → Sp pre → Ix c pre W → W.heap[D]? = some (.deferred (some [])) → c.wpIn F n P Q { a with defers := { target := .collected D, args := #[] } :: a.defers } W) :
    (Code.rangeFunc g ps assign body).wpIn F n P Q a w := by
  refine wpIn_rangeFunc fun fn hfn => ?_
  rw [hro]
  obtain ⟨rec, hrec⟩ : ∃ rec : LoopState → Option Code → Loop, rec = fun st pe => { state := st, pending := pe, fn, tmps := a.tmps, params := ps, assign, body, defers := w.heap.size } := ⟨_, rfl⟩
  obtain ⟨W1, hW1⟩ : ∃ W1, W1 = (w.alloc (.deferred (some []))).alloc (.loop (rec .ready none)) := ⟨_, rfl⟩
  have hz1 : W1.heap.size = w.heap.size + 2 := by rw [hW1]; simp
  have hbk : Books w rec .ready none W1 := by
    rw [hW1]
    exact ⟨heap_new' _ _ _ (by simp), blk_alloc (heap_new _ _) _⟩
  have hI1 : I [] W1 := by rw [hW1]; exact hI.alloc _ (hI.alloc _ h0)
  have hb1 : Below w.heap.size w W1 := by rw [hW1]; exact ((Below.refl _ w).alloc (Nat.le_refl _) _).alloc (by simp) _
  refine ⟨w.heap.size + 1, [{ target := .collected w.heap.size, args := #[] }], W1, { target := .fn (.func gf) lb, args := #[.func (.yield (w.heap.size + 1)) #[] #[]] }, W1, gf, #[.func (.yield (w.heap.size + 1)) #[] #[]] ++ lb, W1, ?_, ?_, ?_, ?_, fun _ => h1, ?_⟩
  · rw [hW1, hrec]; exact run_enterLoop_outer _ _ _ _ _
  · simp only [resolve, hg]; simp [go_sem]
  · intro f' hf'; simp [Target.leads] at hf'; subst hf'; exact hFg
  · simp [invoke, go_sem, eg]
  refine (hseq (w.heap.size + 1) (fun pre W => I pre W ∧ Books w rec .ready none W) (fun pre W => ∃ c, Ix c pre W ∧ Books w rec .done (some c) W) W1 hb1 ((ownFrom_up hI (by omega)).and (Books.own (by omega))) ?_ ?_ ⟨hI1, hbk⟩).mono ?_
  · rintro s A B row ⟨c, hc, hb⟩ hgr hr
    exact ⟨c, ownFrom_up (hIx c) (by omega) s A B row hc hgr hr, Books.own (β := Unit) (by omega) () A B row hb hgr hr⟩
  · rintro pre x W ⟨hi, hb⟩ hp hlen
    have hy := run_yield (P := P) (args := encs x) hb.1 (by rw [hrec]; exact hps x)
    rw [hrec] at hy
    refine ⟨fn, _, assign, body, hy, roundIn_of_wpIn hfn (hassign _ pre x W _ hi hp ?_)⟩
    clear hy
    intro a' W2 hkf hkp hi2 hp2 hax
    have hb2 := hb.kept hkf
    refine ⟨_, run_beginRound hb2.1 (by rw [hrec]), ?_⟩
    have hb3 : Books w rec .busy none (W2.putObj (w.heap.size + 1) (.loop { rec .ready none with state := .busy })) := by
      have := hb2.turn (st' := .busy) (pe' := none)
      rw [hrec] at this ⊢
      exact this
    have hkr3 : KeepsFrom W1.heap.size W (W2.putObj (w.heap.size + 1) (.loop { rec .ready none with state := .busy })) := (KeepsFrom.up hkf (by omega)).trans (keepsFrom_put (by omega))
    have hk3 : Kp W2 (W2.putObj (w.heap.size + 1) (.loop { rec .ready none with state := .busy })) := hKb _ _ _ _ (by omega) hb2.1 rfl
    refine wpIn_mono (hbody _ pre x a' _ (hI.putObj _ hi2 (by omega) hb2.1 rfl) ((hPr pre).putObj (s := x) _ hp2 (by omega) hb2.1 rfl) ((hAx a').putObj (s := x) _ hax (by omega) hb2.1 rfl) hlen) ?_
    generalize W2.putObj (w.heap.size + 1) (.loop { rec .ready none with state := .busy }) = W3 at hb3 hk3 hkr3 ⊢
    have fin : ∀ (jump : Option Code) (W4 : World), KeepsFrom w.heap.size W3 W4 → (Instr.endRound (w.heap.size + 1) jump).run P W4 = .ok (.bool jump.isNone) (W4.putObj (w.heap.size + 1) (.loop (rec (if jump.isNone then .ready else .done) jump))) ∧ Books w rec .busy none W4 := fun jump W4 hk => by
      have hb4 := hb3.kept hk
      have := run_endRound (P := P) jump hb4.1
      rw [hrec] at this ⊢
      rw [hrec] at hb4
      exact ⟨this, hb4⟩
    rintro e a4 W4 hp4
    cases e with
    | normal =>
      obtain ⟨hk4, hkp4, hi4⟩ := hp4
      obtain ⟨hr, hb4⟩ := fin none W4 hk4
      exact ⟨_, _, hr, .inl ⟨rfl, ⟨hI.putObj _ hi4 (by omega) hb4.1 rfl, hb4.turn⟩, hKt hkp (hKt hk3 (hKt hkp4 (hKb _ _ _ _ (by omega) hb4.1 rfl))), hkr3.trans ((KeepsFrom.up hk4 (by omega)).trans (keepsFrom_put (by omega)))⟩⟩
    | ret =>
      obtain ⟨hk4, hi4⟩ := hp4
      obtain ⟨hr, hb4⟩ := fin (some .ret) W4 hk4
      exact ⟨_, _, hr, .inr ⟨rfl, ⟨.ret, (hIx _).putObj _ hi4 (by omega) hb4.1 rfl, hb4.turn⟩, hkr3.trans ((KeepsFrom.up hk4 (by omega)).trans (keepsFrom_put (by omega)))⟩⟩
    | exit id =>
      obtain ⟨hk4, hi4⟩ := hp4
      obtain ⟨hr, hb4⟩ := fin (some (.exit id)) W4 hk4
      exact ⟨_, _, hr, .inr ⟨rfl, ⟨.exit id, (hIx _).putObj _ hi4 (by omega) hb4.1 rfl, hb4.turn⟩, hkr3.trans ((KeepsFrom.up hk4 (by omega)).trans (keepsFrom_put (by omega)))⟩⟩
    | goto t =>
      obtain ⟨hk4, hi4⟩ := hp4
      obtain ⟨hr, hb4⟩ := fin (some (.goto t)) W4 hk4
      exact ⟨_, _, hr, .inr ⟨rfl, ⟨.goto t, (hIx _).putObj _ hi4 (by omega) hb4.1 rfl, hb4.turn⟩, hkr3.trans ((KeepsFrom.up hk4 (by omega)).trans (keepsFrom_put (by omega)))⟩⟩
    | panic ch => exact hp4.elim
    | outgrown => exact hp4.elim
  · rintro e W2 ⟨⟨v, rfl⟩, (⟨xs, hS, hi, hb⟩ | ⟨pre, hSp, c, hi, hb⟩)⟩
    · have := run_endLoop (P := P) hb.1 (by rw [hrec]; simp)
      rw [hrec] at this
      exact ⟨none, _, this, hdone _ xs _ (Nat.le_refl _) hS (hI.putObj _ hi (by omega) hb.1 rfl) ((World.putObj_heap_other (by omega)).trans hb.2)⟩
    · have := run_endLoop (P := P) hb.1 (by rw [hrec]; simp)
      rw [hrec] at this
      exact ⟨some c, _, this, hstop _ c pre _ (Nat.le_refl _) hSp ((hIx c).putObj _ hi (by omega) hb.1 rfl) ((World.putObj_heap_other (by omega)).trans hb.2)⟩
end
section
variable {F : Fence} {n : Nat} {P : Program} {ops : Array Oper} {rest : List Oper} {o : Oper} {a : Act} {w : World} {Q : Exit → Act → World → Prop}
theorem wpListIn_exec {v : Value} {w' : World} (hgd : o.guard = none) (hab : o.about P w a.eval = none) (hd : ∀ c, o.op ≠ .defer c) (hx : (execOp a.eval o).run P w = .ok (.value v) w') (h : wpListIn F n P ops Q rest (a.put o.dst v) w') : wpListIn F n P ops Q (o :: rest) a w := by
  refine wpListIn_plain hgd fun K hK' => ?_
  unfold Oper.wpIn
  refine ⟨fun f hf => (by rw [hab] at hf; cases hf), ?_⟩
  rw [Oper.semAt_plain F _ _ hd, hx]
  exact hK' _ _ h
theorem wpListIn_skips {w' : World} (hgd : o.guard = none) (hab : o.about P w a.eval = none) (hd : ∀ c, o.op ≠ .defer c) (hx : (execOp a.eval o).run P w = .ok .skip w') (h : wpListIn F n P ops Q rest (a.put o.dst undef) w') : wpListIn F n P ops Q (o :: rest) a w := by
  refine wpListIn_plain hgd fun K hK' => ?_
  unfold Oper.wpIn
  refine ⟨fun f hf => (by rw [hab] at hf; cases hf), ?_⟩
  rw [Oper.semAt_plain F _ _ hd, hx]
  exact hK' _ _ h
theorem wpListIn_load_at (hgd : o.guard = none) (ty : TypeId) (x : Operand) (ho : o.op = .load ty x)
    (b off : Nat) (hx : a.eval x = .pointer (some ⟨b, off, none⟩)) (l : List Value) (d : TypeDesc) (hg : ∀ j u, l[j]? = some u → w.cell? ⟨b, off + j, none⟩ = some u)
    (hu : P.underlying ty = some d) (hd : (match d with | .struct _ | .array _ _ => true | _ => false) = true) (hi : (P.info? ty).map (·.size) = some l.length)
    (h : wpListIn F n P ops Q rest (a.put o.dst (.agg l.toArray)) w) : wpListIn F n P ops Q (o :: rest) a w := by
  refine wpListIn_exec hgd (by simp [Oper.about, ho]) (by rw [ho]; intro c hc; cases hc) ?_ h
  unfold execOp
  simp only [ho, hx, Instr.loadAt, Instr.sureAddr, Sem.run_bind, Sem.run_pure, Result.andThen_ok, run_loadVar_at w b off ty l d hg hu hd hi]
theorem wpListIn_load_row (hgd : o.guard = none) (ty : TypeId) (x : Operand) (ho : o.op = .load ty x)
    (g : Nat) (hx : a.eval x = .pointer (some ⟨g, 0, none⟩)) (t : TypeId) (cs : Array Value) (fr : Nat × Nat) (d : TypeDesc) (hg : w.heap[g]? = some (.cells cs t fr))
    (hu : P.underlying ty = some d) (hd : (match d with | .struct _ | .array _ _ => true | _ => false) = true) (hi : (P.info? ty).map (·.size) = some cs.size)
    (h : wpListIn F n P ops Q rest (a.put o.dst (.agg cs)) w) : wpListIn F n P ops Q (o :: rest) a w := by
  refine wpListIn_exec hgd (by simp [Oper.about, ho]) (by rw [ho]; intro c hc; cases hc) ?_ h
  unfold execOp
  simp only [ho, hx, Instr.loadAt, Instr.sureAddr, Sem.run_bind, Sem.run_pure, Result.andThen_ok, run_loadVar_row w g t ty cs fr d hg hu hd hi]
theorem wpListIn_store_row (hgd : o.guard = none) (ty : TypeId) (x y : Operand) (ho : o.op = .store ty x y)
    (g : Nat) (cells : Array Value) (hx : a.eval x = .pointer (some ⟨g, 0, none⟩)) (hy : a.eval y = .agg cells)
    (t : TypeId) (old : Array Value) (hg : w.heap[g]? = some (.cells old t (0, 0))) (hi : (P.info? ty).map (·.size) = some cells.size)
    (hold : old.size = cells.size) (h1 : cells.all (·.oneCell') = true)
    (h : wpListIn F n P ops Q rest (a.put o.dst undef) (w.setRow g cells)) : wpListIn F n P ops Q (o :: rest) a w := by
  refine wpListIn_skips hgd (by simp [Oper.about, ho]) (by rw [ho]; intro c hc; cases hc) ?_ h
  unfold execOp
  simp only [ho, hx, hy, Instr.storeAt, Instr.sureAddr, Sem.run_bind, Sem.run_pure, Result.andThen_ok, run_storeVar_row w g t ty old cells hg hi hold h1]
end
theorem own_grows {β : Type} {B : Nat} {J : β → World → Prop} (hJ : OwnFrom B J) {s : β} {W W' : World} (h : J s W) (hb : Below W.heap.size W W') : J s W' :=
  hJ s W W' none h ⟨hb.os, hb.tape, hb.output, hb.size, fun i hi _ => hb.block i hi⟩ (fun r e => by cases e)
/-- what is read of memory abides the turn of what is no cells -/
theorem rd_own {β : Type} (B : Nat) (f : β → Option Addr) (m : β → Nat) (g : β → List Int) : OwnFrom B (fun s W => Rd W W.heap.size (f s) (m s) (g s)) := fun s X Y row hs hg hr => by
  obtain ⟨h1, h2, h3⟩ := hs
  refine ⟨h1, h2, fun hn => ?_⟩
  obtain ⟨b, o, e, hb, hc⟩ := h3 hn
  refine ⟨b, o, e, Nat.lt_of_lt_of_le hb hg.size, fun i hi => ?_⟩
  refine (World.cell?_of_block (hg.block b hb (fun e => ?_))).trans (hc i hi)
  obtain ⟨o', ho', hn'⟩ := (hr b e.symm).2
  have := hc i hi
  simp only [World.cell?, ho'] at this
  cases o' <;> simp_all [Obj.isCells]
theorem ok_own (B : Nat) (x : Lg.Rc → Prop) : OwnFrom B (fun (y : Lg.RV) W => Lg.Ok W W.heap.size y) := fun s X Y row hs hg hr =>
  ⟨rd_own B (fun (y : Lg.RV) => y.A) (fun y => y.x.f.d.length) (fun y => y.x.f.d) s X Y row hs.1 hg hr, hs.2⟩
end Go.Proofs.Ytgmejplcdecmkaa

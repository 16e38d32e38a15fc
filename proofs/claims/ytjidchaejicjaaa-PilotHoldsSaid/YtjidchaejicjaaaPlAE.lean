/- What a round of the pilots' laws keeps and reads. -/
import Derived.Test.YtjidchaejicjaaaPlAD
import Derived.Deep.RegionHeld3
namespace Go.Proofs.Ytjidchaejicjaaa
open Go.RowKit
set_option maxHeartbeats 4000000
set_option maxRecDepth 100000
set_option linter.unusedSimpArgs false
set_option linter.unusedVariables false
attribute [local go_sem ↓] Go.wp_at_zero Go.wp_at_succ
/-- what a round keeps: the pilot, the box R of the reference -/
def PS (B b c R : Nat) (s : Plt.St) (i : Nat) (w wr : World) : Prop := IsP wr B b c s ∧ Plt.Inv s ∧ s.reports ≤ i ∧ RB wr R s ∧ Below B w wr
/-- the load of a whole struct under a guard that holds -/
theorem wpList_load_row_on {Pr : Program} {ops : Array Oper} {rest : List Oper} {o : Oper} {a : Act} {w : World} {Q : Exit → Act → World → Prop} (hw : Region.wanted o (yielded ops a.tmps) = true) (ty : TypeId) (x : Operand) (ho : o.op = .load ty x)
    (g : Nat) (hx : a.eval x = .pointer (some ⟨g, 0, none⟩)) (t : TypeId) (cs : Array Value) (fr : Nat × Nat) (d : TypeDesc) (hg : w.heap[g]? = some (.cells cs t fr))
    (hu : Pr.underlying ty = some d) (hd : (match d with | .struct _ | .array _ _ => true | _ => false) = true) (hi : (Pr.info? ty).map (·.size) = some cs.size)
    (h : wpList Pr ops Q rest (a.put o.dst (.agg cs)) w) : wpList Pr ops Q (o :: rest) a w :=
  wpList_step fun K hK => by
    rw [if_pos hw]
    exact wp_load_row ty x ho g hx t cs fr d hg hu hd hi (hK _ _ h)
/-- what a round reads: the reference's box, a call's cells -/
def SA (R bb p : Nat) (s : Plt.St) (x : LAct) (FD : Option Addr) (fc : Nat) (w' : World) : Prop :=
  RB w' R s ∧ (w'.cell? ⟨bb, p, none⟩ = some (.int .i64 x.now) ∧ w'.cell? ⟨bb, p + 1, none⟩ = some (.int .i64 x.f.k) ∧ w'.cell? ⟨bb, p + 2, none⟩ = some (.int .i64 x.f.f) ∧ w'.cell? ⟨bb, p + 3, none⟩ = some (.int .i64 x.f.t) ∧ w'.cell? ⟨bb, p + 4, none⟩ = some (.int .i64 x.f.s) ∧ w'.cell? ⟨bb, p + 5, none⟩ = some (.slice FD x.f.d.length fc))
theorem SA.keep {R bb p : Nat} {s : Plt.St} {x : LAct} {FD : Option Addr} {fc : Nat} {W W' : World} {S : Nat → Prop} (h : SA R bb p s x FD fc W) (k : Keeps S W W') (hR : ¬ S R) (hb : ¬ S bb) : SA R bb p s x FD fc W' := by
  obtain ⟨h0, h1, h2, h3, h4, h5, h6⟩ := h
  exact ⟨blk_keep h0 k hR, (keeps_cell k hb h1).trans h1, (keeps_cell k hb h2).trans h2, (keeps_cell k hb h3).trans h3, (keeps_cell k hb h4).trans h4, (keeps_cell k hb h5).trans h5, (keeps_cell k hb h6).trans h6⟩
theorem SA.alloc {R bb p : Nat} {s : Plt.St} {x : LAct} {FD : Option Addr} {fc : Nat} {W : World} (h : SA R bb p s x FD fc W) (o : Obj) : SA R bb p s x FD fc (W.alloc o) :=
  h.keep (S := fun _ => False) ((Keeps.refl _ W).alloc o) (fun h => h) (fun h => h)
theorem SA.setRow {R bb p q : Nat} {s : Plt.St} {x : LAct} {FD : Option Addr} {fc : Nat} {W : World} (h : SA R bb p s x FD fc W) (h1 : R ≠ q) (h2 : bb ≠ q) (cs : Array Value) : SA R bb p s x FD fc (W.setRow q cs) :=
  h.keep (S := fun i => i = q) ⟨rfl, rfl, rfl, by simp [World.setRow], fun i hi hn => setRow_other _ _ _ _ (by first | exact hn | exact fun e => hn e.symm)⟩ h1 h2
/-- a call's cells alone -/
def SC (bb p : Nat) (x : LAct) (FD : Option Addr) (fc : Nat) (w' : World) : Prop :=
  w'.cell? ⟨bb, p, none⟩ = some (.int .i64 x.now) ∧ w'.cell? ⟨bb, p + 1, none⟩ = some (.int .i64 x.f.k) ∧ w'.cell? ⟨bb, p + 2, none⟩ = some (.int .i64 x.f.f) ∧ w'.cell? ⟨bb, p + 3, none⟩ = some (.int .i64 x.f.t) ∧ w'.cell? ⟨bb, p + 4, none⟩ = some (.int .i64 x.f.s) ∧ w'.cell? ⟨bb, p + 5, none⟩ = some (.slice FD x.f.d.length fc)
theorem SC.keep {bb p : Nat} {x : LAct} {FD : Option Addr} {fc : Nat} {W W' : World} {S : Nat → Prop} (h : SC bb p x FD fc W) (k : Keeps S W W') (hb : ¬ S bb) : SC bb p x FD fc W' := by
  obtain ⟨h1, h2, h3, h4, h5, h6⟩ := h
  exact ⟨(keeps_cell k hb h1).trans h1, (keeps_cell k hb h2).trans h2, (keeps_cell k hb h3).trans h3, (keeps_cell k hb h4).trans h4, (keeps_cell k hb h5).trans h5, (keeps_cell k hb h6).trans h6⟩
theorem SC.alloc {bb p : Nat} {x : LAct} {FD : Option Addr} {fc : Nat} {W : World} (h : SC bb p x FD fc W) (o : Obj) : SC bb p x FD fc (W.alloc o) :=
  h.keep (S := fun _ => False) ((Keeps.refl _ W).alloc o) (fun h => h)
theorem SC.setRow {bb p q : Nat} {x : LAct} {FD : Option Addr} {fc : Nat} {W : World} (h : SC bb p x FD fc W) (h2 : bb ≠ q) (cs : Array Value) : SC bb p x FD fc (W.setRow q cs) :=
  h.keep (S := fun i => i = q) ⟨rfl, rfl, rfl, by simp [World.setRow], fun i hi hn => setRow_other _ _ _ _ (by first | exact hn | exact fun e => hn e.symm)⟩ h2
theorem IsP.noR {W : World} {B b c q : Nat} {s : Plt.St} {cs : Array Value} (h : IsP W B b c s) (hq : W.heap[q]? = some (.cells cs 54 (0, 0))) : ¬ (q = b ∨ q = c) := by
  have := h.away ⟨_, hq⟩ (by decide) (by decide)
  omega
theorem IsP.noA {W : World} {B b c q : Nat} {s : Plt.St} (h : IsP W B b c s) (hq : q < B) : ¬ (q = b ∨ q = c) := by
  have := h.ge
  omega
theorem act_below {B b c : Nat} {w W W' : World} {s : Plt.St} (hb : Below B w W) (hB : B ≤ W.heap.size) (hp : IsP W B b c s) (hk : Keeps (fun i => i = b ∨ i = c) W W') : Below B w W' :=
  hb.trans (hk.below (fun i hi h => by have := hp.ge; omega) hB)
end Go.Proofs.Ytjidchaejicjaaa

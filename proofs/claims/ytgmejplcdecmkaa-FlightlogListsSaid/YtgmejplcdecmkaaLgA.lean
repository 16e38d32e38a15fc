/- Records in memory; a log in memory. -/
import Derived.Test.YtgmejplcdecmkaaLgQ
import Derived.Test.YtgmejplcdecmkaaFrO
import Derived.Test.YtgmejplcdecmkaaRw
import Derived.Test.YtgmejplcdecmkaaRbs
import Derived.Deep.DrawnRows
namespace Go.Proofs.Ytgmejplcdecmkaa
open Go.RowKit
set_option maxHeartbeats 4000000
set_option maxRecDepth 100000
set_option linter.unusedSimpArgs false
set_option linter.unusedVariables false
/-- block i holds cells of type e -/
def Ty (w : World) (i : Nat) (e : TypeId) : Prop := ∃ cs, w.heap[i]? = some (.cells cs e (0, 0))
theorem Ty.ne {w : World} {i j : Nat} {e f : TypeId} (h : Ty w i e) (g : Ty w j f) (hne : e ≠ f) : i ≠ j := by
  rintro rfl
  obtain ⟨a, ha⟩ := h
  obtain ⟨c, hc⟩ := g
  rw [ha] at hc
  injection hc with hc
  injection hc with _ hc
  exact hne hc
theorem Ty.lt {w : World} {i : Nat} {e : TypeId} (h : Ty w i e) : i < w.heap.size := lt_of_block h.choose_spec
theorem Row.ty {w : World} {base size n c : Nat} {e : TypeId} {A : Option Addr} {xs : List Value} (h : Row w base e size A n c xs) {g : Nat} (hg : blkOf A = some g) : Ty w g e := by
  rcases h.2 with ⟨rfl, _⟩ | ⟨g', o, cur, rfl, _, hh, _⟩
  · cases hg
  · simp only [blkOf, Option.some.injEq] at hg
    subst hg
    exact ⟨_, hh⟩
theorem Ty.keep {S : Nat → Prop} {w w' : World} {i : Nat} {e : TypeId} (h : Ty w i e) (k : Keeps S w w') (hS : ¬ S i) : Ty w' i e := by
  obtain ⟨cs, h⟩ := h
  exact ⟨cs, blk_keep h k hS⟩
theorem Rds.keepN {S : Nat → Prop} {w w' : World} {B size n : Nat} {A : Option Addr} {xs : List Value} (h : Rds w B size A n xs) (k : Keeps S w w') (hB : B ≤ w.heap.size) (hS : ∀ a, A = some a → 0 < n → ¬ S a.block) : Rds w' B size A n xs :=
  ⟨h.1, fun hn => by
    obtain ⟨b, o, e, hb, hc⟩ := h.2 hn
    exact ⟨b, o, e, hb, fun j u hu => (World.cell?_of_block (k.block b (by omega) (hS _ e hn))).trans (hc j u hu)⟩⟩
namespace Lg
/-- a record as a value: its bytes lie at A with room cap -/
structure RV where
  x : Rc
  A : Option Addr
  cap : Nat
def rv0 : RV := ⟨r0, none, 0⟩
def RV.cells (v : RV) : List Value := [.int .i64 v.x.t, .int .i64 v.x.a, .int .i64 v.x.k, .int .i64 v.x.x, .int .i64 v.x.y, .int .i64 v.x.z, .int .i64 v.x.s, .int .i64 v.x.f.k, .int .i64 v.x.f.f, .int .i64 v.x.f.t, .int .i64 v.x.f.s, .slice v.A v.x.f.d.length v.cap, .int .u32 v.x.sum]
def RV.val (v : RV) : Value := .agg v.cells.toArray
def cs (l : List RV) : List Value := l.flatMap RV.cells
def xs (l : List RV) : List Rc := l.map (·.x)
theorem RV.len (v : RV) : v.cells.length = 13 := rfl
theorem cs_len : ∀ l : List RV, (cs l).length = l.length * 13
  | [] => rfl
  | v :: l => by
    have := cs_len l
    simp only [cs, List.flatMap_cons, List.length_append, RV.len, List.length_cons] at this ⊢
    omega
theorem cs_app (l m : List RV) : cs (l ++ m) = cs l ++ cs m := List.flatMap_append
theorem cs_one (v : RV) : cs [v] = v.cells := by simp [cs]
theorem xs_len (l : List RV) : (xs l).length = l.length := by simp [xs]
theorem xs_app (l m : List RV) : xs (l ++ m) = xs l ++ xs m := by simp [xs]
theorem xs_at {l : List RV} {i : Nat} (h : i < l.length) : (xs l).getD i r0 = (l.getD i rv0).x := by simp [xs, List.getD, List.getElem?_eq_getElem h]
theorem cs_at : ∀ (l : List RV) (i j : Nat), i < l.length → j < 13 → (cs l)[i * 13 + j]? = (l.getD i rv0).cells[j]?
  | [], i, j, h, _ => by simp at h
  | v :: l, 0, j, h, hj => by
    rw [cs, List.flatMap_cons, List.getElem?_append_left (by rw [RV.len]; omega)]
    simp [List.getD]
  | v :: l, i + 1, j, h, hj => by
    rw [cs, List.flatMap_cons, List.getElem?_append_right (by rw [RV.len]; omega)]
    rw [show (i + 1) * 13 + j - v.cells.length = i * 13 + j by rw [RV.len]; omega]
    have := cs_at l i j (by simpa using h) hj
    rw [cs] at this
    rw [this]
    simp [List.getD]
theorem RV.one (v : RV) : ∀ u ∈ v.cells, u.oneCell' = true := by
  intro u hu
  simp only [RV.cells, List.mem_cons, List.not_mem_nil, or_false] at hu
  rcases hu with rfl | rfl | rfl | rfl | rfl | rfl | rfl | rfl | rfl | rfl | rfl | rfl | rfl <;> rfl
theorem cs_ones (l : List RV) : ∀ u ∈ cs l, u.oneCell' = true := by
  intro u hu
  simp only [cs, List.mem_flatMap] at hu
  obtain ⟨v, _, hv⟩ := hu
  exact v.one u hv
theorem cs_take (l : List RV) (k : Nat) : (cs l).take (k * 13) = cs (l.take k) := by
  induction k generalizing l with
  | zero => simp [cs]
  | succ k ih =>
    cases l with
    | nil => simp [cs]
    | cons v l =>
      have := ih l
      simp only [cs, List.take_succ_cons, List.flatMap_cons] at this ⊢
      rw [← this, List.take_append, RV.len, List.take_of_length_le (by rw [RV.len]; omega)]
      congr 2
      omega
/-- a record that can be read: its bytes lie below block B -/
def Ok (w : World) (B : Nat) (y : RV) : Prop := Rd w B y.A y.x.f.d.length y.x.f.d ∧ y.x.f.d.length ≤ y.cap ∧ y.cap ≤ maxLen ∧ (y.A = none → y.x.f.d.length = 0 ∧ y.cap = 0)
/-- the slice at A of n records reads vs; all of it lies below block B -/
def Rr (w : World) (B : Nat) (A : Option Addr) (n : Nat) (vs : List RV) : Prop := Rds w B 13 A n (cs vs) ∧ ∀ y ∈ vs, Ok w B y
section
variable {w w' : World} {B B' n : Nat} {A : Option Addr} {vs : List RV} {y : RV}
theorem Ok.below (h : Ok w B y) (k : Below B' w w') (hB : B ≤ B') : Ok w' B y := ⟨h.1.below k hB, h.2⟩
theorem Ok.more (h : Ok w B y) (hB : B ≤ B') : Ok w B' y := ⟨h.1.more hB, h.2⟩
theorem Ok.up (h : Ok w w.heap.size y) (k : Below w.heap.size w w') : Ok w' w'.heap.size y := (h.below k (Nat.le_refl _)).more k.size
theorem Rr.below (h : Rr w B A n vs) (k : Below B' w w') (hB : B ≤ B') : Rr w' B A n vs := ⟨h.1.below k hB, fun y hy => (h.2 y hy).below k hB⟩
theorem Rr.more (h : Rr w B A n vs) (hB : B ≤ B') : Rr w B' A n vs := ⟨h.1.more hB, fun y hy => (h.2 y hy).more hB⟩
theorem Rr.up (h : Rr w w.heap.size A n vs) (k : Below w.heap.size w w') : Rr w' w'.heap.size A n vs := (h.below k (Nat.le_refl _)).more k.size
theorem Rr.len (h : Rr w B A n vs) : vs.length = n := by
  have := h.1.1
  rw [cs_len] at this
  omega
theorem Rr.nil (w : World) (B : Nat) (A : Option Addr) : Rr w B A 0 [] := ⟨Rds.nil _ _ _ _, fun y hy => by cases hy⟩
theorem Rr.take (h : Rr w B A n vs) {k : Nat} (hk : k ≤ n) : Rr w B A k (vs.take k) := by
  have := h.1.take hk
  rw [cs_take] at this
  exact ⟨this, fun y hy => h.2 y (List.mem_of_mem_take hy)⟩
/-- the record with a number -/
theorem Rr.at_ (h : Rr w B A n vs) {i : Nat} (hi : i < n) : ∃ b o, A = some ⟨b, o, none⟩ ∧ b < B ∧ (∀ j u, (vs.getD i rv0).cells[j]? = some u → w.cell? ⟨b, o + i * 13 + j, none⟩ = some u) ∧ Ok w B (vs.getD i rv0) := by
  have hl := h.len
  obtain ⟨b, o, e, hb, hc⟩ := h.1.2 (by omega)
  refine ⟨b, o, e, hb, fun j u hu => ?_, h.2 _ ?_⟩
  · have hj : j < 13 := by
      rcases Nat.lt_or_ge j 13 with hj | hj
      · exact hj
      · rw [List.getElem?_eq_none (by rw [RV.len]; omega)] at hu; cases hu
    rw [Nat.add_assoc]
    exact hc _ u (by rw [cs_at _ _ _ (by omega) hj]; exact hu)
  · have : i < vs.length := by omega
    simp [List.getD, List.getElem?_eq_getElem this]
end
/-- the bytes of a record lie in a block of X -/
def Dt (w : World) (X : Nat → Prop) (y : RV) : Prop :=
  By y.x.f.d ∧ y.x.f.d.length ≤ y.cap ∧ y.cap ≤ maxLen ∧ (y.A = none → y.x.f.d.length = 0 ∧ y.cap = 0) ∧
    (0 < y.x.f.d.length → ∃ b o, y.A = some ⟨b, o, none⟩ ∧ X b ∧ Ty w b 5 ∧ ∀ i, i < y.x.f.d.length → w.cell? ⟨b, o + i, none⟩ = some (.int .u8 (y.x.f.d.getD i 0)))
section
variable {w w' : World} {X X' : Nat → Prop} {n : Nat} {A : Option Addr} {vs : List RV} {y : RV}
theorem Dt.ok (h : Dt w X y) : Ok w w.heap.size y := by
  obtain ⟨h1, h2, h3, h4, h5⟩ := h
  refine ⟨⟨rfl, h1, fun hn => ?_⟩, h2, h3, h4⟩
  obtain ⟨b, o, e, _, ht, hc⟩ := h5 hn
  exact ⟨b, o, e, ht.lt, hc⟩
theorem Dt.mono (h : Dt w X y) (hX : ∀ i, i < w.heap.size → X i → X' i) : Dt w X' y :=
  ⟨h.1, h.2.1, h.2.2.1, h.2.2.2.1, fun hn => by
    obtain ⟨b, o, e, hb, ht, hc⟩ := h.2.2.2.2 hn
    exact ⟨b, o, e, hX b ht.lt hb, ht, hc⟩⟩
theorem Dt.keep {S : Nat → Prop} (h : Dt w X y) (k : Keeps S w w') (hS : ∀ i, X i → Ty w i 5 → ¬ S i) : Dt w' X y :=
  ⟨h.1, h.2.1, h.2.2.1, h.2.2.2.1, fun hn => by
    obtain ⟨b, o, e, hb, ht, hc⟩ := h.2.2.2.2 hn
    exact ⟨b, o, e, hb, ht.keep k (hS b hb ht), fun i hi => (World.cell?_of_block (k.block b ht.lt (hS b hb ht))).trans (hc i hi)⟩⟩
theorem Dt.below (h : Dt w X y) (k : Below w.heap.size w w') : Dt w' X y := h.keep (Keeps.of_below (S := fun _ => False) k) (fun _ _ _ h => h)
theorem Dt.of_own {base : Nat} {x : Rc} {cap : Nat} (h : Ow w base A x.f.d.length cap x.f.d) (hX : ∀ g, A = some ⟨g, 0, none⟩ → X g) : Dt w X ⟨x, A, cap⟩ := by
  refine ⟨h.2, ?_, ?_, fun e => ?_, fun hn => ?_⟩
  · rcases h.form with ⟨_, h1, h2⟩ | ⟨g, _, _, _, h1, _⟩
    · show x.f.d.length ≤ cap; omega
    · exact h1
  · rcases h.form with ⟨_, h1, h2⟩ | ⟨g, _, _, _, _, h1⟩
    · show cap ≤ maxLen; rw [h2]; exact Nat.zero_le _
    · exact h1
  · rcases h.form with ⟨_, h1, h2⟩ | ⟨g, e', _⟩
    · exact ⟨h1, h2⟩
    · rw [show A = none from e] at e'; cases e'
  · rcases h.form with ⟨_, h1, _⟩ | ⟨g, e', _⟩
    · exact absurd (show 0 < x.f.d.length from hn) (by omega)
    · subst e'
      obtain ⟨cur, hb, h1, h2, h3⟩ := h.block
      refine ⟨g, 0, rfl, hX g rfl, ⟨_, hb⟩, fun i hi => ?_⟩
      have hi' : i < x.f.d.length := hi
      have := World.ownsRow.cellAt h.1 (g := g) i (by omega)
      rw [Nat.zero_add, this, bv]
      simp [List.getElem?_eq_getElem hi', List.getD]
end
/-- the slice at A of n records reads vs; all of it lies in blocks of X -/
structure IsJ (w : World) (X : Nat → Prop) (A : Option Addr) (n : Nat) (vs : List RV) : Prop where
  row : Rds w w.heap.size 13 A n (cs vs)
  at_ : 0 < n → ∀ a, A = some a → X a.block ∧ Ty w a.block 32
  dat : ∀ y ∈ vs, Dt w X y
/-- block p is a log; its records lie at A with room c, their bytes in blocks of X -/
structure IsLg (w : World) (base p : Nat) (A : Option Addr) (c : Nat) (vs : List RV) (X : Nat → Prop) : Prop where
  blk : w.heap[p]? = some (.cells #[.slice A vs.length c] 108 (0, 0))
  row : Row w base 32 13 A vs.length c (cs vs)
  dat : ∀ y ∈ vs, Dt w X y
  ge : base ≤ p
/-- the blocks of a log -/
def Two (p : Nat) (A : Option Addr) (i : Nat) : Prop := i = p ∨ blkOf A = some i
section
variable {w w' : World} {base p c n : Nat} {X X' : Nat → Prop} {A : Option Addr} {vs : List RV}
theorem IsJ.rr (h : IsJ w X A n vs) : Rr w w.heap.size A n vs := ⟨h.row, fun y hy => (h.dat y hy).ok⟩
theorem IsJ.len (h : IsJ w X A n vs) : vs.length = n := h.rr.len
theorem IsJ.mono (h : IsJ w X A n vs) (hX : ∀ i, i < w.heap.size → X i → X' i) : IsJ w X' A n vs :=
  ⟨h.row, fun hn a e => ⟨hX _ (h.at_ hn a e).2.lt (h.at_ hn a e).1, (h.at_ hn a e).2⟩, fun y hy => (h.dat y hy).mono hX⟩
theorem IsJ.keep {S : Nat → Prop} (h : IsJ w X A n vs) (k : Keeps S w w') (hS : ∀ i, X i → ¬ S i) : IsJ w' X A n vs :=
  ⟨(h.row.keepN k (Nat.le_refl _) (fun a e hn => hS _ (h.at_ hn a e).1)).more k.size, fun hn a e => ⟨(h.at_ hn a e).1, (h.at_ hn a e).2.keep k (hS _ (h.at_ hn a e).1)⟩, fun y hy => (h.dat y hy).keep k (fun i hi _ => hS i hi)⟩
theorem IsJ.below (h : IsJ w X A n vs) (k : Below w.heap.size w w') : IsJ w' X A n vs := h.keep (Keeps.of_below (S := fun _ => False) k) (fun _ _ h => h)
theorem IsJ.nil (w : World) (X : Nat → Prop) : IsJ w X none 0 [] := ⟨Rds.nil _ _ _ _, fun h => absurd h (by omega), fun y hy => by cases hy⟩
theorem IsLg.lt (h : IsLg w base p A c vs X) : p < w.heap.size := lt_of_block h.blk
theorem IsLg.rr (h : IsLg w base p A c vs X) : Rr w w.heap.size A vs.length vs := ⟨Rds.of_row h.row, fun y hy => (h.dat y hy).ok⟩
theorem IsLg.mono (h : IsLg w base p A c vs X) (hX : ∀ i, i < w.heap.size → X i → X' i) : IsLg w base p A c vs X' := ⟨h.blk, h.row, fun y hy => (h.dat y hy).mono hX, h.ge⟩
theorem IsLg.two (h : IsLg w base p A c vs X) {i : Nat} (hi : Two p A i) : Ty w i 108 ∨ Ty w i 32 := by
  rcases hi with rfl | hi
  · exact .inl ⟨_, h.blk⟩
  · exact .inr (h.row.ty hi)
theorem IsLg.two_lt (h : IsLg w base p A c vs X) {i : Nat} (hi : Two p A i) : base ≤ i ∧ i < w.heap.size := by
  rcases hi with rfl | hi
  · exact ⟨h.ge, h.lt⟩
  · exact h.row.lt hi
theorem IsLg.away (h : IsLg w base p A c vs X) {i : Nat} {e : TypeId} (g : Ty w i e) (h1 : e ≠ 108) (h2 : e ≠ 32) : ¬ Two p A i := fun hi => by
  rcases h.two hi with k | k
  · exact g.ne k h1 rfl
  · exact g.ne k h2 rfl
theorem IsLg.ane (h : IsLg w base p A c vs X) {g : Nat} (hg : blkOf A = some g) : g ≠ p := (h.row.ty hg).ne ⟨_, h.blk⟩ (by decide)
theorem IsLg.kept {S : Nat → Prop} (h : IsLg w base p A c vs X) (k : Keeps S w w') (hS : ∀ i, Two p A i → ¬ S i) (hX : ∀ i, X i → Ty w i 5 → ¬ S i) : IsLg w' base p A c vs X :=
  ⟨blk_keep h.blk k (hS p (.inl rfl)), h.row.kept k (fun g hg => hS g (.inr hg)), fun y hy => (h.dat y hy).keep k hX, h.ge⟩
theorem IsLg.below (h : IsLg w base p A c vs X) (k : Below w.heap.size w w') : IsLg w' base p A c vs X :=
  h.kept (Keeps.of_below (S := fun _ => False) k) (fun _ _ h => h) (fun _ _ _ h => h)
/-- its own writes do not touch the bytes -/
theorem IsLg.dat_keep {S : Nat → Prop} (h : IsLg w base p A c vs X) (k : Keeps S w w') (hS : ∀ i, S i → Two p A i) : ∀ y ∈ vs, Dt w' X y := fun y hy =>
  (h.dat y hy).keep k (fun i _ ht hs => h.away ht (by decide) (by decide) (hS i hs))
end
end Lg
end Go.Proofs.Ytgmejplcdecmkaa

/- The reference: could bytes be the beginning of a frame? -/
import Derived.Test.YtjidchaejicjaaaFrA
import Derived.Laws.CopyOwn
import Derived.StillTailTactics
import Derived.Laws.Cover3
import Derived.Deep.DrawnRows
import Derived.RangeFuncBox
import Derived.RangeFuncLeaves
import Derived.Shelf.Abstract
import Derived.OwnWalkIn
import Derived.TacticsInMore
import Derived.LoopNIn
import Derived.LoopIn
import Derived.Maps.AppendAt
namespace Go.Proofs.Ytjidchaejicjaaa
open Go.RowKit
set_option maxHeartbeats 4000000
set_option linter.unusedSimpArgs false
set_option linter.unusedVariables false
namespace Frm
theorem opB_0 {l : List Int} (h : l.length = 0) : opB l = true := by simp [opB, h]
theorem opB_a {l : List Int} (h : 1 ≤ l.length) (g : l.getD 0 0 ≠ 213) : opB l = false := by rw [opB, decide_eq_false_iff_not]; exact fun hh => g (hh.1 (by omega))
theorem opB_b {l : List Int} (h : 2 ≤ l.length) (g : l.getD 1 0 ≠ 76) : opB l = false := by rw [opB, decide_eq_false_iff_not]; exact fun hh => g (hh.2.1 (by omega))
theorem opB_s {l : List Int} (h : l.length < 8) (g0 : 1 ≤ l.length → l.getD 0 0 = 213) (g1 : 2 ≤ l.length → l.getD 1 0 = 76) : opB l = true := by
  rw [opB, decide_eq_true_iff]; exact ⟨fun _ => g0 (by omega), fun _ => g1 (by omega), fun _ => by omega⟩
theorem opB_l {l : List Int} (h : 8 ≤ l.length) (g0 : l.getD 0 0 = 213) (g1 : l.getD 1 0 = 76) : opB l = decide (l.getD 7 0 ≤ 64 ∧ (l.length : Int) < 10 + l.getD 7 0) := by
  rw [opB, decide_eq_decide]; exact ⟨fun hh => hh.2.2 h, fun hh => ⟨fun _ => g0, fun _ => g1, fun _ => hh⟩⟩
end Frm
end Go.Proofs.Ytjidchaejicjaaa
/- The reference's Encode. -/
namespace Go.Proofs.Ytjidchaejicjaaa
open Go.RowKit
set_option maxHeartbeats 4000000
set_option linter.unusedSimpArgs false
set_option linter.unusedVariables false
namespace Frm
/-- the bytes from the kind on -/
def body (k f t s : Int) (d : List Int) : List Int := [k, f, t, s / 256, s % 256, (d.length : Int)] ++ d
/-- the encoding of a frame -/
def enc (k f t s : Int) (d : List Int) : List Int := [213, 76] ++ body k f t s d ++ [((crcN (body k f t s d) : Nat) : Int) / 256, ((crcN (body k f t s d) : Nat) : Int) % 256]
theorem By.append {l m : List Int} (h : By l) (g : By m) : By (l ++ m) := by
  intro x hx
  rcases List.mem_append.1 hx with h1 | h1
  · exact h x h1
  · exact g x h1
theorem vd_bd {k f t s : Int} {n : Nat} (h : vd k f t s n = true) : (1 ≤ k ∧ k ≤ 9) ∧ (0 ≤ f ∧ f ≤ 64) ∧ (0 ≤ t ∧ t ≤ 64) ∧ (0 ≤ s ∧ s ≤ 65535) ∧ n ≤ 64 := by
  rw [vd_iff] at h; omega
theorem body_by {k f t s : Int} {d : List Int} (h : vd k f t s d.length = true) (hd : By d) : By (body k f t s d) := by
  have := vd_bd h
  refine By.append ?_ hd
  intro x hx
  simp at hx
  omega
theorem head_by {k f t s : Int} {n : Nat} (h : vd k f t s n = true) : By [213, 76, k, f, t, s / 256, s % 256, (n : Int)] := by
  have := vd_bd h
  intro x hx
  simp at hx
  omega
end Frm
end Go.Proofs.Ytjidchaejicjaaa
/- Encode. -/
namespace Go.Proofs.Ytjidchaejicjaaa
open Go.RowKit
set_option maxHeartbeats 4000000
set_option maxRecDepth 100000
set_option linter.unusedSimpArgs false
set_option linter.unusedVariables false
theorem full_block {w : World} {base : Nat} {e : TypeId} {g n : Nat} {xs : List Value} (h : w.ownsRow base e 1 (.slice (some ⟨g, 0, none⟩) n n) n xs) : w.heap[g]? = some (.cells xs.toArray e (0, 0)) := by
  rcases h.2 with ⟨e, _⟩ | ⟨g', c, cur, e, hb, hh, h1, h2, h3, h4⟩
  · cases e
  · injection e with e1 e2 e3
    injection e1 with e1
    injection e1 with e1
    subst e1; subst e3
    rw [hh]
    congr 2
    apply Array.toList_inj.1
    rw [← h4]
    exact (List.take_of_length_le (by simp; omega)).symm
theorem own_of_block {w : World} {base g n : Nat} {l : List Int} (h : w.heap[g]? = some (.cells (bv l).toArray 5 (0, 0))) (hb : base ≤ g) (hn : l.length = n) (hm : n ≤ maxLen) (hy : By l) : Ow w base (some ⟨g, 0, none⟩) n n l :=
  ⟨⟨by simp [bv, hn], .inr ⟨g, n, (bv l).toArray, rfl, hb, h, Nat.le_refl _, hm, by simp [bv, hn], by rw [List.take_of_length_le (by simp [bv, hn])]⟩⟩, hy⟩
theorem set_two (P : List Int) (x y : Int) (m : Nat) (hm : P.length = m) : ((bv (P ++ [0, 0])).toArray.setIfInBounds m (.int .u8 x)).setIfInBounds (m + 1) (.int .u8 y) = (bv (P ++ [x, y])).toArray := by
  subst hm
  rw [List.setIfInBounds_toArray, List.setIfInBounds_toArray]
  congr 1
  simp [bv, List.set_append]
theorem size_u8 : (Try.prog.info? 5).map (·.size) = some 1 := by kernel_rfl
end Go.Proofs.Ytjidchaejicjaaa
/- The reference's Decode. -/
namespace Go.Proofs.Ytjidchaejicjaaa
open Go.RowKit
set_option maxRecDepth 100000
set_option maxHeartbeats 20000000
set_option linter.unusedSimpArgs false
set_option linter.unusedVariables false
namespace Frm
/-- the number of bytes of Data that an encoding names -/
def dm (l : List Int) : Nat := (l.getD 7 0).toNat
def dsum (l : List Int) : Nat := crcN ((l.drop 2).take (dm l + 6))
def dS (l : List Int) : Int := 256 * l.getD 5 0 + l.getD 6 0
def dd (l : List Int) : List Int := (l.drop 8).take (dm l)
/-- the error of a decoding -/
def dE (l : List Int) : Int :=
  if l.length < 10 then 4 else if ¬ (l.getD 0 0 = 213 ∧ l.getD 1 0 = 76 ∧ l.getD 7 0 ≤ 64) then 6 else if l.length < 10 + dm l then 4 else if 10 + dm l < l.length then 5 else
  if ((dsum l : Nat) : Int) ≠ 256 * l.getD (dm l + 8) 0 + l.getD (dm l + 9) 0 then 10 else if vd (l.getD 2 0) (l.getD 3 0) (l.getD 4 0) (dS l) (dm l) = false then 6 else 0
theorem dE_1 {l : List Int} (h : l.length < 10) : dE l = 4 := by rw [dE, if_pos h]
theorem dE_2 {l : List Int} (h : 10 ≤ l.length) (g : ¬ (l.getD 0 0 = 213 ∧ l.getD 1 0 = 76 ∧ l.getD 7 0 ≤ 64)) : dE l = 6 := by rw [dE, if_neg (by omega), if_pos g]
theorem dE_3 {l : List Int} (h : 10 ≤ l.length) (g : l.getD 0 0 = 213 ∧ l.getD 1 0 = 76 ∧ l.getD 7 0 ≤ 64) (k : l.length < 10 + dm l) : dE l = 4 := by rw [dE, if_neg (by omega), if_neg (by simpa using g), if_pos k]
theorem dE_4 {l : List Int} (h : 10 ≤ l.length) (g : l.getD 0 0 = 213 ∧ l.getD 1 0 = 76 ∧ l.getD 7 0 ≤ 64) (k : 10 + dm l < l.length) : dE l = 5 := by rw [dE, if_neg (by omega), if_neg (by simpa using g), if_neg (by omega), if_pos k]
theorem dE_5 {l : List Int} (g : l.getD 0 0 = 213 ∧ l.getD 1 0 = 76 ∧ l.getD 7 0 ≤ 64) (k : l.length = 10 + dm l) (c : ((dsum l : Nat) : Int) ≠ 256 * l.getD (dm l + 8) 0 + l.getD (dm l + 9) 0) : dE l = 10 := by
  rw [dE, if_neg (by omega), if_neg (by simpa using g), if_neg (by omega), if_neg (by omega), if_pos c]
theorem dE_6 {l : List Int} (g : l.getD 0 0 = 213 ∧ l.getD 1 0 = 76 ∧ l.getD 7 0 ≤ 64) (k : l.length = 10 + dm l) (c : ((dsum l : Nat) : Int) = 256 * l.getD (dm l + 8) 0 + l.getD (dm l + 9) 0) (v : vd (l.getD 2 0) (l.getD 3 0) (l.getD 4 0) (dS l) (dm l) = false) : dE l = 6 := by
  rw [dE, if_neg (by omega), if_neg (by simpa using g), if_neg (by omega), if_neg (by omega), if_neg (by simpa using c), if_pos v]
theorem dE_0 {l : List Int} (g : l.getD 0 0 = 213 ∧ l.getD 1 0 = 76 ∧ l.getD 7 0 ≤ 64) (k : l.length = 10 + dm l) (c : ((dsum l : Nat) : Int) = 256 * l.getD (dm l + 8) 0 + l.getD (dm l + 9) 0) (v : vd (l.getD 2 0) (l.getD 3 0) (l.getD 4 0) (dS l) (dm l) = true) : dE l = 0 := by
  rw [dE, if_neg (by omega), if_neg (by simpa using g), if_neg (by omega), if_neg (by omega), if_neg (by simpa using c), if_neg (by rw [v]; decide)]
end Frm
theorem cell_alloc_keep {W : World} {o : Obj} {p : Addr} {v : Value} (h : W.cell? p = some v) : (W.alloc o).cell? p = some v := (World.cell?_alloc_lt W o p (World.block_lt_of_cell? W p h)).trans h
theorem cell_drew_keep {W : World} {p : Addr} {v : Value} (h : W.cell? p = some v) : W.drew.cell? p = some v := h
theorem cell_set_keep {W : World} {p q : Addr} {u v : Value} (h : W.cell? p = some v) (hq : W.cell? q = none ∨ p.block ≠ q.block) : (W.setCell q u).cell? p = some v := by
  rcases hq with hq | hq
  · exact (World.cell?_setCell_other W q p u (fun e => by subst e; rw [h] at hq; cases hq)).trans h
  · exact (World.cell?_setCell_other W q p u (fun e => by subst e; exact hq rfl)).trans h
theorem Ow.far {w : World} {base : Nat} {A : Option Addr} {n cap : Nat} {l : List Int} {p : Addr} (h : Ow w base A n cap l) (hp : p.block < base) (u : Value) : Ow (w.setCell p u) base A n cap l :=
  h.grown (row := some p.block) ⟨rfl, rfl, rfl, by simp [World.setCell], fun i hi hne => Below.heap_setCell w p u i (fun e => hne (by rw [e]))⟩ (fun g e => by
    rcases h.form with ⟨e2, _⟩ | ⟨g', e2, hb, _⟩
    · rw [e2] at e; cases e
    · rw [e2] at e; injection e with e; injection e with e; subst e; intro hh; injection hh with hh; omega)
/-- what a decoding leaves -/
def DPost (w : World) (l : List Int) (e : Ending) (w' : World) : Prop :=
  (Frm.dE l ≠ 0 ∧ e = .returned (.tuple #[.agg #[.int .i64 0, .int .i64 0, .int .i64 0, .int .i64 0, .slice none 0 0], .int .i64 (Frm.dE l)]) ∧ Below w.heap.size w w') ∨
  (Frm.dE l = 0 ∧ ∃ A' cap', e = .returned (.tuple #[.agg #[.int .i64 (l.getD 2 0), .int .i64 (l.getD 3 0), .int .i64 (l.getD 4 0), .int .i64 (Frm.dS l), .slice A' (Frm.dm l) cap'], .int .i64 0]) ∧ Ow w' w.heap.size A' (Frm.dm l) cap' (Frm.dd l) ∧ Below w.heap.size w w')
theorem dpost_err {w w' : World} {l : List Int} {n : Int} (h : Frm.dE l = n) (hn : n ≠ 0) (hb : Below w.heap.size w w') : DPost w l (.returned (.tuple #[.agg #[.int .i64 0, .int .i64 0, .int .i64 0, .int .i64 0, .slice none 0 0], .int .i64 n])) w' :=
  .inl ⟨by omega, by rw [h], hb⟩
end Go.Proofs.Ytjidchaejicjaaa
/- Decode: the errors. -/
namespace Go.Proofs.Ytjidchaejicjaaa
open Go.RowKit
attribute [local go_sem ↓] Go.wp_at_zero Go.wp_at_succ
set_option maxHeartbeats 20000000
set_option linter.unusedSimpArgs false
set_option linter.unusedVariables false

end Go.Proofs.Ytjidchaejicjaaa
/- Decode: the check sum. -/
namespace Go.Proofs.Ytjidchaejicjaaa
open Go.RowKit
set_option maxHeartbeats 20000000
set_option linter.unusedSimpArgs false
set_option linter.unusedVariables false
attribute [local go_sem ↓] Go.wp_at_zero Go.wp_at_succ
theorem or_shl (u v : Int) (hu : 0 ≤ u ∧ u < 256) (hv : 0 ≤ v ∧ v < 256) : bits .or .i64 (u * 256) v = 256 * u + v := by
  obtain ⟨a, rfl⟩ : ∃ a : Nat, u = a := ⟨u.toNat, by omega⟩
  obtain ⟨c, rfl⟩ : ∃ c : Nat, v = c := ⟨v.toNat, by omega⟩
  show IntKind.i64.wrap ((BitVec.ofInt 64 ((a : Int) * 256) ||| BitVec.ofInt 64 (c : Int)).toNat : Int) = _
  have e : ((a : Int) * 256) = ((a * 256 : Nat) : Int) := by omega
  rw [e, BitVec.toNat_or, ofInt_nat 64 _ (by omega), ofInt_nat 64 c (by omega)]
  have : a * 256 ||| c = a * 256 + c := by
    rw [show a * 256 = a <<< 8 by rw [Nat.shiftLeft_eq]]
    exact (Nat.shiftLeft_add_eq_or_of_lt (show c < 2 ^ 8 by omega) a).symm
  rw [this, IntKind.wrap_i64]
  omega
end Go.Proofs.Ytjidchaejicjaaa
/- Decode: a frame, or none that is valid. -/
namespace Go.Proofs.Ytjidchaejicjaaa
open Go.RowKit
set_option maxHeartbeats 20000000
set_option linter.unusedSimpArgs false
set_option linter.unusedVariables false
attribute [local go_sem ↓] Go.wp_at_zero Go.wp_at_succ
/-- what Clone leaves, behind a definition -/
def ClP (W : World) (m : Nat) (l : List Int) (e : Ending) (w' : World) : Prop := ∃ A' cap', e = .returned (.slice A' m cap') ∧ Ow w' W.heap.size A' m cap' l ∧ Below W.heap.size W w'
theorem five_set {w : World} {X : Nat} {a b c d e a' b' c' d' e' : Value} {t : TypeId} (h : w.heap[X]? = some (.cells #[a, b, c, d, e] t (0, 0))) :
    (((((w.setCell ⟨X, 0, none⟩ a').setCell ⟨X, 1, none⟩ b').setCell ⟨X, 2, none⟩ c').setCell ⟨X, 3, none⟩ d').setCell ⟨X, 4, none⟩ e').heap[X]? = some (.cells #[a', b', c', d', e'] t (0, 0)) :=
  (blk_set (blk_set (blk_set (blk_set (blk_set h 0 a') 1 b') 2 c') 3 d') 4 e').trans rfl
theorem five_far {w : World} {X q : Nat} {a' b' c' d' e' : Value} {x : Obj} (h : w.heap[q]? = some x) (hq : q ≠ X) :
    (((((w.setCell ⟨X, 0, none⟩ a').setCell ⟨X, 1, none⟩ b').setCell ⟨X, 2, none⟩ c').setCell ⟨X, 3, none⟩ d').setCell ⟨X, 4, none⟩ e').heap[q]? = some x :=
  blk_far (blk_far (blk_far (blk_far (blk_far h hq _) hq _) hq _) hq _) hq _
theorem five_ow {w : World} {X base : Nat} {A : Option Addr} {n cap : Nat} {l : List Int} {a' b' c' d' e' : Value} (h : Ow w base A n cap l) (hq : X < base) :
    Ow (((((w.setCell ⟨X, 0, none⟩ a').setCell ⟨X, 1, none⟩ b').setCell ⟨X, 2, none⟩ c').setCell ⟨X, 3, none⟩ d').setCell ⟨X, 4, none⟩ e') base A n cap l :=
  Ow.far (Ow.far (Ow.far (Ow.far (Ow.far h hq _) hq _) hq _) hq _) hq _
theorem five_below {w v : World} {X B : Nat} {a' b' c' d' e' : Value} (h : Below B v w) (hq : B ≤ X) :
    Below B v (((((w.setCell ⟨X, 0, none⟩ a').setCell ⟨X, 1, none⟩ b').setCell ⟨X, 2, none⟩ c').setCell ⟨X, 3, none⟩ d').setCell ⟨X, 4, none⟩ e') :=
  ((((h.setCell hq _).setCell hq _).setCell hq _).setCell hq _).setCell hq _
theorem cell_far_keep {W : World} {p q : Addr} {u v : Value} (h : W.cell? p = some v) (hq : p.block ≠ q.block) : (W.setCell q u).cell? p = some v := cell_set_keep h (.inr hq)
theorem five_cell {w : World} {X : Nat} {a' b' c' d' e' : Value} {p : Addr} {v : Value} (h : w.cell? p = some v) (hp : p.block ≠ X) :
    (((((w.setCell ⟨X, 0, none⟩ a').setCell ⟨X, 1, none⟩ b').setCell ⟨X, 2, none⟩ c').setCell ⟨X, 3, none⟩ d').setCell ⟨X, 4, none⟩ e').cell? p = some v :=
  cell_set_keep (cell_set_keep (cell_set_keep (cell_set_keep (cell_set_keep h (.inr hp)) (.inr hp)) (.inr hp)) (.inr hp)) (.inr hp)
end Go.Proofs.Ytjidchaejicjaaa
/- Decode. -/
namespace Go.Proofs.Ytjidchaejicjaaa
open Go.RowKit
set_option maxHeartbeats 4000000
set_option linter.unusedSimpArgs false
set_option linter.unusedVariables false
end Go.Proofs.Ytjidchaejicjaaa
/- PutNumbers. -/
namespace Go.Proofs.Ytjidchaejicjaaa
open Go.RowKit
set_option maxHeartbeats 4000000
set_option maxRecDepth 100000
set_option linter.unusedSimpArgs false
set_option linter.unusedVariables false
namespace Frm
/-- a number that can be encoded -/
def okN (x : Int) : Bool := inB x 0 4294967295
def okAll (l : List Int) : Bool := l.all okN
/-- the four bytes of a number -/
def num4 (x : Int) : List Int := [x / 16777216, x / 65536 % 256, x / 256 % 256, x % 256]
def pn : List Int → List Int
  | [] => []
  | x :: l => num4 x ++ pn l
theorem pn_append (l m : List Int) : pn (l ++ m) = pn l ++ pn m := by
  induction l with
  | nil => rfl
  | cons x t ih => simp [pn, ih]
theorem pn_len (l : List Int) : (pn l).length = 4 * l.length := by
  induction l with
  | nil => rfl
  | cons x t ih => simp [pn, num4, ih]; omega
theorem okN_iff {x : Int} : okN x = true ↔ 0 ≤ x ∧ x ≤ 4294967295 := inB_iff
theorem num4_by {x : Int} (h : okN x = true) : By (num4 x) := by
  rw [okN_iff] at h
  intro y hy
  simp [num4] at hy
  omega
theorem pn_by {l : List Int} (h : okAll l = true) : By (pn l) := by
  induction l with
  | nil => intro x hx; cases hx
  | cons x t ih =>
    simp [okAll] at h
    exact By.append (num4_by h.1) (ih (by simpa [okAll] using h.2))
theorem okAll_at {l : List Int} (h : okAll l = true) {j : Nat} (hj : j < l.length) : okN (l.getD j 0) = true := by
  rw [okAll, List.all_eq_true] at h
  have := h _ (List.getElem_mem hj)
  simpa [List.getD, List.getElem?_eq_getElem hj] using this
theorem okAll_take {l : List Int} (h : okAll l = true) (j : Nat) : okAll (l.take j) = true := by
  rw [okAll, List.all_eq_true] at h ⊢
  exact fun x hx => h x (List.mem_of_mem_take hx)
end Frm
/-- what IndexFunc answers -/
def IPost (l : List Int) (e : Ending) : Prop := (Frm.okAll l = true ∧ e = .returned (.int .i64 (-1))) ∨ (Frm.okAll l = false ∧ ∃ r : Nat, r < l.length ∧ e = .returned (.int .i64 r))
end Go.Proofs.Ytjidchaejicjaaa
/- The reference's PutNumbers. -/
namespace Go.Proofs.Ytjidchaejicjaaa
open Go.RowKit
set_option maxHeartbeats 4000000
set_option maxRecDepth 100000
set_option linter.unusedSimpArgs false
set_option linter.unusedVariables false
/-- what encoding numbers leaves -/
def PPost (w : World) (n : Nat) (l : List Int) (e : Ending) (w' : World) : Prop :=
  ((16 < n ∨ Frm.okAll l = false) ∧ e = .returned (.tuple #[.slice none 0 0, .int .i64 2]) ∧ Below w.heap.size w w') ∨
  ((n ≤ 16 ∧ Frm.okAll l = true) ∧ ∃ A' cap', e = .returned (.tuple #[.slice A' (4 * n) cap', .int .i64 0]) ∧ Ow w' w.heap.size A' (4 * n) cap' (Frm.pn l) ∧ Below w.heap.size w w')
theorem rput_any (A : Option Addr) (n cap : Nat) (l : List Int) (w : World) (hn : n ≤ 140737488355328) (h : Ri w w.heap.size A n l) :
    Calls Try.prog 71 #[.slice A n cap] w fun e w' => PPost w n l e w' := by
  obtain ⟨i0, hi0, hz0, hz1, hz2⟩ := info_parts info_u8
  have HH := Lib.hid h
  clear h
  rcases Nat.lt_or_ge 16 n with h16 | h16
  · go_enter Try.func71, Try.ntmps71
    go_wp2_with fail
    go_ret2
    exact .inl ⟨.inl h16, rfl, (by repeat (first | (with_reducible exact Below.refl _ _) | (with_reducible refine Below.drew ?_) | (with_reducible refine below_drewN ?_ _) | ((with_reducible refine Below.alloc ?_ ?_ _); rotate_left; (first | omega | (simp <;> omega)); rotate_right) | ((with_reducible refine Below.setCell ?_ ?_ _); rotate_left; (first | omega | (simp <;> omega)); rotate_right) | (with_reducible assumption) | (refine Below.trans ?_ (Below.mono (by assumption) ?_); rotate_left; (first | omega | (simp <;> omega)); rotate_right)))⟩
  · go_enter Try.func71, Try.ntmps71
    go_wp2_with fail
    go_loopw [4, 5] (fun s4 s5 wr => ∃ j : Nat, s5 = .int .i64 j ∧ j ≤ n ∧ wr.ownsRow w.heap.size 5 1 s4 (4 * j) (bv (Frm.pn (l.take j))) ∧ Below w.heap.size w wr ∧ Hid (∀ i, i < j → Frm.okN (l.getD i 0) = true)) (fun _ s5 _ => n - (intOf s5).toNat)
    case atStart => exact ⟨0, by go_num, by omega, by simpa [Frm.pn, bv] using World.ownsRow_nil w w.heap.size _ 1, (by repeat (first | (with_reducible exact Below.refl _ _) | (with_reducible refine Below.drew ?_) | (with_reducible refine below_drewN ?_ _) | ((with_reducible refine Below.alloc ?_ ?_ _); rotate_left; (first | omega | (simp <;> omega)); rotate_right) | ((with_reducible refine Below.setCell ?_ ?_ _); rotate_left; (first | omega | (simp <;> omega)); rotate_right) | (with_reducible assumption) | (refine Below.trans ?_ (Below.mono (by assumption) ?_); rotate_left; (first | omega | (simp <;> omega)); rotate_right))), Lib.hid (fun i hi => absurd hi (by omega))⟩
    case round =>
      obtain ⟨j, rfl, hj, hown, hB, HA⟩ := hrel
      obtain ⟨A4, cap4, rfl⟩ := own_form hown
      have hzr := hB.size
      have HR := HH.out.below hB (Nat.le_refl _)
      by_cases hlt : j < n
      · obtain ⟨bl, o, rfl, hbl, hcl⟩ := HR.2.2 (by omega)
        have hck := hcl j hlt
        have HLn := Lib.hid HR.1
        have E := Lib.hid (show Frm.pn (l.take (j + 1)) = Frm.pn (l.take j) ++ Frm.num4 (l.getD j 0) by rw [take_snoc l j (by rw [HLn.out]; omega), Frm.pn_append]; simp [Frm.pn])
        obtain ⟨y, hy⟩ : ∃ y, l.getD j 0 = y := ⟨_, rfl⟩
        rw [hy] at hck E
        have HY := Lib.hid hy
        clear hcl HR hy
        have bad := Lib.hid (show Frm.okN y = false → Frm.okAll l = false from fun hf => by
          rw [Frm.okAll, List.all_eq_false]
          have hjl : j < l.length := by rw [HLn.out]; exact hlt
          refine ⟨l[j], List.getElem_mem hjl, ?_⟩
          have : l[j] = y := by rw [← HY.out]; simp [List.getD, List.getElem?_eq_getElem hjl]
          rw [this, hf]; simp)
        rcases Int.lt_or_le y 0 with g0 | g0
        · go_wp2_with fail
          go_ret2
          exact .inl ⟨.inr (bad.out (Frm.inB_no.2 (by omega))), rfl, hB⟩
        rcases Int.lt_or_le 4294967295 y with g1 | g1
        · go_wp2_with fail
          go_ret2
          exact .inl ⟨.inr (bad.out (Frm.inB_no.2 (by omega))), rfl, hB⟩
        have HA' := Lib.hid (show ∀ i, i < j + 1 → Frm.okN (l.getD i 0) = true from fun i hi => by
          rcases Nat.lt_or_ge i j with h | h
          · exact HA.out i h
          · obtain rfl : i = j := by omega
            rw [HY.out]; exact Frm.okN_iff.2 ⟨g0, g1⟩)
        clear HA
        go_wp2_with fail
        have f1 : IntKind.u8.wrap (IntKind.i64.wrap (y.tdiv 16777216)) = y / 16777216 := by rw [Int.tdiv_eq_ediv_of_nonneg g0, IntWalk.i64_in _ (by omega), IntKind.wrap_u8]; omega
        have f2 : IntKind.u8.wrap ((IntKind.i64.wrap (y.tdiv 65536)).tmod 256) = y / 65536 % 256 := by rw [Int.tdiv_eq_ediv_of_nonneg g0, IntWalk.i64_in _ (by omega), Int.tmod_eq_emod_of_nonneg (by omega), IntKind.wrap_u8]; omega
        have f3 : IntKind.u8.wrap ((IntKind.i64.wrap (y.tdiv 256)).tmod 256) = y / 256 % 256 := by rw [Int.tdiv_eq_ediv_of_nonneg g0, IntWalk.i64_in _ (by omega), Int.tmod_eq_emod_of_nonneg (by omega), IntKind.wrap_u8]; omega
        have f4 : IntKind.u8.wrap (y.tmod 256) = y % 256 := by rw [Int.tmod_eq_emod_of_nonneg (by omega), IntKind.wrap_u8]; omega
        have hbr : bl < wr.heap.size := by omega
        go_region_held3 (fun w' => w'.cell? ⟨bl, o + j, none⟩ = some (.int .i64 y)) (first | (simp [go_sem, *]; done) | go_keep) (first | (refine step_append_any _ rfl (.tmp 27) (.tmp 54) _ rfl w.heap.size 5 i0 _ 1 1 Try.underlying33 hi0 hz0 hz1 hz2 rfl (by omega) _ (4 * j) _ rfl (World.ownsRow.drew (World.ownsRow.alloc hown _)) (wr.heap.size + 1) (some ⟨wr.heap.size, 0, none⟩) 4 4 (bv (Frm.num4 y)) rfl (Reads.drew (Reads.new wr #[.int .u8 (y / 16777216), .int .u8 (y / 65536 % 256), .int .u8 (y / 256 % 256), .int .u8 (y % 256)] 5)) (bv_one _) (by simp only [maxLen]; omega) (by omega) (by simp; omega) ?_; intro v1 w2 hown1 hg1 hat1; have hk2 : w2.cell? ⟨bl, o + j, none⟩ = some (.int .i64 y) := (World.cell?_of_block (hg1.block bl (by simp; omega) (fun e => by have := (hown.lt _ e.symm).1; omega))).trans (by simp [go_sem, *])))
        clear f1 f2 f3 f4
        have ET := E.out
        go_wp2_with fail
        go_roundw
        case rel =>
          refine ⟨j + 1, by go_num, by omega, ?_, Below.grown (w := ((wr.alloc (.cells #[.int .u8 (y / 16777216), .int .u8 (y / 65536 % 256), .int .u8 (y / 256 % 256), .int .u8 (y % 256)] 5)).drew)) (by repeat (first | (with_reducible exact Below.refl _ _) | (with_reducible refine Below.drew ?_) | (with_reducible refine below_drewN ?_ _) | ((with_reducible refine Below.alloc ?_ ?_ _); rotate_left; (first | omega | (simp <;> omega)); rotate_right) | ((with_reducible refine Below.setCell ?_ ?_ _); rotate_left; (first | omega | (simp <;> omega)); rotate_right) | (with_reducible assumption) | (refine Below.trans ?_ (Below.mono (by assumption) ?_); rotate_left; (first | omega | (simp <;> omega)); rotate_right))) hg1 (by simp; omega) (fun g hg => (hown.lt g hg).1), HA'⟩
          rw [ET]
          have hx := hown1
          rw [show 4 * (j + 1) = 4 * j + 4 by omega]
          simp only [bv, List.map_append] at hx ⊢
          exact hx
        case measure => simp [intOf]; omega
      · obtain rfl : j = n := by omega
        have E := Lib.hid (show l.take j = l by rw [List.take_of_length_le (by rw [HH.out.1]; omega)])
        have hok : Frm.okAll l = true := by
          rw [Frm.okAll, List.all_eq_true]
          intro x hx
          obtain ⟨i, hi, rfl⟩ := List.getElem_of_mem hx
          have := HA.out i (by rw [← HH.out.1]; exact hi)
          simpa [List.getD, List.getElem?_eq_getElem hi] using this
        have HO := Lib.hid hok
        rw [E.out] at hown
        clear HR HA hok
        go_wp2_with fail
        go_ret2
        exact .inr ⟨⟨h16, HO.out⟩, A4, cap4, rfl, ⟨hown, Frm.pn_by HO.out⟩, hB⟩
end Go.Proofs.Ytjidchaejicjaaa
/- Slices of frames; SameAll. -/
namespace Go.Proofs.Ytjidchaejicjaaa
open Go.RowKit
set_option maxHeartbeats 4000000
set_option maxRecDepth 100000
set_option linter.unusedSimpArgs false
set_option linter.unusedVariables false
/-- a frame, as data -/
structure Fr where
  k : Int
  f : Int
  t : Int
  s : Int
  d : List Int
/-- two lists of frames are equal -/
def frEq (x y : Fr) : Bool := sameB x.k x.f x.t x.s y.k y.f y.t y.s x.d y.d
def frsEq : List Fr → List Fr → Bool
  | [], [] => true
  | x :: l, y :: m => frEq x y && frsEq l m
  | _, _ => false
theorem frEq_iff {x y : Fr} : frEq x y = true ↔ x = y := by
  cases x; cases y
  simp [frEq, sameB]
theorem frsEq_iff : ∀ {l m : List Fr}, frsEq l m = true ↔ l = m
  | [], [] => by simp [frsEq]
  | [], y :: m => by simp [frsEq]
  | x :: l, [] => by simp [frsEq]
  | x :: l, y :: m => by simp [frsEq, frEq_iff, frsEq_iff]
def fr0 : Fr := ⟨0, 0, 0, 0, []⟩
theorem frsEq_no {l m : List Fr} {j : Nat} (h : frEq (l.getD j fr0) (m.getD j fr0) = false) : frsEq l m = false := by
  cases hx : frsEq l m
  · rfl
  · rw [frsEq_iff] at hx
    subst hx
    rw [show frEq (l.getD j fr0) (l.getD j fr0) = true from frEq_iff.2 rfl] at h
    cases h
theorem frsEq_yes {l m : List Fr} (hl : l.length = m.length) (h : ∀ i, i < l.length → frEq (l.getD i fr0) (m.getD i fr0) = true) : frsEq l m = true := by
  rw [frsEq_iff]
  apply List.ext_getElem hl
  intro i h1 h2
  have := frEq_iff.1 (h i h1)
  simpa [List.getD, List.getElem?_eq_getElem h1, List.getElem?_eq_getElem h2] using this
theorem frsEq_len {l m : List Fr} (hl : l.length ≠ m.length) : frsEq l m = false := by
  cases hx : frsEq l m
  · rfl
  · rw [frsEq_iff] at hx
    subst hx
    exact absurd rfl hl
/-- the five cells of a frame at ⟨b, p⟩, and its bytes -/
def FrAt (w : World) (B b p : Nat) (x : Fr) : Prop :=
  ∃ (A : Option Addr) (cap : Nat), w.cell? ⟨b, p, none⟩ = some (.int .i64 x.k) ∧ w.cell? ⟨b, p + 1, none⟩ = some (.int .i64 x.f) ∧ w.cell? ⟨b, p + 2, none⟩ = some (.int .i64 x.t) ∧ w.cell? ⟨b, p + 3, none⟩ = some (.int .i64 x.s) ∧
    w.cell? ⟨b, p + 4, none⟩ = some (.slice A x.d.length cap) ∧ Rd w B A x.d.length x.d ∧ (A = none → x.d.length = 0 ∧ cap = 0) ∧ x.d.length ≤ cap ∧ cap ≤ maxLen
/-- the slice at A of n frames reads as the frames l; all of it lies below block B -/
def Rf (w : World) (B : Nat) (A : Option Addr) (n : Nat) (l : List Fr) : Prop :=
  l.length = n ∧ (0 < n → ∃ b o, A = some ⟨b, o, none⟩ ∧ b < B ∧ ∀ i, i < n → FrAt w B b (o + i * 5) (l.getD i fr0))
section
variable {w w' : World} {B : Nat} {A : Option Addr} {n : Nat} {l : List Fr}
theorem FrAt.keep {b p : Nat} {x : Fr} (h : FrAt w B b p x) (hb : b < B) (hk : ∀ b o, b < B → w'.cell? ⟨b, o, none⟩ = w.cell? ⟨b, o, none⟩) : FrAt w' B b p x := by
  obtain ⟨A, cap, h1, h2, h3, h4, h5, h6, h7⟩ := h
  exact ⟨A, cap, (hk _ _ hb).trans h1, (hk _ _ hb).trans h2, (hk _ _ hb).trans h3, (hk _ _ hb).trans h4, (hk _ _ hb).trans h5, h6.keep hk, h7⟩
theorem Rf.keep (h : Rf w B A n l) (hk : ∀ b o, b < B → w'.cell? ⟨b, o, none⟩ = w.cell? ⟨b, o, none⟩) : Rf w' B A n l :=
  ⟨h.1, fun hn => by
    obtain ⟨b, o, e, hb, hc⟩ := h.2 hn
    exact ⟨b, o, e, hb, fun i hi => (hc i hi).keep hb hk⟩⟩
theorem Rf.below {B' : Nat} (h : Rf w B A n l) (k : Below B' w w') (hB : B ≤ B') : Rf w' B A n l := h.keep fun b o hb => k.cell (p := ⟨b, o, none⟩) (Nat.lt_of_lt_of_le hb hB)
theorem FrAt.more {B' b p : Nat} {x : Fr} (h : FrAt w B b p x) (hB : B ≤ B') : FrAt w B' b p x := by
  obtain ⟨A, cap, h1, h2, h3, h4, h5, h6, h7⟩ := h
  exact ⟨A, cap, h1, h2, h3, h4, h5, h6.more hB, h7⟩
theorem Rf.more {B' : Nat} (h : Rf w B A n l) (hB : B ≤ B') : Rf w B' A n l :=
  ⟨h.1, fun hn => by
    obtain ⟨b, o, e, hb, hc⟩ := h.2 hn
    exact ⟨b, o, e, by omega, fun i hi => (hc i hi).more hB⟩⟩
theorem Rf.nil (w : World) (B : Nat) (A : Option Addr) : Rf w B A 0 [] := ⟨rfl, fun h => absurd h (by omega)⟩
end
theorem samef_any (A C : Option Addr) (n m cap caq : Nat) (l k : List Fr) (w : World) (hn : n ≤ 140737488355328) (hm : m ≤ 140737488355328) (h : Rf w w.heap.size A n l) (g : Rf w w.heap.size C m k) :
    Calls Try.prog 43 #[.slice A n cap, .slice C m caq] w fun e w' => e = .returned (.bool (frsEq l k)) ∧ Below w.heap.size w w' := by
  by_cases hnm : n = m
  · subst hnm
    have H := Lib.hid h
    have G := Lib.hid g
    clear h g
    go_enter Try.func43, Try.ntmps43
    go_wp2_with fail
    go_loopw [5] (fun s wr => ∃ (j : Nat), s = .int .i64 j ∧ j ≤ n ∧ Below w.heap.size w wr ∧ Hid (∀ i, i < j → frEq (l.getD i fr0) (k.getD i fr0) = true)) (fun s _ => n - (intOf s).toNat)
    case atStart => exact ⟨0, by go_num, by omega, (by repeat (first | (with_reducible exact Below.refl _ _) | (with_reducible refine Below.drew ?_) | (with_reducible refine below_drewN ?_ _) | ((with_reducible refine Below.alloc ?_ ?_ _); rotate_left; (first | omega | (simp <;> omega)); rotate_right) | ((with_reducible refine Below.setCell ?_ ?_ _); rotate_left; (first | omega | (simp <;> omega)); rotate_right) | (with_reducible assumption) | (refine Below.trans ?_ (Below.mono (by assumption) ?_); rotate_left; (first | omega | (simp <;> omega)); rotate_right))), Lib.hid (fun i hi => absurd hi (by omega))⟩
    case round =>
      obtain ⟨j, rfl, hj, hB, HA⟩ := hrel
      have hzr := hB.size
      by_cases hlt : j < n
      · have HR := H.out.below hB (Nat.le_refl _)
        have GR := G.out.below hB (Nat.le_refl _)
        obtain ⟨b, o, rfl, hbl, hcl⟩ := HR.2 (by omega)
        obtain ⟨b', o', rfl, hbl', hcl'⟩ := GR.2 (by omega)
        obtain ⟨A1, cap1, p0, p1, p2, p3, p4, pr, _⟩ := hcl j hlt
        obtain ⟨A2, cap2, q0, q1, q2, q3, q4, qr, _⟩ := hcl' j hlt
        have N := Lib.hid (fun hf => frsEq_no (l := l) (m := k) (j := j) hf)
        have Y := Lib.hid (fun (hf : frEq (l.getD j fr0) (k.getD j fr0) = true) => show ∀ i, i < j + 1 → frEq (l.getD i fr0) (k.getD i fr0) = true from fun i hi => by
          rcases Nat.lt_or_ge i j with h | h
          · exact HA.out i h
          · obtain rfl : i = j := by omega
            exact hf)
        generalize l.getD j fr0 = x at *
        generalize k.getD j fr0 = y at *
        obtain ⟨xk, xf, xt, xs, xd⟩ := x
        obtain ⟨yk, yf, yt, ys, yd⟩ := y
        simp only at p0 p1 p2 p3 p4 q0 q1 q2 q3 q4 pr qr
        have SM := Lib.hid (fun (W : World) (hW : Below w.heap.size wr W) => same_any xk xf xt xs yk yf yt ys A1 A2 xd.length yd.length cap1 cap2 xd yd W ((pr.below hW (Nat.le_refl _)).more (by have := hW.size; omega)) ((qr.below hW (Nat.le_refl _)).more (by have := hW.size; omega)))
        clear hcl hcl' HR GR pr qr HA
        cases hr : frEq ⟨xk, xf, xt, xs, xd⟩ ⟨yk, yf, yt, ys, yd⟩
        · have R := Lib.hid (N.out hr)
          rw [show sameB xk xf xt xs yk yf yt ys xd yd = false from hr] at SM
          clear N Y hr
          have hbr : b < wr.heap.size := by omega
          have hbr' : b' < wr.heap.size := by omega
          go_upto_region 6 with fail
          go_region_held3 (fun w' => w'.cell? ⟨b, o + j * 5, none⟩ = some (.int .i64 xk) ∧ w'.cell? ⟨b, o + j * 5 + 1, none⟩ = some (.int .i64 xf) ∧ w'.cell? ⟨b, o + j * 5 + 2, none⟩ = some (.int .i64 xt) ∧ w'.cell? ⟨b, o + j * 5 + 3, none⟩ = some (.int .i64 xs) ∧ w'.cell? ⟨b, o + j * 5 + 4, none⟩ = some (.slice A1 xd.length cap1) ∧ w'.cell? ⟨b', o' + j * 5, none⟩ = some (.int .i64 yk) ∧ w'.cell? ⟨b', o' + j * 5 + 1, none⟩ = some (.int .i64 yf) ∧ w'.cell? ⟨b', o' + j * 5 + 2, none⟩ = some (.int .i64 yt) ∧ w'.cell? ⟨b', o' + j * 5 + 3, none⟩ = some (.int .i64 ys) ∧ w'.cell? ⟨b', o' + j * 5 + 4, none⟩ = some (.slice A2 yd.length cap2)) (first | (refine ⟨?_, ?_, ?_, ?_, ?_, ?_, ?_, ?_, ?_, ?_⟩ <;> simp [go_sem, *]; done) | go_keep) (first | (go_at_call 45; refine (SM.out _ (by repeat (first | (with_reducible exact Below.refl _ _) | (with_reducible refine Below.drew ?_) | (with_reducible refine below_drewN ?_ _) | ((with_reducible refine Below.alloc ?_ ?_ _); rotate_left; (first | omega | (simp <;> omega)); rotate_right) | ((with_reducible refine Below.setCell ?_ ?_ _); rotate_left; (first | omega | (simp <;> omega)); rotate_right) | (with_reducible assumption) | (refine Below.trans ?_ (Below.mono (by assumption) ?_); rotate_left; (first | omega | (simp <;> omega)); rotate_right)))).mono ?_; rintro e w4 ⟨rfl, hb4⟩; have hz4 := hb4.size; try simp at hz4; have d0 : w4.cell? ⟨b, o + j * 5, none⟩ = some (.int .i64 xk) := ((bcell hb4).1 b _ (by first | omega | (simp; done) | (simp; omega))).trans (by simp [go_sem, *]); have d1 : w4.cell? ⟨b, o + j * 5 + 1, none⟩ = some (.int .i64 xf) := ((bcell hb4).1 b _ (by first | omega | (simp; done) | (simp; omega))).trans (by simp [go_sem, *]); have d2 : w4.cell? ⟨b, o + j * 5 + 2, none⟩ = some (.int .i64 xt) := ((bcell hb4).1 b _ (by first | omega | (simp; done) | (simp; omega))).trans (by simp [go_sem, *]); have d3 : w4.cell? ⟨b, o + j * 5 + 3, none⟩ = some (.int .i64 xs) := ((bcell hb4).1 b _ (by first | omega | (simp; done) | (simp; omega))).trans (by simp [go_sem, *]); have d4 : w4.cell? ⟨b, o + j * 5 + 4, none⟩ = some (.slice A1 xd.length cap1) := ((bcell hb4).1 b _ (by first | omega | (simp; done) | (simp; omega))).trans (by simp [go_sem, *]); have d5 : w4.cell? ⟨b', o' + j * 5, none⟩ = some (.int .i64 yk) := ((bcell hb4).1 b' _ (by first | omega | (simp; done) | (simp; omega))).trans (by simp [go_sem, *]); have d6 : w4.cell? ⟨b', o' + j * 5 + 1, none⟩ = some (.int .i64 yf) := ((bcell hb4).1 b' _ (by first | omega | (simp; done) | (simp; omega))).trans (by simp [go_sem, *]); have d7 : w4.cell? ⟨b', o' + j * 5 + 2, none⟩ = some (.int .i64 yt) := ((bcell hb4).1 b' _ (by first | omega | (simp; done) | (simp; omega))).trans (by simp [go_sem, *]); have d8 : w4.cell? ⟨b', o' + j * 5 + 3, none⟩ = some (.int .i64 ys) := ((bcell hb4).1 b' _ (by first | omega | (simp; done) | (simp; omega))).trans (by simp [go_sem, *]); have d9 : w4.cell? ⟨b', o' + j * 5 + 4, none⟩ = some (.slice A2 yd.length cap2) := ((bcell hb4).1 b' _ (by first | omega | (simp; done) | (simp; omega))).trans (by simp [go_sem, *])))
          have HB4 := (show Below w.heap.size w w4 from (by repeat (first | (with_reducible exact Below.refl _ _) | (with_reducible refine Below.drew ?_) | (with_reducible refine below_drewN ?_ _) | ((with_reducible refine Below.alloc ?_ ?_ _); rotate_left; (first | omega | (simp <;> omega)); rotate_right) | ((with_reducible refine Below.setCell ?_ ?_ _); rotate_left; (first | omega | (simp <;> omega)); rotate_right) | (with_reducible assumption) | (refine Below.trans ?_ (Below.mono (by assumption) ?_); rotate_left; (first | omega | (simp <;> omega)); rotate_right))))
          clear d0 d1 d2 d3 d4 d5 d6 d7 d8 d9
          go_wp2_with fail
          go_ret
          exact ⟨ret_bool R.out.symm, HB4⟩
        · have R := Lib.hid (Y.out hr)
          rw [show sameB xk xf xt xs yk yf yt ys xd yd = true from hr] at SM
          clear N Y hr
          have hbr : b < wr.heap.size := by omega
          have hbr' : b' < wr.heap.size := by omega
          go_upto_region 6 with fail
          go_region_held3 (fun w' => w'.cell? ⟨b, o + j * 5, none⟩ = some (.int .i64 xk) ∧ w'.cell? ⟨b, o + j * 5 + 1, none⟩ = some (.int .i64 xf) ∧ w'.cell? ⟨b, o + j * 5 + 2, none⟩ = some (.int .i64 xt) ∧ w'.cell? ⟨b, o + j * 5 + 3, none⟩ = some (.int .i64 xs) ∧ w'.cell? ⟨b, o + j * 5 + 4, none⟩ = some (.slice A1 xd.length cap1) ∧ w'.cell? ⟨b', o' + j * 5, none⟩ = some (.int .i64 yk) ∧ w'.cell? ⟨b', o' + j * 5 + 1, none⟩ = some (.int .i64 yf) ∧ w'.cell? ⟨b', o' + j * 5 + 2, none⟩ = some (.int .i64 yt) ∧ w'.cell? ⟨b', o' + j * 5 + 3, none⟩ = some (.int .i64 ys) ∧ w'.cell? ⟨b', o' + j * 5 + 4, none⟩ = some (.slice A2 yd.length cap2)) (first | (refine ⟨?_, ?_, ?_, ?_, ?_, ?_, ?_, ?_, ?_, ?_⟩ <;> simp [go_sem, *]; done) | go_keep) (first | (go_at_call 45; refine (SM.out _ (by repeat (first | (with_reducible exact Below.refl _ _) | (with_reducible refine Below.drew ?_) | (with_reducible refine below_drewN ?_ _) | ((with_reducible refine Below.alloc ?_ ?_ _); rotate_left; (first | omega | (simp <;> omega)); rotate_right) | ((with_reducible refine Below.setCell ?_ ?_ _); rotate_left; (first | omega | (simp <;> omega)); rotate_right) | (with_reducible assumption) | (refine Below.trans ?_ (Below.mono (by assumption) ?_); rotate_left; (first | omega | (simp <;> omega)); rotate_right)))).mono ?_; rintro e w4 ⟨rfl, hb4⟩; have hz4 := hb4.size; try simp at hz4; have d0 : w4.cell? ⟨b, o + j * 5, none⟩ = some (.int .i64 xk) := ((bcell hb4).1 b _ (by first | omega | (simp; done) | (simp; omega))).trans (by simp [go_sem, *]); have d1 : w4.cell? ⟨b, o + j * 5 + 1, none⟩ = some (.int .i64 xf) := ((bcell hb4).1 b _ (by first | omega | (simp; done) | (simp; omega))).trans (by simp [go_sem, *]); have d2 : w4.cell? ⟨b, o + j * 5 + 2, none⟩ = some (.int .i64 xt) := ((bcell hb4).1 b _ (by first | omega | (simp; done) | (simp; omega))).trans (by simp [go_sem, *]); have d3 : w4.cell? ⟨b, o + j * 5 + 3, none⟩ = some (.int .i64 xs) := ((bcell hb4).1 b _ (by first | omega | (simp; done) | (simp; omega))).trans (by simp [go_sem, *]); have d4 : w4.cell? ⟨b, o + j * 5 + 4, none⟩ = some (.slice A1 xd.length cap1) := ((bcell hb4).1 b _ (by first | omega | (simp; done) | (simp; omega))).trans (by simp [go_sem, *]); have d5 : w4.cell? ⟨b', o' + j * 5, none⟩ = some (.int .i64 yk) := ((bcell hb4).1 b' _ (by first | omega | (simp; done) | (simp; omega))).trans (by simp [go_sem, *]); have d6 : w4.cell? ⟨b', o' + j * 5 + 1, none⟩ = some (.int .i64 yf) := ((bcell hb4).1 b' _ (by first | omega | (simp; done) | (simp; omega))).trans (by simp [go_sem, *]); have d7 : w4.cell? ⟨b', o' + j * 5 + 2, none⟩ = some (.int .i64 yt) := ((bcell hb4).1 b' _ (by first | omega | (simp; done) | (simp; omega))).trans (by simp [go_sem, *]); have d8 : w4.cell? ⟨b', o' + j * 5 + 3, none⟩ = some (.int .i64 ys) := ((bcell hb4).1 b' _ (by first | omega | (simp; done) | (simp; omega))).trans (by simp [go_sem, *]); have d9 : w4.cell? ⟨b', o' + j * 5 + 4, none⟩ = some (.slice A2 yd.length cap2) := ((bcell hb4).1 b' _ (by first | omega | (simp; done) | (simp; omega))).trans (by simp [go_sem, *])))
          have HB4 := (show Below w.heap.size w w4 from (by repeat (first | (with_reducible exact Below.refl _ _) | (with_reducible refine Below.drew ?_) | (with_reducible refine below_drewN ?_ _) | ((with_reducible refine Below.alloc ?_ ?_ _); rotate_left; (first | omega | (simp <;> omega)); rotate_right) | ((with_reducible refine Below.setCell ?_ ?_ _); rotate_left; (first | omega | (simp <;> omega)); rotate_right) | (with_reducible assumption) | (refine Below.trans ?_ (Below.mono (by assumption) ?_); rotate_left; (first | omega | (simp <;> omega)); rotate_right))))
          clear d0 d1 d2 d3 d4 d5 d6 d7 d8 d9
          go_wp2_with fail
          go_roundw
          case rel => exact ⟨j + 1, by go_num, by omega, HB4, R⟩
          case measure => simp [intOf]; omega
      · obtain rfl : j = n := by omega
        have E := Lib.hid (show frsEq l k = true from frsEq_yes (H.out.1.trans G.out.1.symm) (fun i hi => HA.out i (by rw [← H.out.1]; exact hi)))
        go_wp2_with fail
        go_ret
        exact ⟨ret_bool E.out.symm, (by repeat (first | (with_reducible exact Below.refl _ _) | (with_reducible refine Below.drew ?_) | (with_reducible refine below_drewN ?_ _) | ((with_reducible refine Below.alloc ?_ ?_ _); rotate_left; (first | omega | (simp <;> omega)); rotate_right) | ((with_reducible refine Below.setCell ?_ ?_ _); rotate_left; (first | omega | (simp <;> omega)); rotate_right) | (with_reducible assumption) | (refine Below.trans ?_ (Below.mono (by assumption) ?_); rotate_left; (first | omega | (simp <;> omega)); rotate_right)))⟩
  · have z : ((n : Int) != (m : Int)) = true := by simp; omega
    have E := Lib.hid (show frsEq l k = false from frsEq_len (by rw [h.1, g.1]; exact hnm))
    clear hnm h g
    go_enter Try.func43, Try.ntmps43
    go_wp2_with fail
    go_ret
    exact ⟨ret_bool E.out.symm, (by repeat (first | (with_reducible exact Below.refl _ _) | (with_reducible refine Below.drew ?_) | (with_reducible refine below_drewN ?_ _) | ((with_reducible refine Below.alloc ?_ ?_ _); rotate_left; (first | omega | (simp <;> omega)); rotate_right) | ((with_reducible refine Below.setCell ?_ ?_ _); rotate_left; (first | omega | (simp <;> omega)); rotate_right) | (with_reducible assumption) | (refine Below.trans ?_ (Below.mono (by assumption) ?_); rotate_left; (first | omega | (simp <;> omega)); rotate_right)))⟩
end Go.Proofs.Ytjidchaejicjaaa
/- A region that draws its order, in a round of a loop over a function: it goes as outside of a round (plain law over the machine's calculus). -/
namespace Go.Proofs.Ytjidchaejicjaaa
open Go.RowKit Go.Shelf
set_option maxHeartbeats 4000000
set_option linter.unusedSimpArgs false
set_option linter.unusedVariables false
section
variable {P : Program} {Q : Exit → Act → World → Prop} {n l : Nat}
theorem rowsIn_wide {row : String} {args : Array Value} {w : World} {R : Value → World → Prop} (h : Rows P row args w R) : RowsIn (Fence.wide.inRound l) n P row args w R :=
  fun c cs _ => let ⟨v, w', r, s⟩ := h c cs; ⟨v, w', r, stepsIn_wide.2 s⟩
theorem oper_round {o : Oper} (hd : ∀ c, o.op ≠ .defer c) {a : Act} {w : World} {K : Act → World → Prop} (hno : ¬ LetsOut Q) (h : o.wp P a w K Q) : o.wpIn (Fence.wide.inRound l) n P a w K Q := by
  refine ⟨fun _ _ => trivial, ?_⟩
  unfold Oper.wp at h
  rw [show (Fence.wide.inRound l).round = some l from rfl, Oper.semAt_some l _ _ hd]
  revert h
  generalize (execOp a.eval o).run P w = r
  intro h
  cases r with
  | ok x w' =>
    cases x with
    | value v => exact h
    | skip => exact h
    | defer d => exact h
    | enter f args => exact ⟨fun hh => by simp [Fence.wide] at hh, callsIn_wide.2 h⟩
    | row r' args => exact ⟨fun hh => by simp [Fence.wide] at hh, rowsIn_wide h⟩
    | round => exact h.elim
    | _ => exact h.elim
  | halt x w' => cases x <;> exact h
theorem ops_round {ops : Array Oper} (hd : ∀ (i : Nat) (o : Oper), ops[i]? = some o → ∀ c, o.op ≠ .defer c) (hno : ¬ LetsOut Q) :
    ∀ (s : List Nat) (a : Act) (w : World), wpOps P ops Q s a w → wpOpsIn (Fence.wide.inRound l) n P ops Q s a w := by
  intro s
  induction s with
  | nil => exact fun a w h => h
  | cons i s ih =>
    intro a w h
    rw [wpOps_cons] at h
    unfold wpOp at h
    simp only [wpOpsIn]
    cases ho : ops[i]? with
    | none => rw [ho] at h; exact ih a w h
    | some o =>
      rw [ho] at h
      simp only at h ⊢
      by_cases hw : Region.wanted o (yielded ops a.tmps) = true
      · rw [if_pos hw] at h ⊢
        rcases h with h | h
        · exact Oper.wpIn_mono ih (oper_round (hd i o ho) hno h)
        · exact absurd h.2 hno
      · rw [if_neg hw] at h ⊢
        exact ⟨fun _ _ => trivial, ih _ _ h⟩
/-- it is no defer statement -/
def noDefer (o : Oper) : Bool := match o.op with | .defer _ => false | _ => true
theorem noDefer_all {ops : Array Oper} (h : ops.toList.all noDefer = true) (i : Nat) (o : Oper) (ho : ops[i]? = some o) (c) : o.op ≠ .defer c := by
  rw [List.all_eq_true] at h
  have hm : o ∈ ops.toList := by
    rw [← Array.getElem?_toList] at ho
    exact List.mem_of_getElem? ho
  intro e
  have := h o hm
  simp [noDefer, e] at this
theorem region_round {S : World → Prop} {id : Nat} {ops : Array Oper} {a : Act} {w : World} (hm : P.follows .mixedOrders = true) (hd : ops.toList.all noDefer = true) (hno : ¬ LetsOut Q) (hS : S w.drew)
    (h : S w.drew → wpAnyH P .any ops Q S ops.size (Array.replicate ops.size false) a w.drew) : (Code.region id ops true).wpIn (Fence.wide.inRound l) n P Q a w :=
  wpIn_region_draw fun t => by
    refine ops_round (noDefer_all hd) hno _ _ _ ?_
    simp only [Region.schedule, hm, Bool.true_or, if_true]
    exact wpAny_sound ops.size t _ a _ (wpAny_of_held _ _ _ _ (h hS))
end
end Go.Proofs.Ytjidchaejicjaaa
/- slices.Chunk on bytes, four at a time: the contract of the function that it returns. -/
namespace Go.Proofs.Ytjidchaejicjaaa
open Go.RowKit Go.Shelf
attribute [local go_sem] Oper.semAt_some
set_option maxHeartbeats 4000000
set_option linter.unusedSimpArgs false
set_option linter.unusedVariables false
/-- what a round that goes on keeps: the blocks below p, and two blocks more -/
def KpC (p q r : Nat) (A B : World) : Prop := Below p A B ∧ B.heap[q]? = A.heap[q]? ∧ B.heap[r]? = A.heap[r]?
theorem KpC.t {p q r : Nat} {A B C : World} (h : KpC p q r A B) (k : KpC p q r B C) : KpC p q r A C := ⟨h.1.trans k.1, k.2.1.trans h.2.1, k.2.2.trans h.2.2⟩
theorem chunk_new (A : Option Addr) (n cap : Nat) (w : World) : Calls Try.prog 72 #[.slice A n cap, .int .i64 4] w
    fun e w' => e = .returned (.func (.func 84) #[] #[.pointer (some ⟨w.heap.size, 0, none⟩), .pointer (some ⟨w.heap.size + 1, 0, none⟩)]) ∧ w' = (w.alloc (.cells #[.slice A n cap] 33)).alloc (.cells #[.int .i64 4] 3) := by
  go_enter Try.func72, Try.ntmps72
  go_wp2_with fail
  go_ret
  exact ⟨rfl, rfl⟩
theorem fin_take (m k : Nat) (h : k < m) : (List.finRange m).take (k + 1) = (List.finRange m).take k ++ [⟨k, h⟩] := by
  rw [List.take_succ_eq_append_getElem (by simpa using h)]
  simp
set_option maxRecDepth 100000 in
theorem chunk1 (n l p q r : Nat) (A : Option Addr) (b o m cap : Nat) (hm : 4 * m ≤ 140737488355328) (hcap : 4 * m ≤ cap) (hcm : cap ≤ 9223372036854775807) (hA : 0 < m → A = some ⟨b, o, none⟩) (J Jx : List (Fin m) → World → Prop)
    (hY : ∀ pre x W, J pre W → pre.length < m → YieldAt Fence.wide (n - 1) Try.prog l #[.slice (some ⟨b, o + 4 * x.1, none⟩) 4 4] W fun e W' =>
      (e = .returned (.bool true) ∧ J (pre ++ [x]) W' ∧ KpC p q r W W') ∨ (e = .returned (.bool false) ∧ Jx (pre ++ [x]) W'))
    (W : World) (hq : W.heap[q]? = some (.cells #[.slice A (4 * m) cap] 33 (0, 0))) (hr : W.heap[r]? = some (.cells #[.int .i64 4] 3 (0, 0))) (h0 : J [] W)
    (hJ : ∀ s W, J s W → J s W.drew) :
    CallsIn Fence.wide n Try.prog 84 #[.func (.yield l) #[] #[], .pointer (some ⟨q, 0, none⟩), .pointer (some ⟨r, 0, none⟩)] W fun e W' => (∃ v, e = .returned v) ∧
      ((∃ ys, ys = List.finRange m ∧ J ys W') ∨ (∃ pre, pre <+: List.finRange m ∧ Jx pre W')) := by
  refine callsIn_of_wp Try.func84 rfl trivial ?_ rfl
  simp only [Try.ntmps84, List.size_toArray, List.length_cons, List.length_nil, Nat.reduceAdd, Nat.reduceSub, Array.replicate_succ, Array.replicate_zero, List.push_toArray, List.append_toArray, List.nil_append, List.cons_append]
  gi_wp2
  gi_loopw [4] (fun i wr => ∃ k : Nat, k ≤ m ∧ i = .int .i64 ((4 * k : Nat) : Int) ∧ J ((List.finRange m).take k) wr ∧ wr.heap[q]? = some (.cells #[.slice A (4 * m) cap] 33 (0, 0)) ∧ wr.heap[r]? = some (.cells #[.int .i64 4] 3 (0, 0)))
    (fun i _ => 4 * m - (intOf i).toNat)
  case atStart => exact ⟨0, Nat.zero_le _, rfl, h0, hq, hr⟩
  case round =>
    obtain ⟨k, hk, rfl, hJs, hq1, hr1⟩ := hrel
    have cq := blk_cell (l := [_]) hq1 0 rfl
    have cr := blk_cell (l := [_]) hr1 0 rfl
    by_cases hlt : k < m
    · have eA := hA (by omega)
      subst eA
      have e1 : (4 * (k : Int)) < 4 * (m : Int) := by omega
      have e2 : (0 : Int) ≤ 4 * (k : Int) := by omega
      have e3 : (4 * (m : Int)) ≤ (cap : Int) := by omega
      have ht := fin_take m k hlt
      obtain ⟨fn, tmps, assign, body, hy, hR⟩ := hY _ ⟨k, hlt⟩ wr.drew (hJ _ _ hJs) (by simp; omega)
      have HR := Lib.hid hR
      have HT := Lib.hid ht
      clear hR ht
      dsimp only at hy
      gi_wp2
      refine wpIn_wide.2 ?_
      go_region_held3 (fun w' => w'.cell? ⟨q, 0, none⟩ = some (.slice (some ⟨b, o, none⟩) (4 * m) cap) ∧ w'.cell? ⟨r, 0, none⟩ = some (.int .i64 4)) (refine ⟨?_, ?_⟩ <;> (first | (with_reducible assumption) | (simp only [World.cell?_drew]; with_reducible assumption))) (first | fail)
      gi_wp2
      refine ⟨fun h => (by simp [Fence.wide] at h), HR.out.mono ?_⟩
      rintro e W3 (⟨rfl, hJ3, hk3⟩ | ⟨rfl, hJx3⟩)
      · have hq3 := hk3.2.1.trans (show wr.drew.heap[q]? = _ from hq1)
        have hr3 := hk3.2.2.trans (show wr.drew.heap[r]? = _ from hr1)
        have dq := blk_cell (l := [_]) hq3 0 rfl
        have dr := blk_cell (l := [_]) hr3 0 rfl
        clear cq cr
        gi_wp2
        go_roundw
        case rel => exact ⟨k + 1, by omega, by simp; omega, by rw [HT.out]; exact hJ3, hq3, hr3⟩
        case measure => simp [intOf]; omega
      · gi_wp2
        refine bodyPost_ret (results_none rfl _ _ _) rfl ?_
        exact ⟨⟨_, rfl⟩, .inr ⟨_, by rw [← HT.out]; exact List.take_prefix _ _, hJx3⟩⟩
    · obtain rfl : k = m := by omega
      gi_wp2
      go_end0
      exact ⟨⟨_, rfl⟩, .inl ⟨_, by rw [List.take_of_length_le (by simp)], hJs⟩⟩
end Go.Proofs.Ytjidchaejicjaaa

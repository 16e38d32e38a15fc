/- Slices of bytes: what a walk is told of them. -/
import Derived.Test.YtjidchaejicjaaaRows
import Derived.WalkKit
import Derived.WalkSpells
import Derived.WalkLawsBesides
import Derived.Deep.QuietTactic
import Derived.BigQuiet
import Derived.BigRegion
import Derived.Lib.Hide
import Derived.IntWalk
import Derived.KernelRfl
import Derived.LoopTactic
import Derived.OwnWalk
import Derived.Laws.OwnMore
import Derived.Below
import Derived.Outline
import Derived.Deep.RegionHeld3
import Derived.Deep.RegionLaw
import Derived.Deep.DeepCutAuto
import Derived.Deep.LoopGhost
import Derived.Laws.BitsAllLaws
import Derived.Laws.BitsLemmas
import Derived.Laws.BytesArg
import Derived.Deep.AppendLies
import Derived.Deep.Draws
import Derived.Maps.AppendAt
import Derived.RegionTactic
namespace Go.Proofs.Ytjidchaejicjaaa
open Go.RowKit
set_option maxHeartbeats 4000000
set_option linter.unusedSimpArgs false
set_option linter.unusedVariables false
theorem ret_bool {a b : Bool} (h : a = b) : Ending.returned (.bool a) = .returned (.bool b) := by rw [h]
theorem ret_int {k : IntKind} {a b : Int} (h : a = b) : Ending.returned (.int k a) = .returned (.int k b) := by rw [h]
theorem ret_ii {k j : IntKind} {a b c d : Int} (h : a = b) (g : c = d) : Ending.returned (.tuple #[.int k a, .int j c]) = .returned (.tuple #[.int k b, .int j d]) := by rw [h, g]
theorem bcell {W w1 : World} (hb : Below W.heap.size W w1) : (∀ b o, b < W.heap.size → w1.cell? ⟨b, o, none⟩ = W.cell? ⟨b, o, none⟩) ∧ (∀ b o, b < W.heap.size → w1.frozen? ⟨b, o, none⟩ = W.frozen? ⟨b, o, none⟩) :=
  ⟨fun b o h => hb.cell (p := ⟨b, o, none⟩) h, fun b o h => hb.frozen (p := ⟨b, o, none⟩) h⟩
theorem heap_new (w : World) (o : Obj) : (w.alloc o).heap[w.heap.size]? = some o := by show (w.heap.push o)[w.heap.size]? = _; simp
theorem heap_new' (w : World) (o : Obj) (q : Nat) (hq : q = w.heap.size) : (w.alloc o).heap[q]? = some o := by subst hq; exact heap_new w o
theorem blk_cell {w : World} {q : Nat} {l : List Value} {t : TypeId} (h : w.heap[q]? = some (.cells l.toArray t (0, 0))) (i : Nat) {v : Value} (hv : l[i]? = some v) : w.cell? ⟨q, i, none⟩ = some v := by simp [World.cell?, h, hv]
theorem blk_free {w : World} {q : Nat} {cs : Array Value} {t : TypeId} (h : w.heap[q]? = some (.cells cs t (0, 0))) (i : Nat) : w.frozen? ⟨q, i, none⟩ = false := by simp [World.frozen?, h]
theorem blk_alloc {w : World} {q : Nat} {x : Obj} (h : w.heap[q]? = some x) (o : Obj) : (w.alloc o).heap[q]? = some x := (Below.heap_alloc w o q (lt_of_block h)).trans h
theorem blk_drew {w : World} {q : Nat} {x : Obj} (h : w.heap[q]? = some x) : w.drew.heap[q]? = some x := h
theorem blk_drewN {w : World} {q : Nat} {x : Obj} (h : w.heap[q]? = some x) (n : Nat) : (w.drewN n).heap[q]? = some x := h
theorem blk_far {w : World} {q : Nat} {x : Obj} (h : w.heap[q]? = some x) {a : Addr} (ha : q ≠ a.block) (u : Value) : (w.setCell a u).heap[q]? = some x := (Below.heap_setCell w a u q ha).trans h
theorem blk_set {w : World} {q : Nat} {cs : Array Value} {t : TypeId} (h : w.heap[q]? = some (.cells cs t (0, 0))) (i : Nat) (u : Value) : (w.setCell ⟨q, i, none⟩ u).heap[q]? = some (.cells (cs.setIfInBounds i u) t (0, 0)) := by
  have hlt := lt_of_block h
  have h' : w.heap[q] = .cells cs t (0, 0) := by simpa [Array.getElem?_eq_getElem hlt] using h
  show (w.heap.modify q _)[q]? = _
  rw [Array.getElem?_eq_getElem (by simpa using hlt), Array.getElem_modify_self, h']
  rfl
theorem blk_below {B : Nat} {w w' : World} {q : Nat} {x : Obj} (h : w.heap[q]? = some x) (k : Below B w w') (hq : q < B) : w'.heap[q]? = some x := (k.block q hq).trans h
theorem blk_only {W w' : World} {q : Nat} {row : Option Nat} {x : Obj} (h : W.heap[q]? = some x) (hg : W.grownBy w' row) (hne : some q ≠ row) : w'.heap[q]? = some x := (hg.block q (lt_of_block h) hne).trans h
theorem below_drewN {B : Nat} {a w : World} (h : Below B a w) (n : Nat) : Below B a (w.drewN n) := ⟨h.os, h.tape, h.output, h.size, h.block⟩
theorem only_drew {a w : World} {row : Option Nat} (h : a.grownBy w row) : a.grownBy w.drew row := ⟨h.os, h.tape, h.output, h.size, h.block⟩
theorem only_drewN {a w : World} {row : Option Nat} (h : a.grownBy w row) (n : Nat) : a.grownBy (w.drewN n) row := ⟨h.os, h.tape, h.output, h.size, h.block⟩
theorem only_of_below {a w : World} (h : Below a.heap.size a w) (row : Option Nat) : a.grownBy w row := ⟨h.os, h.tape, h.output, h.size, fun i hi _ => h.block i hi⟩
/-- bytes -/
def By (l : List Int) : Prop := ∀ x ∈ l, 0 ≤ x ∧ x < 256
def bv (l : List Int) : List Value := l.map (Value.int .u8)
/-- the slice at A of n elements reads as the bytes l; they lie below block B -/
def Rd (w : World) (B : Nat) (A : Option Addr) (n : Nat) (l : List Int) : Prop :=
  l.length = n ∧ By l ∧ (0 < n → ∃ b o, A = some ⟨b, o, none⟩ ∧ b < B ∧ ∀ i, i < n → w.cell? ⟨b, o + i, none⟩ = some (.int .u8 (l.getD i 0)))
section
variable {w w' : World} {B : Nat} {A : Option Addr} {n : Nat} {l : List Int}
theorem Rd.keep (h : Rd w B A n l) (hk : ∀ b o, b < B → w'.cell? ⟨b, o, none⟩ = w.cell? ⟨b, o, none⟩) : Rd w' B A n l :=
  ⟨h.1, h.2.1, fun hn => by
    obtain ⟨b, o, e, hb, hc⟩ := h.2.2 hn
    exact ⟨b, o, e, hb, fun i hi => (hk b _ hb).trans (hc i hi)⟩⟩
theorem Rd.below {B' : Nat} (h : Rd w B A n l) (k : Below B' w w') (hB : B ≤ B') : Rd w' B A n l := h.keep fun b o hb => k.cell (p := ⟨b, o, none⟩) (Nat.lt_of_lt_of_le hb hB)
theorem Rd.more {B' : Nat} (h : Rd w B A n l) (hB : B ≤ B') : Rd w B' A n l :=
  ⟨h.1, h.2.1, fun hn => by
    obtain ⟨b, o, e, hb, hc⟩ := h.2.2 hn
    exact ⟨b, o, e, by omega, hc⟩⟩
theorem Rd.drew (h : Rd w B A n l) : Rd w.drew B A n l := h
theorem Rd.drewN (h : Rd w B A n l) (k : Nat) : Rd (w.drewN k) B A n l := h
theorem Rd.alloc (h : Rd w B A n l) (hB : B ≤ w.heap.size) (o : Obj) : Rd (w.alloc o) B A n l := h.keep fun b o' hb => World.cell?_alloc_lt w o ⟨b, o', none⟩ (by show b < _; omega)
theorem Rd.set (h : Rd w B A n l) {p : Addr} (hB : B ≤ p.block) (u : Value) : Rd (w.setCell p u) B A n l :=
  h.keep fun b o hb => World.cell?_setCell_other w p ⟨b, o, none⟩ u (fun e => by subst e; simp at hB; omega)
theorem Rd.grown {row : Option Nat} (h : Rd w B A n l) (hg : w.grownBy w' row) (hB : B ≤ w.heap.size) (hr : ∀ g, row = some g → B ≤ g) : Rd w' B A n l :=
  h.keep fun b o hb => World.cell?_of_block (hg.block b (by omega) (fun e => by have := hr _ e.symm; omega))
theorem Rd.nil (w : World) (B : Nat) (A : Option Addr) : Rd w B A 0 [] := ⟨rfl, (by intro x hx; cases hx), fun h => absurd h (by omega)⟩
theorem By.at_ (h : By l) (i : Nat) : 0 ≤ l.getD i 0 ∧ l.getD i 0 < 256 := by
  by_cases hi : i < l.length
  · have : l.getD i 0 ∈ l := by simp [List.getD, List.getElem?_eq_getElem hi]
    exact h _ this
  · simp [List.getD, List.getElem?_eq_none (by omega : l.length ≤ i)]
theorem Rd.of_own {base : Nat} {e : TypeId} {c : Nat} (h : w.ownsRow base e 1 (.slice A n c) n (bv l)) (hb : By l) : Rd w w.heap.size A n l := by
  have hlen : l.length = n := by have := h.1; simpa [bv] using this
  refine ⟨hlen, hb, fun hn => ?_⟩
  rcases h.2 with ⟨he, _⟩ | ⟨g, cap, cur, hv, _, hh, h1, h2, h3, h4⟩
  · simp at he; omega
  · injection hv with hv
    subst hv
    have hlt := lt_of_block hh
    refine ⟨g, 0, rfl, hlt, fun i hi => ?_⟩
    have hc := World.ownsRow.cellAt h (g := g) i (by omega)
    rw [Nat.zero_add, hc, bv]
    simp [List.getElem?_eq_getElem (by omega : i < l.length), List.getD]
end
end Go.Proofs.Ytjidchaejicjaaa
/- Which frames are valid. -/
namespace Go.Proofs.Ytjidchaejicjaaa
open Go.RowKit
set_option maxHeartbeats 4000000
set_option linter.unusedSimpArgs false
set_option linter.unusedVariables false
namespace Frm
def inB (n a b : Int) : Bool := decide (a ≤ n) && decide (n ≤ b)
theorem inB_iff {n a b : Int} : inB n a b = true ↔ a ≤ n ∧ n ≤ b := by simp [inB]
theorem inB_no {n a b : Int} : inB n a b = false ↔ ¬ (a ≤ n ∧ n ≤ b) := by rw [← inB_iff]; simp
/-- a frame of a kind, from, to, with a number, and n bytes, is valid -/
def vd (k f t s : Int) (n : Nat) : Bool := decide (0 ≤ s ∧ s ≤ 65535 ∧ n ≤ 64 ∧ ((1 ≤ k ∧ k ≤ 7 ∧ f = 0 ∧ 1 ≤ t ∧ t ≤ 64) ∨ (8 ≤ k ∧ k ≤ 9 ∧ t = 0 ∧ 1 ≤ f ∧ f ≤ 64)))
theorem vd_iff {k f t s : Int} {n : Nat} : vd k f t s n = true ↔ (0 ≤ s ∧ s ≤ 65535 ∧ n ≤ 64 ∧ ((1 ≤ k ∧ k ≤ 7 ∧ f = 0 ∧ 1 ≤ t ∧ t ≤ 64) ∨ (8 ≤ k ∧ k ≤ 9 ∧ t = 0 ∧ 1 ≤ f ∧ f ≤ 64))) := by simp [vd]
theorem vd_no {k f t s : Int} {n : Nat} (h : ¬ (0 ≤ s ∧ s ≤ 65535 ∧ n ≤ 64 ∧ ((1 ≤ k ∧ k ≤ 7 ∧ f = 0 ∧ 1 ≤ t ∧ t ≤ 64) ∨ (8 ≤ k ∧ k ≤ 9 ∧ t = 0 ∧ 1 ≤ f ∧ f ≤ 64)))) : vd k f t s n = false := by simpa [vd] using h
end Frm
theorem fwithin_any (n a b : Int) (w : World) :
    Calls Try.prog 55 #[.int .i64 n, .int .i64 a, .int .i64 b] w fun e w' => e = .returned (.bool (Frm.inB n a b)) ∧ w = w' := by
  by_cases h : a ≤ n
  all_goals
    go_enter Try.func55, Try.ntmps55
    go_wp2_with fail
    go_ret
    exact ⟨ret_bool (by simp [Frm.inB, h]; try omega), rfl⟩
theorem fwithin_yes (n a b : Int) (w : World) (h : a ≤ n ∧ n ≤ b) :
    Calls Try.prog 55 #[.int .i64 n, .int .i64 a, .int .i64 b] w fun e w' => e = .returned (.bool true) ∧ w = w' :=
  (fwithin_any n a b w).mono fun e w' ⟨h1, h2⟩ => ⟨by rw [h1, Frm.inB_iff.2 h], h2⟩
theorem fwithin_no (n a b : Int) (w : World) (h : ¬ (a ≤ n ∧ n ≤ b)) :
    Calls Try.prog 55 #[.int .i64 n, .int .i64 a, .int .i64 b] w fun e w' => e = .returned (.bool false) ∧ w = w' :=
  (fwithin_any n a b w).mono fun e w' ⟨h1, h2⟩ => ⟨by rw [h1, Frm.inB_no.2 h], h2⟩
theorem fto_any (n a b : Int) (w : World) :
    Calls Try.prog 74 #[.int .i64 n, .int .i64 a, .int .i64 b] w fun e w' => e = .returned (.bool (Frm.inB n a b)) ∧ w = w' := by
  by_cases h : a ≤ n
  all_goals
    go_enter Try.func74, Try.ntmps74
    go_wp2_with fail
    go_ret
    exact ⟨ret_bool (by simp [Frm.inB, h]; try omega), rfl⟩
theorem fto_yes (n a b : Int) (w : World) (h : a ≤ n ∧ n ≤ b) :
    Calls Try.prog 74 #[.int .i64 n, .int .i64 a, .int .i64 b] w fun e w' => e = .returned (.bool true) ∧ w = w' :=
  (fto_any n a b w).mono fun e w' ⟨h1, h2⟩ => ⟨by rw [h1, Frm.inB_iff.2 h], h2⟩
theorem fto_no (n a b : Int) (w : World) (h : ¬ (a ≤ n ∧ n ≤ b)) :
    Calls Try.prog 74 #[.int .i64 n, .int .i64 a, .int .i64 b] w fun e w' => e = .returned (.bool false) ∧ w = w' :=
  (fto_any n a b w).mono fun e w' ⟨h1, h2⟩ => ⟨by rw [h1, Frm.inB_no.2 h], h2⟩
theorem vd_cases (k f t s : Int) (n : Nat) :
    (¬ (0 ≤ s ∧ s ≤ 65535)) ∨ ((0 ≤ s ∧ s ≤ 65535) ∧ 64 < n) ∨ ((0 ≤ s ∧ s ≤ 65535) ∧ n ≤ 64 ∧ k < 1) ∨ ((0 ≤ s ∧ s ≤ 65535) ∧ n ≤ 64 ∧ 9 < k) ∨
    ((0 ≤ s ∧ s ≤ 65535) ∧ n ≤ 64 ∧ (1 ≤ k ∧ k ≤ 7) ∧ (f < 0 ∨ 0 < f)) ∨ ((0 ≤ s ∧ s ≤ 65535) ∧ n ≤ 64 ∧ (1 ≤ k ∧ k ≤ 7) ∧ f = 0 ∧ ¬ (1 ≤ t ∧ t ≤ 64)) ∨ ((0 ≤ s ∧ s ≤ 65535) ∧ n ≤ 64 ∧ (1 ≤ k ∧ k ≤ 7) ∧ f = 0 ∧ (1 ≤ t ∧ t ≤ 64)) ∨
    ((0 ≤ s ∧ s ≤ 65535) ∧ n ≤ 64 ∧ (k = 8 ∨ k = 9) ∧ ¬ (1 ≤ f ∧ f ≤ 64) ∧ (t < 0 ∨ 0 < t)) ∨ ((0 ≤ s ∧ s ≤ 65535) ∧ n ≤ 64 ∧ (k = 8 ∨ k = 9) ∧ ¬ (1 ≤ f ∧ f ≤ 64) ∧ t = 0) ∨ ((0 ≤ s ∧ s ≤ 65535) ∧ n ≤ 64 ∧ (k = 8 ∨ k = 9) ∧ (1 ≤ f ∧ f ≤ 64) ∧ (t < 0 ∨ 0 < t)) ∨ ((0 ≤ s ∧ s ≤ 65535) ∧ n ≤ 64 ∧ (k = 8 ∨ k = 9) ∧ (1 ≤ f ∧ f ≤ 64) ∧ t = 0) := by
  by_cases a : 0 ≤ s ∧ s ≤ 65535
  · right
    by_cases b : 64 < n
    · exact .inl ⟨a, b⟩
    right
    have b' : n ≤ 64 := by omega
    by_cases c : k < 1
    · exact .inl ⟨a, b', c⟩
    right
    by_cases d : 9 < k
    · exact .inl ⟨a, b', d⟩
    right
    by_cases e : k ≤ 7
    · by_cases g : f = 0
      · by_cases h : 1 ≤ t ∧ t ≤ 64
        · exact .inr (.inr (.inl ⟨a, b', ⟨by omega, e⟩, g, h⟩))
        · exact .inr (.inl ⟨a, b', ⟨by omega, e⟩, g, h⟩)
      · exact .inl ⟨a, b', ⟨by omega, e⟩, by omega⟩
    · have k89 : k = 8 ∨ k = 9 := by omega
      right; right; right
      by_cases g : 1 ≤ f ∧ f ≤ 64
      · by_cases h : t = 0
        · exact .inr (.inr (.inr ⟨a, b', k89, g, h⟩))
        · exact .inr (.inr (.inl ⟨a, b', k89, g, by omega⟩))
      · by_cases h : t = 0
        · exact .inr (.inl ⟨a, b', k89, g, h⟩)
        · exact .inl ⟨a, b', k89, g, by omega⟩
  · exact .inl a
theorem valid_any (k f t s : Int) (A : Option Addr) (n cap : Nat) (w : World) (hn : n ≤ 9223372036854775807) : Calls Try.prog 38 #[.agg #[.int .i64 k, .int .i64 f, .int .i64 t, .int .i64 s, .slice A n cap]] w fun e w' => e = .returned (.bool (Frm.vd k f t s n)) ∧ Below w.heap.size w w' := by
  rcases vd_cases k f t s n with h1 | ⟨h1, h2⟩ | ⟨h1, h2, h3⟩ | ⟨h1, h2, h3⟩ | ⟨h1, h2, h3, h4⟩ | ⟨h1, h2, h3, rfl, h5⟩ | ⟨h1, h2, h3, rfl, h5⟩ | ⟨h1, h2, rfl | rfl, h4, h5⟩ | ⟨h1, h2, rfl | rfl, h4, rfl⟩ | ⟨h1, h2, rfl | rfl, h4, h5⟩ | ⟨h1, h2, rfl | rfl, h4, rfl⟩
  · have V := Lib.hid (Frm.vd_no (k := k) (f := f) (t := t) (s := s) (n := n) (by omega))
    go_enter Try.func38, Try.ntmps38
    go_wp2_with (first | (refine (fwithin_yes _ _ _ _ (by omega)).mono ?_; rintro e w' ⟨rfl, rfl⟩) | (refine (fwithin_no _ _ _ _ (by omega)).mono ?_; rintro e w' ⟨rfl, rfl⟩))
    go_ret
    exact ⟨ret_bool V.out.symm, (by repeat (first | (with_reducible exact Below.refl _ _) | (with_reducible refine Below.drew ?_) | (with_reducible refine below_drewN ?_ _) | ((with_reducible refine Below.alloc ?_ ?_ _); rotate_left; (first | omega | (simp <;> omega)); rotate_right) | ((with_reducible refine Below.setCell ?_ ?_ _); rotate_left; (first | omega | (simp <;> omega)); rotate_right) | (with_reducible assumption) | (refine Below.trans ?_ (Below.mono (by assumption) ?_); rotate_left; (first | omega | (simp <;> omega)); rotate_right)))⟩
  · have V := Lib.hid (Frm.vd_no (k := k) (f := f) (t := t) (s := s) (n := n) (by omega))
    go_enter Try.func38, Try.ntmps38
    go_wp2_with (first | (refine (fwithin_yes _ _ _ _ (by omega)).mono ?_; rintro e w' ⟨rfl, rfl⟩) | (refine (fwithin_no _ _ _ _ (by omega)).mono ?_; rintro e w' ⟨rfl, rfl⟩))
    go_ret
    exact ⟨ret_bool V.out.symm, (by repeat (first | (with_reducible exact Below.refl _ _) | (with_reducible refine Below.drew ?_) | (with_reducible refine below_drewN ?_ _) | ((with_reducible refine Below.alloc ?_ ?_ _); rotate_left; (first | omega | (simp <;> omega)); rotate_right) | ((with_reducible refine Below.setCell ?_ ?_ _); rotate_left; (first | omega | (simp <;> omega)); rotate_right) | (with_reducible assumption) | (refine Below.trans ?_ (Below.mono (by assumption) ?_); rotate_left; (first | omega | (simp <;> omega)); rotate_right)))⟩
  · have V := Lib.hid (Frm.vd_no (k := k) (f := f) (t := t) (s := s) (n := n) (by omega))
    have e8 : (k == 8) = false := by rw [beq_eq_false_iff_ne]; omega
    have e9 : (k == 9) = false := by rw [beq_eq_false_iff_ne]; omega
    go_enter Try.func38, Try.ntmps38
    go_wp2_with (first | (refine (fwithin_yes _ _ _ _ (by omega)).mono ?_; rintro e w' ⟨rfl, rfl⟩) | (refine (fwithin_no _ _ _ _ (by omega)).mono ?_; rintro e w' ⟨rfl, rfl⟩))
    go_quiet (fail)
    go_wp2_with (first | (refine (fwithin_yes _ _ _ _ (by omega)).mono ?_; rintro e w' ⟨rfl, rfl⟩) | (refine (fwithin_no _ _ _ _ (by omega)).mono ?_; rintro e w' ⟨rfl, rfl⟩))
    go_ret
    exact ⟨ret_bool V.out.symm, (by repeat (first | (with_reducible exact Below.refl _ _) | (with_reducible refine Below.drew ?_) | (with_reducible refine below_drewN ?_ _) | ((with_reducible refine Below.alloc ?_ ?_ _); rotate_left; (first | omega | (simp <;> omega)); rotate_right) | ((with_reducible refine Below.setCell ?_ ?_ _); rotate_left; (first | omega | (simp <;> omega)); rotate_right) | (with_reducible assumption) | (refine Below.trans ?_ (Below.mono (by assumption) ?_); rotate_left; (first | omega | (simp <;> omega)); rotate_right)))⟩
  · have V := Lib.hid (Frm.vd_no (k := k) (f := f) (t := t) (s := s) (n := n) (by omega))
    have e8 : (k == 8) = false := by rw [beq_eq_false_iff_ne]; omega
    have e9 : (k == 9) = false := by rw [beq_eq_false_iff_ne]; omega
    go_enter Try.func38, Try.ntmps38
    go_wp2_with (first | (refine (fwithin_yes _ _ _ _ (by omega)).mono ?_; rintro e w' ⟨rfl, rfl⟩) | (refine (fwithin_no _ _ _ _ (by omega)).mono ?_; rintro e w' ⟨rfl, rfl⟩))
    go_quiet (fail)
    go_wp2_with (first | (refine (fwithin_yes _ _ _ _ (by omega)).mono ?_; rintro e w' ⟨rfl, rfl⟩) | (refine (fwithin_no _ _ _ _ (by omega)).mono ?_; rintro e w' ⟨rfl, rfl⟩))
    go_ret
    exact ⟨ret_bool V.out.symm, (by repeat (first | (with_reducible exact Below.refl _ _) | (with_reducible refine Below.drew ?_) | (with_reducible refine below_drewN ?_ _) | ((with_reducible refine Below.alloc ?_ ?_ _); rotate_left; (first | omega | (simp <;> omega)); rotate_right) | ((with_reducible refine Below.setCell ?_ ?_ _); rotate_left; (first | omega | (simp <;> omega)); rotate_right) | (with_reducible assumption) | (refine Below.trans ?_ (Below.mono (by assumption) ?_); rotate_left; (first | omega | (simp <;> omega)); rotate_right)))⟩
  · have V := Lib.hid (Frm.vd_no (k := k) (f := f) (t := t) (s := s) (n := n) (by omega))
    have e8 : (k == 8) = false := by rw [beq_eq_false_iff_ne]; omega
    have e9 : (k == 9) = false := by rw [beq_eq_false_iff_ne]; omega
    have zf : (f == 0) = false := by rw [beq_eq_false_iff_ne]; omega
    go_enter Try.func38, Try.ntmps38
    go_wp2_with (first | (refine (fwithin_yes _ _ _ _ (by omega)).mono ?_; rintro e w' ⟨rfl, rfl⟩) | (refine (fwithin_no _ _ _ _ (by omega)).mono ?_; rintro e w' ⟨rfl, rfl⟩))
    go_quiet (fail)
    go_wp2_with (first | (refine (fwithin_yes _ _ _ _ (by omega)).mono ?_; rintro e w' ⟨rfl, rfl⟩) | (refine (fwithin_no _ _ _ _ (by omega)).mono ?_; rintro e w' ⟨rfl, rfl⟩))
    go_ret
    exact ⟨ret_bool V.out.symm, (by repeat (first | (with_reducible exact Below.refl _ _) | (with_reducible refine Below.drew ?_) | (with_reducible refine below_drewN ?_ _) | ((with_reducible refine Below.alloc ?_ ?_ _); rotate_left; (first | omega | (simp <;> omega)); rotate_right) | ((with_reducible refine Below.setCell ?_ ?_ _); rotate_left; (first | omega | (simp <;> omega)); rotate_right) | (with_reducible assumption) | (refine Below.trans ?_ (Below.mono (by assumption) ?_); rotate_left; (first | omega | (simp <;> omega)); rotate_right)))⟩
  · have V := Lib.hid (Frm.vd_no (k := k) (f := 0) (t := t) (s := s) (n := n) (by omega))
    have e8 : (k == 8) = false := by rw [beq_eq_false_iff_ne]; omega
    have e9 : (k == 9) = false := by rw [beq_eq_false_iff_ne]; omega
    go_enter Try.func38, Try.ntmps38
    go_wp2_with (first | (refine (fwithin_yes _ _ _ _ (by omega)).mono ?_; rintro e w' ⟨rfl, rfl⟩) | (refine (fwithin_no _ _ _ _ (by omega)).mono ?_; rintro e w' ⟨rfl, rfl⟩))
    go_quiet (fail)
    go_wp2_with (first | (refine (fwithin_yes _ _ _ _ (by omega)).mono ?_; rintro e w' ⟨rfl, rfl⟩) | (refine (fwithin_no _ _ _ _ (by omega)).mono ?_; rintro e w' ⟨rfl, rfl⟩))
    go_ret
    exact ⟨ret_bool V.out.symm, (by repeat (first | (with_reducible exact Below.refl _ _) | (with_reducible refine Below.drew ?_) | (with_reducible refine below_drewN ?_ _) | ((with_reducible refine Below.alloc ?_ ?_ _); rotate_left; (first | omega | (simp <;> omega)); rotate_right) | ((with_reducible refine Below.setCell ?_ ?_ _); rotate_left; (first | omega | (simp <;> omega)); rotate_right) | (with_reducible assumption) | (refine Below.trans ?_ (Below.mono (by assumption) ?_); rotate_left; (first | omega | (simp <;> omega)); rotate_right)))⟩
  · have V := Lib.hid (Frm.vd_iff (k := k) (f := 0) (t := t) (s := s) (n := n) |>.2 (by omega))
    have e8 : (k == 8) = false := by rw [beq_eq_false_iff_ne]; omega
    have e9 : (k == 9) = false := by rw [beq_eq_false_iff_ne]; omega
    go_enter Try.func38, Try.ntmps38
    go_wp2_with (first | (refine (fwithin_yes _ _ _ _ (by omega)).mono ?_; rintro e w' ⟨rfl, rfl⟩) | (refine (fwithin_no _ _ _ _ (by omega)).mono ?_; rintro e w' ⟨rfl, rfl⟩))
    go_quiet (fail)
    go_wp2_with (first | (refine (fwithin_yes _ _ _ _ (by omega)).mono ?_; rintro e w' ⟨rfl, rfl⟩) | (refine (fwithin_no _ _ _ _ (by omega)).mono ?_; rintro e w' ⟨rfl, rfl⟩))
    go_ret
    exact ⟨ret_bool V.out.symm, (by repeat (first | (with_reducible exact Below.refl _ _) | (with_reducible refine Below.drew ?_) | (with_reducible refine below_drewN ?_ _) | ((with_reducible refine Below.alloc ?_ ?_ _); rotate_left; (first | omega | (simp <;> omega)); rotate_right) | ((with_reducible refine Below.setCell ?_ ?_ _); rotate_left; (first | omega | (simp <;> omega)); rotate_right) | (with_reducible assumption) | (refine Below.trans ?_ (Below.mono (by assumption) ?_); rotate_left; (first | omega | (simp <;> omega)); rotate_right)))⟩
  · have V := Lib.hid (Frm.vd_no (k := 8) (f := f) (t := t) (s := s) (n := n) (by omega))
    have zt : (t == 0) = false := by rw [beq_eq_false_iff_ne]; omega
    go_enter Try.func38, Try.ntmps38
    go_wp2_with (first | (refine (fwithin_yes _ _ _ _ (by omega)).mono ?_; rintro e w' ⟨rfl, rfl⟩) | (refine (fwithin_no _ _ _ _ (by omega)).mono ?_; rintro e w' ⟨rfl, rfl⟩))
    go_quiet (fail)
    go_wp2_with (first | (refine (fwithin_yes _ _ _ _ (by omega)).mono ?_; rintro e w' ⟨rfl, rfl⟩) | (refine (fwithin_no _ _ _ _ (by omega)).mono ?_; rintro e w' ⟨rfl, rfl⟩))
    go_quiet (fail)
    go_wp2_with (first | (refine (fwithin_yes _ _ _ _ (by omega)).mono ?_; rintro e w' ⟨rfl, rfl⟩) | (refine (fwithin_no _ _ _ _ (by omega)).mono ?_; rintro e w' ⟨rfl, rfl⟩))
    go_ret
    exact ⟨ret_bool V.out.symm, (by repeat (first | (with_reducible exact Below.refl _ _) | (with_reducible refine Below.drew ?_) | (with_reducible refine below_drewN ?_ _) | ((with_reducible refine Below.alloc ?_ ?_ _); rotate_left; (first | omega | (simp <;> omega)); rotate_right) | ((with_reducible refine Below.setCell ?_ ?_ _); rotate_left; (first | omega | (simp <;> omega)); rotate_right) | (with_reducible assumption) | (refine Below.trans ?_ (Below.mono (by assumption) ?_); rotate_left; (first | omega | (simp <;> omega)); rotate_right)))⟩
  · have V := Lib.hid (Frm.vd_no (k := 9) (f := f) (t := t) (s := s) (n := n) (by omega))
    have zt : (t == 0) = false := by rw [beq_eq_false_iff_ne]; omega
    go_enter Try.func38, Try.ntmps38
    go_wp2_with (first | (refine (fwithin_yes _ _ _ _ (by omega)).mono ?_; rintro e w' ⟨rfl, rfl⟩) | (refine (fwithin_no _ _ _ _ (by omega)).mono ?_; rintro e w' ⟨rfl, rfl⟩))
    go_quiet (fail)
    go_wp2_with (first | (refine (fwithin_yes _ _ _ _ (by omega)).mono ?_; rintro e w' ⟨rfl, rfl⟩) | (refine (fwithin_no _ _ _ _ (by omega)).mono ?_; rintro e w' ⟨rfl, rfl⟩))
    go_quiet (fail)
    go_wp2_with (first | (refine (fwithin_yes _ _ _ _ (by omega)).mono ?_; rintro e w' ⟨rfl, rfl⟩) | (refine (fwithin_no _ _ _ _ (by omega)).mono ?_; rintro e w' ⟨rfl, rfl⟩))
    go_ret
    exact ⟨ret_bool V.out.symm, (by repeat (first | (with_reducible exact Below.refl _ _) | (with_reducible refine Below.drew ?_) | (with_reducible refine below_drewN ?_ _) | ((with_reducible refine Below.alloc ?_ ?_ _); rotate_left; (first | omega | (simp <;> omega)); rotate_right) | ((with_reducible refine Below.setCell ?_ ?_ _); rotate_left; (first | omega | (simp <;> omega)); rotate_right) | (with_reducible assumption) | (refine Below.trans ?_ (Below.mono (by assumption) ?_); rotate_left; (first | omega | (simp <;> omega)); rotate_right)))⟩
  · have V := Lib.hid (Frm.vd_no (k := 8) (f := f) (t := 0) (s := s) (n := n) (by omega))
    go_enter Try.func38, Try.ntmps38
    go_wp2_with (first | (refine (fwithin_yes _ _ _ _ (by omega)).mono ?_; rintro e w' ⟨rfl, rfl⟩) | (refine (fwithin_no _ _ _ _ (by omega)).mono ?_; rintro e w' ⟨rfl, rfl⟩))
    go_quiet (fail)
    go_wp2_with (first | (refine (fwithin_yes _ _ _ _ (by omega)).mono ?_; rintro e w' ⟨rfl, rfl⟩) | (refine (fwithin_no _ _ _ _ (by omega)).mono ?_; rintro e w' ⟨rfl, rfl⟩))
    go_quiet (fail)
    go_wp2_with (first | (refine (fwithin_yes _ _ _ _ (by omega)).mono ?_; rintro e w' ⟨rfl, rfl⟩) | (refine (fwithin_no _ _ _ _ (by omega)).mono ?_; rintro e w' ⟨rfl, rfl⟩))
    go_ret
    exact ⟨ret_bool V.out.symm, (by repeat (first | (with_reducible exact Below.refl _ _) | (with_reducible refine Below.drew ?_) | (with_reducible refine below_drewN ?_ _) | ((with_reducible refine Below.alloc ?_ ?_ _); rotate_left; (first | omega | (simp <;> omega)); rotate_right) | ((with_reducible refine Below.setCell ?_ ?_ _); rotate_left; (first | omega | (simp <;> omega)); rotate_right) | (with_reducible assumption) | (refine Below.trans ?_ (Below.mono (by assumption) ?_); rotate_left; (first | omega | (simp <;> omega)); rotate_right)))⟩
  · have V := Lib.hid (Frm.vd_no (k := 9) (f := f) (t := 0) (s := s) (n := n) (by omega))
    go_enter Try.func38, Try.ntmps38
    go_wp2_with (first | (refine (fwithin_yes _ _ _ _ (by omega)).mono ?_; rintro e w' ⟨rfl, rfl⟩) | (refine (fwithin_no _ _ _ _ (by omega)).mono ?_; rintro e w' ⟨rfl, rfl⟩))
    go_quiet (fail)
    go_wp2_with (first | (refine (fwithin_yes _ _ _ _ (by omega)).mono ?_; rintro e w' ⟨rfl, rfl⟩) | (refine (fwithin_no _ _ _ _ (by omega)).mono ?_; rintro e w' ⟨rfl, rfl⟩))
    go_quiet (fail)
    go_wp2_with (first | (refine (fwithin_yes _ _ _ _ (by omega)).mono ?_; rintro e w' ⟨rfl, rfl⟩) | (refine (fwithin_no _ _ _ _ (by omega)).mono ?_; rintro e w' ⟨rfl, rfl⟩))
    go_ret
    exact ⟨ret_bool V.out.symm, (by repeat (first | (with_reducible exact Below.refl _ _) | (with_reducible refine Below.drew ?_) | (with_reducible refine below_drewN ?_ _) | ((with_reducible refine Below.alloc ?_ ?_ _); rotate_left; (first | omega | (simp <;> omega)); rotate_right) | ((with_reducible refine Below.setCell ?_ ?_ _); rotate_left; (first | omega | (simp <;> omega)); rotate_right) | (with_reducible assumption) | (refine Below.trans ?_ (Below.mono (by assumption) ?_); rotate_left; (first | omega | (simp <;> omega)); rotate_right)))⟩
  · have V := Lib.hid (Frm.vd_no (k := 8) (f := f) (t := t) (s := s) (n := n) (by omega))
    have zt : (t == 0) = false := by rw [beq_eq_false_iff_ne]; omega
    go_enter Try.func38, Try.ntmps38
    go_wp2_with (first | (refine (fwithin_yes _ _ _ _ (by omega)).mono ?_; rintro e w' ⟨rfl, rfl⟩) | (refine (fwithin_no _ _ _ _ (by omega)).mono ?_; rintro e w' ⟨rfl, rfl⟩))
    go_quiet (fail)
    go_wp2_with (first | (refine (fwithin_yes _ _ _ _ (by omega)).mono ?_; rintro e w' ⟨rfl, rfl⟩) | (refine (fwithin_no _ _ _ _ (by omega)).mono ?_; rintro e w' ⟨rfl, rfl⟩))
    go_quiet (fail)
    go_wp2_with (first | (refine (fwithin_yes _ _ _ _ (by omega)).mono ?_; rintro e w' ⟨rfl, rfl⟩) | (refine (fwithin_no _ _ _ _ (by omega)).mono ?_; rintro e w' ⟨rfl, rfl⟩))
    go_ret
    exact ⟨ret_bool V.out.symm, (by repeat (first | (with_reducible exact Below.refl _ _) | (with_reducible refine Below.drew ?_) | (with_reducible refine below_drewN ?_ _) | ((with_reducible refine Below.alloc ?_ ?_ _); rotate_left; (first | omega | (simp <;> omega)); rotate_right) | ((with_reducible refine Below.setCell ?_ ?_ _); rotate_left; (first | omega | (simp <;> omega)); rotate_right) | (with_reducible assumption) | (refine Below.trans ?_ (Below.mono (by assumption) ?_); rotate_left; (first | omega | (simp <;> omega)); rotate_right)))⟩
  · have V := Lib.hid (Frm.vd_no (k := 9) (f := f) (t := t) (s := s) (n := n) (by omega))
    have zt : (t == 0) = false := by rw [beq_eq_false_iff_ne]; omega
    go_enter Try.func38, Try.ntmps38
    go_wp2_with (first | (refine (fwithin_yes _ _ _ _ (by omega)).mono ?_; rintro e w' ⟨rfl, rfl⟩) | (refine (fwithin_no _ _ _ _ (by omega)).mono ?_; rintro e w' ⟨rfl, rfl⟩))
    go_quiet (fail)
    go_wp2_with (first | (refine (fwithin_yes _ _ _ _ (by omega)).mono ?_; rintro e w' ⟨rfl, rfl⟩) | (refine (fwithin_no _ _ _ _ (by omega)).mono ?_; rintro e w' ⟨rfl, rfl⟩))
    go_quiet (fail)
    go_wp2_with (first | (refine (fwithin_yes _ _ _ _ (by omega)).mono ?_; rintro e w' ⟨rfl, rfl⟩) | (refine (fwithin_no _ _ _ _ (by omega)).mono ?_; rintro e w' ⟨rfl, rfl⟩))
    go_ret
    exact ⟨ret_bool V.out.symm, (by repeat (first | (with_reducible exact Below.refl _ _) | (with_reducible refine Below.drew ?_) | (with_reducible refine below_drewN ?_ _) | ((with_reducible refine Below.alloc ?_ ?_ _); rotate_left; (first | omega | (simp <;> omega)); rotate_right) | ((with_reducible refine Below.setCell ?_ ?_ _); rotate_left; (first | omega | (simp <;> omega)); rotate_right) | (with_reducible assumption) | (refine Below.trans ?_ (Below.mono (by assumption) ?_); rotate_left; (first | omega | (simp <;> omega)); rotate_right)))⟩
  · have V := Lib.hid (Frm.vd_iff (k := 8) (f := f) (t := 0) (s := s) (n := n) |>.2 (by omega))
    go_enter Try.func38, Try.ntmps38
    go_wp2_with (first | (refine (fwithin_yes _ _ _ _ (by omega)).mono ?_; rintro e w' ⟨rfl, rfl⟩) | (refine (fwithin_no _ _ _ _ (by omega)).mono ?_; rintro e w' ⟨rfl, rfl⟩))
    go_quiet (fail)
    go_wp2_with (first | (refine (fwithin_yes _ _ _ _ (by omega)).mono ?_; rintro e w' ⟨rfl, rfl⟩) | (refine (fwithin_no _ _ _ _ (by omega)).mono ?_; rintro e w' ⟨rfl, rfl⟩))
    go_quiet (fail)
    go_wp2_with (first | (refine (fwithin_yes _ _ _ _ (by omega)).mono ?_; rintro e w' ⟨rfl, rfl⟩) | (refine (fwithin_no _ _ _ _ (by omega)).mono ?_; rintro e w' ⟨rfl, rfl⟩))
    go_ret
    exact ⟨ret_bool V.out.symm, (by repeat (first | (with_reducible exact Below.refl _ _) | (with_reducible refine Below.drew ?_) | (with_reducible refine below_drewN ?_ _) | ((with_reducible refine Below.alloc ?_ ?_ _); rotate_left; (first | omega | (simp <;> omega)); rotate_right) | ((with_reducible refine Below.setCell ?_ ?_ _); rotate_left; (first | omega | (simp <;> omega)); rotate_right) | (with_reducible assumption) | (refine Below.trans ?_ (Below.mono (by assumption) ?_); rotate_left; (first | omega | (simp <;> omega)); rotate_right)))⟩
  · have V := Lib.hid (Frm.vd_iff (k := 9) (f := f) (t := 0) (s := s) (n := n) |>.2 (by omega))
    go_enter Try.func38, Try.ntmps38
    go_wp2_with (first | (refine (fwithin_yes _ _ _ _ (by omega)).mono ?_; rintro e w' ⟨rfl, rfl⟩) | (refine (fwithin_no _ _ _ _ (by omega)).mono ?_; rintro e w' ⟨rfl, rfl⟩))
    go_quiet (fail)
    go_wp2_with (first | (refine (fwithin_yes _ _ _ _ (by omega)).mono ?_; rintro e w' ⟨rfl, rfl⟩) | (refine (fwithin_no _ _ _ _ (by omega)).mono ?_; rintro e w' ⟨rfl, rfl⟩))
    go_quiet (fail)
    go_wp2_with (first | (refine (fwithin_yes _ _ _ _ (by omega)).mono ?_; rintro e w' ⟨rfl, rfl⟩) | (refine (fwithin_no _ _ _ _ (by omega)).mono ?_; rintro e w' ⟨rfl, rfl⟩))
    go_ret
    exact ⟨ret_bool V.out.symm, (by repeat (first | (with_reducible exact Below.refl _ _) | (with_reducible refine Below.drew ?_) | (with_reducible refine below_drewN ?_ _) | ((with_reducible refine Below.alloc ?_ ?_ _); rotate_left; (first | omega | (simp <;> omega)); rotate_right) | ((with_reducible refine Below.setCell ?_ ?_ _); rotate_left; (first | omega | (simp <;> omega)); rotate_right) | (with_reducible assumption) | (refine Below.trans ?_ (Below.mono (by assumption) ?_); rotate_left; (first | omega | (simp <;> omega)); rotate_right)))⟩
theorem rvalid_any (k f t s : Int) (A : Option Addr) (n cap : Nat) (w : World) (hn : n ≤ 9223372036854775807) : Calls Try.prog 65 #[.agg #[.int .i64 k, .int .i64 f, .int .i64 t, .int .i64 s, .slice A n cap]] w fun e w' => e = .returned (.bool (Frm.vd k f t s n)) ∧ Below w.heap.size w w' := by
  rcases vd_cases k f t s n with h1 | ⟨h1, h2⟩ | ⟨h1, h2, h3⟩ | ⟨h1, h2, h3⟩ | ⟨h1, h2, h3, h4⟩ | ⟨h1, h2, h3, rfl, h5⟩ | ⟨h1, h2, h3, rfl, h5⟩ | ⟨h1, h2, rfl | rfl, h4, h5⟩ | ⟨h1, h2, rfl | rfl, h4, rfl⟩ | ⟨h1, h2, rfl | rfl, h4, h5⟩ | ⟨h1, h2, rfl | rfl, h4, rfl⟩
  · have V := Lib.hid (Frm.vd_no (k := k) (f := f) (t := t) (s := s) (n := n) (by omega))
    go_enter Try.func65, Try.ntmps65
    go_wp2_with (first | (refine (fto_yes _ _ _ _ (by omega)).mono ?_; rintro e w' ⟨rfl, rfl⟩) | (refine (fto_no _ _ _ _ (by omega)).mono ?_; rintro e w' ⟨rfl, rfl⟩))
    go_ret
    exact ⟨ret_bool V.out.symm, (by repeat (first | (with_reducible exact Below.refl _ _) | (with_reducible refine Below.drew ?_) | (with_reducible refine below_drewN ?_ _) | ((with_reducible refine Below.alloc ?_ ?_ _); rotate_left; (first | omega | (simp <;> omega)); rotate_right) | ((with_reducible refine Below.setCell ?_ ?_ _); rotate_left; (first | omega | (simp <;> omega)); rotate_right) | (with_reducible assumption) | (refine Below.trans ?_ (Below.mono (by assumption) ?_); rotate_left; (first | omega | (simp <;> omega)); rotate_right)))⟩
  · have V := Lib.hid (Frm.vd_no (k := k) (f := f) (t := t) (s := s) (n := n) (by omega))
    go_enter Try.func65, Try.ntmps65
    go_wp2_with (first | (refine (fto_yes _ _ _ _ (by omega)).mono ?_; rintro e w' ⟨rfl, rfl⟩) | (refine (fto_no _ _ _ _ (by omega)).mono ?_; rintro e w' ⟨rfl, rfl⟩))
    go_ret
    exact ⟨ret_bool V.out.symm, (by repeat (first | (with_reducible exact Below.refl _ _) | (with_reducible refine Below.drew ?_) | (with_reducible refine below_drewN ?_ _) | ((with_reducible refine Below.alloc ?_ ?_ _); rotate_left; (first | omega | (simp <;> omega)); rotate_right) | ((with_reducible refine Below.setCell ?_ ?_ _); rotate_left; (first | omega | (simp <;> omega)); rotate_right) | (with_reducible assumption) | (refine Below.trans ?_ (Below.mono (by assumption) ?_); rotate_left; (first | omega | (simp <;> omega)); rotate_right)))⟩
  · have V := Lib.hid (Frm.vd_no (k := k) (f := f) (t := t) (s := s) (n := n) (by omega))
    have e8 : (k == 8) = false := by rw [beq_eq_false_iff_ne]; omega
    have e9 : (k == 9) = false := by rw [beq_eq_false_iff_ne]; omega
    go_enter Try.func65, Try.ntmps65
    go_wp2_with (first | (refine (fto_yes _ _ _ _ (by omega)).mono ?_; rintro e w' ⟨rfl, rfl⟩) | (refine (fto_no _ _ _ _ (by omega)).mono ?_; rintro e w' ⟨rfl, rfl⟩))
    go_ret
    exact ⟨ret_bool V.out.symm, (by repeat (first | (with_reducible exact Below.refl _ _) | (with_reducible refine Below.drew ?_) | (with_reducible refine below_drewN ?_ _) | ((with_reducible refine Below.alloc ?_ ?_ _); rotate_left; (first | omega | (simp <;> omega)); rotate_right) | ((with_reducible refine Below.setCell ?_ ?_ _); rotate_left; (first | omega | (simp <;> omega)); rotate_right) | (with_reducible assumption) | (refine Below.trans ?_ (Below.mono (by assumption) ?_); rotate_left; (first | omega | (simp <;> omega)); rotate_right)))⟩
  · have V := Lib.hid (Frm.vd_no (k := k) (f := f) (t := t) (s := s) (n := n) (by omega))
    have e8 : (k == 8) = false := by rw [beq_eq_false_iff_ne]; omega
    have e9 : (k == 9) = false := by rw [beq_eq_false_iff_ne]; omega
    go_enter Try.func65, Try.ntmps65
    go_wp2_with (first | (refine (fto_yes _ _ _ _ (by omega)).mono ?_; rintro e w' ⟨rfl, rfl⟩) | (refine (fto_no _ _ _ _ (by omega)).mono ?_; rintro e w' ⟨rfl, rfl⟩))
    go_ret
    exact ⟨ret_bool V.out.symm, (by repeat (first | (with_reducible exact Below.refl _ _) | (with_reducible refine Below.drew ?_) | (with_reducible refine below_drewN ?_ _) | ((with_reducible refine Below.alloc ?_ ?_ _); rotate_left; (first | omega | (simp <;> omega)); rotate_right) | ((with_reducible refine Below.setCell ?_ ?_ _); rotate_left; (first | omega | (simp <;> omega)); rotate_right) | (with_reducible assumption) | (refine Below.trans ?_ (Below.mono (by assumption) ?_); rotate_left; (first | omega | (simp <;> omega)); rotate_right)))⟩
  · have V := Lib.hid (Frm.vd_no (k := k) (f := f) (t := t) (s := s) (n := n) (by omega))
    have e8 : (k == 8) = false := by rw [beq_eq_false_iff_ne]; omega
    have e9 : (k == 9) = false := by rw [beq_eq_false_iff_ne]; omega
    have zf : (f == 0) = false := by rw [beq_eq_false_iff_ne]; omega
    go_enter Try.func65, Try.ntmps65
    go_wp2_with (first | (refine (fto_yes _ _ _ _ (by omega)).mono ?_; rintro e w' ⟨rfl, rfl⟩) | (refine (fto_no _ _ _ _ (by omega)).mono ?_; rintro e w' ⟨rfl, rfl⟩))
    go_ret
    exact ⟨ret_bool V.out.symm, (by repeat (first | (with_reducible exact Below.refl _ _) | (with_reducible refine Below.drew ?_) | (with_reducible refine below_drewN ?_ _) | ((with_reducible refine Below.alloc ?_ ?_ _); rotate_left; (first | omega | (simp <;> omega)); rotate_right) | ((with_reducible refine Below.setCell ?_ ?_ _); rotate_left; (first | omega | (simp <;> omega)); rotate_right) | (with_reducible assumption) | (refine Below.trans ?_ (Below.mono (by assumption) ?_); rotate_left; (first | omega | (simp <;> omega)); rotate_right)))⟩
  · have V := Lib.hid (Frm.vd_no (k := k) (f := 0) (t := t) (s := s) (n := n) (by omega))
    have e8 : (k == 8) = false := by rw [beq_eq_false_iff_ne]; omega
    have e9 : (k == 9) = false := by rw [beq_eq_false_iff_ne]; omega
    go_enter Try.func65, Try.ntmps65
    go_wp2_with (first | (refine (fto_yes _ _ _ _ (by omega)).mono ?_; rintro e w' ⟨rfl, rfl⟩) | (refine (fto_no _ _ _ _ (by omega)).mono ?_; rintro e w' ⟨rfl, rfl⟩))
    go_ret
    exact ⟨ret_bool V.out.symm, (by repeat (first | (with_reducible exact Below.refl _ _) | (with_reducible refine Below.drew ?_) | (with_reducible refine below_drewN ?_ _) | ((with_reducible refine Below.alloc ?_ ?_ _); rotate_left; (first | omega | (simp <;> omega)); rotate_right) | ((with_reducible refine Below.setCell ?_ ?_ _); rotate_left; (first | omega | (simp <;> omega)); rotate_right) | (with_reducible assumption) | (refine Below.trans ?_ (Below.mono (by assumption) ?_); rotate_left; (first | omega | (simp <;> omega)); rotate_right)))⟩
  · have V := Lib.hid (Frm.vd_iff (k := k) (f := 0) (t := t) (s := s) (n := n) |>.2 (by omega))
    have e8 : (k == 8) = false := by rw [beq_eq_false_iff_ne]; omega
    have e9 : (k == 9) = false := by rw [beq_eq_false_iff_ne]; omega
    go_enter Try.func65, Try.ntmps65
    go_wp2_with (first | (refine (fto_yes _ _ _ _ (by omega)).mono ?_; rintro e w' ⟨rfl, rfl⟩) | (refine (fto_no _ _ _ _ (by omega)).mono ?_; rintro e w' ⟨rfl, rfl⟩))
    go_ret
    exact ⟨ret_bool V.out.symm, (by repeat (first | (with_reducible exact Below.refl _ _) | (with_reducible refine Below.drew ?_) | (with_reducible refine below_drewN ?_ _) | ((with_reducible refine Below.alloc ?_ ?_ _); rotate_left; (first | omega | (simp <;> omega)); rotate_right) | ((with_reducible refine Below.setCell ?_ ?_ _); rotate_left; (first | omega | (simp <;> omega)); rotate_right) | (with_reducible assumption) | (refine Below.trans ?_ (Below.mono (by assumption) ?_); rotate_left; (first | omega | (simp <;> omega)); rotate_right)))⟩
  · have V := Lib.hid (Frm.vd_no (k := 8) (f := f) (t := t) (s := s) (n := n) (by omega))
    have zt : (t == 0) = false := by rw [beq_eq_false_iff_ne]; omega
    go_enter Try.func65, Try.ntmps65
    go_wp2_with (first | (refine (fto_yes _ _ _ _ (by omega)).mono ?_; rintro e w' ⟨rfl, rfl⟩) | (refine (fto_no _ _ _ _ (by omega)).mono ?_; rintro e w' ⟨rfl, rfl⟩))
    go_ret
    exact ⟨ret_bool V.out.symm, (by repeat (first | (with_reducible exact Below.refl _ _) | (with_reducible refine Below.drew ?_) | (with_reducible refine below_drewN ?_ _) | ((with_reducible refine Below.alloc ?_ ?_ _); rotate_left; (first | omega | (simp <;> omega)); rotate_right) | ((with_reducible refine Below.setCell ?_ ?_ _); rotate_left; (first | omega | (simp <;> omega)); rotate_right) | (with_reducible assumption) | (refine Below.trans ?_ (Below.mono (by assumption) ?_); rotate_left; (first | omega | (simp <;> omega)); rotate_right)))⟩
  · have V := Lib.hid (Frm.vd_no (k := 9) (f := f) (t := t) (s := s) (n := n) (by omega))
    have zt : (t == 0) = false := by rw [beq_eq_false_iff_ne]; omega
    go_enter Try.func65, Try.ntmps65
    go_wp2_with (first | (refine (fto_yes _ _ _ _ (by omega)).mono ?_; rintro e w' ⟨rfl, rfl⟩) | (refine (fto_no _ _ _ _ (by omega)).mono ?_; rintro e w' ⟨rfl, rfl⟩))
    go_ret
    exact ⟨ret_bool V.out.symm, (by repeat (first | (with_reducible exact Below.refl _ _) | (with_reducible refine Below.drew ?_) | (with_reducible refine below_drewN ?_ _) | ((with_reducible refine Below.alloc ?_ ?_ _); rotate_left; (first | omega | (simp <;> omega)); rotate_right) | ((with_reducible refine Below.setCell ?_ ?_ _); rotate_left; (first | omega | (simp <;> omega)); rotate_right) | (with_reducible assumption) | (refine Below.trans ?_ (Below.mono (by assumption) ?_); rotate_left; (first | omega | (simp <;> omega)); rotate_right)))⟩
  · have V := Lib.hid (Frm.vd_no (k := 8) (f := f) (t := 0) (s := s) (n := n) (by omega))
    go_enter Try.func65, Try.ntmps65
    go_wp2_with (first | (refine (fto_yes _ _ _ _ (by omega)).mono ?_; rintro e w' ⟨rfl, rfl⟩) | (refine (fto_no _ _ _ _ (by omega)).mono ?_; rintro e w' ⟨rfl, rfl⟩))
    go_ret
    exact ⟨ret_bool V.out.symm, (by repeat (first | (with_reducible exact Below.refl _ _) | (with_reducible refine Below.drew ?_) | (with_reducible refine below_drewN ?_ _) | ((with_reducible refine Below.alloc ?_ ?_ _); rotate_left; (first | omega | (simp <;> omega)); rotate_right) | ((with_reducible refine Below.setCell ?_ ?_ _); rotate_left; (first | omega | (simp <;> omega)); rotate_right) | (with_reducible assumption) | (refine Below.trans ?_ (Below.mono (by assumption) ?_); rotate_left; (first | omega | (simp <;> omega)); rotate_right)))⟩
  · have V := Lib.hid (Frm.vd_no (k := 9) (f := f) (t := 0) (s := s) (n := n) (by omega))
    go_enter Try.func65, Try.ntmps65
    go_wp2_with (first | (refine (fto_yes _ _ _ _ (by omega)).mono ?_; rintro e w' ⟨rfl, rfl⟩) | (refine (fto_no _ _ _ _ (by omega)).mono ?_; rintro e w' ⟨rfl, rfl⟩))
    go_ret
    exact ⟨ret_bool V.out.symm, (by repeat (first | (with_reducible exact Below.refl _ _) | (with_reducible refine Below.drew ?_) | (with_reducible refine below_drewN ?_ _) | ((with_reducible refine Below.alloc ?_ ?_ _); rotate_left; (first | omega | (simp <;> omega)); rotate_right) | ((with_reducible refine Below.setCell ?_ ?_ _); rotate_left; (first | omega | (simp <;> omega)); rotate_right) | (with_reducible assumption) | (refine Below.trans ?_ (Below.mono (by assumption) ?_); rotate_left; (first | omega | (simp <;> omega)); rotate_right)))⟩
  · have V := Lib.hid (Frm.vd_no (k := 8) (f := f) (t := t) (s := s) (n := n) (by omega))
    have zt : (t == 0) = false := by rw [beq_eq_false_iff_ne]; omega
    go_enter Try.func65, Try.ntmps65
    go_wp2_with (first | (refine (fto_yes _ _ _ _ (by omega)).mono ?_; rintro e w' ⟨rfl, rfl⟩) | (refine (fto_no _ _ _ _ (by omega)).mono ?_; rintro e w' ⟨rfl, rfl⟩))
    go_ret
    exact ⟨ret_bool V.out.symm, (by repeat (first | (with_reducible exact Below.refl _ _) | (with_reducible refine Below.drew ?_) | (with_reducible refine below_drewN ?_ _) | ((with_reducible refine Below.alloc ?_ ?_ _); rotate_left; (first | omega | (simp <;> omega)); rotate_right) | ((with_reducible refine Below.setCell ?_ ?_ _); rotate_left; (first | omega | (simp <;> omega)); rotate_right) | (with_reducible assumption) | (refine Below.trans ?_ (Below.mono (by assumption) ?_); rotate_left; (first | omega | (simp <;> omega)); rotate_right)))⟩
  · have V := Lib.hid (Frm.vd_no (k := 9) (f := f) (t := t) (s := s) (n := n) (by omega))
    have zt : (t == 0) = false := by rw [beq_eq_false_iff_ne]; omega
    go_enter Try.func65, Try.ntmps65
    go_wp2_with (first | (refine (fto_yes _ _ _ _ (by omega)).mono ?_; rintro e w' ⟨rfl, rfl⟩) | (refine (fto_no _ _ _ _ (by omega)).mono ?_; rintro e w' ⟨rfl, rfl⟩))
    go_ret
    exact ⟨ret_bool V.out.symm, (by repeat (first | (with_reducible exact Below.refl _ _) | (with_reducible refine Below.drew ?_) | (with_reducible refine below_drewN ?_ _) | ((with_reducible refine Below.alloc ?_ ?_ _); rotate_left; (first | omega | (simp <;> omega)); rotate_right) | ((with_reducible refine Below.setCell ?_ ?_ _); rotate_left; (first | omega | (simp <;> omega)); rotate_right) | (with_reducible assumption) | (refine Below.trans ?_ (Below.mono (by assumption) ?_); rotate_left; (first | omega | (simp <;> omega)); rotate_right)))⟩
  · have V := Lib.hid (Frm.vd_iff (k := 8) (f := f) (t := 0) (s := s) (n := n) |>.2 (by omega))
    go_enter Try.func65, Try.ntmps65
    go_wp2_with (first | (refine (fto_yes _ _ _ _ (by omega)).mono ?_; rintro e w' ⟨rfl, rfl⟩) | (refine (fto_no _ _ _ _ (by omega)).mono ?_; rintro e w' ⟨rfl, rfl⟩))
    go_ret
    exact ⟨ret_bool V.out.symm, (by repeat (first | (with_reducible exact Below.refl _ _) | (with_reducible refine Below.drew ?_) | (with_reducible refine below_drewN ?_ _) | ((with_reducible refine Below.alloc ?_ ?_ _); rotate_left; (first | omega | (simp <;> omega)); rotate_right) | ((with_reducible refine Below.setCell ?_ ?_ _); rotate_left; (first | omega | (simp <;> omega)); rotate_right) | (with_reducible assumption) | (refine Below.trans ?_ (Below.mono (by assumption) ?_); rotate_left; (first | omega | (simp <;> omega)); rotate_right)))⟩
  · have V := Lib.hid (Frm.vd_iff (k := 9) (f := f) (t := 0) (s := s) (n := n) |>.2 (by omega))
    go_enter Try.func65, Try.ntmps65
    go_wp2_with (first | (refine (fto_yes _ _ _ _ (by omega)).mono ?_; rintro e w' ⟨rfl, rfl⟩) | (refine (fto_no _ _ _ _ (by omega)).mono ?_; rintro e w' ⟨rfl, rfl⟩))
    go_ret
    exact ⟨ret_bool V.out.symm, (by repeat (first | (with_reducible exact Below.refl _ _) | (with_reducible refine Below.drew ?_) | (with_reducible refine below_drewN ?_ _) | ((with_reducible refine Below.alloc ?_ ?_ _); rotate_left; (first | omega | (simp <;> omega)); rotate_right) | ((with_reducible refine Below.setCell ?_ ?_ _); rotate_left; (first | omega | (simp <;> omega)); rotate_right) | (with_reducible assumption) | (refine Below.trans ?_ (Below.mono (by assumption) ?_); rotate_left; (first | omega | (simp <;> omega)); rotate_right)))⟩
end Go.Proofs.Ytjidchaejicjaaa
/- The check sum in plain numbers: no program in sight. -/
namespace Go.Proofs.Ytjidchaejicjaaa
namespace Frm
set_option linter.unusedVariables false
set_option linter.unusedSimpArgs false
/-- one bit of the check sum, as the program has it -/
def step (d : Nat) : Nat := if d / 32768 = 1 then (d * 2 % 65536) ^^^ 4129 else d * 2 % 65536
def iter : Nat → Nat → Nat
  | 0, d => d
  | j + 1, d => step (iter j d)
def byteN (c y : Nat) : Nat := iter 8 (c ^^^ (y * 256))
def crcN (l : List Int) : Nat := l.foldl (fun c y => byteN c y.toNat) 65535
/-- one bit, as the reference has it -/
def rstep (n b : Nat) : Nat := if n / 32768 = b then n % 32768 * 2 else (n % 32768 * 2) ^^^ 4129
def riter (y : Nat) : Nat → Nat → Nat
  | 0, n => n
  | j + 1, n => rstep (riter y j n) (y / 2 ^ (7 - j) % 2)
theorem xor_lt {a b : Nat} (ha : a < 65536) (hb : b < 65536) : a ^^^ b < 65536 := Nat.xor_lt_two_pow (n := 16) ha hb
theorem step_lt {d : Nat} : step d < 65536 := by
  unfold step
  split
  · exact xor_lt (Nat.mod_lt _ (by decide)) (by decide)
  · exact Nat.mod_lt _ (by decide)
theorem iter_lt {d : Nat} (h : d < 65536) : ∀ j, iter j d < 65536
  | 0 => h
  | j + 1 => step_lt
theorem byteN_lt {c y : Nat} (hc : c < 65536) (hy : y < 256) : byteN c y < 65536 := iter_lt (xor_lt hc (by omega)) 8
theorem foldl_lt (l : List Int) (hb : ∀ x ∈ l, 0 ≤ x ∧ x < 256) : ∀ c, c < 65536 → l.foldl (fun c y => byteN c y.toNat) c < 65536 := by
  induction l with
  | nil => intro c hc; exact hc
  | cons x t ih =>
    intro c hc
    have hx := hb x (by simp)
    exact ih (fun y hy => hb y (by simp [hy])) _ (byteN_lt hc (by omega))
theorem crcN_lt {l : List Int} (hb : ∀ x ∈ l, 0 ≤ x ∧ x < 256) : crcN l < 65536 := foldl_lt l hb _ (by decide)
theorem crcN_snoc (l : List Int) (y : Int) : crcN (l ++ [y]) = byteN (crcN l) y.toNat := by simp [crcN]
theorem xor_div (a b k : Nat) : (a ^^^ b) / 2 ^ k = a / 2 ^ k ^^^ b / 2 ^ k := by
  rw [← Nat.shiftRight_eq_div_pow, ← Nat.shiftRight_eq_div_pow, ← Nat.shiftRight_eq_div_pow, Nat.shiftRight_xor_distrib]
theorem xor_mul (a b k : Nat) : (a ^^^ b) * 2 ^ k = a * 2 ^ k ^^^ b * 2 ^ k := by
  rw [← Nat.shiftLeft_eq, ← Nat.shiftLeft_eq, ← Nat.shiftLeft_eq, Nat.shiftLeft_xor_distrib]
theorem bit_xor {a b : Nat} (ha : a < 2) (hb : b < 2) : a ^^^ b = if a = b then 0 else 1 := by
  have h1 : a = 0 ∨ a = 1 := by omega
  have h2 : b = 0 ∨ b = 1 := by omega
  rcases h1 with rfl | rfl <;> rcases h2 with rfl | rfl <;> rfl
theorem step_rel {R r : Nat} (hR : R < 65536) (hr : r < 256) : step (R ^^^ (r * 256)) = rstep R (r / 128) ^^^ (r * 2 % 256 * 256) := by
  have e1 : (R ^^^ r * 256) / 32768 = if R / 32768 = r / 128 then 0 else 1 := by
    rw [show (32768 : Nat) = 2 ^ 15 from rfl, xor_div, show r * 256 / 2 ^ 15 = r / 128 by omega]
    exact bit_xor (by omega) (by omega)
  have e2 : (R ^^^ r * 256) * 2 % 65536 = (R % 32768 * 2) ^^^ (r * 2 % 256 * 256) := by
    rw [show (65536 : Nat) = 2 ^ 16 from rfl, show (R ^^^ r * 256) * 2 = (R ^^^ r * 256) * 2 ^ 1 from rfl, xor_mul, Nat.xor_mod_two_pow]
    rw [show R * 2 ^ 1 % 2 ^ 16 = R % 32768 * 2 by omega, show r * 256 * 2 ^ 1 % 2 ^ 16 = r * 2 % 256 * 256 by omega]
  unfold step rstep
  rw [e1, e2]
  by_cases h : R / 32768 = r / 128
  · simp [h]
  · simp only [h, if_false, if_true]
    rw [Nat.xor_assoc, Nat.xor_comm (r * 2 % 256 * 256) 4129, ← Nat.xor_assoc]
theorem rstep_lt {n b : Nat} : rstep n b < 65536 := by
  unfold rstep
  split
  · omega
  · exact xor_lt (by omega) (by decide)
theorem riter_lt {y n : Nat} (h : n < 65536) : ∀ j, riter y j n < 65536
  | 0 => h
  | j + 1 => rstep_lt
theorem iter_rel {c y : Nat} (hc : c < 65536) (hy : y < 256) : ∀ j, j ≤ 8 → iter j (c ^^^ (y * 256)) = riter y j c ^^^ (y * 2 ^ j % 256 * 256)
  | 0, _ => by simp only [iter, riter]; rw [show y * 2 ^ 0 % 256 = y by omega]
  | j + 1, h => by
    have ih := iter_rel hc hy j (by omega)
    rw [iter, ih, step_rel (riter_lt hc j) (Nat.mod_lt _ (by decide)), riter]
    have hb : y * 2 ^ j % 256 / 128 = y / 2 ^ (7 - j) % 2 ∧ y * 2 ^ j % 256 * 2 % 256 = y * 2 ^ (j + 1) % 256 := by
      have : j = 0 ∨ j = 1 ∨ j = 2 ∨ j = 3 ∨ j = 4 ∨ j = 5 ∨ j = 6 ∨ j = 7 := by omega
      rcases this with rfl | rfl | rfl | rfl | rfl | rfl | rfl | rfl
      all_goals (simp only [Nat.reduceSub, Nat.reducePow, Nat.reduceAdd] ; omega)
    rw [hb.1, hb.2]
theorem byteN_ref {c y : Nat} (hc : c < 65536) (hy : y < 256) : riter y 8 c = byteN c y := by
  rw [byteN, iter_rel hc hy 8 (Nat.le_refl _), show y * 2 ^ 8 % 256 * 256 = 0 by omega, Nat.xor_zero]
end Frm
end Go.Proofs.Ytjidchaejicjaaa
/- Check sums. -/
namespace Go.Proofs.Ytjidchaejicjaaa
open Go.RowKit
set_option maxHeartbeats 4000000
set_option linter.unusedSimpArgs false
set_option linter.unusedVariables false
theorem ofInt_nat (w : Nat) (a : Nat) (ha : a < 2 ^ w) : (BitVec.ofInt w (a : Int)).toNat = a := by
  rw [BitVec.ofInt_natCast, BitVec.toNat_ofNat]; exact Nat.mod_eq_of_lt ha
theorem u16_xor (a b : Nat) (ha : a < 65536) (hb : b < 65536) : bits .xor .u16 (a : Int) (b : Int) = ((a ^^^ b : Nat) : Int) := by
  have hx : a ^^^ b < 65536 := Frm.xor_lt ha hb
  show IntKind.u16.wrap ((BitVec.ofInt 16 (a : Int) ^^^ BitVec.ofInt 16 (b : Int)).toNat : Int) = _
  rw [BitVec.toNat_xor, ofInt_nat 16 a ha, ofInt_nat 16 b hb, IntKind.wrap_u16]
  omega
theorem i64_xor (a b : Nat) (ha : a < 65536) (hb : b < 65536) : bits .xor .i64 (a : Int) (b : Int) = ((a ^^^ b : Nat) : Int) := by
  have hx : a ^^^ b < 65536 := Frm.xor_lt ha hb
  show IntKind.i64.wrap ((BitVec.ofInt 64 (a : Int) ^^^ BitVec.ofInt 64 (b : Int)).toNat : Int) = _
  rw [BitVec.toNat_xor, ofInt_nat 64 a (by omega), ofInt_nat 64 b (by omega), IntKind.wrap_i64]
  omega
theorem u16_first {c : Nat} {y : Int} (hc : c < 65536) (hy : 0 ≤ y ∧ y < 256) : bits .xor .u16 (c : Int) (y * 256) = ((c ^^^ (y.toNat * 256) : Nat) : Int) := by
  rw [← u16_xor c _ hc (by omega)]
  congr 1; omega
theorem u16_yes {d : Nat} (h : ((d : Int) / 32768 == 1) = true) : bits .xor .u16 (IntKind.u16.wrap ((d : Int) * 2)) 4129 = ((Frm.step d : Nat) : Int) := by
  have h' : d / 32768 = 1 := by have := eq_of_beq h; omega
  rw [Frm.step, if_pos h', ← u16_xor _ _ (Nat.mod_lt _ (by decide)) (by decide), IntKind.wrap_u16]
  congr 1
theorem u16_no {d : Nat} (h : ((d : Int) / 32768 == 1) = false) : IntKind.u16.wrap ((d : Int) * 2) = ((Frm.step d : Nat) : Int) := by
  have h' : ¬ d / 32768 = 1 := by intro e; have := ne_of_beq_false h; omega
  rw [Frm.step, if_neg h', IntKind.wrap_u16]
  omega
theorem take_snoc (l : List Int) (k : Nat) (h : k < l.length) : l.take (k + 1) = l.take k ++ [l.getD k 0] := by
  rw [List.take_succ_eq_append_getElem h]; simp [List.getD, List.getElem?_eq_getElem h]
theorem By.take {l : List Int} (h : By l) (k : Nat) : By (l.take k) := fun x hx => h x (List.mem_of_mem_take hx)
theorem i64_no {d : Nat} {y : Int} {j : Nat} {q : Int} (hd : d < 65536) (hy : 0 ≤ y) (hq : q = y / ((2 ^ (7 - j) : Nat) : Int) % 2) (h : ((d : Int) / 32768 != q) = false) : (d : Int) % 32768 * 2 = ((Frm.rstep d (y.toNat / 2 ^ (7 - j) % 2) : Nat) : Int) := by
  have e : (d : Int) / 32768 = q := by simpa using h
  have e2 : d / 32768 = y.toNat / 2 ^ (7 - j) % 2 := by
    obtain ⟨m, rfl⟩ : ∃ m : Nat, y = m := ⟨y.toNat, by omega⟩
    simp only [Int.toNat_natCast]
    have : ((d / 32768 : Nat) : Int) = ((m / 2 ^ (7 - j) % 2 : Nat) : Int) := by rw [Int.natCast_ediv, Int.natCast_emod, Int.natCast_ediv]; exact e.trans hq
    omega
  rw [Frm.rstep, if_pos e2]
  omega
theorem i64_yes {d : Nat} {y : Int} {j : Nat} {q : Int} (hd : d < 65536) (hy : 0 ≤ y) (hq : q = y / ((2 ^ (7 - j) : Nat) : Int) % 2) (h : ((d : Int) / 32768 != q) = true) : bits .xor .i64 ((d : Int) % 32768 * 2) 4129 = ((Frm.rstep d (y.toNat / 2 ^ (7 - j) % 2) : Nat) : Int) := by
  have e : (d : Int) / 32768 ≠ q := by simpa using h
  have e2 : ¬ d / 32768 = y.toNat / 2 ^ (7 - j) % 2 := by
    obtain ⟨m, rfl⟩ : ∃ m : Nat, y = m := ⟨y.toNat, by omega⟩
    simp only [Int.toNat_natCast]
    intro g
    apply e
    rw [hq]
    have : ((d / 32768 : Nat) : Int) = ((m / 2 ^ (7 - j) % 2 : Nat) : Int) := by rw [g]
    rw [Int.natCast_ediv, Int.natCast_emod, Int.natCast_ediv] at this
    exact this
  rw [Frm.rstep, if_neg e2, ← i64_xor _ _ (by omega) (by decide)]
  congr 1
end Go.Proofs.Ytjidchaejicjaaa
/- Equal bytes, equal frames. -/
namespace Go.Proofs.Ytjidchaejicjaaa
open Go.RowKit
set_option maxHeartbeats 4000000
set_option linter.unusedSimpArgs false
set_option linter.unusedVariables false
theorem ofNat_inj {x y : Int} (hx : 0 ≤ x ∧ x < 256) (hy : 0 ≤ y ∧ y < 256) (h : UInt8.ofNat x.toNat = UInt8.ofNat y.toNat) : x = y := by
  have := congrArg UInt8.toNat h
  simp at this
  omega
theorem nums_inj : ∀ {l m : List Int}, By l → By m → l.map (fun n => UInt8.ofNat n.toNat) = m.map (fun n => UInt8.ofNat n.toNat) → l = m
  | [], [], _, _, _ => rfl
  | [], y :: m, _, _, h => by simp at h
  | x :: l, [], _, _, h => by simp at h
  | x :: l, y :: m, h1, h2, h => by
    simp only [List.map_cons, List.cons.injEq] at h
    rw [ofNat_inj (h1 x (by simp)) (h2 y (by simp)) h.1, nums_inj (fun z hz => h1 z (by simp [hz])) (fun z hz => h2 z (by simp [hz])) h.2]
theorem str_inj {l m : List Int} (h1 : By l) (h2 : By m) (h : strOfNums l = strOfNums m) : l = m := by
  apply nums_inj h1 h2
  rw [← strOfNums_data, ← strOfNums_data, h]
theorem toList_loop (bs : ByteArray) : ∀ (n i : Nat) (r : List UInt8), bs.size - i = n → ByteArray.toList.loop bs i r = r.reverse ++ bs.data.toList.drop i := by
  intro n
  induction n with
  | zero =>
    intro i r h
    unfold ByteArray.toList.loop
    have hs : bs.size = bs.data.toList.length := by show bs.data.size = _; simp
    rw [if_neg (by omega), List.drop_eq_nil_of_le (by omega), List.append_nil]
  | succ n ih =>
    intro i r h
    unfold ByteArray.toList.loop
    have hs : bs.size = bs.data.toList.length := by show bs.data.size = _; simp
    have hi : i < bs.data.toList.length := by omega
    rw [if_pos (by omega), ih (i + 1) _ (by omega), List.drop_eq_getElem_cons hi]
    have : bs.get! i = bs.data.toList[i] := by
      show bs.data[i]! = _
      rw [getElem!_pos bs.data i (by simpa using hi)]
      simp
    simp [this]
theorem toList_data (bs : ByteArray) : bs.toList = bs.data.toList := by
  unfold ByteArray.toList
  rw [toList_loop bs _ 0 [] rfl]
  simp
theorem str_eq {l m : List Int} (h1 : By l) (h2 : By m) : ((strOfNums l).toList == (strOfNums m).toList) = decide (l = m) := by
  rw [toList_data, toList_data, strOfNums_data, strOfNums_data]
  by_cases h : l = m
  · subst h; simp
  · have : ¬ l.map (fun n => UInt8.ofNat n.toNat) = m.map (fun n => UInt8.ofNat n.toNat) := fun e => h (nums_inj h1 h2 e)
    simp only [h, decide_false, beq_eq_false_iff_ne, ne_eq]
    exact this
theorem str_of {w : World} {B : Nat} {A : Option Addr} {n : Nat} {l : List Int} (h : Rd w B A n l) (cap : Nat) : (convert 33 9 (.slice A n cap)).run Try.prog w = .ok (.string (strOfNums l)) w := by
  obtain ⟨hl, hb, hr⟩ := h
  rcases Nat.eq_zero_or_pos n with h0 | h0
  · subst h0
    obtain rfl : l = [] := List.eq_nil_of_length_eq_zero hl
    cases A with
    | none => exact run_convert_bytes_nil w _ _ Try.underlying33 Try.underlying5 _ _ _ Try.underlying9
    | some x =>
      rw [run_convert_bytes_string w _ _ _ _ 0 cap Try.underlying33 Try.underlying5 Try.underlying9]
      rw [run_bytesToString w x 0 cap [] (by simp [loadCells, loadCellsFrom, Sem.run_pure])]
      simp [strOfNums, ByteArray.empty, ByteArray.emptyWithCapacity]
      try rfl
  · obtain ⟨b, o, rfl, _, hc⟩ := hr h0
    exact run_convert_bytes_arg w _ _ Try.underlying33 Try.underlying5 b o n cap l hl hc _ Try.underlying9
theorem sameb_any (A C : Option Addr) (n m cap caq : Nat) (l k : List Int) (w : World) (h : Rd w w.heap.size A n l) (g : Rd w w.heap.size C m k) :
    Calls Try.prog 67 #[.slice A n cap, .slice C m caq] w fun e w' => e = .returned (.bool (decide (l = k))) ∧ w = w' := by
  have h1 := str_of h cap
  have h2 := str_of g caq
  go_enter Try.func67, Try.ntmps67
  go_wp2_with fail
  go_ret
  exact ⟨ret_bool (str_eq h.2.1 g.2.1), rfl⟩
/-- two frames are equal -/
def sameB (k f t s k' f' t' s' : Int) (l m : List Int) : Bool := decide (k = k' ∧ f = f' ∧ t = t' ∧ s = s' ∧ l = m)
theorem beq_ff {a b : Int} (h : a ≠ b) : (a == b) = false := by rw [beq_eq_false_iff_ne]; exact h
theorem same_any (k f t s k' f' t' s' : Int) (A C : Option Addr) (n m cap caq : Nat) (l l' : List Int) (w : World) (h : Rd w w.heap.size A n l) (g : Rd w w.heap.size C m l') :
    Calls Try.prog 45 #[.agg #[.int .i64 k, .int .i64 f, .int .i64 t, .int .i64 s, .slice A n cap], .agg #[.int .i64 k', .int .i64 f', .int .i64 t', .int .i64 s', .slice C m caq]] w
      fun e w' => e = .returned (.bool (sameB k f t s k' f' t' s' l l')) ∧ Below w.heap.size w w' := by
  have H := Lib.hid h
  have G := Lib.hid g
  clear h g
  by_cases e1 : k = k'
  · subst e1
    by_cases e2 : f = f'
    · subst e2
      by_cases e3 : t = t'
      · subst e3
        by_cases e4 : s = s'
        · subst e4
          have E := Lib.hid (show sameB k f t s k f t s l l' = decide (l = l') by simp [sameB])
          go_enter Try.func45, Try.ntmps45
          go_wp2_with fail
          refine (sameb_any A C n m cap caq l l' _ (Rd.more (Rd.alloc (Rd.alloc H.out (Nat.le_refl _) _) (by simp) _) (by simp; omega)) (Rd.more (Rd.alloc (Rd.alloc G.out (Nat.le_refl _) _) (by simp) _) (by simp; omega))).mono ?_
          rintro e w' ⟨rfl, rfl⟩
          go_wp2_with fail
          go_ret
          exact ⟨ret_bool E.out.symm, (by repeat (first | (with_reducible exact Below.refl _ _) | (with_reducible refine Below.drew ?_) | (with_reducible refine below_drewN ?_ _) | ((with_reducible refine Below.alloc ?_ ?_ _); rotate_left; (first | omega | (simp <;> omega)); rotate_right) | ((with_reducible refine Below.setCell ?_ ?_ _); rotate_left; (first | omega | (simp <;> omega)); rotate_right) | (with_reducible assumption) | (refine Below.trans ?_ (Below.mono (by assumption) ?_); rotate_left; (first | omega | (simp <;> omega)); rotate_right)))⟩
        · have E := Lib.hid (show sameB k f t s k f t s' l l' = false by simp [sameB, e4])
          have z := beq_ff e4
          clear e4
          go_enter Try.func45, Try.ntmps45
          go_wp2_with fail
          go_ret
          exact ⟨ret_bool E.out.symm, (by repeat (first | (with_reducible exact Below.refl _ _) | (with_reducible refine Below.drew ?_) | (with_reducible refine below_drewN ?_ _) | ((with_reducible refine Below.alloc ?_ ?_ _); rotate_left; (first | omega | (simp <;> omega)); rotate_right) | ((with_reducible refine Below.setCell ?_ ?_ _); rotate_left; (first | omega | (simp <;> omega)); rotate_right) | (with_reducible assumption) | (refine Below.trans ?_ (Below.mono (by assumption) ?_); rotate_left; (first | omega | (simp <;> omega)); rotate_right)))⟩
      · have E := Lib.hid (show sameB k f t s k f t' s' l l' = false by simp [sameB, e3])
        have z := beq_ff e3
        clear e3
        go_enter Try.func45, Try.ntmps45
        go_wp2_with fail
        go_ret
        exact ⟨ret_bool E.out.symm, (by repeat (first | (with_reducible exact Below.refl _ _) | (with_reducible refine Below.drew ?_) | (with_reducible refine below_drewN ?_ _) | ((with_reducible refine Below.alloc ?_ ?_ _); rotate_left; (first | omega | (simp <;> omega)); rotate_right) | ((with_reducible refine Below.setCell ?_ ?_ _); rotate_left; (first | omega | (simp <;> omega)); rotate_right) | (with_reducible assumption) | (refine Below.trans ?_ (Below.mono (by assumption) ?_); rotate_left; (first | omega | (simp <;> omega)); rotate_right)))⟩
    · have E := Lib.hid (show sameB k f t s k f' t' s' l l' = false by simp [sameB, e2])
      have z := beq_ff e2
      clear e2
      go_enter Try.func45, Try.ntmps45
      go_wp2_with fail
      go_ret
      exact ⟨ret_bool E.out.symm, (by repeat (first | (with_reducible exact Below.refl _ _) | (with_reducible refine Below.drew ?_) | (with_reducible refine below_drewN ?_ _) | ((with_reducible refine Below.alloc ?_ ?_ _); rotate_left; (first | omega | (simp <;> omega)); rotate_right) | ((with_reducible refine Below.setCell ?_ ?_ _); rotate_left; (first | omega | (simp <;> omega)); rotate_right) | (with_reducible assumption) | (refine Below.trans ?_ (Below.mono (by assumption) ?_); rotate_left; (first | omega | (simp <;> omega)); rotate_right)))⟩
  · have E := Lib.hid (show sameB k f t s k' f' t' s' l l' = false by simp [sameB, e1])
    have z := beq_ff e1
    clear e1
    go_enter Try.func45, Try.ntmps45
    go_wp2_with fail
    go_ret
    exact ⟨ret_bool E.out.symm, (by repeat (first | (with_reducible exact Below.refl _ _) | (with_reducible refine Below.drew ?_) | (with_reducible refine below_drewN ?_ _) | ((with_reducible refine Below.alloc ?_ ?_ _); rotate_left; (first | omega | (simp <;> omega)); rotate_right) | ((with_reducible refine Below.setCell ?_ ?_ _); rotate_left; (first | omega | (simp <;> omega)); rotate_right) | (with_reducible assumption) | (refine Below.trans ?_ (Below.mono (by assumption) ?_); rotate_left; (first | omega | (simp <;> omega)); rotate_right)))⟩
end Go.Proofs.Ytjidchaejicjaaa
/- Appending what reads as a list (the kit's extra-words, copied as that page says); bytes that a call owns. -/
namespace Go.Proofs.Ytjidchaejicjaaa
open Go.RowKit
set_option linter.unusedSimpArgs false
set_option linter.unusedVariables false
theorem block_of_add (a : Addr) (n : Nat) : (a.add n).block = a.block := by unfold Addr.add; split <;> rfl
theorem add_of_add (a : Addr) (i j : Nat) : (a.add i).add j = a.add (i + j) := by
  unfold Addr.add
  by_cases hi : i = 0 <;> by_cases hj : j = 0 <;> simp [hi, hj, Nat.add_assoc]

def Reads (w : World) (B size : Nat) (A : Option Addr) (n : Nat) (xs : List Value) : Prop :=
  xs.length = n * size ∧ (0 < n → ∃ ad, A = some ad ∧ ad.block < B ∧ ∀ j u, xs[j]? = some u → w.cell? (ad.add j) = some u)

section
variable {w w' : World} {B B' size n : Nat} {A : Option Addr} {xs : List Value}
theorem Reads.none_ : Reads w B size A 0 [] := ⟨by simp, fun h => absurd h (by omega)⟩
theorem Reads.at_ {k : Nat} (h : Reads w B 1 A n xs) (hk : k < n) : ∃ ad u, A = some ad ∧ ad.block < B ∧ xs[k]? = some u ∧ w.cell? (ad.add k) = some u := by
  obtain ⟨ad, e, hb, hc⟩ := h.2 (by omega)
  have hl : k < xs.length := by have := h.1; omega
  exact ⟨ad, xs[k], e, hb, List.getElem?_eq_getElem hl, hc k _ (List.getElem?_eq_getElem hl)⟩
theorem Reads.keep (h : Reads w B size A n xs) (hk : ∀ p : Addr, p.block < B → w'.cell? p = w.cell? p) : Reads w' B size A n xs :=
  ⟨h.1, fun hn => by
    obtain ⟨ad, e, hb, hc⟩ := h.2 hn
    exact ⟨ad, e, hb, fun j u hu => (hk _ (by rw [block_of_add]; exact hb)).trans (hc j u hu)⟩⟩
theorem Reads.more (h : Reads w B size A n xs) (hB : B ≤ B') : Reads w B' size A n xs :=
  ⟨h.1, fun hn => by
    obtain ⟨ad, e, hb, hc⟩ := h.2 hn
    exact ⟨ad, e, by omega, hc⟩⟩
theorem Reads.below (h : Reads w B size A n xs) (hb : Below B w w') : Reads w' B size A n xs := h.keep fun _ hp => hb.cell hp
theorem Reads.drew (h : Reads w B size A n xs) : Reads w.drew B size A n xs := h
theorem Reads.drewN (h : Reads w B size A n xs) (k : Nat) : Reads (w.drewN k) B size A n xs := h
theorem Reads.alloc (h : Reads w B size A n xs) (hB : B ≤ w.heap.size) (o : Obj) : Reads (w.alloc o) B size A n xs := h.keep fun p hp => World.cell?_alloc_lt w o p (by omega)
theorem Reads.setCell (h : Reads w B size A n xs) {p : Addr} (hB : B ≤ p.block) (u : Value) : Reads (w.setCell p u) B size A n xs :=
  h.keep fun q hq => World.cell?_setCell_other w p q u (fun e => by subst e; omega)
theorem Reads.grown (h : Reads w B size A n xs) {row : Option Nat} (hg : w.grownBy w' row) (hB : B ≤ w.heap.size) (hr : ∀ g, row = some g → B ≤ g) : Reads w' B size A n xs :=
  h.keep fun p hp => World.cell?_of_block (hg.block p.block (by omega) (fun e => by have := hr _ e.symm; omega))
theorem Reads.cut (h : Reads w B size A n xs) {k cap : Nat} (hk : k ≤ n) (hc : n ≤ cap) :
    Reads w B size (if cap = k then A else A.map (·.add (k * size))) (n - k) (xs.drop (k * size)) := by
  refine ⟨by rw [List.length_drop, h.1, Nat.sub_mul], fun hn => ?_⟩
  obtain ⟨ad, rfl, hb, hcell⟩ := h.2 (by omega)
  rw [if_neg (by omega)]
  refine ⟨ad.add (k * size), rfl, by rw [block_of_add]; exact hb, fun j u hu => ?_⟩
  rw [add_of_add]
  exact hcell _ u (by rw [← hu, List.getElem?_drop])
theorem Reads.of_own {base : Nat} {e : TypeId} {c : Nat} (h : w.ownsRow base e size (.slice A n c) n xs) : Reads w w.heap.size size A n xs := by
  refine ⟨h.1, fun hn => ?_⟩
  obtain ⟨g, cap, hv, _, hlt⟩ := h.form hn
  have hA : A = some ⟨g, 0, none⟩ := by injection hv
  subst hA
  exact ⟨_, rfl, hlt, h.cells (g := g) rfl⟩
end
section
variable {P : Program} (w : World)

theorem run_append_of_nil (base : Nat) (t ty e : TypeId) (i : TypeInfo) (size : Nat) (ht : P.underlying t = some (.slice e)) (hi : P.info? e = some i)
    (v : Value) (n : Nat) (xs : List Value) (hown : w.ownsRow base e size v n xs) (c : Nat) : (Builtin.append_ #[t, t] ty #[v, .slice none 0 c]).run P w = .ok v w := by
  rcases hown.2 with ⟨rfl, rfl⟩ | ⟨g, cap, cur, rfl, _, _, hnc, _⟩
  · simp [Builtin.append_, run_underlying ht, sizeOf, typeInfo, hi, Builtin.lenOf, Builtin.firstCells]
  · simp [Builtin.append_, run_underlying ht, sizeOf, typeInfo, hi, Builtin.lenOf, Builtin.firstCells, hnc, storeCells]

theorem run_append_any (base : Nat) (t ty e : TypeId) (i : TypeInfo) (z : Value) (size bytes : Nat) (ht : P.underlying t = some (.slice e)) (hi : P.info? e = some i) (hz : i.zero = some z)
    (hsize : i.size = size) (hby : i.bytes = bytes) (hzs : z.cells.size = size) (hsz : 0 < size)
    (v : Value) (n : Nat) (xs : List Value) (hown : w.ownsRow base e size v n xs)
    (B : Nat) (A : Option Addr) (m c : Nat) (news : List Value) (hr : Reads w B size A m news) (h1 : ∀ u ∈ news, u.oneCell' = true)
    (h63 : n + m ≤ maxLen) (hbytes : (n + m) * bytes ≤ 140737488355328) (hbase : base ≤ w.heap.size) :
    ∃ v' w', (Builtin.append_ #[t, t] ty #[v, .slice A m c]).run P w = .ok v' w' ∧ w'.ownsRow base e size v' (n + m) (xs ++ news) ∧ w.grownBy w' v.ownBlock ∧
      (v'.ownBlock = v.ownBlock ∨ v'.ownBlock = some w.heap.size) := by
  rcases A with _ | ad
  · have hm : m = 0 := by
      rcases Nat.eq_zero_or_pos m with h0 | h0
      · exact h0
      · obtain ⟨ad, h, _⟩ := hr.2 h0
        cases h
    subst hm
    have hn : news = [] := List.eq_nil_of_length_eq_zero (by simpa using hr.1)
    subst hn
    exact ⟨v, w, run_append_of_nil w base t ty e i size ht hi v n xs hown c, by simpa using hown, World.grownBy.refl w _, .inl rfl⟩
  · have hcells : ∀ j u, news[j]? = some u → w.cell? (ad.add j) = some u := by
      intro j u hu
      rcases Nat.eq_zero_or_pos m with h0 | h0
      · subst h0
        have hn : news = [] := List.eq_nil_of_length_eq_zero (by simpa using hr.1)
        subst hn
        simp at hu
      · obtain ⟨ad', h, _, hc⟩ := hr.2 h0
        injection h with h
        subst h
        exact hc j u hu
    obtain ⟨v', w', hrun, h2, h3, _, h5⟩ := run_append_own_at (P := P) w base t ty e i z size bytes ht hi hz hsize hby hzs hsz v n xs hown ad m c news hr.1 hcells h1 h63 hbytes hbase
    exact ⟨v', w', hrun, h2, h3, h5⟩

theorem wp_append_any {o : Oper} {a : Act} {K : Act → World → Prop} {Q : Exit → Act → World → Prop} (s x : Operand) (t : TypeId)
    (ho : o.op = .call { callee := .builtin .append, args := #[s, x], argTypes := #[t, t] })
    (base : Nat) (e : TypeId) (i : TypeInfo) (z : Value) (size bytes : Nat) (ht : P.underlying t = some (.slice e)) (hi : P.info? e = some i) (hz : i.zero = some z)
    (hsize : i.size = size) (hby : i.bytes = bytes) (hzs : z.cells.size = size) (hsz : 0 < size)
    (v : Value) (n : Nat) (xs : List Value) (hs : a.eval s = v) (hown : w.ownsRow base e size v n xs)
    (B : Nat) (A : Option Addr) (m c : Nat) (news : List Value) (hx : a.eval x = .slice A m c) (hr : Reads w B size A m news) (h1 : ∀ u ∈ news, u.oneCell' = true)
    (h63 : n + m ≤ maxLen) (hbytes : (n + m) * bytes ≤ 140737488355328) (hbase : base ≤ w.heap.size)
    (h : ∀ v' w', w'.ownsRow base e size v' (n + m) (xs ++ news) → w.grownBy w' v.ownBlock → (v'.ownBlock = v.ownBlock ∨ v'.ownBlock = some w.heap.size) → K (a.put o.dst v') w') : o.wp P a w K Q := by
  obtain ⟨v', w', hrun, h2, h3, h4⟩ := run_append_any (P := P) w base t o.type e i z size bytes ht hi hz hsize hby hzs hsz v n xs hown B A m c news hr h1 h63 hbytes hbase
  unfold Oper.wp execOp
  simp only [ho, resolve, invoke, builtin, Sem.run_bind, Sem.run_pure, Result.andThen_ok, List.map_toArray, List.map_cons, List.map_nil, hs, hx, hrun]
  exact h v' w' h2 h3 h4

theorem wpList_append_any {ops : Array Oper} {rest : List Oper} {o : Oper} {a : Act} {Q : Exit → Act → World → Prop} (hgd : o.guard = none) (s x : Operand) (t : TypeId)
    (ho : o.op = .call { callee := .builtin .append, args := #[s, x], argTypes := #[t, t] })
    (base : Nat) (e : TypeId) (i : TypeInfo) (z : Value) (size bytes : Nat) (ht : P.underlying t = some (.slice e)) (hi : P.info? e = some i) (hz : i.zero = some z)
    (hsize : i.size = size) (hby : i.bytes = bytes) (hzs : z.cells.size = size) (hsz : 0 < size)
    (v : Value) (n : Nat) (xs : List Value) (hs : a.eval s = v) (hown : w.ownsRow base e size v n xs)
    (B : Nat) (A : Option Addr) (m c : Nat) (news : List Value) (hx : a.eval x = .slice A m c) (hr : Reads w B size A m news) (h1 : ∀ u ∈ news, u.oneCell' = true)
    (h63 : n + m ≤ maxLen) (hbytes : (n + m) * bytes ≤ 140737488355328) (hbase : base ≤ w.heap.size)
    (h : ∀ v' w', w'.ownsRow base e size v' (n + m) (xs ++ news) → w.grownBy w' v.ownBlock → (v'.ownBlock = v.ownBlock ∨ v'.ownBlock = some w.heap.size) → wpList P ops Q rest (a.put o.dst v') w') : wpList P ops Q (o :: rest) a w :=
  wpList_plain hgd fun _ hK => wp_append_any w s x t ho base e i z size bytes ht hi hz hsize hby hzs hsz v n xs hs hown B A m c news hx hr h1 h63 hbytes hbase fun v' w' h2 h3 h4 => hK _ _ (h v' w' h2 h3 h4)

theorem step_append_any {ops : Array Oper} {o : Oper} {a : Act} {K : Act → World → Prop} {Q : Exit → Act → World → Prop} {E : Prop} (hgd : o.guard = none) (s x : Operand) (t : TypeId)
    (ho : o.op = .call { callee := .builtin .append, args := #[s, x], argTypes := #[t, t] })
    (base : Nat) (e : TypeId) (i : TypeInfo) (z : Value) (size bytes : Nat) (ht : P.underlying t = some (.slice e)) (hi : P.info? e = some i) (hz : i.zero = some z)
    (hsize : i.size = size) (hby : i.bytes = bytes) (hzs : z.cells.size = size) (hsz : 0 < size)
    (v : Value) (n : Nat) (xs : List Value) (hs : a.eval s = v) (hown : w.ownsRow base e size v n xs)
    (B : Nat) (A : Option Addr) (m c : Nat) (news : List Value) (hx : a.eval x = .slice A m c) (hr : Reads w B size A m news) (h1 : ∀ u ∈ news, u.oneCell' = true)
    (h63 : n + m ≤ maxLen) (hbytes : (n + m) * bytes ≤ 140737488355328) (hbase : base ≤ w.heap.size)
    (h : ∀ v' w', w'.ownsRow base e size v' (n + m) (xs ++ news) → w.grownBy w' v.ownBlock → (v'.ownBlock = v.ownBlock ∨ v'.ownBlock = some w.heap.size) → K (a.put o.dst v') w') :
    if Region.wanted o (yielded ops a.tmps) = true then Oper.wp P o a w K Q else E := by
  have hw : Region.wanted o (yielded ops a.tmps) = true := by simp [Region.wanted, hgd]
  rw [if_pos hw]
  exact wp_append_any w s x t ho base e i z size bytes ht hi hz hsize hby hzs hsz v n xs hs hown B A m c news hx hr h1 h63 hbytes hbase h
end
section
variable {w w' : World} {B : Nat} {A : Option Addr} {n cap : Nat} {l : List Int}
theorem addr_add (b o n : Nat) : (⟨b, o, none⟩ : Addr).add n = ⟨b, o + n, none⟩ := by unfold Addr.add; split <;> simp_all
theorem Rd.reads (h : Rd w B A n l) : Reads w B 1 A n (bv l) := by
  obtain ⟨hl, hb, hr⟩ := h
  refine ⟨by simp [bv, hl], fun hn => ?_⟩
  obtain ⟨b, o, rfl, hbl, hc⟩ := hr hn
  refine ⟨_, rfl, hbl, fun j u hu => ?_⟩
  have hj : j < l.length := by
    rcases Nat.lt_or_ge j l.length with h | h
    · exact h
    · simp [bv, List.getElem?_eq_none h] at hu
  rw [addr_add, hc j (by omega)]
  simp [bv, List.getElem?_eq_getElem hj] at hu
  subst hu
  simp [List.getD, List.getElem?_eq_getElem hj]
theorem Reads.new (w : World) (cs : Array Value) (t : TypeId) : Reads (w.alloc (.cells cs t)) (w.heap.size + 1) 1 (some ⟨w.heap.size, 0, none⟩) cs.size cs.toList := by
  refine ⟨by simp, fun _ => ⟨_, rfl, by simp, fun i u hu => ?_⟩⟩
  rw [addr_add, Nat.zero_add]
  have h := heap_new w (.cells cs t)
  simp only [World.cell?, h]
  simpa using hu
theorem bv_one (l : List Int) : ∀ u ∈ bv l, u.oneCell' = true := ints_oneCell .u8 l
/-- bytes that a call owns: the slice at A of n elements with room cap lies in a block of its own, from base on -/
def Ow (w : World) (base : Nat) (A : Option Addr) (n cap : Nat) (l : List Int) : Prop := w.ownsRow base 5 1 (.slice A n cap) n (bv l) ∧ By l
theorem Ow.len {base : Nat} (h : Ow w base A n cap l) : l.length = n := by have := h.1.1; simpa [bv] using this
theorem Ow.rd {base : Nat} (h : Ow w base A n cap l) : Rd w w.heap.size A n l := Rd.of_own h.1 h.2
theorem Ow.form {base : Nat} (h : Ow w base A n cap l) : (A = none ∧ n = 0 ∧ cap = 0) ∨ ∃ g, A = some ⟨g, 0, none⟩ ∧ base ≤ g ∧ g < w.heap.size ∧ n ≤ cap ∧ cap ≤ maxLen := by
  rcases h.1.2 with ⟨e, h0⟩ | ⟨g, c, cur, e, hb, hh, h1, h2, h3, h4⟩
  · injection e with e1 e2 e3
    exact .inl ⟨e1, h0, e3⟩
  · injection e with e1 e2 e3
    subst e1; subst e3
    exact .inr ⟨g, rfl, hb, lt_of_block hh, h1, h2⟩
theorem Ow.block {base g : Nat} (h : Ow w base (some ⟨g, 0, none⟩) n cap l) : ∃ cur, w.heap[g]? = some (.cells cur 5 (0, 0)) ∧ n ≤ cap ∧ cur.size = cap ∧ cur.toList.take n = bv l := by
  rcases h.1.2 with ⟨e, h0⟩ | ⟨g', c, cur, e, hb, hh, h1, h2, h3, h4⟩
  · cases e
  · injection e with e1 e2 e3
    injection e1 with e1
    injection e1 with e1
    subst e1; subst e3
    exact ⟨cur, hh, h1, by omega, by simpa using h4⟩
theorem Ow.below {base B : Nat} (h : Ow w base A n cap l) (k : Below B w w') (hB : w.heap.size ≤ B) : Ow w' base A n cap l := by
  refine ⟨h.1.kept (row := none) ⟨k.os, k.tape, k.output, k.size, fun i hi _ => k.block i (by omega)⟩ ?_, h.2⟩
  rcases h.form with ⟨rfl, _⟩ | ⟨g, rfl, _⟩
  · left; rfl
  · right; simp [Value.ownBlock]
theorem Ow.grown {base : Nat} {row : Option Nat} (h : Ow w base A n cap l) (hg : w.grownBy w' row) (hne : ∀ g, A = some ⟨g, 0, none⟩ → some g ≠ row) : Ow w' base A n cap l := by
  refine ⟨h.1.kept hg ?_, h.2⟩
  rcases h.form with ⟨rfl, _⟩ | ⟨g, rfl, _⟩
  · left; rfl
  · right; exact hne g rfl
theorem Ow.drew {base : Nat} (h : Ow w base A n cap l) : Ow w.drew base A n cap l := h
theorem Ow.drewN {base : Nat} (h : Ow w base A n cap l) (k : Nat) : Ow (w.drewN k) base A n cap l := h
theorem Ow.alloc {base : Nat} (h : Ow w base A n cap l) (o : Obj) : Ow (w.alloc o) base A n cap l := ⟨h.1.alloc o, h.2⟩
theorem Ow.more {base base' : Nat} (h : Ow w base A n cap l) (hb : base' ≤ base) : Ow w base' A n cap l := by
  refine ⟨⟨h.1.1, ?_⟩, h.2⟩
  rcases h.1.2 with e | ⟨g, c, cur, e, hb', rest⟩
  · exact .inl e
  · exact .inr ⟨g, c, cur, e, by omega, rest⟩
theorem own_drewN {base : Nat} {e : TypeId} {v : Value} {xs : List Value} (h : w.ownsRow base e 1 v n xs) (q : Nat) : (w.drewN q).ownsRow base e 1 v n xs := h
theorem own_form {base : Nat} {e : TypeId} {v : Value} {xs : List Value} (h : w.ownsRow base e 1 v n xs) : ∃ A cap, v = .slice A n cap := by
  rcases h.2 with ⟨rfl, rfl⟩ | ⟨g, c, cur, rfl, _⟩
  · exact ⟨_, _, rfl⟩
  · exact ⟨_, _, rfl⟩
theorem Ow.nil (w : World) (base : Nat) : Ow w base none 0 0 [] := ⟨World.ownsRow_nil w base _ _, by intro x hx; cases hx⟩
end
end Go.Proofs.Ytjidchaejicjaaa
/- start, slices.Equal and slices.Clone on bytes. -/
namespace Go.Proofs.Ytjidchaejicjaaa
open Go.RowKit
set_option maxHeartbeats 4000000
set_option linter.unusedSimpArgs false
set_option linter.unusedVariables false
theorem info_u8 : (Try.prog.info? 5).map (fun i => (i.zero, i.size, i.bytes)) = some (some (.int .u8 0), 1, 1) := by kernel_rfl
theorem getD_eq {l k : List Int} (h : l.length = k.length) (hh : ∀ i, i < l.length → l.getD i 0 = k.getD i 0) : l = k := by
  apply List.ext_getElem h
  intro i h1 h2
  have := hh i h1
  simpa [List.getD, List.getElem?_eq_getElem h1, List.getElem?_eq_getElem h2] using this
end Go.Proofs.Ytjidchaejicjaaa
/- Could bytes be the beginning of a frame? -/
namespace Go.Proofs.Ytjidchaejicjaaa
open Go.RowKit
set_option maxHeartbeats 4000000
set_option linter.unusedSimpArgs false
set_option linter.unusedVariables false
section
variable {w w' : World} {B : Nat} {A : Option Addr} {n cap : Nat} {l : List Int}
theorem Rd.sub {b o : Nat} (h : Rd w B (some ⟨b, o, none⟩) n l) (lo m : Nat) (hm : lo + m ≤ n) : Rd w B (some ⟨b, o + lo, none⟩) m ((l.drop lo).take m) := by
  obtain ⟨hl, hb, hr⟩ := h
  refine ⟨by simp; omega, fun x hx => hb x (List.mem_of_mem_drop (List.mem_of_mem_take hx)), fun hn => ?_⟩
  obtain ⟨b', o', e, hbl, hc⟩ := hr (by omega)
  injection e with e
  injection e with e1 e2
  subst e1; subst e2
  refine ⟨_, _, rfl, hbl, fun i hi => ?_⟩
  rw [Nat.add_assoc, hc (lo + i) (by omega)]
  congr 2
  simp [List.getD, List.getElem?_take, List.getElem?_drop, hi]
theorem Rd.take (h : Rd w B A n l) (m : Nat) (hm : m ≤ n) : Rd w B A m (l.take m) := by
  obtain ⟨hl, hb, hr⟩ := h
  refine ⟨by simp; omega, fun x hx => hb x (List.mem_of_mem_take hx), fun hn => ?_⟩
  obtain ⟨b', o', e, hbl, hc⟩ := hr (by omega)
  refine ⟨_, _, e, hbl, fun i hi => ?_⟩
  rw [hc i (by omega)]
  congr 2
  simp [List.getD, List.getElem?_take, hi]
theorem Rd.of_block {q : Nat} {t : TypeId} (h : w.heap[q]? = some (.cells (bv l).toArray t (0, 0))) (hq : q < B) (hb : By l) : Rd w B (some ⟨q, 0, none⟩) l.length l := by
  refine ⟨rfl, hb, fun hn => ⟨q, 0, rfl, hq, fun i hi => ?_⟩⟩
  rw [Nat.zero_add]
  exact blk_cell h i (by simp [bv, List.getElem?_eq_getElem hi, List.getD])
end
namespace Frm
/-- could bytes be the beginning of a frame, and are they fewer than it has -/
def opB (l : List Int) : Bool := decide ((0 < l.length → l.getD 0 0 = 213) ∧ (1 < l.length → l.getD 1 0 = 76) ∧ (8 ≤ l.length → l.getD 7 0 ≤ 64 ∧ (l.length : Int) < 10 + l.getD 7 0))
end Frm
theorem quiet_add {P : Program} {f : FuncId} {args : Array Value} {w : World} {a n : Nat} {v : Value}
    (h : Calls P f args (w.drewN (a + n)) fun e w' => e = .returned v ∧ ∃ m, w' = (w.drewN (a + n)).drewN m) :
    Calls P f args (w.drewN (a + n)) fun e w'' => e = .returned v ∧ ∃ m, w'' = w.drewN (a + m) :=
  h.mono fun _ _ ⟨he, m, hm⟩ => ⟨he, n + m, by rw [hm, World.drewN_drewN, Nat.add_assoc]⟩
theorem open_start (l : List Int) (k : Nat) (hk : k = min l.length 2) (h : l.take k = [213, 76].take k) : (0 < l.length → l.getD 0 0 = 213) ∧ (1 < l.length → l.getD 1 0 = 76) := by
  subst hk
  rcases l with _ | ⟨x, _ | ⟨y, t⟩⟩ <;> simp_all
theorem open_start' (l : List Int) (k : Nat) (hk : k = min l.length 2) (h : ¬ l.take k = [213, 76].take k) : ¬ ((0 < l.length → l.getD 0 0 = 213) ∧ (1 < l.length → l.getD 1 0 = 76)) := by
  subst hk
  rcases l with _ | ⟨x, _ | ⟨y, t⟩⟩ <;> simp_all
end Go.Proofs.Ytjidchaejicjaaa
/- Slices of numbers; SameInts. -/
namespace Go.Proofs.Ytjidchaejicjaaa
open Go.RowKit
set_option maxHeartbeats 4000000
set_option linter.unusedSimpArgs false
set_option linter.unusedVariables false
/-- numbers that fit an int -/
def I64 (l : List Int) : Prop := ∀ x ∈ l, -9223372036854775808 ≤ x ∧ x ≤ 9223372036854775807
def iv (l : List Int) : List Value := l.map (Value.int .i64)
/-- the slice at A of n elements reads as the numbers l; they lie below block B -/
def Ri (w : World) (B : Nat) (A : Option Addr) (n : Nat) (l : List Int) : Prop :=
  l.length = n ∧ I64 l ∧ (0 < n → ∃ b o, A = some ⟨b, o, none⟩ ∧ b < B ∧ ∀ i, i < n → w.cell? ⟨b, o + i, none⟩ = some (.int .i64 (l.getD i 0)))
section
variable {w w' : World} {B : Nat} {A : Option Addr} {n : Nat} {l : List Int}
theorem Ri.keep (h : Ri w B A n l) (hk : ∀ b o, b < B → w'.cell? ⟨b, o, none⟩ = w.cell? ⟨b, o, none⟩) : Ri w' B A n l :=
  ⟨h.1, h.2.1, fun hn => by
    obtain ⟨b, o, e, hb, hc⟩ := h.2.2 hn
    exact ⟨b, o, e, hb, fun i hi => (hk b _ hb).trans (hc i hi)⟩⟩
theorem Ri.below {B' : Nat} (h : Ri w B A n l) (k : Below B' w w') (hB : B ≤ B') : Ri w' B A n l := h.keep fun b o hb => k.cell (p := ⟨b, o, none⟩) (Nat.lt_of_lt_of_le hb hB)
theorem Ri.more {B' : Nat} (h : Ri w B A n l) (hB : B ≤ B') : Ri w B' A n l :=
  ⟨h.1, h.2.1, fun hn => by
    obtain ⟨b, o, e, hb, hc⟩ := h.2.2 hn
    exact ⟨b, o, e, by omega, hc⟩⟩
theorem Ri.drewN (h : Ri w B A n l) (k : Nat) : Ri (w.drewN k) B A n l := h
theorem Ri.nil (w : World) (B : Nat) (A : Option Addr) : Ri w B A 0 [] := ⟨rfl, (by intro x hx; cases hx), fun h => absurd h (by omega)⟩
theorem I64.at_ (h : I64 l) (i : Nat) : -9223372036854775808 ≤ l.getD i 0 ∧ l.getD i 0 ≤ 9223372036854775807 := by
  by_cases hi : i < l.length
  · have : l.getD i 0 ∈ l := by simp [List.getD, List.getElem?_eq_getElem hi]
    exact h _ this
  · simp [List.getD, List.getElem?_eq_none (by omega : l.length ≤ i)]
theorem Ri.of_own {base : Nat} {e : TypeId} {c : Nat} (h : w.ownsRow base e 1 (.slice A n c) n (iv l)) (hb : I64 l) : Ri w w.heap.size A n l := by
  have hlen : l.length = n := by have := h.1; simpa [iv] using this
  refine ⟨hlen, hb, fun hn => ?_⟩
  rcases h.2 with ⟨he, _⟩ | ⟨g, cap, cur, hv, _, hh, h1, h2, h3, h4⟩
  · simp at he; omega
  · injection hv with hv
    subst hv
    have hlt := lt_of_block hh
    refine ⟨g, 0, rfl, hlt, fun i hi => ?_⟩
    have hc := World.ownsRow.cellAt h (g := g) i (by omega)
    rw [Nat.zero_add, hc, iv]
    simp [List.getElem?_eq_getElem (by omega : i < l.length), List.getD]
end
end Go.Proofs.Ytjidchaejicjaaa

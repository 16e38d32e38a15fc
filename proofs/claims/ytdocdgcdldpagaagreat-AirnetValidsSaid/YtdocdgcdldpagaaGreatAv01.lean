import Derived.Test.YtdocdgcdldpagaaGreatAp
import Derived.Test.YtdocdgcdldpagaaGreatRows
import Derived.WalkKit
import Derived.WalkSpells
import Derived.WalkLawsBesides
import Derived.Deep.QuietTactic
import Derived.BigQuiet
import Derived.BigRegion
import Derived.Lib.Hide
import Derived.IntWalk
import Derived.KernelRfl
import Derived.LoopTactic
import Derived.OwnWalk
import Derived.Laws.OwnMore
import Derived.Below
import Derived.Outline
import Derived.Deep.RegionHeld3
import Derived.Deep.RegionLaw
import Derived.Deep.DeepCutAuto
import Derived.Deep.LoopGhost
import Derived.Laws.BitsAllLaws
import Derived.Laws.BitsLemmas
import Derived.Laws.BytesArg
namespace Go.Proofs.YtdocdgcdldpagaaGreat
open Go.RowKit
set_option maxHeartbeats 4000000
set_option linter.unusedSimpArgs false
set_option linter.unusedVariables false
theorem ret_bool {a b : Bool} (h : a = b) : Ending.returned (.bool a) = .returned (.bool b) := by rw [h]
theorem ret_int {k : IntKind} {a b : Int} (h : a = b) : Ending.returned (.int k a) = .returned (.int k b) := by rw [h]
theorem ret_ii {k j : IntKind} {a b c d : Int} (h : a = b) (g : c = d) : Ending.returned (.tuple #[.int k a, .int j c]) = .returned (.tuple #[.int k b, .int j d]) := by rw [h, g]
theorem bcell {W w1 : World} (hb : Below W.heap.size W w1) : (∀ b o, b < W.heap.size → w1.cell? ⟨b, o, none⟩ = W.cell? ⟨b, o, none⟩) ∧ (∀ b o, b < W.heap.size → w1.frozen? ⟨b, o, none⟩ = W.frozen? ⟨b, o, none⟩) :=
  ⟨fun b o h => hb.cell (p := ⟨b, o, none⟩) h, fun b o h => hb.frozen (p := ⟨b, o, none⟩) h⟩
theorem heap_new (w : World) (o : Obj) : (w.alloc o).heap[w.heap.size]? = some o := by show (w.heap.push o)[w.heap.size]? = _; simp
theorem heap_new' (w : World) (o : Obj) (q : Nat) (hq : q = w.heap.size) : (w.alloc o).heap[q]? = some o := by subst hq; exact heap_new w o
theorem blk_cell {w : World} {q : Nat} {l : List Value} {t : TypeId} (h : w.heap[q]? = some (.cells l.toArray t (0, 0))) (i : Nat) {v : Value} (hv : l[i]? = some v) : w.cell? ⟨q, i, none⟩ = some v := by simp [World.cell?, h, hv]
theorem blk_free {w : World} {q : Nat} {cs : Array Value} {t : TypeId} (h : w.heap[q]? = some (.cells cs t (0, 0))) (i : Nat) : w.frozen? ⟨q, i, none⟩ = false := by simp [World.frozen?, h]
theorem blk_alloc {w : World} {q : Nat} {x : Obj} (h : w.heap[q]? = some x) (o : Obj) : (w.alloc o).heap[q]? = some x := (Below.heap_alloc w o q (lt_of_block h)).trans h
theorem blk_drew {w : World} {q : Nat} {x : Obj} (h : w.heap[q]? = some x) : w.drew.heap[q]? = some x := h
theorem blk_drewN {w : World} {q : Nat} {x : Obj} (h : w.heap[q]? = some x) (n : Nat) : (w.drewN n).heap[q]? = some x := h
theorem blk_far {w : World} {q : Nat} {x : Obj} (h : w.heap[q]? = some x) {a : Addr} (ha : q ≠ a.block) (u : Value) : (w.setCell a u).heap[q]? = some x := (Below.heap_setCell w a u q ha).trans h
theorem blk_set {w : World} {q : Nat} {cs : Array Value} {t : TypeId} (h : w.heap[q]? = some (.cells cs t (0, 0))) (i : Nat) (u : Value) : (w.setCell ⟨q, i, none⟩ u).heap[q]? = some (.cells (cs.setIfInBounds i u) t (0, 0)) := by
  have hlt := lt_of_block h
  have h' : w.heap[q] = .cells cs t (0, 0) := by simpa [Array.getElem?_eq_getElem hlt] using h
  show (w.heap.modify q _)[q]? = _
  rw [Array.getElem?_eq_getElem (by simpa using hlt), Array.getElem_modify_self, h']
  rfl
theorem blk_below {B : Nat} {w w' : World} {q : Nat} {x : Obj} (h : w.heap[q]? = some x) (k : Below B w w') (hq : q < B) : w'.heap[q]? = some x := (k.block q hq).trans h
theorem below_drewN {B : Nat} {a w : World} (h : Below B a w) (n : Nat) : Below B a (w.drewN n) := ⟨h.os, h.tape, h.output, h.size, h.block⟩
theorem only_drew {a w : World} {row : Option Nat} (h : a.grownBy w row) : a.grownBy w.drew row := ⟨h.os, h.tape, h.output, h.size, h.block⟩
theorem only_drewN {a w : World} {row : Option Nat} (h : a.grownBy w row) (n : Nat) : a.grownBy (w.drewN n) row := ⟨h.os, h.tape, h.output, h.size, h.block⟩
theorem only_of_below {a w : World} (h : Below a.heap.size a w) (row : Option Nat) : a.grownBy w row := ⟨h.os, h.tape, h.output, h.size, fun i hi _ => h.block i hi⟩
def By (l : List Int) : Prop := ∀ x ∈ l, 0 ≤ x ∧ x < 256
def bv (l : List Int) : List Value := l.map (Value.int .u8)
def Rd (w : World) (B : Nat) (A : Option Addr) (n : Nat) (l : List Int) : Prop :=
  l.length = n ∧ By l ∧ (0 < n → ∃ b o, A = some ⟨b, o, none⟩ ∧ b < B ∧ ∀ i, i < n → w.cell? ⟨b, o + i, none⟩ = some (.int .u8 (l.getD i 0)))
section
variable {w w' : World} {B : Nat} {A : Option Addr} {n : Nat} {l : List Int}
theorem Rd.keep (h : Rd w B A n l) (hk : ∀ b o, b < B → w'.cell? ⟨b, o, none⟩ = w.cell? ⟨b, o, none⟩) : Rd w' B A n l :=
  ⟨h.1, h.2.1, fun hn => by
    obtain ⟨b, o, e, hb, hc⟩ := h.2.2 hn
    exact ⟨b, o, e, hb, fun i hi => (hk b _ hb).trans (hc i hi)⟩⟩
theorem Rd.below {B' : Nat} (h : Rd w B A n l) (k : Below B' w w') (hB : B ≤ B') : Rd w' B A n l := h.keep fun b o hb => k.cell (p := ⟨b, o, none⟩) (Nat.lt_of_lt_of_le hb hB)
theorem Rd.more {B' : Nat} (h : Rd w B A n l) (hB : B ≤ B') : Rd w B' A n l :=
  ⟨h.1, h.2.1, fun hn => by
    obtain ⟨b, o, e, hb, hc⟩ := h.2.2 hn
    exact ⟨b, o, e, by omega, hc⟩⟩
theorem Rd.drew (h : Rd w B A n l) : Rd w.drew B A n l := h
theorem Rd.drewN (h : Rd w B A n l) (k : Nat) : Rd (w.drewN k) B A n l := h
theorem Rd.alloc (h : Rd w B A n l) (hB : B ≤ w.heap.size) (o : Obj) : Rd (w.alloc o) B A n l := h.keep fun b o' hb => World.cell?_alloc_lt w o ⟨b, o', none⟩ (by show b < _; omega)
theorem Rd.set (h : Rd w B A n l) {p : Addr} (hB : B ≤ p.block) (u : Value) : Rd (w.setCell p u) B A n l :=
  h.keep fun b o hb => World.cell?_setCell_other w p ⟨b, o, none⟩ u (fun e => by subst e; simp at hB; omega)
theorem Rd.grown {row : Option Nat} (h : Rd w B A n l) (hg : w.grownBy w' row) (hB : B ≤ w.heap.size) (hr : ∀ g, row = some g → B ≤ g) : Rd w' B A n l :=
  h.keep fun b o hb => World.cell?_of_block (hg.block b Cb (fun e => by have := hr _ e.symm; omega))
theorem Rd.nil (w : World) (B : Nat) (A : Option Addr) : Rd w B A 0 [] := ⟨rfl, (by intro x hx; cases hx), fun h => absurd h Cb⟩
theorem By.at_ (h : By l) (i : Nat) : 0 ≤ l.getD i 0 ∧ l.getD i 0 < 256 := by
  by_cases hi : i < l.length
  · have : l.getD i 0 ∈ l := by simp [List.getD, List.getElem?_eq_getElem hi]
    exact h _ this
  · simp [List.getD, List.getElem?_eq_none (by omega : l.length ≤ i)]
theorem Rd.of_own {base : Nat} {e : TypeId} {c : Nat} (h : w.ownsRow base e 1 (.slice A n c) n (bv l)) (hb : By l) : Rd w w.heap.size A n l := by
  have hlen : l.length = n := by have := h.1; simpa [bv] using this
  refine ⟨hlen, hb, fun hn => ?_⟩
  rcases h.2 with ⟨he, _⟩ | ⟨g, cap, cur, hv, _, hh, h1, h2, h3, h4⟩
  · simp at he; omega
  · injection hv with hv
    subst hv
    have hlt := lt_of_block hh
    refine ⟨g, 0, rfl, hlt, fun i hi => ?_⟩
    have hc := World.ownsRow.cellAt h (g := g) i Cb
    rw [Nat.zero_add, hc, bv]
    simp [List.getElem?_eq_getElem (by omega : i < l.length), List.getD]
end
end Go.Proofs.YtdocdgcdldpagaaGreat
namespace Go.Proofs.YtdocdgcdldpagaaGreat
open Go.RowKit
set_option maxHeartbeats 4000000
set_option linter.unusedSimpArgs false
set_option linter.unusedVariables false
namespace Frm
def inB (n a b : Int) : Bool := decide (a ≤ n) && decide (n ≤ b)
theorem inB_iff {n a b : Int} : inB n a b = true ↔ a ≤ n ∧ n ≤ b := by simp [inB]
theorem inB_no {n a b : Int} : inB n a b = false ↔ ¬ (a ≤ n ∧ n ≤ b) := by rw [← inB_iff]; simp
def vd (k f t s : Int) (n : Nat) : Bool := decide (0 ≤ s ∧ s ≤ 65535 ∧ n ≤ 64 ∧ ((1 ≤ k ∧ k ≤ 7 ∧ f = 0 ∧ 1 ≤ t ∧ t ≤ 64) ∨ (8 ≤ k ∧ k ≤ 9 ∧ t = 0 ∧ 1 ≤ f ∧ f ≤ 64)))
theorem vd_iff {k f t s : Int} {n : Nat} : vd k f t s n = true ↔ (0 ≤ s ∧ s ≤ 65535 ∧ n ≤ 64 ∧ ((1 ≤ k ∧ k ≤ 7 ∧ f = 0 ∧ 1 ≤ t ∧ t ≤ 64) ∨ (8 ≤ k ∧ k ≤ 9 ∧ t = 0 ∧ 1 ≤ f ∧ f ≤ 64))) := by simp [vd]
theorem vd_no {k f t s : Int} {n : Nat} (h : ¬ (0 ≤ s ∧ s ≤ 65535 ∧ n ≤ 64 ∧ ((1 ≤ k ∧ k ≤ 7 ∧ f = 0 ∧ 1 ≤ t ∧ t ≤ 64) ∨ (8 ≤ k ∧ k ≤ 9 ∧ t = 0 ∧ 1 ≤ f ∧ f ≤ 64)))) : vd k f t s n = false := by simpa [vd] using h
end Frm
theorem fwithin_any (n a b : Int) (w : World) :
    Calls Tryz.prog 155 #[.int .i64 n, .int .i64 a, .int .i64 b] w fun e w' => e = .returned (.bool (Frm.inB n a b)) ∧ w = w' := by
  by_cases h : a ≤ n
  all_goals
    go_enter Tryz.func155, Tryz.ntmps155
    go_wp2_with fail
    go_ret
    exact ⟨ret_bool Bj, rfl⟩
theorem fwithin_yes (n a b : Int) (w : World) (h : a ≤ n ∧ n ≤ b) :
    Calls Tryz.prog 155 #[.int .i64 n, .int .i64 a, .int .i64 b] w fun e w' => e = .returned (.bool true) ∧ w = w' :=
  (fwithin_any n a b w).mono fun e w' ⟨h1, h2⟩ => ⟨by rw [h1, Frm.inB_iff.2 h], h2⟩
theorem fwithin_no (n a b : Int) (w : World) (h : ¬ (a ≤ n ∧ n ≤ b)) :
    Calls Tryz.prog 155 #[.int .i64 n, .int .i64 a, .int .i64 b] w fun e w' => e = .returned (.bool false) ∧ w = w' :=
  (fwithin_any n a b w).mono fun e w' ⟨h1, h2⟩ => ⟨by rw [h1, Frm.inB_no.2 h], h2⟩
theorem fto_any (n a b : Int) (w : World) :
    Calls Tryz.prog 143 #[.int .i64 n, .int .i64 a, .int .i64 b] w fun e w' => e = .returned (.bool (Frm.inB n a b)) ∧ w = w' := by
  by_cases h : a ≤ n
  all_goals
    go_enter Tryz.func143, Tryz.ntmps143
    go_wp2_with fail
    go_ret
    exact ⟨ret_bool Bj, rfl⟩
theorem fto_yes (n a b : Int) (w : World) (h : a ≤ n ∧ n ≤ b) :
    Calls Tryz.prog 143 #[.int .i64 n, .int .i64 a, .int .i64 b] w fun e w' => e = .returned (.bool true) ∧ w = w' :=
  (fto_any n a b w).mono fun e w' ⟨h1, h2⟩ => ⟨by rw [h1, Frm.inB_iff.2 h], h2⟩
theorem fto_no (n a b : Int) (w : World) (h : ¬ (a ≤ n ∧ n ≤ b)) :
    Calls Tryz.prog 143 #[.int .i64 n, .int .i64 a, .int .i64 b] w fun e w' => e = .returned (.bool false) ∧ w = w' :=
  (fto_any n a b w).mono fun e w' ⟨h1, h2⟩ => ⟨by rw [h1, Frm.inB_no.2 h], h2⟩
theorem vd_cases (k f t s : Int) (n : Nat) :
    (¬ (0 ≤ s ∧ s ≤ 65535)) ∨ ((0 ≤ s ∧ s ≤ 65535) ∧ 64 < n) ∨ ((0 ≤ s ∧ s ≤ 65535) ∧ n ≤ 64 ∧ k < 1) ∨ ((0 ≤ s ∧ s ≤ 65535) ∧ n ≤ 64 ∧ 9 < k) ∨
    ((0 ≤ s ∧ s ≤ 65535) ∧ n ≤ 64 ∧ (1 ≤ k ∧ k ≤ 7) ∧ (f < 0 ∨ 0 < f)) ∨ ((0 ≤ s ∧ s ≤ 65535) ∧ n ≤ 64 ∧ (1 ≤ k ∧ k ≤ 7) ∧ f = 0 ∧ ¬ (1 ≤ t ∧ t ≤ 64)) ∨ ((0 ≤ s ∧ s ≤ 65535) ∧ n ≤ 64 ∧ (1 ≤ k ∧ k ≤ 7) ∧ f = 0 ∧ (1 ≤ t ∧ t ≤ 64)) ∨
    ((0 ≤ s ∧ s ≤ 65535) ∧ n ≤ 64 ∧ (k = 8 ∨ k = 9) ∧ ¬ (1 ≤ f ∧ f ≤ 64) ∧ (t < 0 ∨ 0 < t)) ∨ ((0 ≤ s ∧ s ≤ 65535) ∧ n ≤ 64 ∧ (k = 8 ∨ k = 9) ∧ ¬ (1 ≤ f ∧ f ≤ 64) ∧ t = 0) ∨ ((0 ≤ s ∧ s ≤ 65535) ∧ n ≤ 64 ∧ (k = 8 ∨ k = 9) ∧ (1 ≤ f ∧ f ≤ 64) ∧ (t < 0 ∨ 0 < t)) ∨ ((0 ≤ s ∧ s ≤ 65535) ∧ n ≤ 64 ∧ (k = 8 ∨ k = 9) ∧ (1 ≤ f ∧ f ≤ 64) ∧ t = 0) := by
  by_cases a : 0 ≤ s ∧ s ≤ 65535
  · right
    by_cases b : 64 < n
    · exact .inl ⟨a, b⟩
    right
    have b' : n ≤ 64 := by omega
    by_cases c : k < 1
    · exact .inl ⟨a, b', c⟩
    right
    by_cases d : 9 < k
    · exact .inl ⟨a, b', d⟩
    right
    by_cases e : k ≤ 7
    · by_cases g : f = 0
      · by_cases h : 1 ≤ t ∧ t ≤ 64
        · exact .inr (.inr (.inl ⟨a, b', ⟨by omega, e⟩, g, h⟩))
        · exact .inr (.inl ⟨a, b', ⟨by omega, e⟩, g, h⟩)
      · exact .inl ⟨a, b', ⟨by omega, e⟩, by omega⟩
    · have k89 : k = 8 ∨ k = 9 := by omega
      right; right; right
      by_cases g : 1 ≤ f ∧ f ≤ 64
      · by_cases h : t = 0
        · exact .inr (.inr (.inr ⟨a, b', k89, g, h⟩))
        · exact .inr (.inr (.inl ⟨a, b', k89, g, by omega⟩))
      · by_cases h : t = 0
        · exact .inr (.inl ⟨a, b', k89, g, h⟩)
        · exact .inl ⟨a, b', k89, g, by omega⟩
  · exact .inl a
theorem Ci {p : Prop} (h : p := by
  go_wp2_with (first | (refine (fwithin_yes _ _ _ _ Cb).mono ?_; rintro e w' ⟨rfl, rfl⟩) | (refine (fwithin_no _ _ _ _ Cb).mono ?_; rintro e w' ⟨rfl, rfl⟩))
  go_ret
  exact ⟨ret_bool V.out.symm, A9⟩
 ) : p := h
theorem Cc {p : Prop} (h : p := by
  go_wp2_with (first | (refine (fwithin_yes _ _ _ _ Cb).mono ?_; rintro e w' ⟨rfl, rfl⟩) | (refine (fwithin_no _ _ _ _ Cb).mono ?_; rintro e w' ⟨rfl, rfl⟩))
  go_quiet (fail)
  exact Ci
 ) : p := h
theorem Ce {p : Prop} (h : p := by
  go_enter Tryz.func133, Tryz.ntmps133
  go_wp2_with (first | (refine (fwithin_yes _ _ _ _ Cb).mono ?_; rintro e w' ⟨rfl, rfl⟩) | (refine (fwithin_no _ _ _ _ Cb).mono ?_; rintro e w' ⟨rfl, rfl⟩))
  go_quiet (fail)
  exact Cc
 ) : p := h
theorem Cg {p : Prop} (h : p := by
  have e8 : (k == 8) = false := by rw [beq_eq_false_iff_ne]; omega
  have e9 : (k == 9) = false := by rw [beq_eq_false_iff_ne]; omega
  go_enter Tryz.func133, Tryz.ntmps133
  exact Cc
 ) : p := h
theorem Cj {p : Prop} (h : p := by
  have zt : (t == 0) = false := by rw [beq_eq_false_iff_ne]; omega
  exact Ce
 ) : p := h
theorem valid_any (k f t s : Int) (A : Option Addr) (n cap : Nat) (w : World) (hn : n ≤ 9223372036854775807) : Calls Tryz.prog 133 #[.agg #[.int .i64 k, .int .i64 f, .int .i64 t, .int .i64 s, .slice A n cap]] w fun e w' => e = .returned (.bool (Frm.vd k f t s n)) ∧ Below w.heap.size w w' := by
  rcases vd_cases k f t s n with h1 | ⟨h1, h2⟩ | ⟨h1, h2, h3⟩ | ⟨h1, h2, h3⟩ | ⟨h1, h2, h3, h4⟩ | ⟨h1, h2, h3, rfl, h5⟩ | ⟨h1, h2, h3, rfl, h5⟩ | ⟨h1, h2, rfl | rfl, h4, h5⟩ | ⟨h1, h2, rfl | rfl, h4, rfl⟩ | ⟨h1, h2, rfl | rfl, h4, h5⟩ | ⟨h1, h2, rfl | rfl, h4, rfl⟩
  · have V := Lib.hid (Frm.vd_no (k := k) (f := f) (t := t) (s := s) (n := n) Cb)
    go_enter Tryz.func133, Tryz.ntmps133
    exact Ci
  · have V := Lib.hid (Frm.vd_no (k := k) (f := f) (t := t) (s := s) (n := n) Cb)
    go_enter Tryz.func133, Tryz.ntmps133
    exact Ci
  · have V := Lib.hid (Frm.vd_no (k := k) (f := f) (t := t) (s := s) (n := n) Cb)
    exact Cg
  · have V := Lib.hid (Frm.vd_no (k := k) (f := f) (t := t) (s := s) (n := n) Cb)
    exact Cg
  · have V := Lib.hid (Frm.vd_no (k := k) (f := f) (t := t) (s := s) (n := n) Cb)
    have e8 : (k == 8) = false := by rw [beq_eq_false_iff_ne]; omega
    have e9 : (k == 9) = false := by rw [beq_eq_false_iff_ne]; omega
    have zf : (f == 0) = false := by rw [beq_eq_false_iff_ne]; omega
    go_enter Tryz.func133, Tryz.ntmps133
    exact Cc
  · have V := Lib.hid (Frm.vd_no (k := k) (f := 0) (t := t) (s := s) (n := n) Cb)
    exact Cg
  · have V := Lib.hid (Frm.vd_iff (k := k) (f := 0) (t := t) (s := s) (n := n) |>.2 Cb)
    exact Cg
  · have V := Lib.hid (Frm.vd_no (k := 8) (f := f) (t := t) (s := s) (n := n) Cb)
    exact Cj
  · have V := Lib.hid (Frm.vd_no (k := 9) (f := f) (t := t) (s := s) (n := n) Cb)
    exact Cj
  · have V := Lib.hid (Frm.vd_no (k := 8) (f := f) (t := 0) (s := s) (n := n) Cb)
    exact Ce
  · have V := Lib.hid (Frm.vd_no (k := 9) (f := f) (t := 0) (s := s) (n := n) Cb)
    exact Ce
  · have V := Lib.hid (Frm.vd_no (k := 8) (f := f) (t := t) (s := s) (n := n) Cb)
    exact Cj
  · have V := Lib.hid (Frm.vd_no (k := 9) (f := f) (t := t) (s := s) (n := n) Cb)
    exact Cj
  · have V := Lib.hid (Frm.vd_iff (k := 8) (f := f) (t := 0) (s := s) (n := n) |>.2 Cb)
    exact Ce
  · have V := Lib.hid (Frm.vd_iff (k := 9) (f := f) (t := 0) (s := s) (n := n) |>.2 Cb)
    exact Ce
theorem Cd {p : Prop} (h : p := by
  go_enter Tryz.func118, Tryz.ntmps118
  go_wp2_with (first | (refine (fto_yes _ _ _ _ Cb).mono ?_; rintro e w' ⟨rfl, rfl⟩) | (refine (fto_no _ _ _ _ Cb).mono ?_; rintro e w' ⟨rfl, rfl⟩))
  go_ret
  exact ⟨ret_bool V.out.symm, A9⟩
 ) : p := h
theorem Ch {p : Prop} (h : p := by
  have e8 : (k == 8) = false := by rw [beq_eq_false_iff_ne]; omega
  have e9 : (k == 9) = false := by rw [beq_eq_false_iff_ne]; omega
  exact Cd
 ) : p := h
theorem Cl {p : Prop} (h : p := by
  have zt : (t == 0) = false := by rw [beq_eq_false_iff_ne]; omega
  exact Cd
 ) : p := h
theorem rvalid_any (k f t s : Int) (A : Option Addr) (n cap : Nat) (w : World) (hn : n ≤ 9223372036854775807) : Calls Tryz.prog 118 #[.agg #[.int .i64 k, .int .i64 f, .int .i64 t, .int .i64 s, .slice A n cap]] w fun e w' => e = .returned (.bool (Frm.vd k f t s n)) ∧ Below w.heap.size w w' := by
  rcases vd_cases k f t s n with h1 | ⟨h1, h2⟩ | ⟨h1, h2, h3⟩ | ⟨h1, h2, h3⟩ | ⟨h1, h2, h3, h4⟩ | ⟨h1, h2, h3, rfl, h5⟩ | ⟨h1, h2, h3, rfl, h5⟩ | ⟨h1, h2, rfl | rfl, h4, h5⟩ | ⟨h1, h2, rfl | rfl, h4, rfl⟩ | ⟨h1, h2, rfl | rfl, h4, h5⟩ | ⟨h1, h2, rfl | rfl, h4, rfl⟩
  · have V := Lib.hid (Frm.vd_no (k := k) (f := f) (t := t) (s := s) (n := n) Cb)
    exact Cd
  · have V := Lib.hid (Frm.vd_no (k := k) (f := f) (t := t) (s := s) (n := n) Cb)
    exact Cd
  · have V := Lib.hid (Frm.vd_no (k := k) (f := f) (t := t) (s := s) (n := n) Cb)
    exact Ch
  · have V := Lib.hid (Frm.vd_no (k := k) (f := f) (t := t) (s := s) (n := n) Cb)
    exact Ch
  · have V := Lib.hid (Frm.vd_no (k := k) (f := f) (t := t) (s := s) (n := n) Cb)
    have e8 : (k == 8) = false := by rw [beq_eq_false_iff_ne]; omega
    have e9 : (k == 9) = false := by rw [beq_eq_false_iff_ne]; omega
    have zf : (f == 0) = false := by rw [beq_eq_false_iff_ne]; omega
    exact Cd
  · have V := Lib.hid (Frm.vd_no (k := k) (f := 0) (t := t) (s := s) (n := n) Cb)
    exact Ch
  · have V := Lib.hid (Frm.vd_iff (k := k) (f := 0) (t := t) (s := s) (n := n) |>.2 Cb)
    exact Ch
  · have V := Lib.hid (Frm.vd_no (k := 8) (f := f) (t := t) (s := s) (n := n) Cb)
    exact Cl
  · have V := Lib.hid (Frm.vd_no (k := 9) (f := f) (t := t) (s := s) (n := n) Cb)
    exact Cl
  · have V := Lib.hid (Frm.vd_no (k := 8) (f := f) (t := 0) (s := s) (n := n) Cb)
    exact Cd
  · have V := Lib.hid (Frm.vd_no (k := 9) (f := f) (t := 0) (s := s) (n := n) Cb)
    exact Cd
  · have V := Lib.hid (Frm.vd_no (k := 8) (f := f) (t := t) (s := s) (n := n) Cb)
    exact Cl
  · have V := Lib.hid (Frm.vd_no (k := 9) (f := f) (t := t) (s := s) (n := n) Cb)
    exact Cl
  · have V := Lib.hid (Frm.vd_iff (k := 8) (f := f) (t := 0) (s := s) (n := n) |>.2 Cb)
    exact Cd
  · have V := Lib.hid (Frm.vd_iff (k := 9) (f := f) (t := 0) (s := s) (n := n) |>.2 Cb)
    exact Cd
end Go.Proofs.YtdocdgcdldpagaaGreat
namespace Go.Proofs.YtdocdgcdldpagaaGreat
namespace Frm
set_option linter.unusedVariables false
set_option linter.unusedSimpArgs false
def step (d : Nat) : Nat := if d / 32768 = 1 then (d * 2 % 65536) ^^^ 4129 else d * 2 % 65536
def iter : Nat → Nat → Nat
  | 0, d => d
  | j + 1, d => step (iter j d)
def byteN (c y : Nat) : Nat := iter 8 (c ^^^ (y * 256))
def crcN (l : List Int) : Nat := l.foldl (fun c y => byteN c y.toNat) 65535
theorem xor_lt {a b : Nat} (ha : a < 65536) (hb : b < 65536) : a ^^^ b < 65536 := Nat.xor_lt_two_pow (n := 16) ha hb
theorem step_lt {d : Nat} : step d < 65536 := by
  unfold step
  split
  · exact xor_lt (Nat.mod_lt _ C8) C8
  · exact Nat.mod_lt _ C8
theorem iter_lt {d : Nat} (h : d < 65536) : ∀ j, iter j d < 65536
  | 0 => h
  | j + 1 => step_lt
theorem byteN_lt {c y : Nat} (hc : c < 65536) (hy : y < 256) : byteN c y < 65536 := iter_lt (xor_lt hc Cb) 8
theorem foldl_lt (l : List Int) (hb : ∀ x ∈ l, 0 ≤ x ∧ x < 256) : ∀ c, c < 65536 → l.foldl (fun c y => byteN c y.toNat) c < 65536 := by
  induction l with
  | nil => intro c hc; exact hc
  | cons x t ih =>
    intro c hc
    have hx := hb x C9
    exact ih (fun y hy => hb y (by simp [hy])) _ (byteN_lt hc Cb)
theorem crcN_lt {l : List Int} (hb : ∀ x ∈ l, 0 ≤ x ∧ x < 256) : crcN l < 65536 := foldl_lt l hb _ C8
theorem crcN_snoc (l : List Int) (y : Int) : crcN (l ++ [y]) = byteN (crcN l) y.toNat := by simp [crcN]
end Frm
end Go.Proofs.YtdocdgcdldpagaaGreat
namespace Go.Proofs.YtdocdgcdldpagaaGreat
open Go.RowKit
set_option maxHeartbeats 4000000
set_option linter.unusedSimpArgs false
set_option linter.unusedVariables false
theorem ofInt_nat (w : Nat) (a : Nat) (ha : a < 2 ^ w) : (BitVec.ofInt w (a : Int)).toNat = a := by
  rw [BitVec.ofInt_natCast, BitVec.toNat_ofNat]; exact Nat.mod_eq_of_lt ha
theorem u16_xor (a b : Nat) (ha : a < 65536) (hb : b < 65536) : bits .xor .u16 (a : Int) (b : Int) = ((a ^^^ b : Nat) : Int) := by
  have hx : a ^^^ b < 65536 := Frm.xor_lt ha hb
  show IntKind.u16.wrap ((BitVec.ofInt 16 (a : Int) ^^^ BitVec.ofInt 16 (b : Int)).toNat : Int) = _
  rw [BitVec.toNat_xor, ofInt_nat 16 a ha, ofInt_nat 16 b hb, IntKind.wrap_u16]
  omega
theorem u16_first {c : Nat} {y : Int} (hc : c < 65536) (hy : 0 ≤ y ∧ y < 256) : bits .xor .u16 (c : Int) (y * 256) = ((c ^^^ (y.toNat * 256) : Nat) : Int) := by
  rw [← u16_xor c _ hc Cb]
  congr 1; omega
theorem u16_yes {d : Nat} (h : ((d : Int) / 32768 == 1) = true) : bits .xor .u16 (IntKind.u16.wrap ((d : Int) * 2)) 4129 = ((Frm.step d : Nat) : Int) := by
  have h' : d / 32768 = 1 := by have := eq_of_beq h; omega
  rw [Frm.step, if_pos h', ← u16_xor _ _ (Nat.mod_lt _ C8) C8, IntKind.wrap_u16]
  congr 1
theorem u16_no {d : Nat} (h : ((d : Int) / 32768 == 1) = false) : IntKind.u16.wrap ((d : Int) * 2) = ((Frm.step d : Nat) : Int) := by
  have h' : ¬ d / 32768 = 1 := by intro e; have := ne_of_beq_false h; omega
  rw [Frm.step, if_neg h', IntKind.wrap_u16]
  omega
theorem take_snoc (l : List Int) (k : Nat) (h : k < l.length) : l.take (k + 1) = l.take k ++ [l.getD k 0] := by
  rw [List.take_succ_eq_append_getElem h]; simp [List.getD, List.getElem?_eq_getElem h]
theorem By.take {l : List Int} (h : By l) (k : Nat) : By (l.take k) := fun x hx => h x (List.mem_of_mem_take hx)
theorem sum_any (A : Option Addr) (n cap : Nat) (l : List Int) (w : World) (hn : n ≤ 140737488355328) (h : Rd w w.heap.size A n l) :
    Calls Tryz.prog 151 #[.slice A n cap] w fun e w' => e = .returned (.int .i64 (Frm.crcN l : Nat)) ∧ w = w' := by
  obtain ⟨hl, hb, hr⟩ := h
  have HL := Lib.hid hl
  have HB := Lib.hid hb
  clear hl hb
  go_enter Tryz.func151, Tryz.ntmps151
  go_wp2_with fail
  go_loop [3, 9] (fun s3 s9 => ∃ (k : Nat), s9 = .int .i64 k ∧ k ≤ n ∧ s3 = .int .u16 (Frm.crcN (l.take k) : Nat)) (fun _ s9 => n - (intOf s9).toNat)
  case atStart => exact ⟨0, by go_num, by omega, by simp [Frm.crcN]⟩
  case round =>
    obtain ⟨k, rfl, hk, rfl⟩ := hrel
    have hc := Frm.crcN_lt (HB.out.take k)
    by_cases hlt : k < n
    · obtain ⟨b, o, rfl, hbl, hcl⟩ := hr Cb
      have hck := hcl k hlt
      have hby := HB.out.at_ k
      have E := Lib.hid (show Frm.crcN (l.take (k + 1)) = Frm.byteN (Frm.crcN (l.take k)) (l.getD k 0).toNat by rw [take_snoc l k (by rw [HL.out]; exact hlt), Frm.crcN_snoc])
      generalize l.getD k 0 = y at hck hby E
      generalize Frm.crcN (l.take k) = c at hc E
      have F := Lib.hid (u16_first hc hby)
      obtain ⟨y0, y1⟩ := hby
      clear hr hcl
      go_wp2_with fail
      rw [F.out]
      have G := Lib.hid (Frm.iter_lt (Frm.xor_lt hc (show y.toNat * 256 < 65536 by omega)))
      go_loop [3, 18] (fun s3 s18 => ∃ (j : Nat), s18 = .int .i64 j ∧ j ≤ 8 ∧ s3 = .int .u16 (Frm.iter j (c ^^^ (y.toNat * 256)) : Nat)) (fun _ s9 => 8 - (intOf s9).toNat)
      case atStart => exact ⟨0, by go_num, by omega, rfl⟩
      case round =>
        obtain ⟨j, rfl, hj, rfl⟩ := hrel
        have hd := G.out j
        have I := Lib.hid (show Frm.iter (j + 1) (c ^^^ (y.toNat * 256)) = Frm.step (Frm.iter j (c ^^^ (y.toNat * 256))) from rfl)
        by_cases hjl : j < 8
        · generalize Frm.iter j (c ^^^ (y.toNat * 256)) = d at hd I
          go_wp2_with fail
          all_goals go_round
          case rel => exact ⟨j + 1, by go_num, by omega, by rw [I.out]; first | rw [u16_yes Ca] | rw [u16_no Ca]⟩
          case measure => simp [intOf]; omega
          case rel => exact ⟨j + 1, by go_num, by omega, by rw [I.out]; first | rw [u16_yes Ca] | rw [u16_no Ca]⟩
          case measure => simp [intOf]; omega
        · obtain rfl : j = 8 := by omega
          have E' := Lib.hid (E.out.trans (show Frm.byteN c y.toNat = Frm.iter 8 (c ^^^ (y.toNat * 256)) from rfl))
          generalize Frm.iter 8 (c ^^^ (y.toNat * 256)) = d at hd E'
          go_wp2_with fail
          go_round
          case rel => exact ⟨k + 1, by go_num, by omega, by rw [E'.out]⟩
          case measure => simp [intOf]; omega
    · obtain rfl : k = n := by omega
      have E := Lib.hid (show l.take k = l by rw [List.take_of_length_le (by rw [HL.out]; omega)])
      go_wp2_with fail
      go_ret
      exact ⟨ret_int (by rw [E.out]), rfl⟩
end Go.Proofs.YtdocdgcdldpagaaGreat
namespace Go.Proofs.YtdocdgcdldpagaaGreat
open Go.RowKit
set_option maxHeartbeats 4000000
set_option linter.unusedSimpArgs false
set_option linter.unusedVariables false
theorem str_of {w : World} {B : Nat} {A : Option Addr} {n : Nat} {l : List Int} (h : Rd w B A n l) (cap : Nat) : (convert 47 9 (.slice A n cap)).run Tryz.prog w = .ok (.string (strOfNums l)) w := by
  obtain ⟨hl, hb, hr⟩ := h
  rcases Nat.eq_zero_or_pos n with h0 | h0
  · subst h0
    obtain rfl : l = [] := List.eq_nil_of_length_eq_zero hl
    cases A with
    | none => exact run_convert_bytes_nil w _ _ Tryz.underlying47 Tryz.underlying5 _ _ _ Tryz.underlying9
    | some x =>
      rw [run_convert_bytes_string w _ _ _ _ 0 cap Tryz.underlying47 Tryz.underlying5 Tryz.underlying9]
      rw [run_bytesToString w x 0 cap [] (by simp [loadCells, loadCellsFrom, Sem.run_pure])]
      simp [strOfNums, ByteArray.empty, ByteArray.emptyWithCapacity]
      try rfl
  · obtain ⟨b, o, rfl, _, hc⟩ := hr h0
    exact run_convert_bytes_arg w _ _ Tryz.underlying47 Tryz.underlying5 b o n cap l hl hc _ Tryz.underlying9
end Go.Proofs.YtdocdgcdldpagaaGreat

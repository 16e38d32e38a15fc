import Derived.Test.YtdocdgcdldpagaaGreatAp
import Derived.Test.YtdocdgcdldpagaaGreatRows
import Derived.Test.YtdocdgcdldpagaaGreatAv03
import Derived.WalkKit
import Derived.WalkSpells
import Derived.WalkLawsBesides
import Derived.Deep.QuietTactic
import Derived.BigQuiet
import Derived.BigRegion
import Derived.Lib.Hide
import Derived.IntWalk
import Derived.KernelRfl
import Derived.Deep.RegionHeld3
import Derived.Deep.RegionLaw
import Derived.Deep.DeepCutAuto
namespace Go.Proofs.YtdocdgcdldpagaaGreat.Ck
open Go.RowKit
set_option maxHeartbeats 4000000
theorem ret_bool {a b : Bool} (h : a = b) : Ending.returned (.bool a) = .returned (.bool b) := by rw [h]
theorem ret_int {k : IntKind} {a b : Int} (h : a = b) : Ending.returned (.int k a) = .returned (.int k b) := by rw [h]
theorem ret_ii {k j : IntKind} {a b c d : Int} (h : a = b) (g : c = d) : Ending.returned (.tuple #[.int k a, .int j c]) = .returned (.tuple #[.int k b, .int j d]) := by rw [h, g]
theorem ret_bb {k j l : IntKind} {a b c d e f : Int} (h : a = b) (g : c = d) (i : e = f) : Ending.returned (.tuple #[.agg #[.int k a, .int j c], .int l e]) = .returned (.tuple #[.agg #[.int k b, .int j d], .int l f]) := by rw [h, g, i]
theorem bcell {W w1 : World} (hb : Below W.heap.size W w1) : (∀ b o, b < W.heap.size → w1.cell? ⟨b, o, none⟩ = W.cell? ⟨b, o, none⟩) ∧ (∀ b o, b < W.heap.size → w1.frozen? ⟨b, o, none⟩ = W.frozen? ⟨b, o, none⟩) :=
  ⟨fun b o h => hb.cell (p := ⟨b, o, none⟩) h, fun b o h => hb.frozen (p := ⟨b, o, none⟩) h⟩
theorem within_any (n a b : Int) (w : World) :
    Calls Tryz.prog 126 #[.int .i64 n, .int .i64 a, .int .i64 b] w fun e w' => e = .returned (.bool (Clk.inB n a b)) ∧ w = w' := by
  by_cases h : a ≤ n
  all_goals
    go_enter Tryz.func126, Tryz.ntmps126
    go_wp2_with fail
    go_ret
    exact ⟨ret_bool (by simp [Clk.inB, h]; try omega), rfl⟩
theorem within_yes (n a b : Int) (w : World) (h : a ≤ n ∧ n ≤ b) :
    Calls Tryz.prog 126 #[.int .i64 n, .int .i64 a, .int .i64 b] w fun e w' => e = .returned (.bool true) ∧ w = w' :=
  (within_any n a b w).mono fun e w' ⟨h1, h2⟩ => ⟨by rw [h1, Clk.inB_iff.2 h], h2⟩
theorem to_any (n a b : Int) (w : World) :
    Calls Tryz.prog 123 #[.int .i64 n, .int .i64 a, .int .i64 b] w fun e w' => e = .returned (.bool (Clk.inB n a b)) ∧ w = w' := by
  by_cases h : a ≤ n
  all_goals
    go_enter Tryz.func123, Tryz.ntmps123
    go_wp2_with fail
    go_ret
    exact ⟨ret_bool (by simp [Clk.inB, h]; try omega), rfl⟩
theorem to_yes (n a b : Int) (w : World) (h : a ≤ n ∧ n ≤ b) :
    Calls Tryz.prog 123 #[.int .i64 n, .int .i64 a, .int .i64 b] w fun e w' => e = .returned (.bool true) ∧ w = w' :=
  (to_any n a b w).mono fun e w' ⟨h1, h2⟩ => ⟨by rw [h1, Clk.inB_iff.2 h], h2⟩
theorem down_any (a b : Int) (w : World) (h : 0 < b) (ha : -9000000000000000000 ≤ a ∧ a ≤ 9000000000000000000) :
    Calls Tryz.prog 124 #[.int .i64 a, .int .i64 b] w fun e w' => e = .returned (.int .i64 (a / b)) ∧ w = w' := by
  have H := Lib.hid (Clk.tdiv_down a b h)
  have q1 : -9000000000000000000 ≤ a.tdiv b ∧ a.tdiv b ≤ 9000000000000000000 := by
    have := Int.natAbs_tdiv_le_natAbs a b
    omega
  go_enter Tryz.func124, Tryz.ntmps124
  go_wp2_with fail
  all_goals go_ret
  · exact ⟨ret_int (by rw [← H.out, if_pos (by assumption)]), rfl⟩
  · exact ⟨ret_int (by rw [← H.out, if_neg Cb]), rfl⟩
def lV (o r t : Int) : Int := if Clk.inB o (-3600000) 3600000 && Clk.inB r (-100000) 100000 && Clk.inB t 0 3600000 then o + t * (1000000 + r) / 1000000 else 0
def lE (o r t : Int) : Int := if Clk.inB o (-3600000) 3600000 && Clk.inB r (-100000) 100000 && Clk.inB t 0 3600000 then 0 else 2
theorem local_any (o r t : Int) (w : World) :
    Calls Tryz.prog 98 #[.int .i64 o, .int .i64 r, .int .i64 t] w fun e w' => e = .returned (.tuple #[.int .i64 (lV o r t), .int .i64 (lE o r t)]) ∧ w = w' := by
  by_cases h : Clk.inB o (-3600000) 3600000 && Clk.inB r (-100000) 100000 && Clk.inB t 0 3600000
  · have e1 := Lib.hid (show lV o r t = o + t * (1000000 + r) / 1000000 by rw [lV, if_pos h])
    have e2 := Lib.hid (show lE o r t = 0 by rw [lE, if_pos h])
    simp only [Bool.and_eq_true, Clk.inB_iff] at h
    obtain ⟨⟨ho, hr⟩, ht⟩ := h
    have h1 : 0 ≤ t * (1000000 + r) := Int.mul_nonneg Cb Cb
    have h2 : t * (1000000 + r) ≤ 3600000 * 1100000 := Int.mul_le_mul Cb Cb Cb Cb
    go_enter Tryz.func98, Tryz.ntmps98
    go_wp2_with (go_at_call 126; refine (within_yes _ _ _ _ Cb).mono ?_; rintro e w' ⟨rfl, rfl⟩)
    go_ret2
    exact ⟨ret_ii e1.out.symm e2.out.symm, rfl⟩
  · have e1 := Lib.hid (show lV o r t = 0 by rw [lV, if_neg h])
    have e2 := Lib.hid (show lE o r t = 2 by rw [lE, if_neg h])
    have H := Lib.hid h
    clear h
    go_enter Tryz.func98, Tryz.ntmps98
    go_wp2_with (go_at_call 126; refine (within_any _ _ _ _).mono ?_; rintro e w' ⟨rfl, rfl⟩)
    all_goals first | (go_ret2; exact ⟨ret_ii e1.out.symm e2.out.symm, rfl⟩) | (exact absurd (by simp_all) H.out)
theorem rlocal_any (o r t : Int) (w : World) :
    Calls Tryz.prog 90 #[.int .i64 o, .int .i64 r, .int .i64 t] w fun e w' => e = .returned (.tuple #[.int .i64 (lV o r t), .int .i64 (lE o r t)]) ∧ w = w' := by
  by_cases h : Clk.inB o (-3600000) 3600000 && Clk.inB r (-100000) 100000 && Clk.inB t 0 3600000
  · have e1 := Lib.hid (show lV o r t = o + t * (1000000 + r) / 1000000 by rw [lV, if_pos h])
    have e2 := Lib.hid (show lE o r t = 0 by rw [lE, if_pos h])
    simp only [Bool.and_eq_true, Clk.inB_iff] at h
    obtain ⟨⟨ho, hr⟩, ht⟩ := h
    have h1 : -360000000000 ≤ t * r := by
      have : t * -100000 ≤ t * r := Int.mul_le_mul_of_nonneg_left hr.1 ht.1
      omega
    have h2 : t * r ≤ 360000000000 := by
      have : t * r ≤ t * 100000 := Int.mul_le_mul_of_nonneg_left hr.2 ht.1
      omega
    have e3 := Lib.hid (show o + t + t * r / 1000000 = o + t * (1000000 + r) / 1000000 by rw [Int.mul_add]; omega)
    go_enter Tryz.func90, Tryz.ntmps90
    go_wp2_with (first | (go_at_call 123; refine (to_yes _ _ _ _ Cb).mono ?_; rintro e w' ⟨rfl, rfl⟩) | (go_at_call 124; refine (down_any _ _ _ Cb Cb).mono ?_; rintro e w' ⟨rfl, rfl⟩))
    go_ret2
    exact ⟨ret_ii (e3.out.trans e1.out.symm) e2.out.symm, rfl⟩
  · have e1 := Lib.hid (show lV o r t = 0 by rw [lV, if_neg h])
    have e2 := Lib.hid (show lE o r t = 2 by rw [lE, if_neg h])
    have H := Lib.hid h
    clear h
    go_enter Tryz.func90, Tryz.ntmps90
    go_wp2_with (go_at_call 123; refine (to_any _ _ _ _).mono ?_; rintro e w' ⟨rfl, rfl⟩)
    all_goals first | (go_ret2; exact ⟨ret_ii e1.out.symm e2.out.symm, rfl⟩) | (exact absurd (by simp_all) H.out)
theorem rvalid_any (a b : Int) (w : World) :
    Calls Tryz.prog 149 #[.agg #[.int .i64 a, .int .i64 b]] w fun e w' => e = .returned (.bool (Clk.vB a b)) ∧ Below w.heap.size w w' := by
  by_cases h : -1073741824 ≤ a
  all_goals by_cases h2 : a ≤ b
  all_goals
    go_enter Tryz.func149, Tryz.ntmps149
    go_wp2_with fail
    go_ret
    exact ⟨ret_bool (by simp [Clk.vB, h, h2]; try omega), A9⟩
theorem Cm {p : Prop} (h : p := by
  refine bodyPost_ret (v := .tuple #[.agg #[.int .i64 0, .int .i64 0], .int .i64 3]) Bb rfl ⟨ret_bb d1.symm d2.symm d3.symm, A9⟩
 ) : p := h
set_option maxRecDepth 100000 in
theorem grow_any (lo hi d l : Int) (w : World) (h1 : -1073741824 ≤ lo) (h2 : lo ≤ hi) (h3 : hi ≤ 1073741824) (hd0 : 0 ≤ d) (hd1 : d ≤ 100000) (hl0 : 0 ≤ l) (hl1 : l ≤ 2147483648) :
    Calls Tryz.prog 127 #[.agg #[.int .i64 lo, .int .i64 hi], .int .i64 d, .int .i64 l] w fun e w' => e = .returned (.tuple #[.agg #[.int .i64 (Clk.rLo lo hi d l), .int .i64 (Clk.rHi hi d l)], .int .i64 (Clk.rE hi d l)]) ∧ Below w.heap.size w w' := by
  have a2 := Clk.hi_ge l d hl0 hd0 hd1
  by_cases hl : 1 ≤ l
  · have a1 := Clk.lo_le l d hl hd0 hd1
    have c1 := Lib.hid (show Clk.gHi hi d l ≤ 1073741824 → Clk.rLo lo hi d l = lo + (l - 1) * 1000000 / (1000000 + d) ∧ Clk.rHi hi d l = hi + ((l+1)*1000000 + (1000000 - d) - 1) / (1000000 - d) ∧ Clk.rE hi d l = 0 from fun h => ⟨by rw [Clk.rLo, if_pos h, Clk.gLo, if_pos hl]; rfl, by rw [Clk.rHi, if_pos h]; rfl, by rw [Clk.rE, if_pos h]⟩)
    have c2 := Lib.hid (show ¬ Clk.gHi hi d l ≤ 1073741824 → Clk.rLo lo hi d l = 0 ∧ Clk.rHi hi d l = 0 ∧ Clk.rE hi d l = 3 from fun h => ⟨by rw [Clk.rLo, if_neg h], by rw [Clk.rHi, if_neg h], by rw [Clk.rE, if_neg h]⟩)
    go_enter Tryz.func127, Tryz.ntmps127
    go_wp2_with fail
    go_region
    all_goals go_wp2_with fail
    all_goals go_region
    all_goals go_wp2_with fail
    · obtain ⟨d1, d2, d3⟩ := c2.out (by simp only [Clk.gHi, Clk.vp]; omega)
      exact Cm
    · obtain ⟨d1, d2, d3⟩ := c1.out (by simp only [Clk.gHi, Clk.vp]; omega)
      refine bodyPost_ret (v := .tuple #[.agg #[.int .i64 (lo + (l - 1) * 1000000 / (1000000 + d)), .int .i64 (hi + ((l+1)*1000000 + (1000000 - d) - 1) / (1000000 - d))], .int .i64 0]) Bb rfl ⟨ret_bb d1.symm d2.symm d3.symm, A9⟩
  · obtain rfl : l = 0 := by omega
    have c1 := Lib.hid (show Clk.gHi hi d 0 ≤ 1073741824 → Clk.rLo lo hi d 0 = lo ∧ Clk.rHi hi d 0 = hi + ((0+1)*1000000 + (1000000 - d) - 1) / (1000000 - d) ∧ Clk.rE hi d 0 = 0 from fun h => ⟨by rw [Clk.rLo, if_pos h, Clk.gLo, if_neg hl], by rw [Clk.rHi, if_pos h]; rfl, by rw [Clk.rE, if_pos h]⟩)
    have c2 := Lib.hid (show ¬ Clk.gHi hi d 0 ≤ 1073741824 → Clk.rLo lo hi d 0 = 0 ∧ Clk.rHi hi d 0 = 0 ∧ Clk.rE hi d 0 = 3 from fun h => ⟨by rw [Clk.rLo, if_neg h], by rw [Clk.rHi, if_neg h], by rw [Clk.rE, if_neg h]⟩)
    simp only [Int.zero_add, Int.one_mul] at a2 c1
    go_enter Tryz.func127, Tryz.ntmps127
    go_wp2_with fail
    go_region
    all_goals go_wp2_with fail
    all_goals go_region
    all_goals go_wp2_with fail
    · obtain ⟨d1, d2, d3⟩ := c2.out (by simp only [Clk.gHi, Clk.vp, Int.zero_add, Int.one_mul]; omega)
      exact Cm
    · obtain ⟨d1, d2, d3⟩ := c1.out (by simp only [Clk.gHi, Clk.vp, Int.zero_add, Int.one_mul]; omega)
      refine bodyPost_ret (v := .tuple #[.agg #[.int .i64 lo, .int .i64 (hi + (1000000 + (1000000 - d) - 1) / (1000000 - d))], .int .i64 0]) Bb rfl ⟨ret_bb d1.symm d2.symm d3.symm, A9⟩
end Go.Proofs.YtdocdgcdldpagaaGreat.Ck
namespace Go.Proofs.YtdocdgcdldpagaaGreat.Ck
open Go.RowKit
set_option maxHeartbeats 4000000
set_option linter.unusedSimpArgs false
set_option linter.unusedVariables false
def IsClk (w : World) (b : Nat) (d r : Int) (m s : Bool) (lo hi : Int) : Prop := w.heap[b]? = some (.cells #[.int .i64 d, .int .i64 r, .bool m, .bool s, .int .i64 lo, .int .i64 hi] 213 (0, 0))
theorem heap_new (w : World) (o : Obj) : (w.alloc o).heap[w.heap.size]? = some o := by show (w.heap.push o)[w.heap.size]? = _; simp
theorem heap_new' (w : World) (o : Obj) (q : Nat) (hq : q = w.heap.size) : (w.alloc o).heap[q]? = some o := by subst hq; exact heap_new w o
theorem clk_cells {w : World} {b : Nat} {d r : Int} {m s : Bool} {lo hi : Int} (h : IsClk w b d r m s lo hi) :
    w.cell? ⟨b, 0, none⟩ = some (.int .i64 d) ∧ w.cell? ⟨b, 1, none⟩ = some (.int .i64 r) ∧ w.cell? ⟨b, 2, none⟩ = some (.bool m) ∧ w.cell? ⟨b, 3, none⟩ = some (.bool s) ∧ w.cell? ⟨b, 4, none⟩ = some (.int .i64 lo) ∧ w.cell? ⟨b, 5, none⟩ = some (.int .i64 hi) := by
  unfold IsClk at h
  simp [World.cell?, h]
theorem clk_free {w : World} {b : Nat} {d r : Int} {m s : Bool} {lo hi : Int} (h : IsClk w b d r m s lo hi) :
    w.frozen? ⟨b, 0, none⟩ = false ∧ w.frozen? ⟨b, 1, none⟩ = false ∧ w.frozen? ⟨b, 2, none⟩ = false ∧ w.frozen? ⟨b, 3, none⟩ = false ∧ w.frozen? ⟨b, 4, none⟩ = false ∧ w.frozen? ⟨b, 5, none⟩ = false := by
  unfold IsClk at h
  simp [World.frozen?, h]
theorem blk_cell {w : World} {q : Nat} {l : List Value} {t : TypeId} (h : w.heap[q]? = some (.cells l.toArray t (0, 0))) (i : Nat) {v : Value} (hv : l[i]? = some v) : w.cell? ⟨q, i, none⟩ = some v := by simp [World.cell?, h, hv]
theorem clk_blk {w : World} {b : Nat} {d r : Int} {m s : Bool} {lo hi : Int} (h : IsClk w b d r m s lo hi) : w.heap[b]? = some (.cells #[.int .i64 d, .int .i64 r, .bool m, .bool s, .int .i64 lo, .int .i64 hi] 213 (0, 0)) := h
theorem blk_free {w : World} {q : Nat} {cs : Array Value} {t : TypeId} (h : w.heap[q]? = some (.cells cs t (0, 0))) (i : Nat) : w.frozen? ⟨q, i, none⟩ = false := by simp [World.frozen?, h]
theorem blk_alloc {w : World} {q : Nat} {x : Obj} (h : w.heap[q]? = some x) (o : Obj) : (w.alloc o).heap[q]? = some x := (Below.heap_alloc w o q (lt_of_block h)).trans h
theorem blk_drew {w : World} {q : Nat} {x : Obj} (h : w.heap[q]? = some x) : w.drew.heap[q]? = some x := h
theorem blk_far {w : World} {q : Nat} {x : Obj} (h : w.heap[q]? = some x) {a : Addr} (ha : q ≠ a.block) (u : Value) : (w.setCell a u).heap[q]? = some x := (Below.heap_setCell w a u q ha).trans h
theorem blk_set {w : World} {q : Nat} {cs : Array Value} {t : TypeId} (h : w.heap[q]? = some (.cells cs t (0, 0))) (i : Nat) (u : Value) : (w.setCell ⟨q, i, none⟩ u).heap[q]? = some (.cells (cs.setIfInBounds i u) t (0, 0)) := by
  have hlt := lt_of_block h
  have h' : w.heap[q] = .cells cs t (0, 0) := by simpa [Array.getElem?_eq_getElem hlt] using h
  show (w.heap.modify q _)[q]? = _
  rw [Array.getElem?_eq_getElem (by simpa using hlt), Array.getElem_modify_self, h']
  rfl
theorem blk_below {B : Nat} {w w' : World} {q : Nat} {x : Obj} (h : w.heap[q]? = some x) (k : Below B w w') (hq : q < B) : w'.heap[q]? = some x := (k.block q hq).trans h
theorem clk_lt {w : World} {b : Nat} {d r : Int} {m s : Bool} {lo hi : Int} (h : IsClk w b d r m s lo hi) : b < w.heap.size := lt_of_block h
theorem clk_below {B : Nat} {w w' : World} {b : Nat} {d r : Int} {m s : Bool} {lo hi : Int} (h : IsClk w b d r m s lo hi) (k : Below B w w') (hb : b < B) : IsClk w' b d r m s lo hi := (k.block b hb).trans h
theorem clk_alloc {w : World} {b : Nat} {d r : Int} {m s : Bool} {lo hi : Int} (h : IsClk w b d r m s lo hi) (o : Obj) : IsClk (w.alloc o) b d r m s lo hi := (Below.heap_alloc w o b (clk_lt h)).trans h
theorem clk_far {w : World} {b : Nat} {d r : Int} {m s : Bool} {lo hi : Int} (h : IsClk w b d r m s lo hi) {a : Addr} (ha : b ≠ a.block) (u : Value) : IsClk (w.setCell a u) b d r m s lo hi := blk_far h ha u
theorem clk_drew {w : World} {b : Nat} {d r : Int} {m s : Bool} {lo hi : Int} (h : IsClk w b d r m s lo hi) : IsClk w.drew b d r m s lo hi := h
theorem only_drew {a w : World} {row : Option Nat} (h : a.grownBy w row) : a.grownBy w.drew row := ⟨h.os, h.tape, h.output, h.size, h.block⟩
theorem only_alloc {a w : World} {row : Option Nat} (h : a.grownBy w row) (o : Obj) : a.grownBy (w.alloc o) row :=
  ⟨h.os, h.tape, h.output, Nat.le_trans h.size C9, fun i hi hne => (Below.heap_alloc w o i (Nat.lt_of_lt_of_le hi h.size)).trans (h.block i hi hne)⟩
theorem only_setCell {a w : World} {g : Nat} (h : a.grownBy w (some g)) {p : Addr} (hp : p.block = g ∨ a.heap.size ≤ p.block) (u : Value) : a.grownBy (w.setCell p u) (some g) :=
  ⟨h.os, h.tape, h.output, by simpa [World.setCell] using h.size, fun i hi hne => (Below.heap_setCell w p u i (by
    rintro rfl
    rcases hp with hp | hp
    · exact hne (by rw [hp])
    · omega)).trans (h.block i hi hne)⟩
theorem only_of_below {a w : World} (h : Below a.heap.size a w) (row : Option Nat) : a.grownBy w row := ⟨h.os, h.tape, h.output, h.size, fun i hi _ => h.block i hi⟩
theorem only_below {a w w' : World} {row : Option Nat} {B : Nat} (h : a.grownBy w row) (k : Below B w w') (hB : a.heap.size ≤ B) : a.grownBy w' row :=
  ⟨k.os.trans h.os, k.tape.trans h.tape, k.output.trans h.output, Nat.le_trans h.size k.size, fun i hi hne => (k.block i Cb).trans (h.block i hi hne)⟩
theorem only_drewN {a w : World} {row : Option Nat} (h : a.grownBy w row) (n : Nat) : a.grownBy (w.drewN n) row := ⟨h.os, h.tape, h.output, h.size, h.block⟩
theorem below_drewN {B : Nat} {a w : World} (h : Below B a w) (n : Nat) : Below B a (w.drewN n) := ⟨h.os, h.tape, h.output, h.size, h.block⟩
theorem clk_drewN {w : World} {b : Nat} {d r : Int} {m s : Bool} {lo hi : Int} (h : IsClk w b d r m s lo hi) (n : Nat) : IsClk (w.drewN n) b d r m s lo hi := h
theorem blk_drewN {w : World} {q : Nat} {x : Obj} (h : w.heap[q]? = some x) (n : Nat) : (w.drewN n).heap[q]? = some x := h
theorem Cn {p : Prop} (h : p := by
  obtain ⟨q0, q1, q2, q3, q4, q5⟩ := clk_cells hk; obtain ⟨z0, z1, z2, z3, z4, z5⟩ := clk_free hk; have hlt := clk_lt hk
  go_enter Tryz.func125, Tryz.ntmps125
  go_wp2_with fail
  go_ret
  exact ⟨rfl, rfl⟩
 ) : p := h
theorem none_made (b : Nat) (d r : Int) (s : Bool) (lo hi : Int) (w : World) (hk : IsClk w b d r true s lo hi) :
    Calls Tryz.prog 125 #[.pointer (some ⟨b, 0, none⟩)] w fun e w' => e = .returned (.bool false) ∧ w = w' := by
  exact Cn
theorem none_zero (b : Nat) (d r : Int) (s : Bool) (lo hi : Int) (w : World) (hk : IsClk w b d r false s lo hi) :
    Calls Tryz.prog 125 #[.pointer (some ⟨b, 0, none⟩)] w fun e w' => e = .returned (.bool true) ∧ w = w' := by
  exact Cn
theorem new_yes (d : Int) (w : World) (h : 0 ≤ d ∧ d ≤ 100000) :
    Calls Tryz.prog 106 #[.int .i64 d] w fun e w' => e = .returned (.tuple #[.pointer (some ⟨w.heap.size, 0, none⟩), .int .i64 0]) ∧ IsClk w' w.heap.size d 0 true false 0 0 ∧ Below w.heap.size w w' := by
  go_enter Tryz.func106, Tryz.ntmps106
  go_wp2_with (go_at_call 126; refine (within_yes _ _ _ _ Cb).mono ?_; rintro e w' ⟨rfl, rfl⟩)
  go_ret2
  exact ⟨rfl, heap_new _ _, A9⟩
theorem reading_clk (b : Nat) (d r : Int) (lo hi : Int) (w : World) (hk : IsClk w b d r true true lo hi) :
    Calls Tryz.prog 163 #[.pointer (some ⟨b, 0, none⟩)] w fun e w' => e = .returned (.tuple #[.int .i64 r, .agg #[.int .i64 lo, .int .i64 hi], .int .i64 0]) ∧ Below w.heap.size w w' := by
  obtain ⟨q0, q1, q2, q3, q4, q5⟩ := clk_cells hk; obtain ⟨z0, z1, z2, z3, z4, z5⟩ := clk_free hk; have hlt := clk_lt hk
  go_enter Tryz.func163, Tryz.ntmps163
  go_wp2_with (go_at_call 125; refine (none_made b d r true lo hi _ Ao).mono ?_; rintro e w' ⟨rfl, rfl⟩)
  go_region
  all_goals go_wp2_with fail
  all_goals (refine bodyPost_ret (v := .tuple #[.int .i64 r, .agg #[.int .i64 lo, .int .i64 hi], .int .i64 0]) ?_ rfl ⟨rfl, ?_⟩; (· simp [results, Tryz.results163, go_sem]); (· exact A9))
theorem reading_none (b : Nat) (d r : Int) (lo hi : Int) (w : World) (hk : IsClk w b d r true false lo hi) :
    Calls Tryz.prog 163 #[.pointer (some ⟨b, 0, none⟩)] w fun e w' => e = .returned (.tuple #[.int .i64 0, .agg #[.int .i64 0, .int .i64 0], .int .i64 9]) ∧ Below w.heap.size w w' := by
  obtain ⟨q0, q1, q2, q3, q4, q5⟩ := clk_cells hk; obtain ⟨z0, z1, z2, z3, z4, z5⟩ := clk_free hk; have hlt := clk_lt hk
  go_enter Tryz.func163, Tryz.ntmps163
  go_wp2_with (go_at_call 125; refine (none_made b d r false lo hi _ Ao).mono ?_; rintro e w' ⟨rfl, rfl⟩)
  refine bodyPost_ret (v := .tuple #[.int .i64 0, .agg #[.int .i64 0, .int .i64 0], .int .i64 9]) ?_ rfl ⟨rfl, ?_⟩
  · simp [results, Tryz.results163, go_sem]
  · exact A9
end Go.Proofs.YtdocdgcdldpagaaGreat.Ck
namespace Go.Proofs.YtdocdgcdldpagaaGreat.Ck
open Go.RowKit
set_option maxHeartbeats 4000000
set_option linter.unusedSimpArgs false
set_option linter.unusedVariables false
set_option maxRecDepth 100000 in
theorem at_yes (b : Nat) (d r : Int) (lo hi : Int) (x : Int) (w : World) (hk : IsClk w b d r true true lo hi) (h1 : -1073741824 ≤ lo) (h2 : lo ≤ hi) (h3 : hi ≤ 1073741824) (hd0 : 0 ≤ d) (hd1 : d ≤ 100000) (hr0 : -1073741824 ≤ r) (hr1 : r ≤ x) (hx : x ≤ 1073741824) :
    Calls Tryz.prog 97 #[.pointer (some ⟨b, 0, none⟩), .int .i64 x] w fun e w' => e = .returned (.tuple #[.agg #[.int .i64 (Clk.rLo lo hi d (x - r)), .int .i64 (Clk.rHi hi d (x - r))], .int .i64 (Clk.rE hi d (x - r))]) ∧ Below w.heap.size w w' := by
  obtain ⟨q0, q1, q2, q3, q4, q5⟩ := clk_cells hk; obtain ⟨z0, z1, z2, z3, z4, z5⟩ := clk_free hk; have hlt := clk_lt hk
  have k1 := IntWalk.i64_in (x - r) Cb
  go_enter Tryz.func97, Tryz.ntmps97
  go_wp2_with (first | (go_at_call 125; refine (none_made b d r true lo hi _ Af).mono ?_; rintro e w' ⟨rfl, rfl⟩) | (go_at_call 126; refine (within_yes _ _ _ _ Cb).mono ?_; rintro e w' ⟨rfl, rfl⟩))
  go_region_held3 (fun w' => w'.cell? ⟨b, 0, none⟩ = some (.int .i64 d) ∧ w'.cell? ⟨b, 1, none⟩ = some (.int .i64 r) ∧ w'.cell? ⟨b, 4, none⟩ = some (.int .i64 lo) ∧ w'.cell? ⟨b, 5, none⟩ = some (.int .i64 hi)) (first | (refine ⟨?_, ?_, ?_, ?_⟩ <;> simp [go_sem, *]) | go_keep) (first | (go_at_call 127; refine (grow_any lo hi d (x - r) _ h1 h2 h3 hd0 hd1 Cb Cb).mono ?_; rintro e w2 ⟨rfl, hb2⟩; have hk2 := clk_below (show IsClk _ b d r true true lo hi from Af) hb2 C6; obtain ⟨q20, q21, q22, q23, q24, q25⟩ := clk_cells hk2; obtain ⟨z20, z21, z22, z23, z24, z25⟩ := clk_free hk2; have hlt2 := clk_lt hk2; have cs0_0 := (bcell hb2).1 (w.heap.size) 0 Ba; have fs0_0 := (bcell hb2).2 (w.heap.size) 0 Ba; have cs0_1 := (bcell hb2).1 (w.heap.size) 1 Ba; have fs0_1 := (bcell hb2).2 (w.heap.size) 1 Ba; try simp [go_sem] at cs0_0 fs0_0 cs0_1 fs0_1))
  · go_wp2_with fail
    refine bodyPost_ret (v := .tuple #[.agg #[.int .i64 (Clk.rLo lo hi d (x - r)), .int .i64 (Clk.rHi hi d (x - r))], .int .i64 (Clk.rE hi d (x - r))]) ?_ rfl ⟨rfl, ?_⟩
    · simp [results, Tryz.results97, go_sem, *]
    · exact A9
theorem at_range (b : Nat) (d r : Int) (lo hi : Int) (x : Int) (w : World) (hk : IsClk w b d r true true lo hi) (h : ¬ (r ≤ x ∧ x ≤ 1073741824)) :
    Calls Tryz.prog 97 #[.pointer (some ⟨b, 0, none⟩), .int .i64 x] w fun e w' => e = .returned (.tuple #[.agg #[.int .i64 0, .int .i64 0], .int .i64 3]) ∧ Below w.heap.size w w' := by
  obtain ⟨q0, q1, q2, q3, q4, q5⟩ := clk_cells hk; obtain ⟨z0, z1, z2, z3, z4, z5⟩ := clk_free hk; have hlt := clk_lt hk
  have H := Lib.hid (Clk.inB_no.2 h)
  clear h
  go_enter Tryz.func97, Tryz.ntmps97
  go_wp2_with (first | (go_at_call 125; refine (none_made b d r true lo hi _ Af).mono ?_; rintro e w' ⟨rfl, rfl⟩) | (go_at_call 126; refine (within_any _ _ _ _).mono ?_; rintro e w' ⟨rfl, rfl⟩; rw [H.out]))
  refine bodyPost_ret (v := .tuple #[.agg #[.int .i64 0, .int .i64 0], .int .i64 3]) ?_ rfl ⟨rfl, ?_⟩
  · simp [results, Tryz.results97, go_sem]
  · exact A9
theorem at_none (b : Nat) (d r : Int) (lo hi : Int) (x : Int) (w : World) (hk : IsClk w b d r true false lo hi) :
    Calls Tryz.prog 97 #[.pointer (some ⟨b, 0, none⟩), .int .i64 x] w fun e w' => e = .returned (.tuple #[.agg #[.int .i64 0, .int .i64 0], .int .i64 9]) ∧ Below w.heap.size w w' := by
  obtain ⟨q0, q1, q2, q3, q4, q5⟩ := clk_cells hk; obtain ⟨z0, z1, z2, z3, z4, z5⟩ := clk_free hk; have hlt := clk_lt hk
  go_enter Tryz.func97, Tryz.ntmps97
  go_wp2_with (first | (go_at_call 125; refine (none_made b d r false lo hi _ Af).mono ?_; rintro e w' ⟨rfl, rfl⟩))
  refine bodyPost_ret (v := .tuple #[.agg #[.int .i64 0, .int .i64 0], .int .i64 9]) ?_ rfl ⟨rfl, ?_⟩
  · simp [results, Tryz.results97, go_sem]
  · exact A9
def aOk (r : Int) (s : Bool) (x : Int) : Bool := s && Clk.inB x r 1073741824
def aLo (d r : Int) (s : Bool) (lo hi x : Int) : Int := if aOk r s x then Clk.rLo lo hi d (x - r) else 0
def aHi (d r : Int) (s : Bool) (hi x : Int) : Int := if aOk r s x then Clk.rHi hi d (x - r) else 0
def aE (d r : Int) (s : Bool) (hi x : Int) : Int := if aOk r s x then Clk.rE hi d (x - r) else if s then 3 else 9
theorem at_any (b : Nat) (d r : Int) (s : Bool) (lo hi : Int) (x : Int) (w : World) (hk : IsClk w b d r true s lo hi) (c : Clk.CInv d r lo hi) :
    Calls Tryz.prog 97 #[.pointer (some ⟨b, 0, none⟩), .int .i64 x] w fun e w' => e = .returned (.tuple #[.agg #[.int .i64 (aLo d r s lo hi x), .int .i64 (aHi d r s hi x)], .int .i64 (aE d r s hi x)]) ∧ Below w.heap.size w w' := by
  obtain ⟨c1, c2, c3, c4, c5, c6, c7⟩ := c
  cases s with
  | false =>
    refine (at_none b d r lo hi x w hk).mono ?_
    rintro e w' ⟨rfl, hb⟩
    exact ⟨by simp [aLo, aHi, aE, aOk], hb⟩
  | true =>
    by_cases h : r ≤ x ∧ x ≤ 1073741824
    · refine (at_yes b d r lo hi x w hk c5 c6 c7 c1 c2 c3 h.1 h.2).mono ?_
      rintro e w' ⟨rfl, hb⟩
      exact ⟨by simp [aLo, aHi, aE, aOk, Clk.inB_iff.2 h], hb⟩
    · refine (at_range b d r lo hi x w hk h).mono ?_
      rintro e w' ⟨rfl, hb⟩
      exact ⟨by simp [aLo, aHi, aE, aOk, Clk.inB_no.2 h], hb⟩
end Go.Proofs.YtdocdgcdldpagaaGreat.Ck

import Derived.Test.YtdocdgcdldpagaaGreatAp
import Derived.Test.YtdocdgcdldpagaaGreatAv22
import Derived.Test.YtdocdgcdldpagaaGreatAv04
import Derived.Deep.LoopGhost
import Derived.Test.YtdocdgcdldpagaaGreatAv14
import Derived.Test.YtdocdgcdldpagaaGreatAv05
import Derived.Handy
import Derived.Test.YtdocdgcdldpagaaGreatAv08
import Derived.Test.YtdocdgcdldpagaaGreatAv10
import Derived.Test.YtdocdgcdldpagaaGreatAv09
namespace Go.Proofs.YtdocdgcdldpagaaGreat.Ck
open Go.RowKit
set_option maxHeartbeats 4000000
set_option linter.unusedSimpArgs false
set_option linter.unusedVariables false
set_option maxRecDepth 100000
theorem rgrow_any (lo hi d l : Int) (w : World) :
    Calls Tryz.prog 89 #[.agg #[.int .i64 lo, .int .i64 hi], .int .i64 d, .int .i64 l] w fun e w' => e = .returned (.tuple #[.agg #[.int .i64 (if 1073741824 < l then 0 else GLo lo hi d l), .int .i64 (if 1073741824 < l then 0 else GHi lo hi d l)], .int .i64 (if 1073741824 < l then 3 else GE lo hi d l)]) ∧ Below w.heap.size w w' := by
  by_cases h : 1073741824 < l
  · rw [if_pos h, if_pos h, if_pos h]
    go_enter Tryz.func89, Tryz.ntmps89
    go_wp2_with fail
    refine bodyPost_ret (v := .tuple #[.agg #[.int .i64 0, .int .i64 0], .int .i64 3]) ?_ rfl ⟨rfl, A9⟩
    simp [results, Tryz.results89, go_sem]
  · rw [if_neg h, if_neg h, if_neg h]
    go_enter Tryz.func89, Tryz.ntmps89
    go_wp2_with fail
    refine (rGrow_any _ _ _ _ _).mono ?_
    rintro e w1 ⟨rfl, hb⟩
    have hz := hb.size; simp at hz
    have ca0_0 := (bcell hb).1 (w.heap.size) 0 Ba; have fa0_0 := (bcell hb).2 (w.heap.size) 0 Ba; have ca0_1 := (bcell hb).1 (w.heap.size) 1 Ba; have fa0_1 := (bcell hb).2 (w.heap.size) 1 Ba; have ca1_0 := (bcell hb).1 (w.heap.size + 1) 0 Ba; have fa1_0 := (bcell hb).2 (w.heap.size + 1) 0 Ba; have ca1_1 := (bcell hb).1 (w.heap.size + 1) 1 Ba; have fa1_1 := (bcell hb).2 (w.heap.size + 1) 1 Ba; try simp [go_sem] at ca0_0 fa0_0 ca0_1 fa0_1 ca1_0 fa1_0 ca1_1 fa1_1
    go_wp2_with fail
    refine bodyPost_ret (v := .tuple #[.agg #[.int .i64 (GLo lo hi d l), .int .i64 (GHi lo hi d l)], .int .i64 (GE lo hi d l)]) ?_ rfl ⟨rfl, A9⟩
    simp [results, Tryz.results89, go_sem, *]
theorem rNew_yes (d : Int) (w : World) (h : 0 ≤ d ∧ d ≤ 100000) :
    Calls Tryz.prog 109 #[.int .i64 d] w fun e w' => e = .returned (.tuple #[.agg #[.int .i64 d, .int .i64 0, .bool false, .int .i64 0, .int .i64 0], .int .i64 0]) ∧ Below w.heap.size w w' := by
  go_enter Tryz.func109, Tryz.ntmps109
  go_wp2_with (go_at_call 123; refine (to_yes _ _ _ _ h).mono ?_; rintro e w' ⟨rfl, rfl⟩)
  refine bodyPost_ret (v := .tuple #[.agg #[.int .i64 d, .int .i64 0, .bool false, .int .i64 0, .int .i64 0], .int .i64 0]) ?_ rfl ⟨rfl, A9⟩
  simp [results, Tryz.results109, go_sem]
end Go.Proofs.YtdocdgcdldpagaaGreat.Ck
namespace Go.Proofs.YtdocdgcdldpagaaGreat.Ck
open Go.RowKit
set_option maxHeartbeats 4000000
set_option linter.unusedSimpArgs false
set_option linter.unusedVariables false
set_option maxRecDepth 100000
theorem rat_none (d r lo hi x : Int) (w : World) :
    Calls Tryz.prog 44 #[.agg #[.int .i64 d, .int .i64 r, .bool false, .int .i64 lo, .int .i64 hi], .int .i64 x] w fun e w' => e = .returned (.tuple #[.agg #[.int .i64 0, .int .i64 0], .int .i64 9]) ∧ Below w.heap.size w w' := by
  go_enter Tryz.func44, Tryz.ntmps44
  go_wp2_with fail
  refine bodyPost_ret (v := .tuple #[.agg #[.int .i64 0, .int .i64 0], .int .i64 9]) ?_ rfl ⟨rfl, A9⟩
  simp [results, Tryz.results44, go_sem]
theorem rat_range (d r lo hi x : Int) (w : World) (h : ¬ (r ≤ x ∧ x ≤ 1073741824)) :
    Calls Tryz.prog 44 #[.agg #[.int .i64 d, .int .i64 r, .bool true, .int .i64 lo, .int .i64 hi], .int .i64 x] w fun e w' => e = .returned (.tuple #[.agg #[.int .i64 0, .int .i64 0], .int .i64 3]) ∧ Below w.heap.size w w' := by
  have h' : x < r ∨ (r ≤ x ∧ 1073741824 < x) := by omega
  clear h
  rcases h' with h | ⟨h, h2⟩
  all_goals
    go_enter Tryz.func44, Tryz.ntmps44
    go_wp2_with fail
    refine bodyPost_ret (v := .tuple #[.agg #[.int .i64 0, .int .i64 0], .int .i64 3]) ?_ rfl ⟨rfl, A9⟩
    simp [results, Tryz.results44, go_sem]
theorem rg_eq {lo hi d l : Int} (l0 : 0 ≤ lo) (l1 : lo ≤ hi) (l2 : hi ≤ 1073741824) (d0 : 0 ≤ d) (d1 : d ≤ 100000) (y0 : 0 ≤ l) :
    (if 1073741824 < l then 0 else GLo lo hi d l) = Clk.rLo lo hi d l ∧ (if 1073741824 < l then 0 else GHi lo hi d l) = Clk.rHi hi d l ∧ (if 1073741824 < l then 3 else GE lo hi d l) = Clk.rE hi d l := by
  by_cases h : 1073741824 < l
  · have := Clk.vp_ge d l y0 d0 d1
    have g : ¬ Clk.gHi hi d l ≤ 1073741824 := by unfold Clk.gHi; omega
    simp [h, Clk.rLo, Clk.rHi, Clk.rE, g]
  · have g : gOk lo hi d l = true := by simp [gOk, Clk.vB_iff, Clk.inB_iff]; omega
    simp [h, GLo, GHi, GE, g]
theorem rat_yes (d r lo hi x : Int) (w : World) (c : Clk.CInv d r lo hi) (l0 : 0 ≤ lo) (h : r ≤ x ∧ x ≤ 1073741824) :
    Calls Tryz.prog 44 #[.agg #[.int .i64 d, .int .i64 r, .bool true, .int .i64 lo, .int .i64 hi], .int .i64 x] w fun e w' => e = .returned (.tuple #[.agg #[.int .i64 (Clk.rLo lo hi d (x - r)), .int .i64 (Clk.rHi hi d (x - r))], .int .i64 (Clk.rE hi d (x - r))]) ∧ Below w.heap.size w w' := by
  obtain ⟨c1, c2, c3, c4, c5, c6, c7⟩ := c
  obtain ⟨e1, e2, e3⟩ := rg_eq (lo := lo) (hi := hi) (d := d) (l := x - r) l0 c6 c7 c1 c2 Cb
  have R := Lib.hid (fun W : World => rgrow_any lo hi d (x - r) W)
  rw [e1, e2, e3] at R
  clear e1 e2 e3
  go_enter Tryz.func44, Tryz.ntmps44
  go_wp2_with fail
  refine (R.out _).mono ?_
  rintro e w1 ⟨rfl, hb⟩
  have hz := hb.size; simp at hz
  have ca0_0 := (bcell hb).1 (w.heap.size) 0 Ba; have fa0_0 := (bcell hb).2 (w.heap.size) 0 Ba; have ca0_1 := (bcell hb).1 (w.heap.size) 1 Ba; have fa0_1 := (bcell hb).2 (w.heap.size) 1 Ba; have ca0_2 := (bcell hb).1 (w.heap.size) 2 Ba; have fa0_2 := (bcell hb).2 (w.heap.size) 2 Ba; have ca0_3 := (bcell hb).1 (w.heap.size) 3 Ba; have fa0_3 := (bcell hb).2 (w.heap.size) 3 Ba; have ca0_4 := (bcell hb).1 (w.heap.size) 4 Ba; have fa0_4 := (bcell hb).2 (w.heap.size) 4 Ba; have ca1_0 := (bcell hb).1 (w.heap.size + 1) 0 Ba; have fa1_0 := (bcell hb).2 (w.heap.size + 1) 0 Ba; have ca1_1 := (bcell hb).1 (w.heap.size + 1) 1 Ba; have fa1_1 := (bcell hb).2 (w.heap.size + 1) 1 Ba; try simp [go_sem] at ca0_0 fa0_0 ca0_1 fa0_1 ca0_2 fa0_2 ca0_3 fa0_3 ca0_4 fa0_4 ca1_0 fa1_0 ca1_1 fa1_1
  go_wp2_with fail
  refine bodyPost_ret (v := .tuple #[.agg #[.int .i64 (Clk.rLo lo hi d (x - r)), .int .i64 (Clk.rHi hi d (x - r))], .int .i64 (Clk.rE hi d (x - r))]) ?_ rfl ⟨rfl, A9⟩
  simp [results, Tryz.results44, go_sem, *]
theorem rat_any (d r : Int) (s : Bool) (lo hi x : Int) (w : World) (c : Clk.CInv d r lo hi) (l0 : s = true → 0 ≤ lo) :
    Calls Tryz.prog 44 #[.agg #[.int .i64 d, .int .i64 r, .bool s, .int .i64 lo, .int .i64 hi], .int .i64 x] w fun e w' => e = .returned (.tuple #[.agg #[.int .i64 (aLo d r s lo hi x), .int .i64 (aHi d r s hi x)], .int .i64 (aE d r s hi x)]) ∧ Below w.heap.size w w' := by
  cases s with
  | false =>
    refine (rat_none d r lo hi x w).mono ?_
    rintro e w' ⟨rfl, hb⟩
    exact ⟨by simp [aLo, aHi, aE, aOk], hb⟩
  | true =>
    by_cases h : r ≤ x ∧ x ≤ 1073741824
    · refine (rat_yes d r lo hi x w c (l0 rfl) h).mono ?_
      rintro e w' ⟨rfl, hb⟩
      exact ⟨by simp [aLo, aHi, aE, aOk, Clk.inB_iff.2 h], hb⟩
    · refine (rat_range d r lo hi x w h).mono ?_
      rintro e w' ⟨rfl, hb⟩
      exact ⟨by simp [aLo, aHi, aE, aOk, Clk.inB_no.2 h], hb⟩
end Go.Proofs.YtdocdgcdldpagaaGreat.Ck
namespace Go.Proofs.YtdocdgcdldpagaaGreat
open Go.RowKit
set_option maxHeartbeats 4000000
set_option maxRecDepth 100000
set_option linter.unusedSimpArgs false
set_option linter.unusedVariables false
attribute [local go_sem ↓] Go.wp_at_zero Go.wp_at_succ
def pcl (s : Plt.St) (c : Nat) : List Value := [.int .i64 s.id, .int .i64 s.lost, .int .i64 s.ret, .int .i64 s.desc, .int .i64 s.late, .int .i64 s.every, .pointer (some ⟨c, 0, none⟩), .int .i64 s.st, .bool s.begun, .bool s.loaded, .bool s.given, .bool s.asked, .int .i64 s.now, .int .i64 s.heard, .int .i64 s.since, .int .i64 s.prog, .int .i64 s.start, .int .i64 s.reports, .int .i64 s.rep]
structure IsP (w : World) (base b c : Nat) (s : Plt.St) : Prop where
  blk : w.heap[b]? = some (.cells (pcl s c).toArray 168 (0, 0))
  clk : Ck.IsClk w c s.d s.r true s.cs s.lo s.hi
  ge : base ≤ b ∧ base ≤ c
section
variable {w w' : World} {base b c : Nat} {s : Plt.St}
theorem IsP.lt (h : IsP w base b c s) : b < w.heap.size ∧ c < w.heap.size := ⟨lt_of_block h.blk, Ck.clk_lt h.clk⟩
theorem IsP.ne (h : IsP w base b c s) : b ≠ c := Ty.ne ⟨_, h.blk⟩ ⟨_, h.clk⟩ C8
theorem IsP.away (h : IsP w base b c s) {i : Nat} {e : TypeId} (g : Ty w i e) (h1 : e ≠ 168) (h2 : e ≠ 213) : i ≠ b ∧ i ≠ c := ⟨g.ne ⟨_, h.blk⟩ h1, g.ne ⟨_, h.clk⟩ h2⟩
theorem IsP.kept {S : Nat → Prop} (h : IsP w base b c s) (k : Keeps S w w') (hb : ¬ S b) (hc : ¬ S c) : IsP w' base b c s := ⟨blk_keep h.blk k hb, blk_keep h.clk k hc, h.ge⟩
theorem IsP.below {B : Nat} (h : IsP w base b c s) (k : Below B w w') (hB : w.heap.size ≤ B) : IsP w' base b c s :=
  ⟨blk_below h.blk k (by have := h.lt; omega), Ck.clk_below h.clk k (by have := h.lt; omega), h.ge⟩
theorem IsP.alloc (h : IsP w base b c s) (o : Obj) : IsP (w.alloc o) base b c s := ⟨blk_alloc h.blk o, blk_alloc h.clk o, h.ge⟩
theorem IsP.drewN (h : IsP w base b c s) (q : Nat) : IsP (w.drewN q) base b c s := ⟨h.blk, h.clk, h.ge⟩
theorem IsP.clk_kept (h : IsP w base b c s) (k : Keeps (fun i => i = b) w w') : Ck.IsClk w' c s.d s.r true s.cs s.lo s.hi := blk_keep h.clk k (fun e => h.ne e.symm)
theorem pnone_any (h : IsP w base b c s) (hs : Plt.Inv s) :
    Calls Tryz.prog 96 #[.pointer (some ⟨b, 0, none⟩)] w fun e w' => e = .returned (.bool false) ∧ w = w' := by
  have c0 : w.cell? ⟨b, 0, none⟩ = some (.int .i64 s.id) := blk_cell h.blk 0 rfl
  have z : (s.id == 0) = false := by rw [beq_eq_false_iff_ne]; have := hs.id; omega
  clear h hs
  go_enter Tryz.func96, Tryz.ntmps96
  go_wp2_with fail
  go_ret
  exact ⟨rfl, rfl⟩
theorem pwithin_any (n a b : Int) (w : World) :
    Calls Tryz.prog 73 #[.int .i64 n, .int .i64 a, .int .i64 b] w fun e w' => e = .returned (.bool (Ck.Clk.inB n a b)) ∧ w = w' := by
  by_cases h : a ≤ n
  all_goals
    go_enter Tryz.func73, Tryz.ntmps73
    go_wp2_with fail
    go_ret
    exact ⟨ret_bool (by simp [Ck.Clk.inB, h]; try omega), rfl⟩
theorem rto_any (n a b : Int) (w : World) :
    Calls Tryz.prog 75 #[.int .i64 n, .int .i64 a, .int .i64 b] w fun e w' => e = .returned (.bool (Ck.Clk.inB n a b)) ∧ w = w' := by
  by_cases h : a ≤ n
  all_goals
    go_enter Tryz.func75, Tryz.ntmps75
    go_wp2_with fail
    go_ret
    exact ⟨ret_bool (by simp [Ck.Clk.inB, h]; try omega), rfl⟩
theorem Dc {p : Prop} (h : p := by
  go_enter Tryz.func161, Tryz.ntmps161
  go_wp2_with fail
  go_returns
  refine ⟨rfl, ?_, by (repeat (first | with_reducible exact Keeps.refl _ _ | (with_reducible refine Keeps.set1 ?_ _ _) | (with_reducible refine Keeps.drew ?_) | (with_reducible refine Keeps.drewN ?_ _) | (with_reducible refine Keeps.alloc ?_ _)))⟩
  rw [E.out, HF.out]
  exact ⟨by simp only [pcl]; exact Aa, H.out.clk_kept Ai, H.out.ge⟩
 ) : p := h
theorem enter_any (h : IsP w base b c s) (x t : Int) :
    Calls Tryz.prog 161 #[.pointer (some ⟨b, 0, none⟩), .int .i64 x, .int .i64 t] w fun e w' => e = .returned (.tuple #[]) ∧ IsP w' base b c (Plt.ent s x t) ∧ Keeps (fun i => i = b) w w' := by
  have H := Lib.hid h
  have hk := h.blk
  simp only [pcl] at hk
  clear h
  have ca_0 := blk_cell hk 0 rfl; have fa_0 := blk_free hk 0; have ca_1 := blk_cell hk 1 rfl; have fa_1 := blk_free hk 1; have ca_2 := blk_cell hk 2 rfl; have fa_2 := blk_free hk 2; have ca_3 := blk_cell hk 3 rfl; have fa_3 := blk_free hk 3; have ca_4 := blk_cell hk 4 rfl; have fa_4 := blk_free hk 4; have ca_5 := blk_cell hk 5 rfl; have fa_5 := blk_free hk 5; have ca_6 := blk_cell hk 6 rfl; have fa_6 := blk_free hk 6; have ca_7 := blk_cell hk 7 rfl; have fa_7 := blk_free hk 7; have ca_8 := blk_cell hk 8 rfl; have fa_8 := blk_free hk 8; have ca_9 := blk_cell hk 9 rfl; have fa_9 := blk_free hk 9; have ca_10 := blk_cell hk 10 rfl; have fa_10 := blk_free hk 10; have ca_11 := blk_cell hk 11 rfl; have fa_11 := blk_free hk 11; have ca_12 := blk_cell hk 12 rfl; have fa_12 := blk_free hk 12; have ca_13 := blk_cell hk 13 rfl; have fa_13 := blk_free hk 13; have ca_14 := blk_cell hk 14 rfl; have fa_14 := blk_free hk 14; have ca_15 := blk_cell hk 15 rfl; have fa_15 := blk_free hk 15; have ca_16 := blk_cell hk 16 rfl; have fa_16 := blk_free hk 16; have ca_17 := blk_cell hk 17 rfl; have fa_17 := blk_free hk 17; have ca_18 := blk_cell hk 18 rfl; have fa_18 := blk_free hk 18; have la := lt_of_block hk
  by_cases hx : s.st = x
  · have E := Lib.hid (show Plt.ent s x t = s by unfold Plt.ent; rw [if_pos hx])
    have z : (s.st == x) = true := by rw [beq_iff_eq]; exact hx
    clear hx
    go_enter Tryz.func161, Tryz.ntmps161
    go_wp2_with fail
    go_returns
    exact ⟨rfl, by rw [E.out]; exact H.out, Keeps.refl _ _⟩
  · have z : (s.st == x) = false := by rw [beq_eq_false_iff_ne]; exact hx
    have E := Lib.hid (show Plt.ent s x t = { s with st := x, since := t, given := if Plt.fgt x then false else s.given, start := if Plt.fgt x then 0 else s.start } by unfold Plt.ent; rw [if_neg hx])
    clear hx
    cases hf : Plt.fgt x
    · have hf' := hf
      unfold Plt.fgt at hf'
      simp only [Bool.or_eq_false_iff, decide_eq_false_iff_not] at hf'
      have z1 : (x == 1) = false := by rw [beq_eq_false_iff_ne]; exact hf'.1.1
      have z2 : (x == 2) = false := by rw [beq_eq_false_iff_ne]; exact hf'.1.2
      have z7 : (x == 7) = false := by rw [beq_eq_false_iff_ne]; exact hf'.2
      have HF := Lib.hid hf
      clear hf hf'
      exact Dc
    · have hf' := hf
      unfold Plt.fgt at hf'
      simp only [Bool.or_eq_true, decide_eq_true_eq] at hf'
      have HF := Lib.hid hf
      clear hf
      have key : x = 1 ∨ x = 2 ∨ x = 7 := by omega
      clear hf'
      rcases key with rfl | rfl | rfl
      all_goals
        exact Dc
theorem check_any (h : IsP w base b c s) (l : Int) :
    Calls Tryz.prog 138 #[.pointer (some ⟨b, 0, none⟩), .int .i64 l] w fun e w' => e = .returned (.int .i64 (Plt.timE s l)) ∧ w = w' := by
  have c8 : w.cell? ⟨b, 8, none⟩ = some (.bool s.begun) := blk_cell h.blk 8 rfl
  have c12 : w.cell? ⟨b, 12, none⟩ = some (.int .i64 s.now) := blk_cell h.blk 12 rfl
  have E := Lib.hid (rfl : Plt.timE s l = Plt.timE s l)
  clear h
  cases hi : Ck.Clk.inB l (-1073741824) 1073741824
  · have W := Lib.hid (fun w => by have := pwithin_any l (-1073741824) 1073741824 w; rw [hi] at this; exact this)
    have HI := Lib.hid hi
    clear hi
    go_enter Tryz.func138, Tryz.ntmps138
    go_wp2_with (refine (W.out _).mono ?_; rintro e w' ⟨rfl, rfl⟩)
    go_ret
    exact ⟨ret_int (by unfold Plt.timE; rw [if_neg (fun h => by have := h.1; rw [HI.out] at this; cases this)]), rfl⟩
  · have W := Lib.hid (fun w => by have := pwithin_any l (-1073741824) 1073741824 w; rw [hi] at this; exact this)
    have HI := Lib.hid hi
    clear hi
    cases hb : s.begun
    · rw [hb] at c8
      have HB := Lib.hid hb
      clear hb
      go_enter Tryz.func138, Tryz.ntmps138
      go_wp2_with (refine (W.out _).mono ?_; rintro e w' ⟨rfl, rfl⟩)
      go_ret
      exact ⟨ret_int (by unfold Plt.timE; rw [if_pos ⟨HI.out, fun e => by rw [HB.out] at e; cases e⟩]), rfl⟩
    · rw [hb] at c8
      have HB := Lib.hid hb
      clear hb
      by_cases hl : s.now ≤ l
      · have z : decide (l < s.now) = false := decide_eq_false Cb
        have HL := Lib.hid hl
        clear hl
        go_enter Tryz.func138, Tryz.ntmps138
        go_wp2_with (refine (W.out _).mono ?_; rintro e w' ⟨rfl, rfl⟩)
        go_ret
        exact ⟨ret_int (by unfold Plt.timE; rw [if_pos ⟨HI.out, fun _ => HL.out⟩]), rfl⟩
      · have z : decide (l < s.now) = true := decide_eq_true Cb
        have HL := Lib.hid hl
        clear hl
        go_enter Tryz.func138, Tryz.ntmps138
        go_wp2_with (refine (W.out _).mono ?_; rintro e w' ⟨rfl, rfl⟩)
        go_ret
        exact ⟨ret_int (by unfold Plt.timE; rw [if_neg (fun h => absurd (h.2 HB.out) (by have := HL.out; omega))]), rfl⟩
end
end Go.Proofs.YtdocdgcdldpagaaGreat
namespace Go.Proofs.YtdocdgcdldpagaaGreat
open Go.RowKit
set_option maxHeartbeats 4000000
set_option maxRecDepth 100000
set_option linter.unusedSimpArgs false
set_option linter.unusedVariables false
attribute [local go_sem ↓] Go.wp_at_zero Go.wp_at_succ
theorem run_mx {P : Program} {w : World} (ts : Array TypeId) (t : TypeId) (k k' : IntKind) (x y : Int) : (Builtin.max_ ts t #[.int k x, .int k' y]).run P w = .ok (.int k (max x y)) w := by
  simp [Builtin.max_, Builtin.max2]
  split <;> omega
theorem run_mn {P : Program} {w : World} (ts : Array TypeId) (t : TypeId) (k k' : IntKind) (x y : Int) : (Builtin.min_ ts t #[.int k x, .int k' y]).run P w = .ok (.int k (min x y)) w := by
  simp [Builtin.min_, Builtin.min2]
  split <;> omega
attribute [local go_sem high] run_mn run_mx
theorem ret_iib {a b c d : Int} {x y : Bool} (h : a = b) (g : c = d) (i : x = y) : Ending.returned (.tuple #[.int .i64 a, .int .i64 c, .bool x]) = .returned (.tuple #[.int .i64 b, .int .i64 d, .bool y]) := by rw [h, g, i]
section
variable {w w' : World} {base b c : Nat} {s : Plt.St}
theorem evt_eq {s : Plt.St} {a t : Int} {f : Bool} (h : Plt.evt s = (a, t, f)) : (Plt.evt s).1 = a ∧ (Plt.evt s).2.1 = t ∧ (Plt.evt s).2.2 = f := by rw [h]; exact ⟨rfl, rfl, rfl⟩
theorem Df {p : Prop} (h : p := by
  go_quiet (fail)
  go_wp2_with fail
  go_returns
  exact ⟨ret_iib E.out.1.symm E.out.2.1.symm E.out.2.2.symm, A9⟩
 ) : p := h
theorem Dd {p : Prop} (h : p := by
  go_enter Tryz.func160, Tryz.ntmps160
  go_wp2_with fail
  go_quiet (fail)
  go_wp2_with fail
  go_region_held3 (fun w' => w'.cell? ⟨b, 6, none⟩ = some (.pointer (some ⟨c, 0, none⟩)) ∧ w'.cell? ⟨b, 16, none⟩ = some (.int .i64 s.start)) (first | (refine ⟨?_, ?_⟩ <;> simp [go_sem, *]; done) | go_keep) (first | (go_at_call 175; refine (SU.out _ Av).mono ?_; rintro e w4 ⟨rfl, hb4⟩; have hz4 := hb4.size; (try simp at hz4); have H4 := Lib.hid (show IsP w4 base b c s by first | exact H.out.below hb4 (Nat.le_refl _) | exact (H.out.drewN _).below hb4 (Nat.le_refl _)); have e6 : w4.cell? ⟨b, 6, none⟩ = some (.pointer (some ⟨c, 0, none⟩)) := blk_cell H4.out.blk 6 rfl; have e16 : w4.cell? ⟨b, 16, none⟩ = some (.int .i64 s.start) := blk_cell H4.out.blk 16 rfl; have e14 : w4.cell? ⟨b, 14, none⟩ = some (.int .i64 s.since) := blk_cell H4.out.blk 14 rfl; have HB4 := Lib.hid (show Below w.heap.size w w4 from A9); clear hb4))
  go_wp2_with fail
  refine (AT.out _ H4.out.clk).mono ?_; rintro e w5 ⟨rfl, hb5⟩; have H5 := Lib.hid (H4.out.below hb5 (Nat.le_refl _)); have g16 : w5.cell? ⟨b, 16, none⟩ = some (.int .i64 s.start) := blk_cell H5.out.blk 16 rfl; have g4 : w5.cell? ⟨b, 4, none⟩ = some (.int .i64 s.late) := blk_cell H5.out.blk 4 rfl; have hb5' : b ≠ w5.heap.size := (by have := hb5.size; omega); have HB5 := Lib.hid (show Below w.heap.size w w5 from HB4.out.trans (hb5.mono hz4)); clear hb5 hz4 e6 e16 e14
  go_wp2_with fail
  generalize hV : World.alloc _ _ = V; have kV : V.heap[w5.heap.size]? = some (.cells #[.int .i64 (Ck.aLo s.d s.r s.cs s.lo s.hi y), .int .i64 g] 65 (0, 0)) := Bd; have HV := (show IsP V base b c s by rw [← hV]; exact H5.out.alloc _); have q1 : V.cell? ⟨w5.heap.size, 1, none⟩ = some (.int .i64 g) := blk_cell kV 1 rfl; have v16 : V.cell? ⟨b, 16, none⟩ = some (.int .i64 s.start) := blk_cell HV.blk 16 rfl; have v4 : V.cell? ⟨b, 4, none⟩ = some (.int .i64 s.late) := blk_cell HV.blk 4 rfl; have HBV : Below w.heap.size w V := Au; clear hV HV kV
  exact Df
 ) : p := h
theorem De {p : Prop} (h : p := by
  go_enter Tryz.func160, Tryz.ntmps160
  go_wp2_with fail
  go_quiet (fail)
  go_wp2_with fail
  go_region_held3 (fun w' => w'.cell? ⟨b, 6, none⟩ = some (.pointer (some ⟨c, 0, none⟩)) ∧ w'.cell? ⟨b, 16, none⟩ = some (.int .i64 s.start)) (first | (refine ⟨?_, ?_⟩ <;> simp [go_sem, *]; done) | go_keep) (first | (go_at_call 175; refine (SU.out _ Av).mono ?_; rintro e w4 ⟨rfl, hb4⟩; have hz4 := hb4.size; (try simp at hz4); have H4 := Lib.hid (show IsP w4 base b c s by first | exact H.out.below hb4 (Nat.le_refl _) | exact (H.out.drewN _).below hb4 (Nat.le_refl _)); have e6 : w4.cell? ⟨b, 6, none⟩ = some (.pointer (some ⟨c, 0, none⟩)) := blk_cell H4.out.blk 6 rfl; have e16 : w4.cell? ⟨b, 16, none⟩ = some (.int .i64 s.start) := blk_cell H4.out.blk 16 rfl; have e14 : w4.cell? ⟨b, 14, none⟩ = some (.int .i64 s.since) := blk_cell H4.out.blk 14 rfl; have HB4 := Lib.hid (show Below w.heap.size w w4 from A9); clear hb4))
  go_wp2_with fail
  go_returns
  exact ⟨ret_iib E.out.1.symm E.out.2.1.symm E.out.2.2.symm, HB4.out⟩
 ) : p := h
theorem Dg {p : Prop} (h : p := by
  go_enter Tryz.func160, Tryz.ntmps160
  go_wp2_with fail
  exact Df
 ) : p := h
theorem event_any (h : IsP w base b c s) (hs : Plt.Inv s) :
    Calls Tryz.prog 160 #[.pointer (some ⟨b, 0, none⟩)] w fun e w' => e = .returned (.tuple #[.int .i64 (Plt.evt s).1, .int .i64 (Plt.evt s).2.1, .bool (Plt.evt s).2.2]) ∧ Below w.heap.size w w' := by
  have H := Lib.hid h
  have c1 : w.cell? ⟨b, 1, none⟩ = some (.int .i64 s.lost) := blk_cell h.blk 1 rfl
  have c2 : w.cell? ⟨b, 2, none⟩ = some (.int .i64 s.ret) := blk_cell h.blk 2 rfl
  have c3 : w.cell? ⟨b, 3, none⟩ = some (.int .i64 s.desc) := blk_cell h.blk 3 rfl
  have c4 : w.cell? ⟨b, 4, none⟩ = some (.int .i64 s.late) := blk_cell h.blk 4 rfl
  have c6 : w.cell? ⟨b, 6, none⟩ = some (.pointer (some ⟨c, 0, none⟩)) := blk_cell h.blk 6 rfl
  have c7 : w.cell? ⟨b, 7, none⟩ = some (.int .i64 s.st) := blk_cell h.blk 7 rfl
  have c13 : w.cell? ⟨b, 13, none⟩ = some (.int .i64 s.heard) := blk_cell h.blk 13 rfl
  have c14 : w.cell? ⟨b, 14, none⟩ = some (.int .i64 s.since) := blk_cell h.blk 14 rfl
  have c16 : w.cell? ⟨b, 16, none⟩ = some (.int .i64 s.start) := blk_cell h.blk 16 rfl
  have hblt := h.lt.1
  have h1 := hs.heard
  have h2 := hs.since
  have h3 := hs.lost
  have h4 := hs.ret
  have h5 := hs.desc
  have h6 := hs.start
  have h7 := hs.late
  have wl : IntKind.i64.wrap (s.heard + s.lost) = s.heard + s.lost := IntWalk.i64_in _ Cb
  have wr : IntKind.i64.wrap (s.heard + s.ret) = s.heard + s.ret := IntWalk.i64_in _ Cb
  have wd : IntKind.i64.wrap (s.since + s.desc) = s.since + s.desc := IntWalk.i64_in _ Cb
  have wt : IntKind.i64.wrap (s.start + s.late) = s.start + s.late := IntWalk.i64_in _ Cb
  have HW := Lib.hid (Plt.wat_bd hs)
  have SU := Lib.hid (fun (W : World) (hW : Ck.IsClk W c s.d s.r true s.cs s.lo s.hi) => Ck.sure_any c s.d s.r s.cs s.lo s.hi s.start W hW hs.clk)
  have AT := Lib.hid (fun (W : World) (x : Int) (hW : Ck.IsClk W c s.d s.r true s.cs s.lo s.hi) => Ck.at_any c s.d s.r s.cs s.lo s.hi x W hW hs.clk)
  have CK := Lib.hid h.clk
  clear h hs
  by_cases e2 : s.st = 2
  · have E := Lib.hid (evt_eq (show Plt.evt s = (s.heard + s.lost, 1, true) by unfold Plt.evt; rw [if_pos e2]))
    rw [e2] at c7
    clear e2
    exact Dg
  by_cases e4 : s.st = 4
  · have E := Lib.hid (evt_eq (show Plt.evt s = (s.heard + s.lost, 5, true) by unfold Plt.evt; rw [if_neg e2, if_pos e4]))
    rw [e4] at c7
    clear e2 e4
    exact Dg
  by_cases e5 : s.st = 5
  · have E := Lib.hid (evt_eq (show Plt.evt s = (max (s.heard + s.ret) s.since, 6, true) by unfold Plt.evt; rw [if_neg e2, if_neg e4, if_pos e5]))
    rw [e5] at c7
    clear e2 e4 e5
    go_enter Tryz.func160, Tryz.ntmps160
    go_wp2_with fail
    go_quiet (fail)
    go_wp2_with fail
    exact Df
  by_cases e6 : s.st = 6
  · have E := Lib.hid (evt_eq (show Plt.evt s = (s.since + s.desc, 7, true) by unfold Plt.evt; rw [if_neg e2, if_neg e4, if_neg e5, if_pos e6]))
    rw [e6] at c7
    clear e2 e4 e5 e6
    go_enter Tryz.func160, Tryz.ntmps160
    go_wp2_with fail
    go_quiet (fail)
    go_wp2_with fail
    exact Df
  by_cases e3 : s.st = 3
  · have EW := Lib.hid (show Plt.evt s = Plt.wev s by unfold Plt.evt; rw [if_neg e2, if_neg e4, if_neg e5, if_neg e6, if_pos e3])
    rw [e3] at c7
    clear e2 e3 e4 e5 e6
    have hm : max (Ck.Clk.suV s.d s.r s.cs s.lo s.start) s.since = Plt.wat s := rfl
    obtain ⟨u, hu⟩ : ∃ u, u = Ck.Clk.suE s.d s.r s.cs s.lo s.start := ⟨_, rfl⟩
    obtain ⟨x, hx⟩ : ∃ x, x = Ck.Clk.suV s.d s.r s.cs s.lo s.start := ⟨_, rfl⟩
    obtain ⟨y, hy⟩ : ∃ y, y = Plt.wat s := ⟨_, rfl⟩
    rw [← hx, ← hy] at hm
    by_cases hA : u ≠ 0 ∨ s.heard + s.lost ≤ y
    · have E := Lib.hid (evt_eq (show Plt.evt s = (s.heard + s.lost, 1, true) by rw [EW.out]; unfold Plt.wev; rw [if_pos (by rw [← hu, ← hy]; exact hA)]))
      rw [← hu, ← hx] at SU
      clear EW AT hu hx hy HW
      by_cases hu0 : u = 0
      · have z1 : decide (s.heard + s.lost ≤ y) = true := decide_eq_true Cb
        subst hu0
        clear hA
        exact De
      · have z1 : (u == 0) = false := by rw [beq_eq_false_iff_ne]; exact hu0
        have z2 : (u != 0) = true := by simpa using hu0
        clear hA hu0
        exact De
    · have hn0 : u = 0 := by omega
      have hn1 : ¬ (s.heard + s.lost ≤ y) := fun h => hA (.inr h)
      have hA' := Lib.hid hA
      have EW2 := Lib.hid (show Plt.evt s = if Ck.aE s.d s.r s.cs s.hi (Plt.wat s) ≠ 0 ∨ s.start + s.late < Ck.aHi s.d s.r s.cs s.hi (Plt.wat s) then (Plt.wat s, 1, true) else (Plt.wat s, 4, true) by rw [EW.out]; unfold Plt.wev; rw [if_neg (by rw [← hu, ← hy]; exact hA)])
      rw [← hy] at EW2
      have AT := Lib.hid (fun (W : World) (hW : Ck.IsClk W c s.d s.r true s.cs s.lo s.hi) => AT.out W y hW)
      rw [← hu, ← hx, hn0] at SU
      have z1 : decide (s.heard + s.lost ≤ y) = false := decide_eq_false hn1
      clear EW hA hu hx hy HW hA' hn0 hn1
      obtain ⟨v, hv⟩ : ∃ v, v = Ck.aE s.d s.r s.cs s.hi y := ⟨_, rfl⟩
      obtain ⟨g, hg⟩ : ∃ g, g = Ck.aHi s.d s.r s.cs s.hi y := ⟨_, rfl⟩
      rw [← hv, ← hg] at AT EW2
      clear hv hg
      by_cases hv0 : v = 0
      · subst hv0
        by_cases hg0 : s.start + s.late < g
        · have E := Lib.hid (evt_eq (show Plt.evt s = (y, 1, true) by rw [EW2.out, if_pos (.inr hg0)]))
          have z2 : decide (s.start + s.late < g) = true := decide_eq_true hg0
          clear EW2 hg0
          exact Dd
        · have E := Lib.hid (evt_eq (show Plt.evt s = (y, 4, true) by rw [EW2.out, if_neg (fun h => by rcases h with h | h; exact h rfl; exact hg0 h)]))
          have z2 : decide (s.start + s.late < g) = false := decide_eq_false hg0
          clear EW2 hg0
          exact Dd
      · have E := Lib.hid (evt_eq (show Plt.evt s = (y, 1, true) by rw [EW2.out, if_pos (.inl hv0)]))
        have z2 : (v == 0) = false := by rw [beq_eq_false_iff_ne]; exact hv0
        have z3 : (v != 0) = true := by simpa using hv0
        clear EW2 hv0
        exact Dd
  · have E := Lib.hid (evt_eq (show Plt.evt s = (0, 0, false) by unfold Plt.evt; rw [if_neg e2, if_neg e4, if_neg e5, if_neg e6, if_neg e3]))
    have z2 : (s.st == 2) = false := by rw [beq_eq_false_iff_ne]; exact e2
    have z3 : (s.st == 3) = false := by rw [beq_eq_false_iff_ne]; exact e3
    have z4 : (s.st == 4) = false := by rw [beq_eq_false_iff_ne]; exact e4
    have z5 : (s.st == 5) = false := by rw [beq_eq_false_iff_ne]; exact e5
    have z6 : (s.st == 6) = false := by rw [beq_eq_false_iff_ne]; exact e6
    clear e2 e3 e4 e5 e6
    exact Dg
end
end Go.Proofs.YtdocdgcdldpagaaGreat

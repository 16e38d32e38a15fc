/- What adding an exchange leaves. -/
import Derived.Test.YtjidchaejicjaaaCkA
namespace Go.Proofs.Ytjidchaejicjaaa.Ck
open Go.RowKit
set_option maxHeartbeats 4000000
set_option linter.unusedSimpArgs false
set_option linter.unusedVariables false
set_option maxRecDepth 100000
/-- what adding an exchange leaves -/
def AddPost (w : World) (b : Nat) (d r : Int) (s : Bool) (lo hi a g k h : Int) (e : Ending) (w' : World) : Prop :=
  e = .returned (.int .i64 (Clk.addE d r s lo hi a g k h)) ∧ IsClk w' b d (Clk.addR d r s lo hi a g k h) true (Clk.addS d r s lo hi a g k h) (Clk.addLo d r s lo hi a g k h) (Clk.addHi d r s lo hi a g k h) ∧ w.grownBy w' (some b)
theorem post_err {w w' : World} {b : Nat} {d r : Int} {s : Bool} {lo hi a g k h n : Int} (hE : Clk.addE d r s lo hi a g k h = n) (hn : n ≠ 0) (hk : IsClk w' b d r true s lo hi) (hg : w.grownBy w' (some b)) : AddPost w b d r s lo hi a g k h (.returned (.int .i64 n)) w' := by
  have : ¬ Clk.addE d r s lo hi a g k h = 0 := by omega
  exact ⟨by rw [hE], by rw [Clk.addR, Clk.addS, Clk.addLo, Clk.addHi, if_neg this, if_neg this, if_neg this, if_neg this]; exact hk, hg⟩
theorem post_ok {w w' : World} {b : Nat} {d r : Int} {s : Bool} {lo hi a g k h x y : Int} (hE : Clk.addE d r s lo hi a g k h = 0) (h1 : Clk.nLo d r s lo hi k h = x) (h2 : Clk.nHi d r s hi a g h = y) (hk : IsClk w' b d h true true x y) (hg : w.grownBy w' (some b)) : AddPost w b d r s lo hi a g k h (.returned (.int .i64 0)) w' :=
  ⟨by rw [hE], by rw [Clk.addR, Clk.addS, Clk.addLo, Clk.addHi, if_pos hE, if_pos hE, if_pos hE, if_pos hE, h1, h2]; exact hk, hg⟩
/-- behind the exchange's own bounds -/
def AddCut (w : World) (b : Nat) (d r : Int) (s : Bool) (lo hi a g k h : Int) (s5 s6 : Value) (wx : World) : Prop :=
  ∃ q : Nat, s5 = .pointer (some ⟨q, 0, none⟩) ∧ s6 = .int .i64 (Clk.rE g d (h - a)) ∧ IsClk wx b d r true s lo hi ∧ wx.heap[w.heap.size]? = some (.cells #[.int .i64 a, .int .i64 g, .int .i64 k, .int .i64 h] 109 (0, 0)) ∧
    wx.heap[q]? = some (.cells #[.int .i64 (Clk.rLo g g d (h - a)), .int .i64 (Clk.rHi g d (h - a))] 47 (0, 0)) ∧ w.heap.size < q ∧ Below w.heap.size w wx
/-- behind the grown bounds -/
def NextCut (wc : World) (b : Nat) (d r : Int) (lo hi a g k h : Int) (q z : Nat) (s8 s9 : Value) (wy : World) : Prop :=
  ∃ p : Nat, s8 = .pointer (some ⟨p, 0, none⟩) ∧ s9 = .int .i64 (Clk.rE hi d (h - r)) ∧ IsClk wy b d r true true lo hi ∧ wy.heap[z]? = some (.cells #[.int .i64 a, .int .i64 g, .int .i64 k, .int .i64 h] 109 (0, 0)) ∧
    wy.heap[q]? = some (.cells #[.int .i64 (Clk.rLo g g d (h - a)), .int .i64 (Clk.rHi g d (h - a))] 47 (0, 0)) ∧ wy.heap[wc.heap.size]? = some (.cells #[.int .i64 (Clk.rLo g g d (h - a)), .int .i64 (Clk.rHi g d (h - a))] 47 (0, 0)) ∧
    wy.heap[p]? = some (.cells #[.int .i64 (Clk.rLo lo hi d (h - r)), .int .i64 (Clk.rHi hi d (h - r))] 47 (0, 0)) ∧ wc.heap.size < p ∧ Below wc.heap.size wc wy
end Go.Proofs.Ytjidchaejicjaaa.Ck
/- Adding an exchange to a clock: one case. -/
namespace Go.Proofs.Ytjidchaejicjaaa.Ck
open Go.RowKit
set_option maxHeartbeats 4000000
set_option linter.unusedSimpArgs false
set_option linter.unusedVariables false
set_option maxRecDepth 100000
theorem add_bad (b : Nat) (d r : Int) (s : Bool) (lo hi a g k h : Int) (w : World) (hk : IsClk w b d r true s lo hi) (x : ¬ (-1073741824 ≤ a ∧ a ≤ h ∧ h ≤ 1073741824 ∧ 0 ≤ g ∧ g ≤ k ∧ k ≤ 3600000)) :
    Calls Try.prog 59 #[.pointer (some ⟨b, 0, none⟩), .agg #[.int .i64 a, .int .i64 g, .int .i64 k, .int .i64 h]] w fun e w' => AddPost w b d r s lo hi a g k h e w' := by
  have X := Clk.addE_bad (d := d) (r := r) (s := s) (lo := lo) (hi := hi) (show Clk.xOk a g k h = false from by have := (not_congr (Clk.xOk_iff (a := a) (g := g) (k := k) (h := h))).2 x; simpa using this)
  have X := Lib.hid X
  obtain ⟨q0, q1, q2, q3, q4, q5⟩ := clk_cells hk; obtain ⟨z0, z1, z2, z3, z4, z5⟩ := clk_free hk; have hlt := clk_lt hk
  have x' : (a < -1073741824) ∨ (-1073741824 ≤ a ∧ h < a) ∨ (-1073741824 ≤ a ∧ a ≤ h ∧ 1073741824 < h) ∨ (-1073741824 ≤ a ∧ a ≤ h ∧ h ≤ 1073741824 ∧ g < 0) ∨ (-1073741824 ≤ a ∧ a ≤ h ∧ h ≤ 1073741824 ∧ 0 ≤ g ∧ k < g) ∨ (-1073741824 ≤ a ∧ a ≤ h ∧ h ≤ 1073741824 ∧ 0 ≤ g ∧ g ≤ k ∧ 3600000 < k) := by omega
  clear x
  rcases x' with x | ⟨x1, x2⟩ | ⟨x1, x2, x3⟩ | ⟨x1, x2, x3, x4⟩ | ⟨x1, x2, x3, x4, x5⟩ | ⟨x1, x2, x3, x4, x5, x6⟩
  all_goals
    go_enter Try.func59, Try.ntmps59
    go_wp2_with (first | (go_at_call 60; refine (none_made b d r s lo hi _ (by repeat (first | (with_reducible assumption) | (with_reducible refine clk_alloc ?_ _) | (with_reducible refine clk_drew ?_) | (with_reducible refine clk_drewN ?_ _) | ((with_reducible refine clk_far ?_ ?_ _); rotate_left; (first | omega | (simp <;> omega)); rotate_right)))).mono ?_; rintro e w' ⟨rfl, rfl⟩))
    go_ret
    exact post_err X.out (by decide) (by repeat (first | (with_reducible assumption) | (with_reducible refine clk_alloc ?_ _) | (with_reducible refine clk_drew ?_) | (with_reducible refine clk_drewN ?_ _) | ((with_reducible refine clk_far ?_ ?_ _); rotate_left; (first | omega | (simp <;> omega)); rotate_right))) (by repeat (first | (with_reducible refine only_drew ?_) | (with_reducible refine only_alloc ?_ _) | ((with_reducible refine only_setCell ?_ ?_ _); rotate_left; (first | (left; rfl) | (right; simp; omega)); rotate_right) | (with_reducible assumption) | (refine only_of_below ?_ _; with_reducible assumption) | (with_reducible refine only_drewN ?_ _) | (with_reducible exact only_of_below (Below.refl _ _) _)))
end Go.Proofs.Ytjidchaejicjaaa.Ck
/- Adding an exchange to a clock: one case. -/
namespace Go.Proofs.Ytjidchaejicjaaa.Ck
open Go.RowKit
set_option maxHeartbeats 4000000
set_option linter.unusedSimpArgs false
set_option linter.unusedVariables false
set_option maxRecDepth 100000
theorem add_first (b : Nat) (d r : Int) (lo hi a g k h : Int) (w : World) (hk : IsClk w b d r true false lo hi) (h0 : 0 ≤ d) (h1 : d ≤ 100000) (x1 : -1073741824 ≤ a) (x2 : a ≤ h) (x3 : h ≤ 1073741824) (x4 : 0 ≤ g) (x5 : g ≤ k) (x6 : k ≤ 3600000) :
    Calls Try.prog 59 #[.pointer (some ⟨b, 0, none⟩), .agg #[.int .i64 a, .int .i64 g, .int .i64 k, .int .i64 h]] w fun e w' => AddPost w b d r false lo hi a g k h e w' := by
  obtain ⟨q0, q1, q2, q3, q4, q5⟩ := clk_cells hk; obtain ⟨z0, z1, z2, z3, z4, z5⟩ := clk_free hk; have hlt := clk_lt hk
  have X := Clk.xOk_iff.2 ⟨x1, x2, x3, x4, x5, x6⟩
  have k1 := IntWalk.i64_in (h - a) (by omega)
  have hk1 : IsClk (w.alloc (.cells #[.int .i64 a, .int .i64 g, .int .i64 k, .int .i64 h] 50)) b d r true false lo hi := clk_alloc hk _
  go_enter Try.func59, Try.ntmps59
  go_upto_region 5 with (first | (go_at_call 60; refine (none_made b d r false lo hi _ (by repeat (first | (with_reducible assumption) | (with_reducible refine clk_alloc ?_ _) | (with_reducible refine clk_drew ?_) | (with_reducible refine clk_drewN ?_ _) | ((with_reducible refine clk_far ?_ ?_ _); rotate_left; (first | omega | (simp <;> omega)); rotate_right)))).mono ?_; rintro e w' ⟨rfl, rfl⟩))
  go_cut [5, 6] (fun s5 s6 wx => AddCut w b d r false lo hi a g k h s5 s6 wx)
  case first =>
    go_region_held3 (fun w' => w'.cell? ⟨b, 0, none⟩ = some (.int .i64 d) ∧ w'.cell? ⟨w.heap.size, 0, none⟩ = some (.int .i64 a) ∧ w'.cell? ⟨w.heap.size, 1, none⟩ = some (.int .i64 g) ∧ w'.cell? ⟨w.heap.size, 3, none⟩ = some (.int .i64 h)) (first | (refine ⟨?_, ?_, ?_, ?_⟩ <;> simp [go_sem, *]) | go_keep) (first | (go_at_call 61; refine (grow_any g g d (h - a) _ (by omega) (by omega) (by omega) h0 h1 (by omega) (by omega)).mono ?_; rintro e w2 ⟨rfl, hb2⟩; have hz2 := hb2.size; simp at hz2; have hk2 := clk_below (show IsClk _ b d r true false lo hi from (by repeat (first | (with_reducible assumption) | (with_reducible refine clk_alloc ?_ _) | (with_reducible refine clk_drew ?_) | (with_reducible refine clk_drewN ?_ _) | ((with_reducible refine clk_far ?_ ?_ _); rotate_left; (first | omega | (simp <;> omega)); rotate_right)))) hb2 (by simp; omega); obtain ⟨q20, q21, q22, q23, q24, q25⟩ := clk_cells hk2; obtain ⟨z20, z21, z22, z23, z24, z25⟩ := clk_free hk2; have hlt2 := clk_lt hk2; have hx2 := blk_below (q := w.heap.size) (by repeat (first | (with_reducible assumption) | ((with_reducible apply blk_far); rotate_left; (first | omega | (simp <;> omega)); rotate_right) | (with_reducible apply blk_drew) | (with_reducible apply blk_drewN) | (with_reducible exact heap_new _ _) | ((with_reducible apply heap_new'); (first | rfl | (simp <;> fail))) | (with_reducible apply blk_alloc))) hb2 (by first | omega | (simp; done) | (simp; omega)); have cx2_0 := blk_cell hx2 0 rfl; have fx2_0 := blk_free hx2 0; have cx2_1 := blk_cell hx2 1 rfl; have fx2_1 := blk_free hx2 1; have cx2_2 := blk_cell hx2 2 rfl; have fx2_2 := blk_free hx2 2; have cx2_3 := blk_cell hx2 3 rfl; have fx2_3 := blk_free hx2 3; have lx2 := lt_of_block hx2; try (have hq2 := blk_below (q := w.heap.size + 1) (by repeat (first | (with_reducible assumption) | ((with_reducible apply blk_far); rotate_left; (first | omega | (simp <;> omega)); rotate_right) | (with_reducible apply blk_drew) | (with_reducible apply blk_drewN) | (with_reducible exact heap_new _ _) | ((with_reducible apply heap_new'); (first | rfl | (simp <;> fail))) | (with_reducible apply blk_alloc))) hb2 (by first | omega | (simp; done) | (simp; omega)); have cq2_0 := blk_cell hq2 0 rfl; have fq2_0 := blk_free hq2 0; have cq2_1 := blk_cell hq2 1 rfl; have fq2_1 := blk_free hq2 1; have lq2 := lt_of_block hq2)))
    all_goals (go_wp2_with fail; go_meet)
    all_goals refine ⟨_, rfl, rfl, (by repeat (first | (with_reducible assumption) | (with_reducible refine clk_alloc ?_ _) | (with_reducible refine clk_drew ?_) | (with_reducible refine clk_drewN ?_ _) | ((with_reducible refine clk_far ?_ ?_ _); rotate_left; (first | omega | (simp <;> omega)); rotate_right))), (by apply Eq.trans; (repeat (first | (with_reducible assumption) | (with_reducible apply blk_set) | ((with_reducible apply blk_far); rotate_left; (first | omega | (simp <;> omega)); rotate_right) | (with_reducible apply blk_drew) | (with_reducible apply blk_drewN) | ((with_reducible apply heap_new'); (first | rfl | (simp <;> fail))) | (with_reducible apply blk_alloc))); (first | with_reducible rfl | (simp <;> fail) | rfl)), (by apply Eq.trans; (repeat (first | (with_reducible assumption) | (with_reducible apply blk_set) | ((with_reducible apply blk_far); rotate_left; (first | omega | (simp <;> omega)); rotate_right) | (with_reducible apply blk_drew) | (with_reducible apply blk_drewN) | ((with_reducible apply heap_new'); (first | rfl | (simp <;> fail))) | (with_reducible apply blk_alloc))); (first | with_reducible rfl | (simp <;> fail) | rfl)), ?_, (by repeat (first | (with_reducible exact Below.refl _ _) | (with_reducible refine Below.drew ?_) | (with_reducible refine below_drewN ?_ _) | ((with_reducible refine Below.alloc ?_ ?_ _); rotate_left; (first | omega | (simp <;> omega)); rotate_right) | ((with_reducible refine Below.setCell ?_ ?_ _); rotate_left; (first | omega | (simp <;> omega)); rotate_right) | (with_reducible assumption) | (refine Below.trans ?_ (Below.mono (by assumption) ?_); rotate_left; (first | omega | (simp <;> omega)); rotate_right)))⟩
    all_goals (first | omega | (simp <;> omega))
  case rest =>
    obtain ⟨q, rfl, rfl, hk3, hx, hq, hlq, hbx⟩ := hcut
    have hz3 := hbx.size
    obtain ⟨q30, q31, q32, q33, q34, q35⟩ := clk_cells hk3; obtain ⟨z30, z31, z32, z33, z34, z35⟩ := clk_free hk3; have hlt3 := clk_lt hk3
    have cx_0 := blk_cell hx 0 rfl; have fx_0 := blk_free hx 0; have cx_1 := blk_cell hx 1 rfl; have fx_1 := blk_free hx 1; have cx_2 := blk_cell hx 2 rfl; have fx_2 := blk_free hx 2; have cx_3 := blk_cell hx 3 rfl; have fx_3 := blk_free hx 3; have lx := lt_of_block hx
    have cq_0 := blk_cell hq 0 rfl; have fq_0 := blk_free hq 0; have cq_1 := blk_cell hq 1 rfl; have fq_1 := blk_free hq 1; have lq := lt_of_block hq
    go_wp2_with fail
    · obtain ⟨e1, e2⟩ := Clk.first_said (r := r) (lo := lo) (hi := hi) X ‹_›
      go_ret
      exact post_err e1 e2 (by repeat (first | (with_reducible assumption) | (with_reducible refine clk_alloc ?_ _) | (with_reducible refine clk_drew ?_) | (with_reducible refine clk_drewN ?_ _) | ((with_reducible refine clk_far ?_ ?_ _); rotate_left; (first | omega | (simp <;> omega)); rotate_right))) (by repeat (first | (with_reducible refine only_drew ?_) | (with_reducible refine only_alloc ?_ _) | ((with_reducible refine only_setCell ?_ ?_ _); rotate_left; (first | (left; rfl) | (right; simp; omega)); rotate_right) | (with_reducible assumption) | (refine only_of_below ?_ _; with_reducible assumption) | (with_reducible refine only_drewN ?_ _) | (with_reducible exact only_of_below (Below.refl _ _) _)))
    · have e1 := Clk.first_check (r := r) (lo := lo) (hi := hi) X ‹_› ‹_›
      go_ret
      exact post_err e1 (by decide) (by repeat (first | (with_reducible assumption) | (with_reducible refine clk_alloc ?_ _) | (with_reducible refine clk_drew ?_) | (with_reducible refine clk_drewN ?_ _) | ((with_reducible refine clk_far ?_ ?_ _); rotate_left; (first | omega | (simp <;> omega)); rotate_right))) (by repeat (first | (with_reducible refine only_drew ?_) | (with_reducible refine only_alloc ?_ _) | ((with_reducible refine only_setCell ?_ ?_ _); rotate_left; (first | (left; rfl) | (right; simp; omega)); rotate_right) | (with_reducible assumption) | (refine only_of_below ?_ _; with_reducible assumption) | (with_reducible refine only_drewN ?_ _) | (with_reducible exact only_of_below (Below.refl _ _) _)))
    · have E1 := Lib.hid (Clk.first_ok (r := r) (lo := lo) (hi := hi) X ‹_› ‹_›)
      go_region
      all_goals go_wp2_with fail
      all_goals go_ret
      all_goals exact post_ok E1.out rfl rfl (by unfold IsClk; apply Eq.trans; (repeat (first | (with_reducible apply blk_set) | (with_reducible apply blk_drew) | (with_reducible apply blk_drewN) | (with_reducible apply blk_alloc) | (exact clk_blk (by with_reducible assumption)) | ((with_reducible apply blk_far); rotate_left; (first | omega | (simp <;> omega)); rotate_right))); (first | with_reducible rfl | (simp <;> fail) | rfl)) (by repeat (first | (with_reducible refine only_drew ?_) | (with_reducible refine only_alloc ?_ _) | ((with_reducible refine only_setCell ?_ ?_ _); rotate_left; (first | (left; rfl) | (right; simp; omega)); rotate_right) | (with_reducible assumption) | (refine only_of_below ?_ _; with_reducible assumption) | (with_reducible refine only_drewN ?_ _) | (with_reducible exact only_of_below (Below.refl _ _) _)))
end Go.Proofs.Ytjidchaejicjaaa.Ck
/- Adding an exchange to a clock: one case. -/
namespace Go.Proofs.Ytjidchaejicjaaa.Ck
open Go.RowKit
set_option maxHeartbeats 4000000
set_option linter.unusedSimpArgs false
set_option linter.unusedVariables false
set_option maxRecDepth 100000
theorem add_early (b : Nat) (d r : Int) (lo hi a g k h : Int) (w : World) (hk : IsClk w b d r true true lo hi) (h0 : 0 ≤ d) (h1 : d ≤ 100000) (x1 : -1073741824 ≤ a) (x2 : a ≤ h) (x3 : h ≤ 1073741824) (x4 : 0 ≤ g) (x5 : g ≤ k) (x6 : k ≤ 3600000) (y : h < r) :
    Calls Try.prog 59 #[.pointer (some ⟨b, 0, none⟩), .agg #[.int .i64 a, .int .i64 g, .int .i64 k, .int .i64 h]] w fun e w' => AddPost w b d r true lo hi a g k h e w' := by
  obtain ⟨q0, q1, q2, q3, q4, q5⟩ := clk_cells hk; obtain ⟨z0, z1, z2, z3, z4, z5⟩ := clk_free hk; have hlt := clk_lt hk
  have X := Clk.xOk_iff.2 ⟨x1, x2, x3, x4, x5, x6⟩
  have k1 := IntWalk.i64_in (h - a) (by omega)
  go_enter Try.func59, Try.ntmps59
  go_upto_region 5 with (first | (go_at_call 60; refine (none_made b d r true lo hi _ (by repeat (first | (with_reducible assumption) | (with_reducible refine clk_alloc ?_ _) | (with_reducible refine clk_drew ?_) | (with_reducible refine clk_drewN ?_ _) | ((with_reducible refine clk_far ?_ ?_ _); rotate_left; (first | omega | (simp <;> omega)); rotate_right)))).mono ?_; rintro e w' ⟨rfl, rfl⟩))
  go_cut [5, 6] (fun s5 s6 wx => AddCut w b d r true lo hi a g k h s5 s6 wx)
  case first =>
    go_region_held3 (fun w' => w'.cell? ⟨b, 0, none⟩ = some (.int .i64 d) ∧ w'.cell? ⟨w.heap.size, 0, none⟩ = some (.int .i64 a) ∧ w'.cell? ⟨w.heap.size, 1, none⟩ = some (.int .i64 g) ∧ w'.cell? ⟨w.heap.size, 3, none⟩ = some (.int .i64 h)) (first | (refine ⟨?_, ?_, ?_, ?_⟩ <;> simp [go_sem, *]) | go_keep) (first | (go_at_call 61; refine (grow_any g g d (h - a) _ (by omega) (by omega) (by omega) h0 h1 (by omega) (by omega)).mono ?_; rintro e w2 ⟨rfl, hb2⟩; have hz2 := hb2.size; simp at hz2; have hk2 := clk_below (show IsClk _ b d r true true lo hi from (by repeat (first | (with_reducible assumption) | (with_reducible refine clk_alloc ?_ _) | (with_reducible refine clk_drew ?_) | (with_reducible refine clk_drewN ?_ _) | ((with_reducible refine clk_far ?_ ?_ _); rotate_left; (first | omega | (simp <;> omega)); rotate_right)))) hb2 (by simp; omega); obtain ⟨q20, q21, q22, q23, q24, q25⟩ := clk_cells hk2; obtain ⟨z20, z21, z22, z23, z24, z25⟩ := clk_free hk2; have hlt2 := clk_lt hk2; have hx2 := blk_below (q := w.heap.size) (by repeat (first | (with_reducible assumption) | ((with_reducible apply blk_far); rotate_left; (first | omega | (simp <;> omega)); rotate_right) | (with_reducible apply blk_drew) | (with_reducible apply blk_drewN) | (with_reducible exact heap_new _ _) | ((with_reducible apply heap_new'); (first | rfl | (simp <;> fail))) | (with_reducible apply blk_alloc))) hb2 (by first | omega | (simp; done) | (simp; omega)); have cx2_0 := blk_cell hx2 0 rfl; have fx2_0 := blk_free hx2 0; have cx2_1 := blk_cell hx2 1 rfl; have fx2_1 := blk_free hx2 1; have cx2_2 := blk_cell hx2 2 rfl; have fx2_2 := blk_free hx2 2; have cx2_3 := blk_cell hx2 3 rfl; have fx2_3 := blk_free hx2 3; have lx2 := lt_of_block hx2; try (have hq2 := blk_below (q := w.heap.size + 1) (by repeat (first | (with_reducible assumption) | ((with_reducible apply blk_far); rotate_left; (first | omega | (simp <;> omega)); rotate_right) | (with_reducible apply blk_drew) | (with_reducible apply blk_drewN) | (with_reducible exact heap_new _ _) | ((with_reducible apply heap_new'); (first | rfl | (simp <;> fail))) | (with_reducible apply blk_alloc))) hb2 (by first | omega | (simp; done) | (simp; omega)); have cq2_0 := blk_cell hq2 0 rfl; have fq2_0 := blk_free hq2 0; have cq2_1 := blk_cell hq2 1 rfl; have fq2_1 := blk_free hq2 1; have lq2 := lt_of_block hq2)))
    all_goals (go_wp2_with fail; go_meet)
    all_goals refine ⟨_, rfl, rfl, (by repeat (first | (with_reducible assumption) | (with_reducible refine clk_alloc ?_ _) | (with_reducible refine clk_drew ?_) | (with_reducible refine clk_drewN ?_ _) | ((with_reducible refine clk_far ?_ ?_ _); rotate_left; (first | omega | (simp <;> omega)); rotate_right))), (by apply Eq.trans; (repeat (first | (with_reducible assumption) | (with_reducible apply blk_set) | ((with_reducible apply blk_far); rotate_left; (first | omega | (simp <;> omega)); rotate_right) | (with_reducible apply blk_drew) | (with_reducible apply blk_drewN) | ((with_reducible apply heap_new'); (first | rfl | (simp <;> fail))) | (with_reducible apply blk_alloc))); (first | with_reducible rfl | (simp <;> fail) | rfl)), (by apply Eq.trans; (repeat (first | (with_reducible assumption) | (with_reducible apply blk_set) | ((with_reducible apply blk_far); rotate_left; (first | omega | (simp <;> omega)); rotate_right) | (with_reducible apply blk_drew) | (with_reducible apply blk_drewN) | ((with_reducible apply heap_new'); (first | rfl | (simp <;> fail))) | (with_reducible apply blk_alloc))); (first | with_reducible rfl | (simp <;> fail) | rfl)), ?_, (by repeat (first | (with_reducible exact Below.refl _ _) | (with_reducible refine Below.drew ?_) | (with_reducible refine below_drewN ?_ _) | ((with_reducible refine Below.alloc ?_ ?_ _); rotate_left; (first | omega | (simp <;> omega)); rotate_right) | ((with_reducible refine Below.setCell ?_ ?_ _); rotate_left; (first | omega | (simp <;> omega)); rotate_right) | (with_reducible assumption) | (refine Below.trans ?_ (Below.mono (by assumption) ?_); rotate_left; (first | omega | (simp <;> omega)); rotate_right)))⟩
    all_goals (first | omega | (simp <;> omega))
  case rest =>
    obtain ⟨q, rfl, rfl, hk3, hx, hq, hlq, hbx⟩ := hcut
    have hz3 := hbx.size
    obtain ⟨q30, q31, q32, q33, q34, q35⟩ := clk_cells hk3; obtain ⟨z30, z31, z32, z33, z34, z35⟩ := clk_free hk3; have hlt3 := clk_lt hk3
    have cx_0 := blk_cell hx 0 rfl; have fx_0 := blk_free hx 0; have cx_1 := blk_cell hx 1 rfl; have fx_1 := blk_free hx 1; have cx_2 := blk_cell hx 2 rfl; have fx_2 := blk_free hx 2; have cx_3 := blk_cell hx 3 rfl; have fx_3 := blk_free hx 3; have lx := lt_of_block hx
    have cq_0 := blk_cell hq 0 rfl; have fq_0 := blk_free hq 0; have cq_1 := blk_cell hq 1 rfl; have fq_1 := blk_free hq 1; have lq := lt_of_block hq
    go_wp2_with fail
    go_quiet (fail)
    go_wp2_with fail
    go_ret
    exact post_err (Clk.addE_early (lo := lo) (hi := hi) X y) (by decide) (by repeat (first | (with_reducible assumption) | (with_reducible refine clk_alloc ?_ _) | (with_reducible refine clk_drew ?_) | (with_reducible refine clk_drewN ?_ _) | ((with_reducible refine clk_far ?_ ?_ _); rotate_left; (first | omega | (simp <;> omega)); rotate_right))) (by repeat (first | (with_reducible refine only_drew ?_) | (with_reducible refine only_alloc ?_ _) | ((with_reducible refine only_setCell ?_ ?_ _); rotate_left; (first | (left; rfl) | (right; simp; omega)); rotate_right) | (with_reducible assumption) | (refine only_of_below ?_ _; with_reducible assumption) | (with_reducible refine only_drewN ?_ _) | (with_reducible exact only_of_below (Below.refl _ _) _)))
end Go.Proofs.Ytjidchaejicjaaa.Ck

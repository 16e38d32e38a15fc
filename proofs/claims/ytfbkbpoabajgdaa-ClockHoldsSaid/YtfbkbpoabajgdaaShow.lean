/- 'shows': a clock shows what the reference has. -/
import Derived.Test.YtfbkbpoabajgdaaKnow
import Derived.Test.YtfbkbpoabajgdaaRAdd
import Derived.Test.YtfbkbpoabajgdaaRSure
import Derived.Outline
namespace Go.Proofs.Ytfbkbpoabajgdaa
open Go.RowKit
set_option maxHeartbeats 4000000
set_option linter.unusedSimpArgs false
set_option linter.unusedVariables false
set_option maxRecDepth 100000
/-- what a clock and the reference hold, always -/
def SInv (d r : Int) (s : Bool) (lo hi : Int) : Prop := Clk.CInv d r lo hi ∧ (s = true → 0 ≤ lo)
theorem sinv_new {d : Int} (h : 0 ≤ d ∧ d ≤ 100000) : SInv d 0 false 0 0 := ⟨by unfold Clk.CInv; omega, by simp⟩
theorem sinv_add {d r : Int} {s : Bool} {lo hi a g k h : Int} (c : SInv d r s lo hi) : SInv d (Clk.addR d r s lo hi a g k h) (Clk.addS d r s lo hi a g k h) (Clk.addLo d r s lo hi a g k h) (Clk.addHi d r s lo hi a g k h) := by
  refine ⟨Clk.add_inv c.1, fun hs => ?_⟩
  unfold Clk.addLo Clk.addS at *
  by_cases e : Clk.addE d r s lo hi a g k h = 0
  · rw [if_pos e]
    have x : Clk.xOk a g k h = true := by
      cases hx : Clk.xOk a g k h with
      | true => rfl
      | false => rw [Clk.addE, if_pos hx] at e; omega
    rw [Clk.xOk_iff] at x
    unfold Clk.nLo
    split <;> omega
  · rw [if_neg e] at hs ⊢
    exact c.2 hs
theorem shows_yes (b : Nat) (d r : Int) (s : Bool) (lo hi more : Int) (w : World) (hk : IsClk w b d r true s lo hi) (c : SInv d r s lo hi) :
    Calls Try.prog 19 #[.pointer (some ⟨b, 0, none⟩), .agg #[.int .i64 d, .int .i64 r, .bool s, .int .i64 lo, .int .i64 hi], .int .i64 more] w fun e w' => e = .returned (.bool true) ∧ Below w.heap.size w w' := by
  have A := Lib.hid (fun (x : Int) (W : World) (hk : IsClk W b d r true s lo hi) => at_any b d r s lo hi x W hk c.1)
  have B := Lib.hid (fun (x : Int) (W : World) => rat_any d r s lo hi x W c.1 c.2)
  have D := Lib.hid (fun (W : World) (hk : IsClk W b d r true s lo hi) => drift_clk b d r s lo hi W hk)
  have R := Lib.hid (fun (W : World) (hk : IsClk W b d r true s lo hi) (hs : s = true) => reading_clk b d r lo hi W (hs ▸ hk))
  have R0 := Lib.hid (fun (W : World) (hk : IsClk W b d r true s lo hi) (hs : s = false) => reading_none b d r lo hi W (hs ▸ hk))
  have hr0 : -1073741824 ≤ r := c.1.2.2.1
  have hr1 : r ≤ 1073741824 := c.1.2.2.2.1
  have hlt := clk_lt hk
  clear c
  cases s
  all_goals
    go_enter Try.func19, Try.ntmps19
    go_wp2_with fail
    first | (refine (R.out _ (clk_alloc hk _) trivial).mono ?_) | (refine (R0.out _ (clk_alloc hk _) trivial).mono ?_)
    rintro e w1 ⟨rfl, hb1⟩
    have hz1 := hb1.size; try simp at hz1
    have hk1 := clk_below (clk_alloc hk _) hb1 (by first | omega | (simp; done) | (simp; omega))
    have h1 := blk_below (q := w.heap.size) (by repeat (first | (with_reducible assumption) | ((with_reducible apply blk_far); rotate_left; (first | omega | (simp <;> omega)); rotate_right) | (with_reducible apply blk_drew) | (with_reducible apply blk_drewN) | (with_reducible exact heap_new _ _) | ((with_reducible apply heap_new'); (first | rfl | (simp <;> fail))) | (with_reducible apply blk_alloc))) hb1 (by first | omega | (simp; done) | (simp; omega))
    have HB1 := (show Below w.heap.size w w1 from (by repeat (first | (with_reducible exact Below.refl _ _) | (with_reducible refine Below.drew ?_) | (with_reducible refine below_drewN ?_ _) | ((with_reducible refine Below.alloc ?_ ?_ _); rotate_left; (first | omega | (simp <;> omega)); rotate_right) | ((with_reducible refine Below.setCell ?_ ?_ _); rotate_left; (first | omega | (simp <;> omega)); rotate_right) | (with_reducible assumption) | (refine Below.trans ?_ (Below.mono (by assumption) ?_); rotate_left; (first | omega | (simp <;> omega)); rotate_right))))
    have ca_0 := blk_cell h1 0 rfl; have fa_0 := blk_free h1 0; have ca_1 := blk_cell h1 1 rfl; have fa_1 := blk_free h1 1; have ca_2 := blk_cell h1 2 rfl; have fa_2 := blk_free h1 2; have ca_3 := blk_cell h1 3 rfl; have fa_3 := blk_free h1 3; have ca_4 := blk_cell h1 4 rfl; have fa_4 := blk_free h1 4; have la := lt_of_block h1
    go_wp2_with fail
    go_quiet ((go_at_call 32; exact Calls.quiet_of_same ((D.out _ (by repeat (first | (with_reducible assumption) | (with_reducible refine clk_alloc ?_ _) | (with_reducible refine clk_drew ?_) | (with_reducible refine clk_drewN ?_ _) | ((with_reducible refine clk_far ?_ ?_ _); rotate_left; (first | omega | (simp <;> omega)); rotate_right)))).mono fun _ _ hh => ⟨hh.1, hh.2.symm⟩)))
    go_wp2_with fail
    go_loopw [10] (fun i wr => ∃ j : Int, -1 ≤ j ∧ j ≤ 3 ∧ i = .int .i64 j ∧ Below w.heap.size w wr ∧ wr.heap[w.heap.size]? = some (.cells #[.int .i64 d, .int .i64 r, .bool _, .int .i64 lo, .int .i64 hi] 44 (0, 0))) (fun i _ => (3 - intOf i).toNat)
    case atStart => exact ⟨-1, by omega, by omega, rfl, (by repeat (first | (with_reducible exact Below.refl _ _) | (with_reducible refine Below.drew ?_) | (with_reducible refine below_drewN ?_ _) | ((with_reducible refine Below.alloc ?_ ?_ _); rotate_left; (first | omega | (simp <;> omega)); rotate_right) | ((with_reducible refine Below.setCell ?_ ?_ _); rotate_left; (first | omega | (simp <;> omega)); rotate_right) | (with_reducible assumption) | (refine Below.trans ?_ (Below.mono (by assumption) ?_); rotate_left; (first | omega | (simp <;> omega)); rotate_right))), (by repeat (first | (with_reducible assumption) | ((with_reducible apply blk_far); rotate_left; (first | omega | (simp <;> omega)); rotate_right) | (with_reducible apply blk_drew) | (with_reducible apply blk_drewN) | (with_reducible exact heap_new _ _) | ((with_reducible apply heap_new'); (first | rfl | (simp <;> fail))) | (with_reducible apply blk_alloc)))⟩
    case round =>
      obtain ⟨j, hj0, hj1, rfl, hb2, h2⟩ := hrel
      have hk2 := clk_below hk hb2 hlt
      have hz2 := hb2.size
      have cc_0 := blk_cell h2 0 rfl; have fc_0 := blk_free h2 0; have cc_1 := blk_cell h2 1 rfl; have fc_1 := blk_free h2 1; have cc_2 := blk_cell h2 2 rfl; have fc_2 := blk_free h2 2; have cc_3 := blk_cell h2 3 rfl; have fc_3 := blk_free h2 3; have cc_4 := blk_cell h2 4 rfl; have fc_4 := blk_free h2 4; have lc := lt_of_block h2
      rcases Int.lt_or_le j 2 with hj | hj
      · have ht : (j == 2) = false := by rw [beq_eq_false_iff_ne]; omega
        have hw := IntWalk.i64_in (r + j) (by omega)
        go_wp2_with fail
        refine (A.out _ _ (by repeat (first | (with_reducible assumption) | (with_reducible refine clk_alloc ?_ _) | (with_reducible refine clk_drew ?_) | (with_reducible refine clk_drewN ?_ _) | ((with_reducible refine clk_far ?_ ?_ _); rotate_left; (first | omega | (simp <;> omega)); rotate_right)))).mono ?_
        rintro e w3 ⟨rfl, hb3⟩
        have hz3 := hb3.size; try simp at hz3
        have h3 := blk_below (q := w.heap.size) (by repeat (first | (with_reducible assumption) | ((with_reducible apply blk_far); rotate_left; (first | omega | (simp <;> omega)); rotate_right) | (with_reducible apply blk_drew) | (with_reducible apply blk_drewN) | (with_reducible exact heap_new _ _) | ((with_reducible apply heap_new'); (first | rfl | (simp <;> fail))) | (with_reducible apply blk_alloc))) hb3 (by first | omega | (simp; done) | (simp; omega))
        have ce_0 := blk_cell h3 0 rfl; have fe_0 := blk_free h3 0; have ce_1 := blk_cell h3 1 rfl; have fe_1 := blk_free h3 1; have ce_2 := blk_cell h3 2 rfl; have fe_2 := blk_free h3 2; have ce_3 := blk_cell h3 3 rfl; have fe_3 := blk_free h3 3; have ce_4 := blk_cell h3 4 rfl; have fe_4 := blk_free h3 4; have le := lt_of_block h3
        go_wp2_with fail
        refine (B.out _ _).mono ?_
        rintro e w4 ⟨rfl, hb4⟩
        have hz4 := hb4.size; try simp at hz4
        have h4 := blk_below (q := w.heap.size) (by repeat (first | (with_reducible assumption) | ((with_reducible apply blk_far); rotate_left; (first | omega | (simp <;> omega)); rotate_right) | (with_reducible apply blk_drew) | (with_reducible apply blk_drewN) | (with_reducible exact heap_new _ _) | ((with_reducible apply heap_new'); (first | rfl | (simp <;> fail))) | (with_reducible apply blk_alloc))) hb4 (by first | omega | (simp; done) | (simp; omega))
        have h5 := blk_below (q := w3.heap.size) (by repeat (first | (with_reducible assumption) | ((with_reducible apply blk_far); rotate_left; (first | omega | (simp <;> omega)); rotate_right) | (with_reducible apply blk_drew) | (with_reducible apply blk_drewN) | (with_reducible exact heap_new _ _) | ((with_reducible apply heap_new'); (first | rfl | (simp <;> fail))) | (with_reducible apply blk_alloc))) hb4 (by first | omega | (simp; done) | (simp; omega))
        have cf_0 := blk_cell h5 0 rfl; have ff_0 := blk_free h5 0; have cf_1 := blk_cell h5 1 rfl; have ff_1 := blk_free h5 1; have lf := lt_of_block h5
        go_wp2_with fail
        go_roundw
        case rel => exact ⟨j + 1, by omega, by omega, by go_num, (by repeat (first | (with_reducible exact Below.refl _ _) | (with_reducible refine Below.drew ?_) | (with_reducible refine below_drewN ?_ _) | ((with_reducible refine Below.alloc ?_ ?_ _); rotate_left; (first | omega | (simp <;> omega)); rotate_right) | ((with_reducible refine Below.setCell ?_ ?_ _); rotate_left; (first | omega | (simp <;> omega)); rotate_right) | (with_reducible assumption) | (refine Below.trans ?_ (Below.mono (by assumption) ?_); rotate_left; (first | omega | (simp <;> omega)); rotate_right))), (by repeat (first | (with_reducible assumption) | ((with_reducible apply blk_far); rotate_left; (first | omega | (simp <;> omega)); rotate_right) | (with_reducible apply blk_drew) | (with_reducible apply blk_drewN) | (with_reducible exact heap_new _ _) | ((with_reducible apply heap_new'); (first | rfl | (simp <;> fail))) | (with_reducible apply blk_alloc)))⟩
        case measure => simp [intOf]; omega
      · rcases Int.lt_or_le j 3 with hj3 | hj3
        · obtain rfl : j = 2 := by omega
          have hw := IntWalk.i64_in (r + 2) (by omega)
          go_wp2_with fail
          refine (A.out _ _ (by repeat (first | (with_reducible assumption) | (with_reducible refine clk_alloc ?_ _) | (with_reducible refine clk_drew ?_) | (with_reducible refine clk_drewN ?_ _) | ((with_reducible refine clk_far ?_ ?_ _); rotate_left; (first | omega | (simp <;> omega)); rotate_right)))).mono ?_
          rintro e w3 ⟨rfl, hb3⟩
          have hz3 := hb3.size; try simp at hz3
          have h3 := blk_below (q := w.heap.size) (by repeat (first | (with_reducible assumption) | ((with_reducible apply blk_far); rotate_left; (first | omega | (simp <;> omega)); rotate_right) | (with_reducible apply blk_drew) | (with_reducible apply blk_drewN) | (with_reducible exact heap_new _ _) | ((with_reducible apply heap_new'); (first | rfl | (simp <;> fail))) | (with_reducible apply blk_alloc))) hb3 (by first | omega | (simp; done) | (simp; omega))
          have ce_0 := blk_cell h3 0 rfl; have fe_0 := blk_free h3 0; have ce_1 := blk_cell h3 1 rfl; have fe_1 := blk_free h3 1; have ce_2 := blk_cell h3 2 rfl; have fe_2 := blk_free h3 2; have ce_3 := blk_cell h3 3 rfl; have fe_3 := blk_free h3 3; have ce_4 := blk_cell h3 4 rfl; have fe_4 := blk_free h3 4; have le := lt_of_block h3
          go_wp2_with fail
          refine (B.out _ _).mono ?_
          rintro e w4 ⟨rfl, hb4⟩
          have hz4 := hb4.size; try simp at hz4
          have h4 := blk_below (q := w.heap.size) (by repeat (first | (with_reducible assumption) | ((with_reducible apply blk_far); rotate_left; (first | omega | (simp <;> omega)); rotate_right) | (with_reducible apply blk_drew) | (with_reducible apply blk_drewN) | (with_reducible exact heap_new _ _) | ((with_reducible apply heap_new'); (first | rfl | (simp <;> fail))) | (with_reducible apply blk_alloc))) hb4 (by first | omega | (simp; done) | (simp; omega))
          have h5 := blk_below (q := w3.heap.size) (by repeat (first | (with_reducible assumption) | ((with_reducible apply blk_far); rotate_left; (first | omega | (simp <;> omega)); rotate_right) | (with_reducible apply blk_drew) | (with_reducible apply blk_drewN) | (with_reducible exact heap_new _ _) | ((with_reducible apply heap_new'); (first | rfl | (simp <;> fail))) | (with_reducible apply blk_alloc))) hb4 (by first | omega | (simp; done) | (simp; omega))
          have cf_0 := blk_cell h5 0 rfl; have ff_0 := blk_free h5 0; have cf_1 := blk_cell h5 1 rfl; have ff_1 := blk_free h5 1; have lf := lt_of_block h5
          go_wp2_with fail
          go_roundw
          case rel => exact ⟨3, by omega, by omega, by go_num, (by repeat (first | (with_reducible exact Below.refl _ _) | (with_reducible refine Below.drew ?_) | (with_reducible refine below_drewN ?_ _) | ((with_reducible refine Below.alloc ?_ ?_ _); rotate_left; (first | omega | (simp <;> omega)); rotate_right) | ((with_reducible refine Below.setCell ?_ ?_ _); rotate_left; (first | omega | (simp <;> omega)); rotate_right) | (with_reducible assumption) | (refine Below.trans ?_ (Below.mono (by assumption) ?_); rotate_left; (first | omega | (simp <;> omega)); rotate_right))), (by repeat (first | (with_reducible assumption) | ((with_reducible apply blk_far); rotate_left; (first | omega | (simp <;> omega)); rotate_right) | (with_reducible apply blk_drew) | (with_reducible apply blk_drewN) | (with_reducible exact heap_new _ _) | ((with_reducible apply heap_new'); (first | rfl | (simp <;> fail))) | (with_reducible apply blk_alloc)))⟩
          case measure => first | (simp [intOf]; done) | (simp [intOf]; omega) | decide
        · obtain rfl : j = 3 := by omega
          go_wp2_with fail
          go_ret
          exact ⟨rfl, (by repeat (first | (with_reducible exact Below.refl _ _) | (with_reducible refine Below.drew ?_) | (with_reducible refine below_drewN ?_ _) | ((with_reducible refine Below.alloc ?_ ?_ _); rotate_left; (first | omega | (simp <;> omega)); rotate_right) | ((with_reducible refine Below.setCell ?_ ?_ _); rotate_left; (first | omega | (simp <;> omega)); rotate_right) | (with_reducible assumption) | (refine Below.trans ?_ (Below.mono (by assumption) ?_); rotate_left; (first | omega | (simp <;> omega)); rotate_right)))⟩
end Go.Proofs.Ytfbkbpoabajgdaa

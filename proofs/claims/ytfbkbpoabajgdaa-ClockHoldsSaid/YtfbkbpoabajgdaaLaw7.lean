/- The theorem of stage 33 holds: 'skylanternlaw33.ClockHolds' returns true at every input. No conditions. -/
import Derived.Test.YtfbkbpoabajgdaaLaw7A
namespace Go.Proofs.Ytfbkbpoabajgdaa.lawHolds
open Go.ChangeShapes Go.WideShapes Go.ChangeAt Go.RowKit Go.Joins
set_option linter.unusedVariables false
set_option linter.unusedSimpArgs false
set_option maxHeartbeats 20000000
set_option maxRecDepth 100000
attribute [local go_sem high] run_mn run_mx
theorem walk (a0 : Int) (a1 : Int) (a2 : Int) (a3 : Option Addr) (len3 cap3 : Nat) (z3 : Nat → Nat → Int) (a4 : Int) (a5 : Int) (w : World) (w0 : (Lit.int .i64 a0).wf = true) (w1 : (Lit.int .i64 a1).wf = true) (w2 : (Lit.int .i64 a2).wf = true) (w3 : IsRows 4 w a3 len3 cap3 z3) (w4 : (Lit.int .i64 a4).wf = true) (w5 : (Lit.int .i64 a5).wf = true) :
    Calls Try.prog 9 #[.int .i64 a0, .int .i64 a1, .int .i64 a2, .slice a3 len3 cap3, .int .i64 a4, .int .i64 a5] w fun e w' => e = .returned (.bool true) ∧ Below w.heap.size w w' := by
  by_cases hl : 20 < len3 ∨ a2 < 0 ∨ 100000 < a2 ∨ a1 < -a2 ∨ a2 < a1 ∨ a4 < 0 ∨ 100000 < a4 ∨ a5 < 0 ∨ 3600000 < a5
  · exact walk_bad a0 a1 a2 a3 len3 cap3 z3 a4 a5 w w0 w1 w2 w3 w4 w5 hl
  obtain ⟨hlc, hcm, hnil, hrow⟩ := w3
  unfold maxLen at hcm
  · have hl1 : len3 ≤ 20 := by omega
    have hd1 : 0 ≤ a2 := by omega
    have hd2 : a2 ≤ 100000 := by omega
    have hr1 : -a2 ≤ a1 := by omega
    have hr2 : a1 ≤ a2 := by omega
    have ha1 : 0 ≤ a4 := by omega
    have ha2 : a4 ≤ 100000 := by omega
    have ht1 : 0 ≤ a5 := by omega
    have ht2 : a5 ≤ 3600000 := by omega
    clear hl
    have HD := Lib.hid (fun W : World => new_yes a2 W ⟨hd1, hd2⟩)
    have S0 := Lib.hid (sinv_new (d := a2) ⟨hd1, hd2⟩)
    go_enter Try.func9, Try.ntmps9
    go_wp2_with fail
    refine (HD.out _).mono ?_
    rintro e w1 ⟨rfl, hk, hb⟩
    have hz := hb.size; have hlt := clk_lt hk
    go_wp2_with fail
    go_loopw [15, 16] (fun sn i wr => ∃ (k : Nat) (now r : Int) (s : Bool) (lo hi : Int), sn = .int .i64 now ∧ i = .int .i64 k ∧ k ≤ len3 ∧ St w w.heap.size a0 a1 a2 k wr now r s lo hi) (fun _ i _ => len3 - (intOf i).toNat)
    case atStart => exact ⟨0, 0, 0, false, 0, 0, rfl, by go_num, Nat.zero_le _, S0.out, (by repeat (first | (with_reducible assumption) | (with_reducible refine clk_alloc ?_ _) | (with_reducible refine clk_drew ?_) | (with_reducible refine clk_drewN ?_ _) | ((with_reducible refine clk_far ?_ ?_ _); rotate_left; (first | omega | (simp <;> omega)); rotate_right))), by simp, by omega, by omega, by simp, (by repeat (first | (with_reducible exact Below.refl _ _) | (with_reducible refine Below.drew ?_) | (with_reducible refine below_drewN ?_ _) | ((with_reducible refine Below.alloc ?_ ?_ _); rotate_left; (first | omega | (simp <;> omega)); rotate_right) | ((with_reducible refine Below.setCell ?_ ?_ _); rotate_left; (first | omega | (simp <;> omega)); rotate_right) | (with_reducible assumption) | (refine Below.trans ?_ (Below.mono (by assumption) ?_); rotate_left; (first | omega | (simp <;> omega)); rotate_right)))⟩
    case round =>
      obtain ⟨k, now, r, s, lo, hi, rfl, rfl, hkl, hS, hkr, hK, hn0, hn1, hks, hB⟩ := hrel
      clear hk hb
      have hzr := hB.size
      have hltr := clk_lt hkr
      by_cases hlt2 : k < len3
      · obtain ⟨bl, of, rfl, hbl, hcell⟩ := hrow (by omega)
        have c0 : wr.cell? ⟨bl, of + k * 4, none⟩ = some (.int .i64 (z3 k 0)) := (hB.cell (p := ⟨bl, of + (k * 4 + 0), none⟩) hbl).trans (hcell k 0 hlt2 (by omega)).1
        have c1 : wr.cell? ⟨bl, of + k * 4 + 1, none⟩ = some (.int .i64 (z3 k 1)) := (hB.cell (p := ⟨bl, of + (k * 4 + 1), none⟩) hbl).trans (hcell k 1 hlt2 (by omega)).1
        have c2 : wr.cell? ⟨bl, of + k * 4 + 2, none⟩ = some (.int .i64 (z3 k 2)) := (hB.cell (p := ⟨bl, of + (k * 4 + 2), none⟩) hbl).trans (hcell k 2 hlt2 (by omega)).1
        have c3 : wr.cell? ⟨bl, of + k * 4 + 3, none⟩ = some (.int .i64 (z3 k 3)) := (hB.cell (p := ⟨bl, of + (k * 4 + 3), none⟩) hbl).trans (hcell k 3 hlt2 (by omega)).1
        generalize z3 k 0 = y0 at c0
        generalize z3 k 1 = y1 at c1
        generalize z3 k 2 = y2 at c2
        generalize z3 k 3 = y3 at c3
        clear hcell hrow hnil
        have HS := Lib.hid hS
        have HK := Lib.hid hK
        have HKS := Lib.hid hks
        clear hS hK hks
        by_cases good : (0 ≤ y0 ∧ 0 ≤ y1 ∧ 0 ≤ y2 ∧ 0 ≤ y3) ∧ (y0 ≤ 100000 ∧ y1 ≤ 100000 ∧ y2 ≤ 100000 ∧ y3 ≤ 100000)
        · have e1 := mn4 good.1
          have e2 := mx4 good.2
          obtain ⟨⟨g0, g1, g2, g3⟩, g4, g5, g6, g7⟩ := good
          by_cases hs0 : lE a0 a1 (now + y0) = 0
          · by_cases hh0 : lE a0 a1 (now + y0 + y1 + y2 + y3) = 0
            · obtain ⟨ho, _, hi0, _⟩ := lE_ok hh0
              have R1 := Lib.hid (fun W : World => rl_yes hs0 W)
              have R2 := Lib.hid (fun W : World => rl_yes hh0 W)
              clear hs0 hh0
              obtain ⟨nl, nh, K2, n1, GR, AD⟩ := add_trip w.heap.size (m := s) (r := r) (lo := lo) (hi := hi) ho hd1 hd2 ⟨hr1, hr2⟩ g0 g1 g2 g3 hn0 (by omega) HS.out HK.out
              have n2 := K2.l1; have n3 := K2.h0; have n4 := K2.l0; have n5 := K2.h1
              have HK2 := Lib.hid K2
              have HAD := Lib.hid AD
              have HGR := Lib.hid GR
              have bV := Clk.L_bd (o := a0) (r := a1) (t := now + y0 + y1 + y2 + y3) ho (by omega) (by omega)
              clear K2 AD GR
              generalize hV1 : Clk.L a0 a1 (now + y0) = V1 at *
              generalize hV2 : Clk.L a0 a1 (now + y0 + y1 + y2 + y3) = V2 at *
              cases s with
              | false =>
                clear HGR
                go_wp2_with fail
                refine (R1.out _).mono ?_
                rintro e w4 ⟨rfl, rfl⟩
                go_wp2_with fail
                refine (R2.out _).mono ?_
                rintro e w4 ⟨rfl, rfl⟩
                go_wp2_with fail
                refine (reading_none w.heap.size a2 r lo hi _ (by repeat (first | (with_reducible assumption) | (with_reducible refine clk_alloc ?_ _) | (with_reducible refine clk_drew ?_) | (with_reducible refine clk_drewN ?_ _) | ((with_reducible refine clk_far ?_ ?_ _); rotate_left; (first | omega | (simp <;> omega)); rotate_right)))).mono ?_
                rintro e w4 ⟨rfl, hb4⟩
                have hz4 := hb4.size; try simp at hz4
                have hk4 := clk_below (clk_alloc hkr _) hb4 (by first | omega | (simp; done) | (simp; omega))
                have HB4 := (show Below w.heap.size w w4 from (by repeat (first | (with_reducible exact Below.refl _ _) | (with_reducible refine Below.drew ?_) | (with_reducible refine below_drewN ?_ _) | ((with_reducible refine Below.alloc ?_ ?_ _); rotate_left; (first | omega | (simp <;> omega)); rotate_right) | ((with_reducible refine Below.setCell ?_ ?_ _); rotate_left; (first | omega | (simp <;> omega)); rotate_right) | (with_reducible assumption) | (refine Below.trans ?_ (Below.mono (by assumption) ?_); rotate_left; (first | omega | (simp <;> omega)); rotate_right))))
                go_wp2_with fail
                refine (HAD.out _ (by repeat (first | (with_reducible assumption) | (with_reducible refine clk_alloc ?_ _) | (with_reducible refine clk_drew ?_) | (with_reducible refine clk_drewN ?_ _) | ((with_reducible refine clk_far ?_ ?_ _); rotate_left; (first | omega | (simp <;> omega)); rotate_right)))).mono ?_
                rintro e w5 ⟨rfl, hk5, hg5⟩
                have hz5 := hg5.size; try simp at hz5
                have HB5 : Below w.heap.size w w5 := below_of_only1 (k := hg5) (hg := Nat.le_refl _) (h := (by repeat (first | (with_reducible exact Below.refl _ _) | (with_reducible refine Below.drew ?_) | (with_reducible refine below_drewN ?_ _) | ((with_reducible refine Below.alloc ?_ ?_ _); rotate_left; (first | omega | (simp <;> omega)); rotate_right) | ((with_reducible refine Below.setCell ?_ ?_ _); rotate_left; (first | omega | (simp <;> omega)); rotate_right) | (with_reducible assumption) | (refine Below.trans ?_ (Below.mono (by assumption) ?_); rotate_left; (first | omega | (simp <;> omega)); rotate_right))))
                have hlt5 := clk_lt hk5
                go_wp2_with fail
                refine (reading_clk w.heap.size a2 V2 nl nh _ hk5).mono ?_
                rintro e w6 ⟨rfl, hb6⟩
                have hz6 := hb6.size; try simp at hz6
                have hk6 := clk_below hk5 hb6 hlt5
                have HB6 := (show Below w.heap.size w w6 from (by repeat (first | (with_reducible exact Below.refl _ _) | (with_reducible refine Below.drew ?_) | (with_reducible refine below_drewN ?_ _) | ((with_reducible refine Below.alloc ?_ ?_ _); rotate_left; (first | omega | (simp <;> omega)); rotate_right) | ((with_reducible refine Below.setCell ?_ ?_ _); rotate_left; (first | omega | (simp <;> omega)); rotate_right) | (with_reducible assumption) | (refine Below.trans ?_ (Below.mono (by assumption) ?_); rotate_left; (first | omega | (simp <;> omega)); rotate_right))))
                go_wp2_with fail
                go_roundw
                case rel => exact ⟨k + 1, _, V2, true, nl, nh, rfl, by go_num, by omega, sinv_kn ho hd1 hd2 ⟨hr1, hr2⟩ HK2.out, (by repeat (first | (with_reducible assumption) | (with_reducible refine clk_alloc ?_ _) | (with_reducible refine clk_drew ?_) | (with_reducible refine clk_drewN ?_ _) | ((with_reducible refine clk_far ?_ ?_ _); rotate_left; (first | omega | (simp <;> omega)); rotate_right))), fun _ => HK2.out, by omega, by omega, fun _ => rfl, (by repeat (first | (with_reducible exact Below.refl _ _) | (with_reducible refine Below.drew ?_) | (with_reducible refine below_drewN ?_ _) | ((with_reducible refine Below.alloc ?_ ?_ _); rotate_left; (first | omega | (simp <;> omega)); rotate_right) | ((with_reducible refine Below.setCell ?_ ?_ _); rotate_left; (first | omega | (simp <;> omega)); rotate_right) | (with_reducible assumption) | (refine Below.trans ?_ (Below.mono (by assumption) ?_); rotate_left; (first | omega | (simp <;> omega)); rotate_right)))⟩
                case measure => simp [intOf]; omega
              | true =>
                obtain ⟨q1, q2, q3, q4⟩ := HGR.out rfl
                clear HGR
                go_wp2_with fail
                refine (R1.out _).mono ?_
                rintro e w4 ⟨rfl, rfl⟩
                go_wp2_with fail
                refine (R2.out _).mono ?_
                rintro e w4 ⟨rfl, rfl⟩
                go_wp2_with fail
                refine (reading_clk w.heap.size a2 r lo hi _ (by repeat (first | (with_reducible assumption) | (with_reducible refine clk_alloc ?_ _) | (with_reducible refine clk_drew ?_) | (with_reducible refine clk_drewN ?_ _) | ((with_reducible refine clk_far ?_ ?_ _); rotate_left; (first | omega | (simp <;> omega)); rotate_right)))).mono ?_
                rintro e w4 ⟨rfl, hb4⟩
                have hz4 := hb4.size; try simp at hz4
                have hk4 := clk_below (clk_alloc hkr _) hb4 (by first | omega | (simp; done) | (simp; omega))
                have HB4 := (show Below w.heap.size w w4 from (by repeat (first | (with_reducible exact Below.refl _ _) | (with_reducible refine Below.drew ?_) | (with_reducible refine below_drewN ?_ _) | ((with_reducible refine Below.alloc ?_ ?_ _); rotate_left; (first | omega | (simp <;> omega)); rotate_right) | ((with_reducible refine Below.setCell ?_ ?_ _); rotate_left; (first | omega | (simp <;> omega)); rotate_right) | (with_reducible assumption) | (refine Below.trans ?_ (Below.mono (by assumption) ?_); rotate_left; (first | omega | (simp <;> omega)); rotate_right))))
                have hlt4 := clk_lt hk4
                go_wp2_with fail
                refine (HAD.out _ (by repeat (first | (with_reducible assumption) | (with_reducible refine clk_alloc ?_ _) | (with_reducible refine clk_drew ?_) | (with_reducible refine clk_drewN ?_ _) | ((with_reducible refine clk_far ?_ ?_ _); rotate_left; (first | omega | (simp <;> omega)); rotate_right)))).mono ?_
                rintro e w5 ⟨rfl, hk5, hg5⟩
                have hz5 := hg5.size; try simp at hz5
                have HB5 : Below w.heap.size w w5 := below_of_only1 (k := hg5) (hg := Nat.le_refl _) (h := (by repeat (first | (with_reducible exact Below.refl _ _) | (with_reducible refine Below.drew ?_) | (with_reducible refine below_drewN ?_ _) | ((with_reducible refine Below.alloc ?_ ?_ _); rotate_left; (first | omega | (simp <;> omega)); rotate_right) | ((with_reducible refine Below.setCell ?_ ?_ _); rotate_left; (first | omega | (simp <;> omega)); rotate_right) | (with_reducible assumption) | (refine Below.trans ?_ (Below.mono (by assumption) ?_); rotate_left; (first | omega | (simp <;> omega)); rotate_right))))
                have hx5 := (hg5.block w4.heap.size (by simp) (by simp; omega)).trans (heap_new _ _)
                have hlt5 := clk_lt hk5
                go_wp2_with fail
                refine (reading_clk w.heap.size a2 V2 nl nh _ hk5).mono ?_
                rintro e w6 ⟨rfl, hb6⟩
                have hz6 := hb6.size; try simp at hz6
                have hk6 := clk_below hk5 hb6 hlt5
                have hx6 := blk_below hx5 hb6 (by first | omega | (simp; done) | (simp; omega))
                have HB6 := (show Below w.heap.size w w6 from (by repeat (first | (with_reducible exact Below.refl _ _) | (with_reducible refine Below.drew ?_) | (with_reducible refine below_drewN ?_ _) | ((with_reducible refine Below.alloc ?_ ?_ _); rotate_left; (first | omega | (simp <;> omega)); rotate_right) | ((with_reducible refine Below.setCell ?_ ?_ _); rotate_left; (first | omega | (simp <;> omega)); rotate_right) | (with_reducible assumption) | (refine Below.trans ?_ (Below.mono (by assumption) ?_); rotate_left; (first | omega | (simp <;> omega)); rotate_right))))
                have cx6_0 := blk_cell hx6 0 rfl; have fx6_0 := blk_free hx6 0; have cx6_1 := blk_cell hx6 1 rfl; have fx6_1 := blk_free hx6 1; have lx6 := lt_of_block hx6
                go_wp2_with fail
                refine (rGrow_any lo hi a2 (V2 - r) _).mono ?_
                rintro e w7 ⟨rfl, hb7⟩
                have hz7 := hb7.size; try simp at hz7
                have hk7 := clk_below (clk_alloc hk6 _) hb7 (by first | omega | (simp; done) | (simp; omega))
                have hx7 := blk_below (q := w6.heap.size) (by repeat (first | (with_reducible assumption) | ((with_reducible apply blk_far); rotate_left; (first | omega | (simp <;> omega)); rotate_right) | (with_reducible apply blk_drew) | (with_reducible apply blk_drewN) | (with_reducible exact heap_new _ _) | ((with_reducible apply heap_new'); (first | rfl | (simp <;> fail))) | (with_reducible apply blk_alloc))) hb7 (by first | omega | (simp; done) | (simp; omega))
                have HB7 := (show Below w.heap.size w w7 from (by repeat (first | (with_reducible exact Below.refl _ _) | (with_reducible refine Below.drew ?_) | (with_reducible refine below_drewN ?_ _) | ((with_reducible refine Below.alloc ?_ ?_ _); rotate_left; (first | omega | (simp <;> omega)); rotate_right) | ((with_reducible refine Below.setCell ?_ ?_ _); rotate_left; (first | omega | (simp <;> omega)); rotate_right) | (with_reducible assumption) | (refine Below.trans ?_ (Below.mono (by assumption) ?_); rotate_left; (first | omega | (simp <;> omega)); rotate_right))))
                have cx7_0 := blk_cell hx7 0 rfl; have fx7_0 := blk_free hx7 0; have cx7_1 := blk_cell hx7 1 rfl; have fx7_1 := blk_free hx7 1; have lx7 := lt_of_block hx7
                go_wp2_with fail
                go_roundw
                case rel => exact ⟨k + 1, _, V2, true, nl, nh, rfl, by go_num, by omega, sinv_kn ho hd1 hd2 ⟨hr1, hr2⟩ HK2.out, (by repeat (first | (with_reducible assumption) | (with_reducible refine clk_alloc ?_ _) | (with_reducible refine clk_drew ?_) | (with_reducible refine clk_drewN ?_ _) | ((with_reducible refine clk_far ?_ ?_ _); rotate_left; (first | omega | (simp <;> omega)); rotate_right))), fun _ => HK2.out, by omega, by omega, fun _ => rfl, (by repeat (first | (with_reducible exact Below.refl _ _) | (with_reducible refine Below.drew ?_) | (with_reducible refine below_drewN ?_ _) | ((with_reducible refine Below.alloc ?_ ?_ _); rotate_left; (first | omega | (simp <;> omega)); rotate_right) | ((with_reducible refine Below.setCell ?_ ?_ _); rotate_left; (first | omega | (simp <;> omega)); rotate_right) | (with_reducible assumption) | (refine Below.trans ?_ (Below.mono (by assumption) ?_); rotate_left; (first | omega | (simp <;> omega)); rotate_right)))⟩
                case measure => simp [intOf]; omega
            · have R1 := Lib.hid (fun W : World => rl_yes hs0 W)
              obtain ⟨v2, R2'⟩ := rl_no' hh0
              have R2 := Lib.hid R2'
              clear hs0 hh0 R2'
              go_wp2_with fail
              refine (R1.out _).mono ?_
              rintro e w4 ⟨rfl, rfl⟩
              go_wp2_with fail
              refine (R2.out _).mono ?_
              rintro e w4 ⟨rfl, rfl⟩
              go_wp2_with fail
              refine (known_true _).mono ?_
              rintro e wk ⟨rfl, hbk⟩
              have hzk := hbk.size; try simp at hzk
              go_wp2_with fail
              go_ret
              exact ⟨rfl, (by repeat (first | (with_reducible exact Below.refl _ _) | (with_reducible refine Below.drew ?_) | (with_reducible refine below_drewN ?_ _) | ((with_reducible refine Below.alloc ?_ ?_ _); rotate_left; (first | omega | (simp <;> omega)); rotate_right) | ((with_reducible refine Below.setCell ?_ ?_ _); rotate_left; (first | omega | (simp <;> omega)); rotate_right) | (with_reducible assumption) | (refine Below.trans ?_ (Below.mono (by assumption) ?_); rotate_left; (first | omega | (simp <;> omega)); rotate_right)))⟩
          · obtain ⟨v1, R1'⟩ := rl_no' hs0
            have R1 := Lib.hid R1'
            clear hs0 R1'
            go_wp2_with fail
            refine (R1.out _).mono ?_
            rintro e w4 ⟨rfl, rfl⟩
            go_wp2_with fail
            refine (rlocal_any _ _ _ _).mono ?_
            rintro e w4 ⟨rfl, rfl⟩
            go_wp2_with fail
            refine (known_true _).mono ?_
            rintro e wk ⟨rfl, hbk⟩
            have hzk := hbk.size; try simp at hzk
            go_wp2_with fail
            go_ret
            exact ⟨rfl, (by repeat (first | (with_reducible exact Below.refl _ _) | (with_reducible refine Below.drew ?_) | (with_reducible refine below_drewN ?_ _) | ((with_reducible refine Below.alloc ?_ ?_ _); rotate_left; (first | omega | (simp <;> omega)); rotate_right) | ((with_reducible refine Below.setCell ?_ ?_ _); rotate_left; (first | omega | (simp <;> omega)); rotate_right) | (with_reducible assumption) | (refine Below.trans ?_ (Below.mono (by assumption) ?_); rotate_left; (first | omega | (simp <;> omega)); rotate_right)))⟩
        · have bad := bad4 good
          clear good
          rcases bad with e1 | ⟨e1, e2⟩
          all_goals
            go_wp2_with fail
            refine (known_true _).mono ?_
            rintro e w3 ⟨rfl, hb3⟩
            have hz3 := hb3.size; try simp at hz3
            go_wp2_with fail
            go_ret
            exact ⟨rfl, (by repeat (first | (with_reducible exact Below.refl _ _) | (with_reducible refine Below.drew ?_) | (with_reducible refine below_drewN ?_ _) | ((with_reducible refine Below.alloc ?_ ?_ _); rotate_left; (first | omega | (simp <;> omega)); rotate_right) | ((with_reducible refine Below.setCell ?_ ?_ _); rotate_left; (first | omega | (simp <;> omega)); rotate_right) | (with_reducible assumption) | (refine Below.trans ?_ (Below.mono (by assumption) ?_); rotate_left; (first | omega | (simp <;> omega)); rotate_right)))⟩
      · obtain rfl : k = len3 := by omega
        rcases Nat.eq_zero_or_pos k with hk0 | hk0
        · subst hk0
          go_wp2_with fail
          refine (known_true _).mono ?_
          rintro e wk ⟨rfl, hbk⟩
          have hzk := hbk.size; try simp at hzk
          go_wp2_with fail
          go_ret
          exact ⟨rfl, (by repeat (first | (with_reducible exact Below.refl _ _) | (with_reducible refine Below.drew ?_) | (with_reducible refine below_drewN ?_ _) | ((with_reducible refine Below.alloc ?_ ?_ _); rotate_left; (first | omega | (simp <;> omega)); rotate_right) | ((with_reducible refine Below.setCell ?_ ?_ _); rotate_left; (first | omega | (simp <;> omega)); rotate_right) | (with_reducible assumption) | (refine Below.trans ?_ (Below.mono (by assumption) ?_); rotate_left; (first | omega | (simp <;> omega)); rotate_right)))⟩
        · obtain rfl : s = true := hks hk0
          have K := hK rfl
          have hne : ((k : Int) == 0) = false := by rw [beq_eq_false_iff_ne]; omega
          by_cases hs0 : lE a0 a1 (now + a4) = 0
          · by_cases hh0 : lE a0 a1 (now + a4 + 1) = 0
            · obtain ⟨ho, _, hi0, _⟩ := lE_ok hh0
              have R1 := Lib.hid (fun W : World => rl_yes hs0 W)
              have R2 := Lib.hid (fun W : World => rl_yes hh0 W)
              clear hs0 hh0
              have A1 := Lib.hid (fun (W : World) (hk : IsClk W w.heap.size a2 r true true lo hi) => at_after w.heap.size ho hd1 hd2 ⟨hr1, hr2⟩ (x := now + a4) (by omega) (by omega) K W hk)
              have A2 := Lib.hid (fun (W : World) (hk : IsClk W w.heap.size a2 r true true lo hi) => at_after w.heap.size ho hd1 hd2 ⟨hr1, hr2⟩ (x := now + a4 + 1) (by omega) (by omega) K W hk)
              obtain ⟨b1, b2, b3, b4⟩ := after_bounds ho hd1 hd2 ⟨hr1, hr2⟩ (x := now + a4) (by omega) (by omega) K
              obtain ⟨m, l1, h1, l2, h2, m1, m2, m3, m4, m5, S1, S2, S3⟩ := sure_after w.heap.size ho hd1 hd2 ⟨hr1, hr2⟩ ⟨ht1, ht2⟩ K
              have HS1 := Lib.hid S1
              have HS2 := Lib.hid S2
              have HS3 := Lib.hid S3
              have HM3 := Lib.hid m3
              clear K S1 S2 S3 m3 hK hks hS
              generalize Clk.L a0 a1 (now + a4) = V1 at *
              generalize Clk.L a0 a1 (now + a4 + 1) = V2 at *
              generalize Clk.gLo lo a2 (V1 - r) = al at *
              generalize Clk.gHi hi a2 (V1 - r) = ah at *
              generalize Clk.gLo lo a2 (V2 - r) = bl at *
              generalize Clk.gHi hi a2 (V2 - r) = bh at *
              have hw1 := IntWalk.i64_in (r + (m : Int)) (by omega)
              rcases Nat.eq_zero_or_pos m with hm0 | hm0
              · have hm1 : m ≤ 0 := by omega
                clear hm0
                go_wp2_with fail
                refine (R1.out _).mono ?_
                rintro e w4 ⟨rfl, rfl⟩
                go_wp2_with fail
                refine (R2.out _).mono ?_
                rintro e w4 ⟨rfl, rfl⟩
                go_wp2_with fail
                refine (A1.out _ (by repeat (first | (with_reducible assumption) | (with_reducible refine clk_alloc ?_ _) | (with_reducible refine clk_drew ?_) | (with_reducible refine clk_drewN ?_ _) | ((with_reducible refine clk_far ?_ ?_ _); rotate_left; (first | omega | (simp <;> omega)); rotate_right)))).mono ?_
                rintro e w5 ⟨rfl, hb5⟩
                have hz5 := hb5.size; try simp at hz5
                have hk5 := clk_below hkr hb5 hltr
                have HB5 := (show Below w.heap.size w w5 from (by repeat (first | (with_reducible exact Below.refl _ _) | (with_reducible refine Below.drew ?_) | (with_reducible refine below_drewN ?_ _) | ((with_reducible refine Below.alloc ?_ ?_ _); rotate_left; (first | omega | (simp <;> omega)); rotate_right) | ((with_reducible refine Below.setCell ?_ ?_ _); rotate_left; (first | omega | (simp <;> omega)); rotate_right) | (with_reducible assumption) | (refine Below.trans ?_ (Below.mono (by assumption) ?_); rotate_left; (first | omega | (simp <;> omega)); rotate_right))))
                go_wp2_with fail
                refine (A2.out _ (by repeat (first | (with_reducible assumption) | (with_reducible refine clk_alloc ?_ _) | (with_reducible refine clk_drew ?_) | (with_reducible refine clk_drewN ?_ _) | ((with_reducible refine clk_far ?_ ?_ _); rotate_left; (first | omega | (simp <;> omega)); rotate_right)))).mono ?_
                rintro e w6 ⟨rfl, hb6⟩
                have hz6 := hb6.size; try simp at hz6
                have hk6 := clk_below (clk_alloc hk5 _) hb6 (by first | omega | (simp; done) | (simp; omega))
                have hx6 := blk_below (q := w5.heap.size) (by repeat (first | (with_reducible assumption) | ((with_reducible apply blk_far); rotate_left; (first | omega | (simp <;> omega)); rotate_right) | (with_reducible apply blk_drew) | (with_reducible apply blk_drewN) | (with_reducible exact heap_new _ _) | ((with_reducible apply heap_new'); (first | rfl | (simp <;> fail))) | (with_reducible apply blk_alloc))) hb6 (by first | omega | (simp; done) | (simp; omega))
                have HB6 := (show Below w.heap.size w w6 from (by repeat (first | (with_reducible exact Below.refl _ _) | (with_reducible refine Below.drew ?_) | (with_reducible refine below_drewN ?_ _) | ((with_reducible refine Below.alloc ?_ ?_ _); rotate_left; (first | omega | (simp <;> omega)); rotate_right) | ((with_reducible refine Below.setCell ?_ ?_ _); rotate_left; (first | omega | (simp <;> omega)); rotate_right) | (with_reducible assumption) | (refine Below.trans ?_ (Below.mono (by assumption) ?_); rotate_left; (first | omega | (simp <;> omega)); rotate_right))))
                have cx6_0 := blk_cell hx6 0 rfl; have fx6_0 := blk_free hx6 0; have cx6_1 := blk_cell hx6 1 rfl; have fx6_1 := blk_free hx6 1; have lx6 := lt_of_block hx6
                go_wp2_with fail
                refine (HS1.out _ (by repeat (first | (with_reducible assumption) | (with_reducible refine clk_alloc ?_ _) | (with_reducible refine clk_drew ?_) | (with_reducible refine clk_drewN ?_ _) | ((with_reducible refine clk_far ?_ ?_ _); rotate_left; (first | omega | (simp <;> omega)); rotate_right)))).mono ?_
                rintro e w7 ⟨rfl, hb7⟩
                have hz7 := hb7.size; try simp at hz7
                have hk7 := clk_below (clk_alloc hk6 _) hb7 (by first | omega | (simp; done) | (simp; omega))
                have hx7 := blk_below (blk_alloc hx6 _) hb7 (by first | omega | (simp; done) | (simp; omega))
                have HB7 := (show Below w.heap.size w w7 from (by repeat (first | (with_reducible exact Below.refl _ _) | (with_reducible refine Below.drew ?_) | (with_reducible refine below_drewN ?_ _) | ((with_reducible refine Below.alloc ?_ ?_ _); rotate_left; (first | omega | (simp <;> omega)); rotate_right) | ((with_reducible refine Below.setCell ?_ ?_ _); rotate_left; (first | omega | (simp <;> omega)); rotate_right) | (with_reducible assumption) | (refine Below.trans ?_ (Below.mono (by assumption) ?_); rotate_left; (first | omega | (simp <;> omega)); rotate_right))))
                go_wp2_with fail
                refine (reading_clk w.heap.size a2 r lo hi _ (by repeat (first | (with_reducible assumption) | (with_reducible refine clk_alloc ?_ _) | (with_reducible refine clk_drew ?_) | (with_reducible refine clk_drewN ?_ _) | ((with_reducible refine clk_far ?_ ?_ _); rotate_left; (first | omega | (simp <;> omega)); rotate_right)))).mono ?_
                rintro e w8 ⟨rfl, hb8⟩
                have hz8 := hb8.size; try simp at hz8
                have hk8 := clk_below hk7 hb8 (by first | omega | (simp; done) | (simp; omega))
                have hx8 := blk_below hx7 hb8 (by first | omega | (simp; done) | (simp; omega))
                have HB8 := (show Below w.heap.size w w8 from (by repeat (first | (with_reducible exact Below.refl _ _) | (with_reducible refine Below.drew ?_) | (with_reducible refine below_drewN ?_ _) | ((with_reducible refine Below.alloc ?_ ?_ _); rotate_left; (first | omega | (simp <;> omega)); rotate_right) | ((with_reducible refine Below.setCell ?_ ?_ _); rotate_left; (first | omega | (simp <;> omega)); rotate_right) | (with_reducible assumption) | (refine Below.trans ?_ (Below.mono (by assumption) ?_); rotate_left; (first | omega | (simp <;> omega)); rotate_right))))
                go_wp2_with fail
                refine (HS2.out _ (by repeat (first | (with_reducible assumption) | (with_reducible refine clk_alloc ?_ _) | (with_reducible refine clk_drew ?_) | (with_reducible refine clk_drewN ?_ _) | ((with_reducible refine clk_far ?_ ?_ _); rotate_left; (first | omega | (simp <;> omega)); rotate_right)))).mono ?_
                rintro e w9 ⟨rfl, hb9⟩
                have hz9 := hb9.size; try simp at hz9
                have hk9 := clk_below (clk_alloc hk8 _) hb9 (by first | omega | (simp; done) | (simp; omega))
                have hx9 := blk_below (blk_alloc hx8 _) hb9 (by first | omega | (simp; done) | (simp; omega))
                have HB9 := (show Below w.heap.size w w9 from (by repeat (first | (with_reducible exact Below.refl _ _) | (with_reducible refine Below.drew ?_) | (with_reducible refine below_drewN ?_ _) | ((with_reducible refine Below.alloc ?_ ?_ _); rotate_left; (first | omega | (simp <;> omega)); rotate_right) | ((with_reducible refine Below.setCell ?_ ?_ _); rotate_left; (first | omega | (simp <;> omega)); rotate_right) | (with_reducible assumption) | (refine Below.trans ?_ (Below.mono (by assumption) ?_); rotate_left; (first | omega | (simp <;> omega)); rotate_right))))
                clear hx6 hx7 hx8 lx6 cx6_0 fx6_0 cx6_1 fx6_1
                have cx9_0 := blk_cell hx9 0 rfl; have fx9_0 := blk_free hx9 0; have cx9_1 := blk_cell hx9 1 rfl; have fx9_1 := blk_free hx9 1; have lx9 := lt_of_block hx9
                go_wp2_with fail
                refine (known_true _).mono ?_
                rintro e wk ⟨rfl, hbk⟩
                have hzk := hbk.size; try simp at hzk
                go_wp2_with fail
                go_ret
                exact ⟨rfl, (by repeat (first | (with_reducible exact Below.refl _ _) | (with_reducible refine Below.drew ?_) | (with_reducible refine below_drewN ?_ _) | ((with_reducible refine Below.alloc ?_ ?_ _); rotate_left; (first | omega | (simp <;> omega)); rotate_right) | ((with_reducible refine Below.setCell ?_ ?_ _); rotate_left; (first | omega | (simp <;> omega)); rotate_right) | (with_reducible assumption) | (refine Below.trans ?_ (Below.mono (by assumption) ?_); rotate_left; (first | omega | (simp <;> omega)); rotate_right)))⟩
              · have hw2 := IntWalk.i64_in (r + (m : Int) - 1) (by omega)
                go_wp2_with fail
                refine (R1.out _).mono ?_
                rintro e w4 ⟨rfl, rfl⟩
                go_wp2_with fail
                refine (R2.out _).mono ?_
                rintro e w4 ⟨rfl, rfl⟩
                go_wp2_with fail
                refine (A1.out _ (by repeat (first | (with_reducible assumption) | (with_reducible refine clk_alloc ?_ _) | (with_reducible refine clk_drew ?_) | (with_reducible refine clk_drewN ?_ _) | ((with_reducible refine clk_far ?_ ?_ _); rotate_left; (first | omega | (simp <;> omega)); rotate_right)))).mono ?_
                rintro e w5 ⟨rfl, hb5⟩
                have hz5 := hb5.size; try simp at hz5
                have hk5 := clk_below hkr hb5 hltr
                have HB5 := (show Below w.heap.size w w5 from (by repeat (first | (with_reducible exact Below.refl _ _) | (with_reducible refine Below.drew ?_) | (with_reducible refine below_drewN ?_ _) | ((with_reducible refine Below.alloc ?_ ?_ _); rotate_left; (first | omega | (simp <;> omega)); rotate_right) | ((with_reducible refine Below.setCell ?_ ?_ _); rotate_left; (first | omega | (simp <;> omega)); rotate_right) | (with_reducible assumption) | (refine Below.trans ?_ (Below.mono (by assumption) ?_); rotate_left; (first | omega | (simp <;> omega)); rotate_right))))
                go_wp2_with fail
                refine (A2.out _ (by repeat (first | (with_reducible assumption) | (with_reducible refine clk_alloc ?_ _) | (with_reducible refine clk_drew ?_) | (with_reducible refine clk_drewN ?_ _) | ((with_reducible refine clk_far ?_ ?_ _); rotate_left; (first | omega | (simp <;> omega)); rotate_right)))).mono ?_
                rintro e w6 ⟨rfl, hb6⟩
                have hz6 := hb6.size; try simp at hz6
                have hk6 := clk_below (clk_alloc hk5 _) hb6 (by first | omega | (simp; done) | (simp; omega))
                have hx6 := blk_below (q := w5.heap.size) (by repeat (first | (with_reducible assumption) | ((with_reducible apply blk_far); rotate_left; (first | omega | (simp <;> omega)); rotate_right) | (with_reducible apply blk_drew) | (with_reducible apply blk_drewN) | (with_reducible exact heap_new _ _) | ((with_reducible apply heap_new'); (first | rfl | (simp <;> fail))) | (with_reducible apply blk_alloc))) hb6 (by first | omega | (simp; done) | (simp; omega))
                have HB6 := (show Below w.heap.size w w6 from (by repeat (first | (with_reducible exact Below.refl _ _) | (with_reducible refine Below.drew ?_) | (with_reducible refine below_drewN ?_ _) | ((with_reducible refine Below.alloc ?_ ?_ _); rotate_left; (first | omega | (simp <;> omega)); rotate_right) | ((with_reducible refine Below.setCell ?_ ?_ _); rotate_left; (first | omega | (simp <;> omega)); rotate_right) | (with_reducible assumption) | (refine Below.trans ?_ (Below.mono (by assumption) ?_); rotate_left; (first | omega | (simp <;> omega)); rotate_right))))
                have cx6_0 := blk_cell hx6 0 rfl; have fx6_0 := blk_free hx6 0; have cx6_1 := blk_cell hx6 1 rfl; have fx6_1 := blk_free hx6 1; have lx6 := lt_of_block hx6
                go_wp2_with fail
                refine (HS1.out _ (by repeat (first | (with_reducible assumption) | (with_reducible refine clk_alloc ?_ _) | (with_reducible refine clk_drew ?_) | (with_reducible refine clk_drewN ?_ _) | ((with_reducible refine clk_far ?_ ?_ _); rotate_left; (first | omega | (simp <;> omega)); rotate_right)))).mono ?_
                rintro e w7 ⟨rfl, hb7⟩
                have hz7 := hb7.size; try simp at hz7
                have hk7 := clk_below (clk_alloc hk6 _) hb7 (by first | omega | (simp; done) | (simp; omega))
                have hx7 := blk_below (blk_alloc hx6 _) hb7 (by first | omega | (simp; done) | (simp; omega))
                have HB7 := (show Below w.heap.size w w7 from (by repeat (first | (with_reducible exact Below.refl _ _) | (with_reducible refine Below.drew ?_) | (with_reducible refine below_drewN ?_ _) | ((with_reducible refine Below.alloc ?_ ?_ _); rotate_left; (first | omega | (simp <;> omega)); rotate_right) | ((with_reducible refine Below.setCell ?_ ?_ _); rotate_left; (first | omega | (simp <;> omega)); rotate_right) | (with_reducible assumption) | (refine Below.trans ?_ (Below.mono (by assumption) ?_); rotate_left; (first | omega | (simp <;> omega)); rotate_right))))
                go_wp2_with fail
                refine (reading_clk w.heap.size a2 r lo hi _ (by repeat (first | (with_reducible assumption) | (with_reducible refine clk_alloc ?_ _) | (with_reducible refine clk_drew ?_) | (with_reducible refine clk_drewN ?_ _) | ((with_reducible refine clk_far ?_ ?_ _); rotate_left; (first | omega | (simp <;> omega)); rotate_right)))).mono ?_
                rintro e w8 ⟨rfl, hb8⟩
                have hz8 := hb8.size; try simp at hz8
                have hk8 := clk_below hk7 hb8 (by first | omega | (simp; done) | (simp; omega))
                have hx8 := blk_below hx7 hb8 (by first | omega | (simp; done) | (simp; omega))
                have HB8 := (show Below w.heap.size w w8 from (by repeat (first | (with_reducible exact Below.refl _ _) | (with_reducible refine Below.drew ?_) | (with_reducible refine below_drewN ?_ _) | ((with_reducible refine Below.alloc ?_ ?_ _); rotate_left; (first | omega | (simp <;> omega)); rotate_right) | ((with_reducible refine Below.setCell ?_ ?_ _); rotate_left; (first | omega | (simp <;> omega)); rotate_right) | (with_reducible assumption) | (refine Below.trans ?_ (Below.mono (by assumption) ?_); rotate_left; (first | omega | (simp <;> omega)); rotate_right))))
                go_wp2_with fail
                refine (HS2.out _ (by repeat (first | (with_reducible assumption) | (with_reducible refine clk_alloc ?_ _) | (with_reducible refine clk_drew ?_) | (with_reducible refine clk_drewN ?_ _) | ((with_reducible refine clk_far ?_ ?_ _); rotate_left; (first | omega | (simp <;> omega)); rotate_right)))).mono ?_
                rintro e w9 ⟨rfl, hb9⟩
                have hz9 := hb9.size; try simp at hz9
                have hk9 := clk_below (clk_alloc hk8 _) hb9 (by first | omega | (simp; done) | (simp; omega))
                have hx9 := blk_below (blk_alloc hx8 _) hb9 (by first | omega | (simp; done) | (simp; omega))
                have HB9 := (show Below w.heap.size w w9 from (by repeat (first | (with_reducible exact Below.refl _ _) | (with_reducible refine Below.drew ?_) | (with_reducible refine below_drewN ?_ _) | ((with_reducible refine Below.alloc ?_ ?_ _); rotate_left; (first | omega | (simp <;> omega)); rotate_right) | ((with_reducible refine Below.setCell ?_ ?_ _); rotate_left; (first | omega | (simp <;> omega)); rotate_right) | (with_reducible assumption) | (refine Below.trans ?_ (Below.mono (by assumption) ?_); rotate_left; (first | omega | (simp <;> omega)); rotate_right))))
                clear hx6 hx7 hx8 lx6 cx6_0 fx6_0 cx6_1 fx6_1
                have cx9_0 := blk_cell hx9 0 rfl; have fx9_0 := blk_free hx9 0; have cx9_1 := blk_cell hx9 1 rfl; have fx9_1 := blk_free hx9 1; have lx9 := lt_of_block hx9
                go_wp2_with fail
                refine ((HS3.out hm0) _ (by repeat (first | (with_reducible assumption) | (with_reducible refine clk_alloc ?_ _) | (with_reducible refine clk_drew ?_) | (with_reducible refine clk_drewN ?_ _) | ((with_reducible refine clk_far ?_ ?_ _); rotate_left; (first | omega | (simp <;> omega)); rotate_right)))).mono ?_
                rintro e wa ⟨rfl, hba⟩
                have hza := hba.size; try simp at hza
                have hka := clk_below (show IsClk _ w.heap.size a2 r true true lo hi from (by repeat (first | (with_reducible assumption) | (with_reducible refine clk_alloc ?_ _) | (with_reducible refine clk_drew ?_) | (with_reducible refine clk_drewN ?_ _) | ((with_reducible refine clk_far ?_ ?_ _); rotate_left; (first | omega | (simp <;> omega)); rotate_right)))) hba (by first | omega | (simp; done) | (simp; omega))
                have hxa := blk_below (q := w5.heap.size) (x := .cells #[.int .i64 l1, .int .i64 h1] 30 (0, 0)) (by apply Eq.trans; (repeat (first | (with_reducible assumption) | (with_reducible apply blk_set) | ((with_reducible apply blk_far); rotate_left; (first | omega | (simp <;> omega)); rotate_right) | (with_reducible apply blk_drew) | (with_reducible apply blk_drewN) | ((with_reducible apply heap_new'); (first | rfl | (simp <;> fail))) | (with_reducible apply blk_alloc))); (first | with_reducible rfl | (simp <;> fail) | rfl)) hba (by first | omega | (simp; done) | (simp; omega))
                have HBa := (show Below w.heap.size w wa from (by repeat (first | (with_reducible exact Below.refl _ _) | (with_reducible refine Below.drew ?_) | (with_reducible refine below_drewN ?_ _) | ((with_reducible refine Below.alloc ?_ ?_ _); rotate_left; (first | omega | (simp <;> omega)); rotate_right) | ((with_reducible refine Below.setCell ?_ ?_ _); rotate_left; (first | omega | (simp <;> omega)); rotate_right) | (with_reducible assumption) | (refine Below.trans ?_ (Below.mono (by assumption) ?_); rotate_left; (first | omega | (simp <;> omega)); rotate_right))))
                have cxa_0 := blk_cell hxa 0 rfl; have fxa_0 := blk_free hxa 0; have cxa_1 := blk_cell hxa 1 rfl; have fxa_1 := blk_free hxa 1; have lxa := lt_of_block hxa
                have hlt9 := HM3.out hm0
                go_wp2_with fail
                refine (known_true _).mono ?_
                rintro e wk ⟨rfl, hbk⟩
                have hzk := hbk.size; try simp at hzk
                go_wp2_with fail
                go_ret
                exact ⟨rfl, (by repeat (first | (with_reducible exact Below.refl _ _) | (with_reducible refine Below.drew ?_) | (with_reducible refine below_drewN ?_ _) | ((with_reducible refine Below.alloc ?_ ?_ _); rotate_left; (first | omega | (simp <;> omega)); rotate_right) | ((with_reducible refine Below.setCell ?_ ?_ _); rotate_left; (first | omega | (simp <;> omega)); rotate_right) | (with_reducible assumption) | (refine Below.trans ?_ (Below.mono (by assumption) ?_); rotate_left; (first | omega | (simp <;> omega)); rotate_right)))⟩
            · have R1 := Lib.hid (fun W : World => rl_yes hs0 W)
              obtain ⟨v2, R2'⟩ := rl_no' hh0
              have R2 := Lib.hid R2'
              clear hs0 hh0 R2'
              go_wp2_with fail
              refine (R1.out _).mono ?_
              rintro e w4 ⟨rfl, rfl⟩
              go_wp2_with fail
              refine (R2.out _).mono ?_
              rintro e w4 ⟨rfl, rfl⟩
              go_wp2_with fail
              refine (known_true _).mono ?_
              rintro e wk ⟨rfl, hbk⟩
              have hzk := hbk.size; try simp at hzk
              go_wp2_with fail
              go_ret
              exact ⟨rfl, (by repeat (first | (with_reducible exact Below.refl _ _) | (with_reducible refine Below.drew ?_) | (with_reducible refine below_drewN ?_ _) | ((with_reducible refine Below.alloc ?_ ?_ _); rotate_left; (first | omega | (simp <;> omega)); rotate_right) | ((with_reducible refine Below.setCell ?_ ?_ _); rotate_left; (first | omega | (simp <;> omega)); rotate_right) | (with_reducible assumption) | (refine Below.trans ?_ (Below.mono (by assumption) ?_); rotate_left; (first | omega | (simp <;> omega)); rotate_right)))⟩
          · obtain ⟨v1, R1'⟩ := rl_no' hs0
            have R1 := Lib.hid R1'
            clear hs0 R1'
            go_wp2_with fail
            refine (R1.out _).mono ?_
            rintro e w4 ⟨rfl, rfl⟩
            go_wp2_with fail
            refine (rlocal_any _ _ _ _).mono ?_
            rintro e w4 ⟨rfl, rfl⟩
            go_wp2_with fail
            refine (known_true _).mono ?_
            rintro e wk ⟨rfl, hbk⟩
            have hzk := hbk.size; try simp at hzk
            go_wp2_with fail
            go_ret
            exact ⟨rfl, (by repeat (first | (with_reducible exact Below.refl _ _) | (with_reducible refine Below.drew ?_) | (with_reducible refine below_drewN ?_ _) | ((with_reducible refine Below.alloc ?_ ?_ _); rotate_left; (first | omega | (simp <;> omega)); rotate_right) | ((with_reducible refine Below.setCell ?_ ?_ _); rotate_left; (first | omega | (simp <;> omega)); rotate_right) | (with_reducible assumption) | (refine Below.trans ?_ (Below.mono (by assumption) ?_); rotate_left; (first | omega | (simp <;> omega)); rotate_right)))⟩
theorem own : ownKnob Try.prog.godebug = none := by kernel_rfl
theorem laidOut : laidOutB Try.prog = true := by kernel_rfl
theorem cells59 : Try.prog.cellsOf 59 = 4 := by kernel_rfl
set_option maxRecDepth 100000 in
theorem lifted (os : Os) (started : os.Started) (H : Type) (enc : TypeId × Value → H) :
    ReturnsInHanded {} Try.checked os 9 .any (Rows.clockHoldsSpec.pre6 enc Try.prog Try.f9 Rows.clockHoldsRow.domain false) (Rows.clockHoldsSpec.post enc Try.prog Try.f9 false true false false) := by
  refine returnsInHanded_of_change (C := Try.checked) own started (by kernel_rfl) Try.func9
    (ChangeSpec.witness6 (enc := enc) (C := Try.checked) false ⟨#[], #[.int .i64 0, .int .i64 0, .int .i64 0, .slice none 0 0, .int .i64 0, .int .i64 0], []⟩ 8 (by kernel_rfl) (by kernel_rfl) (by kernel_rfl) (by kernel_rfl)) ?_
  intro W base args ds gs before hval0 hW hcnd _
  have hval : ∀ (j : Nat) t v, Try.f9.params[j]? = some t → args[j]? = some v → Value.okWide Try.prog W .any base t v := hval0
  have hW' := hW
  obtain ⟨p, q, hA0, hV, rfl, hfz, hnd⟩ := hW
  have hA : DataW.TrodAll enc Try.prog W 0 (fun _ => true) true Try.f9.params.toList args.toList ds p := hA0
  rw [Try.params9] at hA hval
  obtain ⟨v0, vs0, d0, ds0, p0, q0, hargs, rfl, rfl, h0, r0⟩ := trodAll_cons hA
  obtain ⟨v1, vs1, d1, ds1, p1, q1, rfl, rfl, rfl, h1, r1⟩ := trodAll_cons r0
  obtain ⟨v2, vs2, d2, ds2, p2, q2, rfl, rfl, rfl, h2, r2⟩ := trodAll_cons r1
  obtain ⟨v3, vs3, d3, ds3, p3, q3, rfl, rfl, rfl, h3, r3⟩ := trodAll_cons r2
  obtain ⟨v4, vs4, d4, ds4, p4, q4, rfl, rfl, rfl, h4, r4⟩ := trodAll_cons r3
  obtain ⟨v5, vs5, d5, ds5, p5, q5, rfl, rfl, rfl, h5, r5⟩ := trodAll_cons r4
  obtain ⟨rfl, rfl, rfl⟩ := trodAll_nil r5
  obtain rfl : args = #[v0, v1, v2, v3, v4, v5] := by cases args; simp_all
  obtain ⟨rfl, rfl⟩ := trodVars_none hV
  have k0 := h0
  have lt0 : ∀ x ∈ p0, x.block < W.heap.size := by obtain ⟨m, hm⟩ := k0; exact DataW.trod_lt m _ _ _ hm
  obtain ⟨a0, rfl, _, _, w0⟩ := open_int Try.underlying3 (hval 0 3 v0 rfl rfl) h0
  have k1 := h1
  have lt1 : ∀ x ∈ p1, x.block < W.heap.size := by obtain ⟨m, hm⟩ := k1; exact DataW.trod_lt m _ _ _ hm
  obtain ⟨a1, rfl, _, _, w1⟩ := open_int Try.underlying3 (hval 1 3 v1 rfl rfl) h1
  have k2 := h2
  have lt2 : ∀ x ∈ p2, x.block < W.heap.size := by obtain ⟨m, hm⟩ := k2; exact DataW.trod_lt m _ _ _ hm
  obtain ⟨a2, rfl, _, _, w2⟩ := open_int Try.underlying3 (hval 2 3 v2 rfl rfl) h2
  have k3 := h3
  have lt3 : ∀ x ∈ p3, x.block < W.heap.size := by obtain ⟨m, hm⟩ := k3; exact DataW.trod_lt m _ _ _ hm
  obtain ⟨a3, len3, cap3, rfl⟩ := okWide_slice Try.underlying57 (hval 3 57 v3 rfl rfl)
  obtain ⟨z3, w3⟩ : ∃ z, IsRows 4 W a3 len3 cap3 z := isRows_of (fs := #[_, _, _, _]) Try.underlying57 Try.underlying59 (by kernel_rfl) cells59 (by simp) (fun j f hj => by rcases j with _ | _ | _ | _ | j <;> simp at hj <;> (subst hj; exact Try.underlying3)) h3
  have k4 := h4
  have lt4 : ∀ x ∈ p4, x.block < W.heap.size := by obtain ⟨m, hm⟩ := k4; exact DataW.trod_lt m _ _ _ hm
  obtain ⟨a4, rfl, _, _, w4⟩ := open_int Try.underlying3 (hval 4 3 v4 rfl rfl) h4
  have k5 := h5
  have lt5 : ∀ x ∈ p5, x.block < W.heap.size := by obtain ⟨m, hm⟩ := k5; exact DataW.trod_lt m _ _ _ hm
  obtain ⟨a5, rfl, _, _, w5⟩ := open_int Try.underlying3 (hval 5 3 v5 rfl rfl) h5
  clear hA0 hval0
  refine (walk a0 a1 a2 a3 len3 cap3 z3 a4 a5 W w0 w1 w2 w3 w4 w5).mono fun e W' ⟨he, bel⟩ => ?_
  subst he
  exact ⟨_, rfl, _, _, _, [], _, [], hW', trodAll_mk1 (shut_bool Try.underlying4 _), (trodAll_cons_mk (Below.trod laidOut (by kernel_rfl) (of_decide_eq_true (by kernel_rfl)) k0 bel lt0) (trodAll_cons_mk (Below.trod laidOut (by kernel_rfl) (of_decide_eq_true (by kernel_rfl)) k1 bel lt1) (trodAll_cons_mk (Below.trod laidOut (by kernel_rfl) (of_decide_eq_true (by kernel_rfl)) k2 bel lt2) (trodAll_cons_mk (Below.trod laidOut (by kernel_rfl) (of_decide_eq_true (by kernel_rfl)) k3 bel lt3) (trodAll_cons_mk (Below.trod laidOut (by kernel_rfl) (of_decide_eq_true (by kernel_rfl)) k4 bel lt4) (trodAll_cons_mk (Below.trod laidOut (by kernel_rfl) (of_decide_eq_true (by kernel_rfl)) k5 bel lt5) trodAll_mk0)))))), rfl, bel.frame _, fun h => by cases h⟩
theorem over : Rows.clockHoldsRow.holds Try.pinned (OpenSpec.ofChange Rows.clockHoldsSpec) :=
  OpenClaim.holds_of_wide 9 Try.f9 rfl rfl rfl rfl rfl rfl rfl ⟨rfl, rfl, rfl, rfl, rfl⟩ rfl rfl rfl rfl rfl (by kernel_rfl) Try.func9 (by kernel_rfl)
    (of_decide_eq_true (by kernel_rfl)) (by unfold Func.isWrapper; first | (rw [if_pos (by decide +kernel)]; kernel_rfl) | (rw [if_neg (by decide +kernel)]; exact ⟨rfl, rfl⟩))
    (fun os started H enc _ => lifted os started H enc)
theorem proved : Rows.ClockHoldsSaid := over
end Go.Proofs.Ytfbkbpoabajgdaa.lawHolds

/- The reference's Sure. -/
import Derived.Test.YtfbkbpoabajgdaaSure
namespace Go.Proofs.Ytfbkbpoabajgdaa
open Go.RowKit
set_option maxHeartbeats 4000000
set_option linter.unusedSimpArgs false
set_option linter.unusedVariables false
set_option maxRecDepth 100000
theorem low_any (d r lo hi l x : Int) (s : Bool) (w : World) (h0 : 0 ≤ d) (h1 : d ≤ 100000) (l0 : -1073741824 ≤ lo) (l1 : lo ≤ 1073741824) (r0 : -1073741824 ≤ r) (r1 : r ≤ 1073741824) (y0 : 0 ≤ l) (y1 : l ≤ 2147483650) (e : x - r = l) :
    Calls Try.prog 42 #[.agg #[.int .i64 d, .int .i64 r, .bool s, .int .i64 lo, .int .i64 hi], .int .i64 x] w fun e w' => e = .returned (.int .i64 (Clk.gLo lo d l)) ∧ Below w.heap.size w w' := by
  have k1 := IntWalk.i64_in (l - 1) (by omega)
  have k3 := IntWalk.i64_in (1000000 + d) (by omega)
  by_cases hl : 1 ≤ l
  · have a1 := Clk.lo_le l d hl h0 h1
    have k2 := IntWalk.i64_in ((l - 1) * 1000000) (by omega)
    have k4 := IntWalk.i64_in ((l - 1) * 1000000 / (1000000 + d)) (by omega)
    have k5 := IntWalk.i64_in (lo + (l - 1) * 1000000 / (1000000 + d)) (by omega)
    have G := Lib.hid (show Clk.gLo lo d l = lo + (l - 1) * 1000000 / (1000000 + d) by rw [Clk.gLo, if_pos hl]; rfl)
    have ht : (l == 0) = false := by rw [beq_eq_false_iff_ne]; omega
    go_enter Try.func42, Try.ntmps42
    go_wp2_with fail
    go_quiet (fail)
    go_wp2_with fail
    go_ret
    exact ⟨ret_int (by rw [G.out]), (by repeat (first | (with_reducible exact Below.refl _ _) | (with_reducible refine Below.drew ?_) | (with_reducible refine below_drewN ?_ _) | ((with_reducible refine Below.alloc ?_ ?_ _); rotate_left; (first | omega | (simp <;> omega)); rotate_right) | ((with_reducible refine Below.setCell ?_ ?_ _); rotate_left; (first | omega | (simp <;> omega)); rotate_right) | (with_reducible assumption) | (refine Below.trans ?_ (Below.mono (by assumption) ?_); rotate_left; (first | omega | (simp <;> omega)); rotate_right)))⟩
  · obtain rfl : l = 0 := by omega
    have G := Lib.hid (show Clk.gLo lo d 0 = lo by rw [Clk.gLo, if_neg hl])
    go_enter Try.func42, Try.ntmps42
    go_wp2_with fail
    go_ret
    exact ⟨ret_int (by rw [G.out]), (by repeat (first | (with_reducible exact Below.refl _ _) | (with_reducible refine Below.drew ?_) | (with_reducible refine below_drewN ?_ _) | ((with_reducible refine Below.alloc ?_ ?_ _); rotate_left; (first | omega | (simp <;> omega)); rotate_right) | ((with_reducible refine Below.setCell ?_ ?_ _); rotate_left; (first | omega | (simp <;> omega)); rotate_right) | (with_reducible assumption) | (refine Below.trans ?_ (Below.mono (by assumption) ?_); rotate_left; (first | omega | (simp <;> omega)); rotate_right)))⟩
theorem rsure_arg (d r : Int) (s : Bool) (lo hi x : Int) (w : World) (h : Clk.inB x 0 3600000 = false) :
    Calls Try.prog 23 #[.agg #[.int .i64 d, .int .i64 r, .bool s, .int .i64 lo, .int .i64 hi], .int .i64 x] w fun e w' => e = .returned (.tuple #[.int .i64 0, .int .i64 2]) ∧ Below w.heap.size w w' := by
  have H := Lib.hid h
  clear h
  go_enter Try.func23, Try.ntmps23
  go_wp2_with (first | (go_at_call 28; refine (to_any _ _ _ _).mono ?_; rintro e w' ⟨rfl, rfl⟩; rw [H.out]))
  go_ret2
  exact ⟨rfl, (by repeat (first | (with_reducible exact Below.refl _ _) | (with_reducible refine Below.drew ?_) | (with_reducible refine below_drewN ?_ _) | ((with_reducible refine Below.alloc ?_ ?_ _); rotate_left; (first | omega | (simp <;> omega)); rotate_right) | ((with_reducible refine Below.setCell ?_ ?_ _); rotate_left; (first | omega | (simp <;> omega)); rotate_right) | (with_reducible assumption) | (refine Below.trans ?_ (Below.mono (by assumption) ?_); rotate_left; (first | omega | (simp <;> omega)); rotate_right)))⟩
theorem rsure_none (d r lo hi x : Int) (w : World) (h : 0 ≤ x ∧ x ≤ 3600000) :
    Calls Try.prog 23 #[.agg #[.int .i64 d, .int .i64 r, .bool false, .int .i64 lo, .int .i64 hi], .int .i64 x] w fun e w' => e = .returned (.tuple #[.int .i64 0, .int .i64 9]) ∧ Below w.heap.size w w' := by
  go_enter Try.func23, Try.ntmps23
  go_wp2_with (first | (go_at_call 28; refine (to_yes _ _ _ _ h).mono ?_; rintro e w' ⟨rfl, rfl⟩))
  go_ret2
  exact ⟨rfl, (by repeat (first | (with_reducible exact Below.refl _ _) | (with_reducible refine Below.drew ?_) | (with_reducible refine below_drewN ?_ _) | ((with_reducible refine Below.alloc ?_ ?_ _); rotate_left; (first | omega | (simp <;> omega)); rotate_right) | ((with_reducible refine Below.setCell ?_ ?_ _); rotate_left; (first | omega | (simp <;> omega)); rotate_right) | (with_reducible assumption) | (refine Below.trans ?_ (Below.mono (by assumption) ?_); rotate_left; (first | omega | (simp <;> omega)); rotate_right)))⟩
def RSRel (w : World) (d r lo hi x : Int) (kx : Nat) (s6 s7 : Value) (wr : World) : Prop :=
  ∃ i j : Nat, s6 = .int .i64 (r - 1 + i) ∧ s7 = .int .i64 (r + j) ∧ i ≤ j ∧ j ≤ Clk.suN r ∧ j - i ≤ kx ∧ Below w.heap.size w wr ∧
    wr.heap[w.heap.size]? = some (.cells #[.int .i64 d, .int .i64 r, .bool true, .int .i64 lo, .int .i64 hi] 44 (0, 0)) ∧ (∀ t, t < i → Clk.suP d lo x t = false) ∧ (∀ t, j ≤ t → t < Clk.suN r → Clk.suP d lo x t = true)
theorem rsure_some (d r lo hi x : Int) (w : World) (c : Clk.CInv d r lo hi) (h : 0 ≤ x ∧ x ≤ 3600000) :
    Calls Try.prog 23 #[.agg #[.int .i64 d, .int .i64 r, .bool true, .int .i64 lo, .int .i64 hi], .int .i64 x] w fun e w' => e = .returned (.tuple #[.int .i64 (Clk.suV d r true lo x), .int .i64 (Clk.suE d r true lo x)]) ∧ Below w.heap.size w w' := by
  obtain ⟨h0, h1, r0, r1, l0, l1, l2⟩ := c
  have N := Lib.hid (show ((Clk.suN r : Nat) : Int) = 1073741824 - r + 1 by unfold Clk.suN; omega)
  have M := Lib.hid (Clk.suP_mono (lo := lo) (time := x) h0 h1)
  have k1 := Clk.inB_iff.2 h
  have E1 := Lib.hid (fun (m : Nat) (q1 : m ≤ Clk.suN r) (q2 : ∀ t, t < m → Clk.suP d lo x t = false) (q3 : ∀ t, m ≤ t → t < Clk.suN r → Clk.suP d lo x t = true) => show Clk.suM d r lo x = m from Clk.cnt_eq _ m _ q1 q2 q3)
  have E2 := Lib.hid (show Clk.suM d r lo x = Clk.suN r → Clk.suV d r true lo x = 0 ∧ Clk.suE d r true lo x = 3 from fun e => by simp [Clk.suV, Clk.suE, k1, e])
  have E3 := Lib.hid (show ∀ m : Nat, m < Clk.suN r → Clk.suM d r lo x = m → Clk.suV d r true lo x = r + m ∧ Clk.suE d r true lo x = 0 from fun m hm e => by
    have e' : Clk.suE d r true lo x = 0 := by rw [Clk.suE, if_neg (by simp [k1]), if_neg (by simp), if_neg (by omega)]
    exact ⟨by rw [Clk.suV, if_pos e', e], e'⟩)
  clear k1
  go_enter Try.func23, Try.ntmps23
  go_wp2_with (first | (go_at_call 28; refine (to_yes _ _ _ _ h).mono ?_; rintro e w' ⟨rfl, rfl⟩))
  go_loopg [6, 7] (Clk.suN r) (fun kx s6 s7 wr => RSRel w d r lo hi x kx s6 s7 wr)
  case atStart => exact ⟨0, Clk.suN r, by go_num, by rw [N.out]; go_num, by omega, by omega, by omega, (by repeat (first | (with_reducible exact Below.refl _ _) | (with_reducible refine Below.drew ?_) | (with_reducible refine below_drewN ?_ _) | ((with_reducible refine Below.alloc ?_ ?_ _); rotate_left; (first | omega | (simp <;> omega)); rotate_right) | ((with_reducible refine Below.setCell ?_ ?_ _); rotate_left; (first | omega | (simp <;> omega)); rotate_right) | (with_reducible assumption) | (refine Below.trans ?_ (Below.mono (by assumption) ?_); rotate_left; (first | omega | (simp <;> omega)); rotate_right))), (by repeat (first | (with_reducible assumption) | ((with_reducible apply blk_far); rotate_left; (first | omega | (simp <;> omega)); rotate_right) | (with_reducible apply blk_drew) | (with_reducible apply blk_drewN) | (with_reducible exact heap_new _ _) | ((with_reducible apply heap_new'); (first | rfl | (simp <;> fail))) | (with_reducible apply blk_alloc))), fun t ht => absurd ht (Nat.not_lt_zero _), fun t h1 h2 => by omega⟩
  case round =>
    obtain ⟨i, j, rfl, rfl, hij, hjn, hg, hb, hB, i1, i2⟩ := hrel
    have hz := hb.size
    have hN : (j : Int) ≤ 1073741824 - r + 1 := by have := N.out; omega
    have I1 := Lib.hid i1
    have I2 := Lib.hid i2
    clear i1 i2
    have cB_0 := blk_cell hB 0 rfl; have fB_0 := blk_free hB 0; have cB_1 := blk_cell hB 1 rfl; have fB_1 := blk_free hB 1; have cB_2 := blk_cell hB 2 rfl; have fB_2 := blk_free hB 2; have cB_3 := blk_cell hB 3 rfl; have fB_3 := blk_free hB 3; have cB_4 := blk_cell hB 4 rfl; have fB_4 := blk_free hB 4; have lB := lt_of_block hB
    by_cases hlt : i < j
    · obtain ⟨m, hmd⟩ : ∃ m : Nat, m = i + (j - i - 1) / 2 := ⟨_, rfl⟩
      have him : i ≤ m := by omega
      have hmj : m < j := by omega
      have hm : r - 1 + (i : Int) + (r + (j : Int) - (r - 1 + (i : Int))) / 2 - r = (m : Int) := by omega
      have L := Lib.hid (fun W => low_any d r lo hi (m : Int) (r - 1 + (i : Int) + (r + (j : Int) - (r - 1 + (i : Int))) / 2) true W h0 h1 l0 (by omega) r0 r1 (by omega) (by omega) hm)
      have hm2 := Lib.hid hm
      clear hm hmd
      cases hp : Clk.suP d lo x m
      · have HP := Lib.hid hp
        have hlt2 : Clk.gLo lo d (m : Int) < x := by unfold Clk.suP at hp; have := of_decide_eq_false hp; omega
        clear hp
        go_wp2_with fail
        refine (L.out _).mono ?_
        rintro e w1 ⟨rfl, hb1⟩
        have hz1 := hb1.size
        have hB1 := blk_below hB hb1 lB
        go_wp2_with fail
        go_roundg (j - (m + 1))
        case rel =>
          refine ⟨m + 1, j, ?_, rfl, by omega, hjn, by omega, (by repeat (first | (with_reducible exact Below.refl _ _) | (with_reducible refine Below.drew ?_) | (with_reducible refine below_drewN ?_ _) | ((with_reducible refine Below.alloc ?_ ?_ _); rotate_left; (first | omega | (simp <;> omega)); rotate_right) | ((with_reducible refine Below.setCell ?_ ?_ _); rotate_left; (first | omega | (simp <;> omega)); rotate_right) | (with_reducible assumption) | (refine Below.trans ?_ (Below.mono (by assumption) ?_); rotate_left; (first | omega | (simp <;> omega)); rotate_right))), (by repeat (first | (with_reducible assumption) | ((with_reducible apply blk_far); rotate_left; (first | omega | (simp <;> omega)); rotate_right) | (with_reducible apply blk_drew) | (with_reducible apply blk_drewN) | (with_reducible exact heap_new _ _) | ((with_reducible apply heap_new'); (first | rfl | (simp <;> fail))) | (with_reducible apply blk_alloc))), fun t ht => ?_, I2.out⟩
          · have := hm2.out; go_num
          · cases hpt : Clk.suP d lo x t with
            | false => rfl
            | true => rw [M.out t m (by omega) hpt] at HP; exact absurd HP.out (by simp)
        case measure => omega
      · have HP := Lib.hid hp
        have hlt2 : x ≤ Clk.gLo lo d (m : Int) := by unfold Clk.suP at hp; exact of_decide_eq_true hp
        clear hp
        go_wp2_with fail
        refine (L.out _).mono ?_
        rintro e w1 ⟨rfl, hb1⟩
        have hz1 := hb1.size
        have hB1 := blk_below hB hb1 lB
        go_wp2_with fail
        go_roundg (m - i)
        case rel =>
          refine ⟨i, m, rfl, ?_, by omega, by omega, by omega, (by repeat (first | (with_reducible exact Below.refl _ _) | (with_reducible refine Below.drew ?_) | (with_reducible refine below_drewN ?_ _) | ((with_reducible refine Below.alloc ?_ ?_ _); rotate_left; (first | omega | (simp <;> omega)); rotate_right) | ((with_reducible refine Below.setCell ?_ ?_ _); rotate_left; (first | omega | (simp <;> omega)); rotate_right) | (with_reducible assumption) | (refine Below.trans ?_ (Below.mono (by assumption) ?_); rotate_left; (first | omega | (simp <;> omega)); rotate_right))), (by repeat (first | (with_reducible assumption) | ((with_reducible apply blk_far); rotate_left; (first | omega | (simp <;> omega)); rotate_right) | (with_reducible apply blk_drew) | (with_reducible apply blk_drewN) | (with_reducible exact heap_new _ _) | ((with_reducible apply heap_new'); (first | rfl | (simp <;> fail))) | (with_reducible apply blk_alloc))), I1.out, fun t h1 h2 => M.out m t h1 HP.out⟩
          have := hm2.out; go_num
        case measure => omega
    · obtain rfl : i = j := by omega
      have EM := Lib.hid (E1.out i hjn I1.out I2.out)
      by_cases hjn2 : i = Clk.suN r
      · have hgt : 1073741824 < r + (i : Int) := by have := N.out; omega
        obtain ⟨v1, v2⟩ := E2.out (by rw [EM.out, hjn2])
        have V1 := Lib.hid v1
        have V2 := Lib.hid v2
        have H := Lib.hid hjn2
        clear v1 v2 hjn2
        go_wp2_with fail
        go_ret2
        exact ⟨ret_ii V1.out.symm V2.out.symm, (by repeat (first | (with_reducible exact Below.refl _ _) | (with_reducible refine Below.drew ?_) | (with_reducible refine below_drewN ?_ _) | ((with_reducible refine Below.alloc ?_ ?_ _); rotate_left; (first | omega | (simp <;> omega)); rotate_right) | ((with_reducible refine Below.setCell ?_ ?_ _); rotate_left; (first | omega | (simp <;> omega)); rotate_right) | (with_reducible assumption) | (refine Below.trans ?_ (Below.mono (by assumption) ?_); rotate_left; (first | omega | (simp <;> omega)); rotate_right)))⟩
      · have hle : r + (i : Int) ≤ 1073741824 := by have := N.out; omega
        obtain ⟨v1, v2⟩ := E3.out i (by omega) EM.out
        have V1 := Lib.hid v1
        have V2 := Lib.hid v2
        clear v1 v2
        go_wp2_with fail
        go_ret2
        exact ⟨ret_ii V1.out.symm V2.out.symm, (by repeat (first | (with_reducible exact Below.refl _ _) | (with_reducible refine Below.drew ?_) | (with_reducible refine below_drewN ?_ _) | ((with_reducible refine Below.alloc ?_ ?_ _); rotate_left; (first | omega | (simp <;> omega)); rotate_right) | ((with_reducible refine Below.setCell ?_ ?_ _); rotate_left; (first | omega | (simp <;> omega)); rotate_right) | (with_reducible assumption) | (refine Below.trans ?_ (Below.mono (by assumption) ?_); rotate_left; (first | omega | (simp <;> omega)); rotate_right)))⟩
theorem rsure_any (d r : Int) (s : Bool) (lo hi x : Int) (w : World) (c : Clk.CInv d r lo hi) :
    Calls Try.prog 23 #[.agg #[.int .i64 d, .int .i64 r, .bool s, .int .i64 lo, .int .i64 hi], .int .i64 x] w fun e w' => e = .returned (.tuple #[.int .i64 (Clk.suV d r s lo x), .int .i64 (Clk.suE d r s lo x)]) ∧ Below w.heap.size w w' := by
  cases h : Clk.inB x 0 3600000 with
  | false =>
    refine (rsure_arg d r s lo hi x w h).mono ?_
    rintro e w' ⟨rfl, hb⟩
    exact ⟨by simp [Clk.suV, Clk.suE, h], hb⟩
  | true =>
    cases s with
    | false =>
      refine (rsure_none d r lo hi x w (Clk.inB_iff.1 h)).mono ?_
      rintro e w' ⟨rfl, hb⟩
      exact ⟨by simp [Clk.suV, Clk.suE, h], hb⟩
    | true => exact rsure_some d r lo hi x w c (Clk.inB_iff.1 h)
end Go.Proofs.Ytfbkbpoabajgdaa

/- Sure. -/
import Derived.Test.YtfbkbpoabajgdaaSearch
namespace Go.Proofs.Ytfbkbpoabajgdaa
open Go.RowKit
set_option maxHeartbeats 4000000
set_option linter.unusedSimpArgs false
set_option linter.unusedVariables false
set_option maxRecDepth 100000
theorem sure_arg (b : Nat) (d r : Int) (s : Bool) (lo hi x : Int) (w : World) (hk : IsClk w b d r true s lo hi) (h : Clk.inB x 0 3600000 = false) :
    Calls Try.prog 22 #[.pointer (some ⟨b, 0, none⟩), .int .i64 x] w fun e w' => e = .returned (.tuple #[.int .i64 0, .int .i64 2]) ∧ Below w.heap.size w w' := by
  obtain ⟨q0, q1, q2, q3, q4, q5⟩ := clk_cells hk; obtain ⟨z0, z1, z2, z3, z4, z5⟩ := clk_free hk; have hlt := clk_lt hk
  have H := Lib.hid h
  clear h
  go_enter Try.func22, Try.ntmps22
  go_wp2_with (first | (go_at_call 39; refine (none_made b d r s lo hi _ (by repeat (first | (with_reducible assumption) | (with_reducible refine clk_alloc ?_ _) | (with_reducible refine clk_drew ?_) | (with_reducible refine clk_drewN ?_ _) | ((with_reducible refine clk_far ?_ ?_ _); rotate_left; (first | omega | (simp <;> omega)); rotate_right)))).mono ?_; rintro e w' ⟨rfl, rfl⟩) | (go_at_call 27; refine (within_any _ _ _ _).mono ?_; rintro e w' ⟨rfl, rfl⟩; rw [H.out]))
  go_ret2
  exact ⟨rfl, (by repeat (first | (with_reducible exact Below.refl _ _) | (with_reducible refine Below.drew ?_) | (with_reducible refine below_drewN ?_ _) | ((with_reducible refine Below.alloc ?_ ?_ _); rotate_left; (first | omega | (simp <;> omega)); rotate_right) | ((with_reducible refine Below.setCell ?_ ?_ _); rotate_left; (first | omega | (simp <;> omega)); rotate_right) | (with_reducible assumption) | (refine Below.trans ?_ (Below.mono (by assumption) ?_); rotate_left; (first | omega | (simp <;> omega)); rotate_right)))⟩
theorem sure_none (b : Nat) (d r : Int) (lo hi x : Int) (w : World) (hk : IsClk w b d r true false lo hi) (h : 0 ≤ x ∧ x ≤ 3600000) :
    Calls Try.prog 22 #[.pointer (some ⟨b, 0, none⟩), .int .i64 x] w fun e w' => e = .returned (.tuple #[.int .i64 0, .int .i64 9]) ∧ Below w.heap.size w w' := by
  obtain ⟨q0, q1, q2, q3, q4, q5⟩ := clk_cells hk; obtain ⟨z0, z1, z2, z3, z4, z5⟩ := clk_free hk; have hlt := clk_lt hk
  go_enter Try.func22, Try.ntmps22
  go_wp2_with (first | (go_at_call 39; refine (none_made b d r false lo hi _ (by repeat (first | (with_reducible assumption) | (with_reducible refine clk_alloc ?_ _) | (with_reducible refine clk_drew ?_) | (with_reducible refine clk_drewN ?_ _) | ((with_reducible refine clk_far ?_ ?_ _); rotate_left; (first | omega | (simp <;> omega)); rotate_right)))).mono ?_; rintro e w' ⟨rfl, rfl⟩) | (go_at_call 27; refine (within_yes _ _ _ _ h).mono ?_; rintro e w' ⟨rfl, rfl⟩))
  go_ret2
  exact ⟨rfl, (by repeat (first | (with_reducible exact Below.refl _ _) | (with_reducible refine Below.drew ?_) | (with_reducible refine below_drewN ?_ _) | ((with_reducible refine Below.alloc ?_ ?_ _); rotate_left; (first | omega | (simp <;> omega)); rotate_right) | ((with_reducible refine Below.setCell ?_ ?_ _); rotate_left; (first | omega | (simp <;> omega)); rotate_right) | (with_reducible assumption) | (refine Below.trans ?_ (Below.mono (by assumption) ?_); rotate_left; (first | omega | (simp <;> omega)); rotate_right)))⟩
theorem sure_zero (b : Nat) (d r : Int) (s : Bool) (lo hi x : Int) (w : World) (hk : IsClk w b d r false s lo hi) :
    Calls Try.prog 22 #[.pointer (some ⟨b, 0, none⟩), .int .i64 x] w fun e w' => e = .returned (.tuple #[.int .i64 0, .int .i64 1]) ∧ Below w.heap.size w w' := by
  obtain ⟨q0, q1, q2, q3, q4, q5⟩ := clk_cells hk; obtain ⟨z0, z1, z2, z3, z4, z5⟩ := clk_free hk; have hlt := clk_lt hk
  go_enter Try.func22, Try.ntmps22
  go_wp2_with (first | (go_at_call 39; refine (none_zero b d r s lo hi _ (by repeat (first | (with_reducible assumption) | (with_reducible refine clk_alloc ?_ _) | (with_reducible refine clk_drew ?_) | (with_reducible refine clk_drewN ?_ _) | ((with_reducible refine clk_far ?_ ?_ _); rotate_left; (first | omega | (simp <;> omega)); rotate_right)))).mono ?_; rintro e w' ⟨rfl, rfl⟩))
  go_ret2
  exact ⟨rfl, (by repeat (first | (with_reducible exact Below.refl _ _) | (with_reducible refine Below.drew ?_) | (with_reducible refine below_drewN ?_ _) | ((with_reducible refine Below.alloc ?_ ?_ _); rotate_left; (first | omega | (simp <;> omega)); rotate_right) | ((with_reducible refine Below.setCell ?_ ?_ _); rotate_left; (first | omega | (simp <;> omega)); rotate_right) | (with_reducible assumption) | (refine Below.trans ?_ (Below.mono (by assumption) ?_); rotate_left; (first | omega | (simp <;> omega)); rotate_right)))⟩
theorem sure_some (b : Nat) (d r : Int) (lo hi x : Int) (w : World) (hk : IsClk w b d r true true lo hi) (c : Clk.CInv d r lo hi) (h : 0 ≤ x ∧ x ≤ 3600000) :
    Calls Try.prog 22 #[.pointer (some ⟨b, 0, none⟩), .int .i64 x] w fun e w' => e = .returned (.tuple #[.int .i64 (Clk.suV d r true lo x), .int .i64 (Clk.suE d r true lo x)]) ∧ Below w.heap.size w w' := by
  obtain ⟨h0, h1, r0, r1, l0, l1, l2⟩ := c
  obtain ⟨q0, q1, q2, q3, q4, q5⟩ := clk_cells hk; obtain ⟨z0, z1, z2, z3, z4, z5⟩ := clk_free hk; have hlt := clk_lt hk
  have N := Lib.hid (show ((Clk.suN r : Nat) : Int) = 1073741824 - r + 1 by unfold Clk.suN; omega)
  have S := Lib.hid (fun (wx : World) (hb : Below w.heap.size w wx) (hB : wx.heap[w.heap.size]? = some (.cells #[.pointer (some ⟨b, 0, none⟩)] 40 (0, 0))) (hT : wx.heap[w.heap.size + 1]? = some (.cells #[.int .i64 x] 3 (0, 0))) =>
    search_any #[.pointer (some ⟨w.heap.size, 0, none⟩), .pointer (some ⟨w.heap.size + 1, 0, none⟩)] (Clk.suN r) (Clk.suP d lo x) wx (by have := N.out; omega)
      (fun wy i hy hii => by
        have := N.out
        exact sure1 b w.heap.size (w.heap.size + 1) d r true lo hi x i wy (clk_below (clk_below hk hb hlt) hy (by have := hb.size; omega)) (blk_below hB hy (lt_of_block hB)) (blk_below hT hy (lt_of_block hT)) h0 h1 l0 (by omega) (by omega) (by omega))
      (fun a b' hab _ hp => Clk.suP_mono h0 h1 a b' hab hp))
  have E1 := Lib.hid (fun (m : Nat) (q1 : m ≤ Clk.suN r) (q2 : ∀ t, t < m → Clk.suP d lo x t = false) (q3 : ∀ t, m ≤ t → t < Clk.suN r → Clk.suP d lo x t = true) => show Clk.suM d r lo x = m from Clk.cnt_eq _ m _ q1 q2 q3)
  have k1 := Clk.inB_iff.2 h
  have E2 := Lib.hid (show Clk.suM d r lo x = Clk.suN r → Clk.suV d r true lo x = 0 ∧ Clk.suE d r true lo x = 3 from fun e => by simp [Clk.suV, Clk.suE, k1, e])
  have E3 := Lib.hid (show ∀ m : Nat, m < Clk.suN r → Clk.suM d r lo x = m → Clk.suV d r true lo x = r + m ∧ Clk.suE d r true lo x = 0 from fun m hm e => by
    have e' : Clk.suE d r true lo x = 0 := by rw [Clk.suE, if_neg (by simp [k1]), if_neg (by simp), if_neg (by omega)]
    exact ⟨by rw [Clk.suV, if_pos e', e], e'⟩)
  clear k1
  go_enter Try.func22, Try.ntmps22
  go_wp2_with (first | (go_at_call 39; refine (none_made b d r true lo hi _ (by repeat (first | (with_reducible assumption) | (with_reducible refine clk_alloc ?_ _) | (with_reducible refine clk_drew ?_) | (with_reducible refine clk_drewN ?_ _) | ((with_reducible refine clk_far ?_ ?_ _); rotate_left; (first | omega | (simp <;> omega)); rotate_right)))).mono ?_; rintro e w' ⟨rfl, rfl⟩) | (go_at_call 27; refine (within_yes _ _ _ _ h).mono ?_; rintro e w' ⟨rfl, rfl⟩))
  rw [← N.out]
  refine (S.out _ (by repeat (first | (with_reducible exact Below.refl _ _) | (with_reducible refine Below.drew ?_) | (with_reducible refine below_drewN ?_ _) | ((with_reducible refine Below.alloc ?_ ?_ _); rotate_left; (first | omega | (simp <;> omega)); rotate_right) | ((with_reducible refine Below.setCell ?_ ?_ _); rotate_left; (first | omega | (simp <;> omega)); rotate_right) | (with_reducible assumption) | (refine Below.trans ?_ (Below.mono (by assumption) ?_); rotate_left; (first | omega | (simp <;> omega)); rotate_right))) (by repeat (first | (with_reducible assumption) | ((with_reducible apply blk_far); rotate_left; (first | omega | (simp <;> omega)); rotate_right) | (with_reducible apply blk_drew) | (with_reducible apply blk_drewN) | (with_reducible exact heap_new _ _) | ((with_reducible apply heap_new'); (first | rfl | (simp <;> fail))) | (with_reducible apply blk_alloc))) (by repeat (first | (with_reducible assumption) | ((with_reducible apply blk_far); rotate_left; (first | omega | (simp <;> omega)); rotate_right) | (with_reducible apply blk_drew) | (with_reducible apply blk_drewN) | (with_reducible exact heap_new _ _) | ((with_reducible apply heap_new'); (first | rfl | (simp <;> fail))) | (with_reducible apply blk_alloc)))).mono ?_
  rintro e w1 ⟨m, rfl, q1, q2, q3, hb1⟩
  have EM := Lib.hid (E1.out m q1 q2 q3)
  clear q2 q3
  have hk2 := clk_below (show IsClk _ b d r true true lo hi from (by repeat (first | (with_reducible assumption) | (with_reducible refine clk_alloc ?_ _) | (with_reducible refine clk_drew ?_) | (with_reducible refine clk_drewN ?_ _) | ((with_reducible refine clk_far ?_ ?_ _); rotate_left; (first | omega | (simp <;> omega)); rotate_right)))) hb1 (by simp; omega)
  have hB2 := blk_below (q := w.heap.size) (by repeat (first | (with_reducible assumption) | ((with_reducible apply blk_far); rotate_left; (first | omega | (simp <;> omega)); rotate_right) | (with_reducible apply blk_drew) | (with_reducible apply blk_drewN) | (with_reducible exact heap_new _ _) | ((with_reducible apply heap_new'); (first | rfl | (simp <;> fail))) | (with_reducible apply blk_alloc))) hb1 (by first | omega | (simp; done) | (simp; omega))
  have hT2 := blk_below (q := w.heap.size + 1) (by repeat (first | (with_reducible assumption) | ((with_reducible apply blk_far); rotate_left; (first | omega | (simp <;> omega)); rotate_right) | (with_reducible apply blk_drew) | (with_reducible apply blk_drewN) | (with_reducible exact heap_new _ _) | ((with_reducible apply heap_new'); (first | rfl | (simp <;> fail))) | (with_reducible apply blk_alloc))) hb1 (by first | omega | (simp; done) | (simp; omega))
  obtain ⟨q20, q21, q22, q23, q24, q25⟩ := clk_cells hk2; obtain ⟨z20, z21, z22, z23, z24, z25⟩ := clk_free hk2; have hlt2 := clk_lt hk2
  have cB_0 := blk_cell hB2 0 rfl; have fB_0 := blk_free hB2 0; have lB := lt_of_block hB2
  have cT_0 := blk_cell hT2 0 rfl; have fT_0 := blk_free hT2 0; have lT := lt_of_block hT2
  rcases Nat.lt_or_ge m (Clk.suN r) with hm | hm
  · obtain ⟨v1, v2⟩ := E3.out m hm EM.out
    have V1 := Lib.hid v1
    have V2 := Lib.hid v2
    clear v1 v2
    have ht : ((m : Int) == (Clk.suN r : Int)) = false := by rw [beq_eq_false_iff_ne]; omega
    have hm2 : (m : Int) ≤ 2147483650 := by have := N.out; omega
    have k9 := IntWalk.i64_in (r + (m : Int)) (by omega)
    go_wp2_with fail
    go_ret2
    exact ⟨ret_ii V1.out.symm V2.out.symm, (by repeat (first | (with_reducible exact Below.refl _ _) | (with_reducible refine Below.drew ?_) | (with_reducible refine below_drewN ?_ _) | ((with_reducible refine Below.alloc ?_ ?_ _); rotate_left; (first | omega | (simp <;> omega)); rotate_right) | ((with_reducible refine Below.setCell ?_ ?_ _); rotate_left; (first | omega | (simp <;> omega)); rotate_right) | (with_reducible assumption) | (refine Below.trans ?_ (Below.mono (by assumption) ?_); rotate_left; (first | omega | (simp <;> omega)); rotate_right)))⟩
  · obtain rfl : m = Clk.suN r := by omega
    obtain ⟨v1, v2⟩ := E2.out EM.out
    have V1 := Lib.hid v1
    have V2 := Lib.hid v2
    clear v1 v2
    go_wp2_with fail
    go_ret2
    exact ⟨ret_ii V1.out.symm V2.out.symm, (by repeat (first | (with_reducible exact Below.refl _ _) | (with_reducible refine Below.drew ?_) | (with_reducible refine below_drewN ?_ _) | ((with_reducible refine Below.alloc ?_ ?_ _); rotate_left; (first | omega | (simp <;> omega)); rotate_right) | ((with_reducible refine Below.setCell ?_ ?_ _); rotate_left; (first | omega | (simp <;> omega)); rotate_right) | (with_reducible assumption) | (refine Below.trans ?_ (Below.mono (by assumption) ?_); rotate_left; (first | omega | (simp <;> omega)); rotate_right)))⟩
theorem sure_any (b : Nat) (d r : Int) (s : Bool) (lo hi x : Int) (w : World) (hk : IsClk w b d r true s lo hi) (c : Clk.CInv d r lo hi) :
    Calls Try.prog 22 #[.pointer (some ⟨b, 0, none⟩), .int .i64 x] w fun e w' => e = .returned (.tuple #[.int .i64 (Clk.suV d r s lo x), .int .i64 (Clk.suE d r s lo x)]) ∧ Below w.heap.size w w' := by
  cases h : Clk.inB x 0 3600000 with
  | false =>
    refine (sure_arg b d r s lo hi x w hk h).mono ?_
    rintro e w' ⟨rfl, hb⟩
    exact ⟨by simp [Clk.suV, Clk.suE, h], hb⟩
  | true =>
    cases s with
    | false =>
      refine (sure_none b d r lo hi x w hk (Clk.inB_iff.1 h)).mono ?_
      rintro e w' ⟨rfl, hb⟩
      exact ⟨by simp [Clk.suV, Clk.suE, h], hb⟩
    | true => exact sure_some b d r lo hi x w hk c (Clk.inB_iff.1 h)
end Go.Proofs.Ytfbkbpoabajgdaa

/- sort.Search over the clock's own question, and Sure. -/
import Derived.Test.YtfbkbpoabajgdaaClk
import Derived.Deep.LoopGhost
namespace Go.Proofs.Ytfbkbpoabajgdaa
open Go.RowKit
set_option maxHeartbeats 4000000
set_option linter.unusedSimpArgs false
set_option linter.unusedVariables false
set_option maxRecDepth 100000
theorem sure1 (b B T : Nat) (d r : Int) (s : Bool) (lo hi time l : Int) (w : World) (hk : IsClk w b d r true s lo hi) (hB : w.heap[B]? = some (.cells #[.pointer (some ⟨b, 0, none⟩)] 40 (0, 0))) (hT : w.heap[T]? = some (.cells #[.int .i64 time] 3 (0, 0)))
    (h0 : 0 ≤ d) (h1 : d ≤ 100000) (l0 : -1073741824 ≤ lo) (l1 : lo ≤ 1073741824) (y0 : 0 ≤ l) (y1 : l ≤ 2147483650) :
    Calls Try.prog 41 #[.int .i64 l, .pointer (some ⟨B, 0, none⟩), .pointer (some ⟨T, 0, none⟩)] w fun e w' => e = .returned (.bool (decide (time ≤ Clk.gLo lo d l))) ∧ Below w.heap.size w w' := by
  obtain ⟨q0, q1, q2, q3, q4, q5⟩ := clk_cells hk; obtain ⟨z0, z1, z2, z3, z4, z5⟩ := clk_free hk; have hlt := clk_lt hk
  have cB_0 := blk_cell hB 0 rfl; have fB_0 := blk_free hB 0; have lB := lt_of_block hB
  have cT_0 := blk_cell hT 0 rfl; have fT_0 := blk_free hT 0; have lT := lt_of_block hT
  have k1 := IntWalk.i64_in (l - 1) (by omega)
  have k3 := IntWalk.i64_in (1000000 + d) (by omega)
  by_cases hl : 1 ≤ l
  · have a1 := Clk.lo_le l d hl h0 h1
    have k2 := IntWalk.i64_in ((l - 1) * 1000000) (by omega)
    have k4 := IntWalk.i64_in ((l - 1) * 1000000 / (1000000 + d)) (by omega)
    have k5 := IntWalk.i64_in (lo + (l - 1) * 1000000 / (1000000 + d)) (by omega)
    have G := Lib.hid (show Clk.gLo lo d l = lo + (l - 1) * 1000000 / (1000000 + d) by rw [Clk.gLo, if_pos hl]; rfl)
    go_enter Try.func41, Try.ntmps41
    go_wp2_with fail
    go_quiet (fail)
    go_wp2_with fail
    go_ret
    exact ⟨ret_bool (by rw [G.out]), (by repeat (first | (with_reducible exact Below.refl _ _) | (with_reducible refine Below.drew ?_) | (with_reducible refine below_drewN ?_ _) | ((with_reducible refine Below.alloc ?_ ?_ _); rotate_left; (first | omega | (simp <;> omega)); rotate_right) | ((with_reducible refine Below.setCell ?_ ?_ _); rotate_left; (first | omega | (simp <;> omega)); rotate_right) | (with_reducible assumption) | (refine Below.trans ?_ (Below.mono (by assumption) ?_); rotate_left; (first | omega | (simp <;> omega)); rotate_right)))⟩
  · obtain rfl : l = 0 := by omega
    have G := Lib.hid (show Clk.gLo lo d 0 = lo by rw [Clk.gLo, if_neg hl])
    have k6 := IntWalk.i64_in lo (by omega)
    go_enter Try.func41, Try.ntmps41
    go_wp2_with fail
    go_quiet (fail)
    go_wp2_with fail
    go_ret
    exact ⟨ret_bool (by rw [G.out]), (by repeat (first | (with_reducible exact Below.refl _ _) | (with_reducible refine Below.drew ?_) | (with_reducible refine below_drewN ?_ _) | ((with_reducible refine Below.alloc ?_ ?_ _); rotate_left; (first | omega | (simp <;> omega)); rotate_right) | ((with_reducible refine Below.setCell ?_ ?_ _); rotate_left; (first | omega | (simp <;> omega)); rotate_right) | (with_reducible assumption) | (refine Below.trans ?_ (Below.mono (by assumption) ?_); rotate_left; (first | omega | (simp <;> omega)); rotate_right)))⟩
/-- how far the search has come -/
def SearchRel (w : World) (n : Nat) (p : Nat → Bool) (kx : Nat) (s5 s6 : Value) (wr : World) : Prop :=
  ∃ lo hi : Nat, s5 = .int .i64 lo ∧ s6 = .int .i64 hi ∧ lo ≤ hi ∧ hi ≤ n ∧ hi - lo ≤ kx ∧ Below w.heap.size w wr ∧ (∀ t, t < lo → p t = false) ∧ (∀ t, hi ≤ t → t < n → p t = true)
theorem search_any (cb : Array Value) (n : Nat) (p : Nat → Bool) (w : World) (hn : n ≤ 2147483650)
    (hf : ∀ (wx : World) (i : Nat), Below w.heap.size w wx → i < n → Calls Try.prog 41 (#[.int .i64 i] ++ cb) wx fun e w' => e = .returned (.bool (p i)) ∧ Below wx.heap.size wx w')
    (hm : ∀ a b, a ≤ b → b < n → p a = true → p b = true) :
    Calls Try.prog 40 #[.int .i64 n, .func (.func 41) #[] cb] w fun e w' => ∃ m : Nat, e = .returned (.int .i64 m) ∧ m ≤ n ∧ (∀ t, t < m → p t = false) ∧ (∀ t, m ≤ t → t < n → p t = true) ∧ Below w.heap.size w w' := by
  have HF := Lib.hid hf
  have M := Lib.hid hm
  clear hf hm
  go_enter Try.func40, Try.ntmps40
  go_wp2_with fail
  go_loopg [5, 6] n (fun kx s5 s6 wr => SearchRel w n p kx s5 s6 wr)
  case atStart => exact ⟨0, n, rfl, rfl, Nat.zero_le _, Nat.le_refl _, by omega, Below.refl _ _, fun t ht => absurd ht (Nat.not_lt_zero _), fun t h1 h2 => by omega⟩
  case round =>
    obtain ⟨lo, hi, rfl, rfl, hlh, hin, hg, hb, i1, i2⟩ := hrel
    have hz := hb.size
    have I1 := Lib.hid i1
    have I2 := Lib.hid i2
    clear i1 i2
    by_cases hlt : lo < hi
    · have hc := HF.out wr ((lo + hi) / 2) hb (by omega)
      rw [show (((lo + hi) / 2 : Nat) : Int) = ((lo : Int) + (hi : Int)) / 2 by omega] at hc
      cases hp : p ((lo + hi) / 2) <;> rw [hp] at hc
      · have HP := Lib.hid hp
        have HC := Lib.hid hc
        clear hc hp
        go_wp2_with fail
        refine HC.out.mono ?_
        rintro e w1 ⟨rfl, hb1⟩
        go_wp2_with fail
        go_roundg (hi - ((lo + hi) / 2 + 1))
        case rel =>
          refine ⟨(lo + hi) / 2 + 1, hi, by go_num, rfl, by omega, hin, by omega, (by repeat (first | (with_reducible exact Below.refl _ _) | (with_reducible refine Below.drew ?_) | (with_reducible refine below_drewN ?_ _) | ((with_reducible refine Below.alloc ?_ ?_ _); rotate_left; (first | omega | (simp <;> omega)); rotate_right) | ((with_reducible refine Below.setCell ?_ ?_ _); rotate_left; (first | omega | (simp <;> omega)); rotate_right) | (with_reducible assumption) | (refine Below.trans ?_ (Below.mono (by assumption) ?_); rotate_left; (first | omega | (simp <;> omega)); rotate_right))), fun t ht => ?_, I2.out⟩
          cases hpt : p t with
          | false => rfl
          | true => rw [M.out t ((lo + hi) / 2) (by omega) (by omega) hpt] at HP; exact absurd HP.out (by simp)
        case measure => omega
      · have HP := Lib.hid hp
        have HC := Lib.hid hc
        clear hc hp
        go_wp2_with fail
        refine HC.out.mono ?_
        rintro e w1 ⟨rfl, hb1⟩
        go_wp2_with fail
        go_roundg ((lo + hi) / 2 - lo)
        case rel =>
          exact ⟨lo, (lo + hi) / 2, rfl, by go_num, by omega, by omega, by omega, (by repeat (first | (with_reducible exact Below.refl _ _) | (with_reducible refine Below.drew ?_) | (with_reducible refine below_drewN ?_ _) | ((with_reducible refine Below.alloc ?_ ?_ _); rotate_left; (first | omega | (simp <;> omega)); rotate_right) | ((with_reducible refine Below.setCell ?_ ?_ _); rotate_left; (first | omega | (simp <;> omega)); rotate_right) | (with_reducible assumption) | (refine Below.trans ?_ (Below.mono (by assumption) ?_); rotate_left; (first | omega | (simp <;> omega)); rotate_right))), I1.out, fun t h1 h2 => M.out ((lo + hi) / 2) t h1 h2 HP.out⟩
        case measure => omega
    · go_wp2_with fail
      go_ret
      obtain rfl : lo = hi := by omega
      exact ⟨lo, rfl, hin, I1.out, I2.out, hb⟩
end Go.Proofs.Ytfbkbpoabajgdaa

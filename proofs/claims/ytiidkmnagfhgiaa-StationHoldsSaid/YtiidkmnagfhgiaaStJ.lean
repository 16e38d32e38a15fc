/- slices.BinarySearch on numbers in order. -/
import Derived.Test.YtiidkmnagfhgiaaStI
namespace Go.Proofs.Ytiidkmnagfhgiaa
open Go.RowKit
set_option maxHeartbeats 8000000
set_option maxRecDepth 100000
set_option linter.unusedSimpArgs false
set_option linter.unusedVariables false
attribute [local go_sem ↓] Go.wp_at_zero Go.wp_at_succ
theorem nan1_any (x : Int) (w : World) : Calls Try.prog 64 #[.int .i64 x] w fun e w' => e = .returned (.bool false) ∧ w = w' := by
  go_enter Try.func64, Try.ntmps64
  go_wp2_with fail
  go_ret
  exact ⟨ret_bool (by simp), rfl⟩
theorem nan2_any (x : Int) (w : World) : Calls Try.prog 61 #[.int .i64 x] w fun e w' => e = .returned (.bool false) ∧ w = w' := by
  go_enter Try.func61, Try.ntmps61
  go_wp2_with fail
  go_ret
  exact ⟨ret_bool (by simp), rfl⟩
theorem less_any (x y : Int) (w : World) : Calls Try.prog 60 #[.int .i64 x, .int .i64 y] w fun e w' => e = .returned (.bool (decide (x < y))) ∧ w = w' := by
  have N := Lib.hid (fun W : World => nan1_any x W)
  go_enter Try.func60, Try.ntmps60
  go_wp2_with fail
  refine (N.out _).mono ?_
  rintro e w1 ⟨rfl, rfl⟩
  go_wp2_with fail
  go_ret
  exact ⟨ret_bool (by simp), rfl⟩
theorem sorted_lt {l : List Nat} (h : l.Pairwise (· < ·)) {i j x y : Nat} (hij : i ≤ j) (hi : l[i]? = some x) (hj : l[j]? = some y) : x ≤ y := by
  rcases Nat.lt_or_ge i j with h1 | h1
  · obtain ⟨a1, rfl⟩ := List.getElem?_eq_some_iff.1 hi
    obtain ⟨a2, rfl⟩ := List.getElem?_eq_some_iff.1 hj
    exact Nat.le_of_lt (List.pairwise_iff_getElem.1 h _ _ a1 a2 h1)
  · obtain rfl : i = j := by omega
    rw [hi] at hj; injection hj with hj; omega
theorem search_any (A : Option Addr) (n c base : Nat) (l : List Nat) (x : Int) (w : World) (hn : n ≤ 1000000) (h : Row w base 3 1 A n c (l.map (fun (i : Nat) => .int .i64 i))) (hs : l.Pairwise (· < ·)) :
    Calls Try.prog 49 #[.slice A n c, .int .i64 x] w fun e w' => (∃ i : Nat, i ≤ n ∧ e = .returned (.tuple #[.int .i64 i, .bool (decide (∃ y, l[i]? = some y ∧ (y : Int) = x))]) ∧ (∀ t y, t < i → l[t]? = some y → (y : Int) < x) ∧ (∀ t y, i ≤ t → l[t]? = some y → x ≤ (y : Int))) ∧ w = w' := by
  have hl : l.length = n := by have := h.1; simpa using this
  have HR := Lib.hid h
  have HS := Lib.hid hs
  have HL := Lib.hid hl
  clear h hs hl
  go_enter Try.func49, Try.ntmps49
  go_wp2_with fail
  go_loop [7, 8] (fun s7 s8 => ∃ (i j : Nat), s7 = .int .i64 i ∧ s8 = .int .i64 j ∧ i ≤ j ∧ j ≤ n ∧ Hid (∀ t y, t < i → l[t]? = some y → (y : Int) < x) ∧ Hid (∀ t y, j ≤ t → l[t]? = some y → x ≤ (y : Int))) (fun s7 s8 => (intOf s8).toNat - (intOf s7).toNat)
  case atStart => exact ⟨0, n, by go_num, rfl, by omega, by omega, Lib.hid (fun t y ht => absurd ht (by omega)), Lib.hid (fun t y ht hy => by rw [List.getElem?_eq_none (by rw [HL.out]; exact ht)] at hy; cases hy)⟩
  case round =>
    obtain ⟨i, j, rfl, rfl, hij, hj, HA, HB⟩ := hrel
    by_cases hlt : i < j
    · obtain ⟨m, hm⟩ : ∃ m : Nat, m = (i + j) / 2 := ⟨_, rfl⟩
      have hmi : i ≤ m ∧ m < j := by omega
      have em : ((i : Int) + (j : Int)) / 2 = (m : Int) := by omega
      obtain ⟨g, o, cur, rfl, _, _, _, _, _, _, _, hcell, _⟩ := HR.out.some_ (by omega)
      obtain ⟨y, hy⟩ : ∃ y, l[m]? = some y := ⟨_, List.getElem?_eq_getElem (by rw [HL.out]; omega)⟩
      have k0 := hcell m (.int .i64 y) (by rw [List.getElem?_map, hy]; rfl)
      have HY := Lib.hid hy
      have LS := Lib.hid (fun W => less_any y x W)
      have hmn : (m : Int) < (n : Int) := by omega
      clear hcell hy hm
      by_cases hyx : (y : Int) < x
      · rw [decide_eq_true hyx] at LS
        have HA2 := Lib.hid (show ∀ t z, t < m + 1 → l[t]? = some z → (z : Int) < x from fun t z ht hz => by have := sorted_lt HS.out (by omega : t ≤ m) hz HY.out; omega)
        clear hyx
        go_wp2_with fail
        refine (LS.out _).mono ?_
        rintro e w1 ⟨rfl, rfl⟩
        go_wp2_with fail
        go_round
        case rel => exact ⟨m + 1, j, by go_num, rfl, by omega, by omega, HA2, HB⟩
        case measure => simp [intOf]; omega
      · rw [decide_eq_false hyx] at LS
        have HB2 := Lib.hid (show ∀ t z, m ≤ t → l[t]? = some z → x ≤ (z : Int) from fun t z ht hz => by have := sorted_lt HS.out ht HY.out hz; omega)
        clear hyx
        go_wp2_with fail
        refine (LS.out _).mono ?_
        rintro e w1 ⟨rfl, rfl⟩
        go_wp2_with fail
        go_round
        case rel => exact ⟨i, m, rfl, by go_num, by omega, by omega, HA, HB2⟩
        case measure => simp [intOf]; omega
    · obtain rfl : i = j := by omega
      by_cases hin : i < n
      · obtain ⟨g, o, cur, rfl, _, _, _, _, _, _, _, hcell, _⟩ := HR.out.some_ (by omega)
        obtain ⟨y, hy⟩ : ∃ y, l[i]? = some y := ⟨_, List.getElem?_eq_getElem (by rw [HL.out]; omega)⟩
        have k0 := hcell i (.int .i64 y) (by rw [List.getElem?_map, hy]; rfl)
        have HY := Lib.hid hy
        have hmn : (i : Int) < (n : Int) := by omega
        have NA := Lib.hid (fun W => nan2_any y W)
        clear hcell hy
        by_cases hyx : (y : Int) = x
        · have E := Lib.hid (show decide (∃ y, l[i]? = some y ∧ (y : Int) = x) = true from decide_eq_true ⟨y, HY.out, hyx⟩)
          have z : ((y : Int) == x) = true := by simpa using hyx
          clear hyx
          go_wp2_with fail
          go_ret2
          exact ⟨⟨i, hj, by rw [E.out]; rfl, HA.out, HB.out⟩, rfl⟩
        · have E := Lib.hid (show decide (∃ y, l[i]? = some y ∧ (y : Int) = x) = false from decide_eq_false (fun ⟨z, h1, h2⟩ => hyx (by rw [HY.out] at h1; injection h1 with h1; rw [h1]; exact h2)))
          have z : ((y : Int) == x) = false := by rw [beq_eq_false_iff_ne]; exact hyx
          clear hyx
          go_wp2_with fail
          refine (NA.out _).mono ?_
          rintro e w1 ⟨rfl, rfl⟩
          go_wp2_with fail
          go_ret2
          exact ⟨⟨i, hj, by rw [E.out]; rfl, HA.out, HB.out⟩, rfl⟩
      · have E := Lib.hid (show decide (∃ y, l[i]? = some y ∧ (y : Int) = x) = false from decide_eq_false (fun ⟨z, h1, h2⟩ => by rw [List.getElem?_eq_none (by rw [HL.out]; omega)] at h1; cases h1))
        go_wp2_with fail
        go_ret2
        exact ⟨⟨i, hj, by rw [E.out]; rfl, HA.out, HB.out⟩, rfl⟩
end Go.Proofs.Ytiidkmnagfhgiaa

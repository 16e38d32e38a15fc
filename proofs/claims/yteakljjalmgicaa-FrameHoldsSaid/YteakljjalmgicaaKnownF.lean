/- The examples of the chapter on frames hold: known() answers true. -/
import Derived.Test.YteakljjalmgicaaKnowF
namespace Go.Proofs.Yteakljjalmgicaa
open Go.RowKit
set_option maxHeartbeats 8000000
set_option linter.unusedSimpArgs false
set_option linter.unusedVariables false
set_option maxRecDepth 100000 in
theorem knownf (w : World) : Calls Try.prog 10 #[] w fun e w' => e = .returned (.bool true) ∧ Below w.heap.size w w' := by
  obtain ⟨i0, hi0, hzA, hzB, hzC⟩ := info_parts info_u8
  have kc := fun (w : World) (C : Array Value) (n c : Nat) => Lib.run_convert_bytes_const (P := Try.prog) w 23 5 C n c Try.underlying23 Try.underlying5
  go_enter Try.func10, Try.ntmps10
  go_wp2_with fail
  refine (kf_enc _).mono ?_
  rintro e w1 ⟨A1, c1, rfl, ow1, hb1⟩
  have hz1 := hb1.size; try simp at hz1
  have ha1 := blk_below (q := w.heap.size) (heap_new _ _) hb1 (by simp)
  have HB1 := (show Below w.heap.size w w1 from (by repeat (first | (with_reducible exact Below.refl _ _) | (with_reducible refine Below.drew ?_) | (with_reducible refine below_drewN ?_ _) | ((with_reducible refine Below.alloc ?_ ?_ _); rotate_left; (first | omega | (simp <;> omega)); rotate_right) | ((with_reducible refine Below.setCell ?_ ?_ _); rotate_left; (first | omega | (simp <;> omega)); rotate_right) | (with_reducible assumption) | (refine Below.trans ?_ (Below.mono (by assumption) ?_); rotate_left; (first | omega | (simp <;> omega)); rotate_right))))
  clear hb1
  have OW1 := Lib.hid (ow1.more (base' := w.heap.size) (by simp))
  have hA1 := ow1.form.resolve_left (by omega)
  obtain ⟨g, rfl, hg1, hg2, hg3, hg4⟩ := hA1
  clear ow1
  unfold maxLen at hg4
  have HA1 := Lib.hid ha1
  clear ha1
  go_wp2_with fail
  refine (kf_sum [] 65535 (by decide +kernel) none 0 0 _ (by omega) (Rd.nil _ _ _)).mono ?_
  rintro e w' ⟨rfl, rfl⟩
  go_wp2_with fail
  refine (kf_sum [49, 50, 51, 52, 53, 54, 55, 56, 57] 10673 (by decide +kernel) _ 9 _ _ (by omega) (Rd.litM w1 [49, 50, 51, 52, 53, 54, 55, 56, 57] _ (by intro x hx; simp at hx; omega))).mono ?_
  rintro e w' ⟨rfl, rfl⟩
  go_wp2_with fail
  refine (kf_sum [0] 57840 (by decide +kernel) _ 1 _ _ (by omega) (Rd.litA _ [0] _ (by simp) (by intro x hx; simp at hx; omega))).mono ?_
  rintro e w' ⟨rfl, rfl⟩
  go_wp2_with fail
  obtain ⟨Wa, hWa⟩ : ∃ Wa : World, Wa = (w1.alloc (.cells (bv [49, 50, 51, 52, 53, 54, 55, 56, 57]).toArray 5 (9, 10))).alloc (.cells (bv [0]).toArray 5) := ⟨_, rfl⟩
  have hba : Below w1.heap.size w1 Wa := by rw [hWa]; exact ((Below.refl _ w1).alloc (Nat.le_refl _) _).alloc (by simp) _
  have zWW : Wa.heap.size = w1.heap.size + 1 + 1 := by rw [hWa]; simp
  rw [← hWa, ← zWW]
  clear hWa kc
  have OWw1 := OW1
  have HAw1 := HA1
  have HBw1 := Lib.hid HB1
  have zBw1 : w.heap.size < w1.heap.size := by omega
  have hgw1 : g < w1.heap.size := hg2
  clear OW1 HA1 HB1 hz1 hg1 hg2 zWW
  have HWa := (show Below w1.heap.size w1 Wa from (by repeat (first | (with_reducible exact Below.refl _ _) | (with_reducible refine Below.drew ?_) | (with_reducible refine below_drewN ?_ _) | ((with_reducible refine Below.alloc ?_ ?_ _); rotate_left; (first | omega | (simp <;> omega)); rotate_right) | ((with_reducible refine Below.setCell ?_ ?_ _); rotate_left; (first | omega | (simp <;> omega)); rotate_right) | (with_reducible assumption) | (refine Below.trans ?_ (Below.mono (by assumption) ?_); rotate_left; (first | omega | (simp <;> omega)); rotate_right))))
  have zWa := HWa.size
  have OWWa := Lib.hid (OWw1.out.below HWa (Nat.le_refl _))
  have HAWa := Lib.hid (blk_below HAw1.out HWa (by omega))
  have HBWa := Lib.hid (HBw1.out.trans (HWa.mono (Nat.le_of_lt zBw1)))
  have zBWa : w.heap.size < Wa.heap.size := Nat.lt_of_lt_of_le zBw1 zWa
  have hgWa : g < Wa.heap.size := Nat.lt_of_lt_of_le hgw1 zWa
  clear hba HWa OWw1 HAw1 HBw1 zBw1 hgw1 zWa
  have RA := Lib.hid ((((OWWa.out.rd).pre 8 (by omega)).alloc (Nat.le_refl _) (.cells (bv [213, 76, 2, 0, 3, 1, 2, 0]).toArray 5)).more (B' := (Wa.alloc (.cells (bv [213, 76, 2, 0, 3, 1, 2, 0]).toArray 5)).heap.size) (by simp))
  refine (kf_same (armB.take 8) [213, 76, 2, 0, 3, 1, 2, 0] rfl _ _ _ _ _ _ _ RA.out (Rd.litS _ [213, 76, 2, 0, 3, 1, 2, 0] (by intro x hx; simp at hx; omega))).mono ?_
  rintro e w' ⟨rfl, rfl⟩
  clear RA
  go_wp2_with fail
  refine (kf_valid 8 0 3 0 false (by decide) _).mono ?_
  rintro e w2 ⟨rfl, hb2⟩
  have hz2 := hb2.size; try simp at hz2
  have Hw2 := (show Below Wa.heap.size Wa w2 from (by repeat (first | (with_reducible exact Below.refl _ _) | (with_reducible refine Below.drew ?_) | (with_reducible refine below_drewN ?_ _) | ((with_reducible refine Below.alloc ?_ ?_ _); rotate_left; (first | omega | (simp <;> omega)); rotate_right) | ((with_reducible refine Below.setCell ?_ ?_ _); rotate_left; (first | omega | (simp <;> omega)); rotate_right) | (with_reducible assumption) | (refine Below.trans ?_ (Below.mono (by assumption) ?_); rotate_left; (first | omega | (simp <;> omega)); rotate_right))))
  have zw2 := Hw2.size
  have OWw2 := Lib.hid (OWWa.out.below Hw2 (Nat.le_refl _))
  have HAw2 := Lib.hid (blk_below HAWa.out Hw2 (by omega))
  have HBw2 := Lib.hid (HBWa.out.trans (Hw2.mono (Nat.le_of_lt zBWa)))
  have zBw2 : w.heap.size < w2.heap.size := Nat.lt_of_lt_of_le zBWa zw2
  have hgw2 : g < w2.heap.size := Nat.lt_of_lt_of_le hgWa zw2
  clear hb2 Hw2 OWWa HAWa HBWa zBWa hgWa zw2
  go_wp2_with fail
  refine (kf_valid 8 3 0 0 true (by decide) _).mono ?_
  rintro e w3 ⟨rfl, hb3⟩
  have hz3 := hb3.size; try simp at hz3
  have Hw3 := (show Below w2.heap.size w2 w3 from (by repeat (first | (with_reducible exact Below.refl _ _) | (with_reducible refine Below.drew ?_) | (with_reducible refine below_drewN ?_ _) | ((with_reducible refine Below.alloc ?_ ?_ _); rotate_left; (first | omega | (simp <;> omega)); rotate_right) | ((with_reducible refine Below.setCell ?_ ?_ _); rotate_left; (first | omega | (simp <;> omega)); rotate_right) | (with_reducible assumption) | (refine Below.trans ?_ (Below.mono (by assumption) ?_); rotate_left; (first | omega | (simp <;> omega)); rotate_right))))
  have zw3 := Hw3.size
  have OWw3 := Lib.hid (OWw2.out.below Hw3 (Nat.le_refl _))
  have HAw3 := Lib.hid (blk_below HAw2.out Hw3 (by omega))
  have HBw3 := Lib.hid (HBw2.out.trans (Hw3.mono (Nat.le_of_lt zBw2)))
  have zBw3 : w.heap.size < w3.heap.size := Nat.lt_of_lt_of_le zBw2 zw3
  have hgw3 : g < w3.heap.size := Nat.lt_of_lt_of_le hgw2 zw3
  clear hb3 Hw3 OWw2 HAw2 HBw2 zBw2 hgw2 zw3
  go_wp2_with fail
  refine (kf_valid 2 0 0 0 false (by decide) _).mono ?_
  rintro e w4 ⟨rfl, hb4⟩
  have hz4 := hb4.size; try simp at hz4
  have Hw4 := (show Below w3.heap.size w3 w4 from (by repeat (first | (with_reducible exact Below.refl _ _) | (with_reducible refine Below.drew ?_) | (with_reducible refine below_drewN ?_ _) | ((with_reducible refine Below.alloc ?_ ?_ _); rotate_left; (first | omega | (simp <;> omega)); rotate_right) | ((with_reducible refine Below.setCell ?_ ?_ _); rotate_left; (first | omega | (simp <;> omega)); rotate_right) | (with_reducible assumption) | (refine Below.trans ?_ (Below.mono (by assumption) ?_); rotate_left; (first | omega | (simp <;> omega)); rotate_right))))
  have zw4 := Hw4.size
  have OWw4 := Lib.hid (OWw3.out.below Hw4 (Nat.le_refl _))
  have HAw4 := Lib.hid (blk_below HAw3.out Hw4 (by omega))
  have HBw4 := Lib.hid (HBw3.out.trans (Hw4.mono (Nat.le_of_lt zBw3)))
  have zBw4 : w.heap.size < w4.heap.size := Nat.lt_of_lt_of_le zBw3 zw4
  have hgw4 : g < w4.heap.size := Nat.lt_of_lt_of_le hgw3 zw4
  clear hb4 Hw4 OWw3 HAw3 HBw3 zBw3 hgw3 zw4
  clear hz2 hz3 hz4
  have km9 := mk9
  have km10 := mk10
  go_wp2_with fail
  refine (kf_dec [0, 0, 0, 0, 0, 0, 0, 0, 0] 4 (by decide) (by decide) _ 9 9 _ (by omega) (by omega) (by omega) (Rd.litS _ [0, 0, 0, 0, 0, 0, 0, 0, 0] (by intro x hx; simp at hx; omega))).mono ?_
  rintro e w5 ⟨rfl, hb5⟩
  have hz5 := hb5.size; try simp at hz5
  have Hw5 := (show Below w4.heap.size w4 w5 from (by repeat (first | (with_reducible exact Below.refl _ _) | (with_reducible refine Below.drew ?_) | (with_reducible refine below_drewN ?_ _) | ((with_reducible refine Below.alloc ?_ ?_ _); rotate_left; (first | omega | (simp <;> omega)); rotate_right) | ((with_reducible refine Below.setCell ?_ ?_ _); rotate_left; (first | omega | (simp <;> omega)); rotate_right) | (with_reducible assumption) | (refine Below.trans ?_ (Below.mono (by assumption) ?_); rotate_left; (first | omega | (simp <;> omega)); rotate_right))))
  have zw5 := Hw5.size
  have OWw5 := Lib.hid (OWw4.out.below Hw5 (Nat.le_refl _))
  have HAw5 := Lib.hid (blk_below HAw4.out Hw5 (by omega))
  have HBw5 := Lib.hid (HBw4.out.trans (Hw5.mono (Nat.le_of_lt zBw4)))
  have zBw5 : w.heap.size < w5.heap.size := Nat.lt_of_lt_of_le zBw4 zw5
  have hgw5 : g < w5.heap.size := Nat.lt_of_lt_of_le hgw4 zw5
  clear hb5 Hw5 OWw4 HAw4 HBw4 zBw4 hgw4 zw5
  go_wp2_with fail
  refine (kf_dec [0, 0, 0, 0, 0, 0, 0, 0, 0, 0] 6 (by decide) (by decide) _ 10 10 _ (by omega) (by omega) (by omega) (Rd.litS _ [0, 0, 0, 0, 0, 0, 0, 0, 0, 0] (by intro x hx; simp at hx; omega))).mono ?_
  rintro e w6 ⟨rfl, hb6⟩
  have hz6 := hb6.size; try simp at hz6
  have Hw6 := (show Below w5.heap.size w5 w6 from (by repeat (first | (with_reducible exact Below.refl _ _) | (with_reducible refine Below.drew ?_) | (with_reducible refine below_drewN ?_ _) | ((with_reducible refine Below.alloc ?_ ?_ _); rotate_left; (first | omega | (simp <;> omega)); rotate_right) | ((with_reducible refine Below.setCell ?_ ?_ _); rotate_left; (first | omega | (simp <;> omega)); rotate_right) | (with_reducible assumption) | (refine Below.trans ?_ (Below.mono (by assumption) ?_); rotate_left; (first | omega | (simp <;> omega)); rotate_right))))
  have zw6 := Hw6.size
  have OWw6 := Lib.hid (OWw5.out.below Hw6 (Nat.le_refl _))
  have HAw6 := Lib.hid (blk_below HAw5.out Hw6 (by omega))
  have HBw6 := Lib.hid (HBw5.out.trans (Hw6.mono (Nat.le_of_lt zBw5)))
  have zBw6 : w.heap.size < w6.heap.size := Nat.lt_of_lt_of_le zBw5 zw6
  have hgw6 : g < w6.heap.size := Nat.lt_of_lt_of_le hgw5 zw6
  clear hb6 Hw6 OWw5 HAw5 HBw5 zBw5 hgw5 zw6
  go_wp2_with fail
  refine (kf_dec [213, 76, 2, 0, 3, 1, 2, 1, 0, 0] 4 (by decide) (by decide) _ 10 10 _ (by omega) (by omega) (by omega) (Rd.litA _ [213, 76, 2, 0, 3, 1, 2, 1, 0, 0] _ (by simp) (by intro x hx; simp at hx; omega))).mono ?_
  rintro e w7 ⟨rfl, hb7⟩
  have hz7 := hb7.size; try simp at hz7
  have Hw7 := (show Below w6.heap.size w6 w7 from (by repeat (first | (with_reducible exact Below.refl _ _) | (with_reducible refine Below.drew ?_) | (with_reducible refine below_drewN ?_ _) | ((with_reducible refine Below.alloc ?_ ?_ _); rotate_left; (first | omega | (simp <;> omega)); rotate_right) | ((with_reducible refine Below.setCell ?_ ?_ _); rotate_left; (first | omega | (simp <;> omega)); rotate_right) | (with_reducible assumption) | (refine Below.trans ?_ (Below.mono (by assumption) ?_); rotate_left; (first | omega | (simp <;> omega)); rotate_right))))
  have zw7 := Hw7.size
  have OWw7 := Lib.hid (OWw6.out.below Hw7 (Nat.le_refl _))
  have HAw7 := Lib.hid (blk_below HAw6.out Hw7 (by omega))
  have HBw7 := Lib.hid (HBw6.out.trans (Hw7.mono (Nat.le_of_lt zBw6)))
  have zBw7 : w.heap.size < w7.heap.size := Nat.lt_of_lt_of_le zBw6 zw7
  have hgw7 : g < w7.heap.size := Nat.lt_of_lt_of_le hgw6 zw7
  clear hb7 Hw7 OWw6 HAw6 HBw6 zBw6 hgw6 zw7
  clear hz5 hz6 hz7 km9 km10
  go_wp2_with fail
  refine (kf_put _ 2 _ (Ri.litA _ [258, 1] _ (by simp) (by intro x hx; simp at hx; omega))).mono ?_
  rintro e w8 ⟨A8, c8, rfl, ow8, hb8⟩
  have hz8 := hb8.size; try simp at hz8
  have OP8 := Lib.hid ow8
  clear ow8
  have Hw8 := (show Below w7.heap.size w7 w8 from (by repeat (first | (with_reducible exact Below.refl _ _) | (with_reducible refine Below.drew ?_) | (with_reducible refine below_drewN ?_ _) | ((with_reducible refine Below.alloc ?_ ?_ _); rotate_left; (first | omega | (simp <;> omega)); rotate_right) | ((with_reducible refine Below.setCell ?_ ?_ _); rotate_left; (first | omega | (simp <;> omega)); rotate_right) | (with_reducible assumption) | (refine Below.trans ?_ (Below.mono (by assumption) ?_); rotate_left; (first | omega | (simp <;> omega)); rotate_right))))
  have zw8 := Hw8.size
  have OWw8 := Lib.hid (OWw7.out.below Hw8 (Nat.le_refl _))
  have HAw8 := Lib.hid (blk_below HAw7.out Hw8 (by omega))
  have HBw8 := Lib.hid (HBw7.out.trans (Hw8.mono (Nat.le_of_lt zBw7)))
  have zBw8 : w.heap.size < w8.heap.size := Nat.lt_of_lt_of_le zBw7 zw8
  have hgw8 : g < w8.heap.size := Nat.lt_of_lt_of_le hgw7 zw8
  clear hb8 Hw8 OWw7 HAw7 HBw7 zBw7 hgw7 zw8
  go_wp2_with fail
  refine (kf_get1 _ 4 _ (by omega) (by omega) (Rd.litS _ [0, 0, 1, 2] (by intro x hx; simp at hx; omega))).mono ?_
  rintro e w9 ⟨A9, c9, rfl, ow9, hb9⟩
  have hz9 := hb9.size; try simp at hz9
  have OP9 := Lib.hid (OP8.out.below (show Below w8.heap.size w8 w9 from (by repeat (first | (with_reducible exact Below.refl _ _) | (with_reducible refine Below.drew ?_) | (with_reducible refine below_drewN ?_ _) | ((with_reducible refine Below.alloc ?_ ?_ _); rotate_left; (first | omega | (simp <;> omega)); rotate_right) | ((with_reducible refine Below.setCell ?_ ?_ _); rotate_left; (first | omega | (simp <;> omega)); rotate_right) | (with_reducible assumption) | (refine Below.trans ?_ (Below.mono (by assumption) ?_); rotate_left; (first | omega | (simp <;> omega)); rotate_right)))) (Nat.le_refl _))
  have OG9 := Lib.hid (Ri.of_own ow9.1 ow9.2)
  clear ow9 OP8
  have Hw9 := (show Below w8.heap.size w8 w9 from (by repeat (first | (with_reducible exact Below.refl _ _) | (with_reducible refine Below.drew ?_) | (with_reducible refine below_drewN ?_ _) | ((with_reducible refine Below.alloc ?_ ?_ _); rotate_left; (first | omega | (simp <;> omega)); rotate_right) | ((with_reducible refine Below.setCell ?_ ?_ _); rotate_left; (first | omega | (simp <;> omega)); rotate_right) | (with_reducible assumption) | (refine Below.trans ?_ (Below.mono (by assumption) ?_); rotate_left; (first | omega | (simp <;> omega)); rotate_right))))
  have zw9 := Hw9.size
  have OWw9 := Lib.hid (OWw8.out.below Hw9 (Nat.le_refl _))
  have HAw9 := Lib.hid (blk_below HAw8.out Hw9 (by omega))
  have HBw9 := Lib.hid (HBw8.out.trans (Hw9.mono (Nat.le_of_lt zBw8)))
  have zBw9 : w.heap.size < w9.heap.size := Nat.lt_of_lt_of_le zBw8 zw9
  have hgw9 : g < w9.heap.size := Nat.lt_of_lt_of_le hgw8 zw9
  clear hb9 Hw9 OWw8 HAw8 HBw8 zBw8 hgw8 zw9
  go_wp2_with fail
  refine (kf_get2 _ 3 _ (by omega) (by omega) (Rd.litS _ [0, 0, 1] (by intro x hx; simp at hx; omega))).mono ?_
  rintro e wA ⟨rfl, hbA⟩
  have hzA' := hbA.size; try simp at hzA'
  have OPA := Lib.hid (OP9.out.below (show Below w9.heap.size w9 wA from (by repeat (first | (with_reducible exact Below.refl _ _) | (with_reducible refine Below.drew ?_) | (with_reducible refine below_drewN ?_ _) | ((with_reducible refine Below.alloc ?_ ?_ _); rotate_left; (first | omega | (simp <;> omega)); rotate_right) | ((with_reducible refine Below.setCell ?_ ?_ _); rotate_left; (first | omega | (simp <;> omega)); rotate_right) | (with_reducible assumption) | (refine Below.trans ?_ (Below.mono (by assumption) ?_); rotate_left; (first | omega | (simp <;> omega)); rotate_right)))) (Nat.le_refl _)).rd
  have OGA := Lib.hid ((OG9.out.below (show Below w9.heap.size w9 wA from (by repeat (first | (with_reducible exact Below.refl _ _) | (with_reducible refine Below.drew ?_) | (with_reducible refine below_drewN ?_ _) | ((with_reducible refine Below.alloc ?_ ?_ _); rotate_left; (first | omega | (simp <;> omega)); rotate_right) | ((with_reducible refine Below.setCell ?_ ?_ _); rotate_left; (first | omega | (simp <;> omega)); rotate_right) | (with_reducible assumption) | (refine Below.trans ?_ (Below.mono (by assumption) ?_); rotate_left; (first | omega | (simp <;> omega)); rotate_right)))) (Nat.le_refl _)).more (B' := wA.heap.size) (by omega))
  clear OP9 OG9
  have HwA := (show Below w9.heap.size w9 wA from (by repeat (first | (with_reducible exact Below.refl _ _) | (with_reducible refine Below.drew ?_) | (with_reducible refine below_drewN ?_ _) | ((with_reducible refine Below.alloc ?_ ?_ _); rotate_left; (first | omega | (simp <;> omega)); rotate_right) | ((with_reducible refine Below.setCell ?_ ?_ _); rotate_left; (first | omega | (simp <;> omega)); rotate_right) | (with_reducible assumption) | (refine Below.trans ?_ (Below.mono (by assumption) ?_); rotate_left; (first | omega | (simp <;> omega)); rotate_right))))
  have zwA := HwA.size
  have OWwA := Lib.hid (OWw9.out.below HwA (Nat.le_refl _))
  have HAwA := Lib.hid (blk_below HAw9.out HwA (by omega))
  have HBwA := Lib.hid (HBw9.out.trans (HwA.mono (Nat.le_of_lt zBw9)))
  have zBwA : w.heap.size < wA.heap.size := Nat.lt_of_lt_of_le zBw9 zwA
  have hgwA : g < wA.heap.size := Nat.lt_of_lt_of_le hgw9 zwA
  clear hbA HwA OWw9 HAw9 HBw9 zBw9 hgw9 zwA
  clear hz8 hz9 hzA'
  go_wp2_with fail
  have RP := Lib.hid ((OPA.out.alloc (Nat.le_refl _) (.cells (bv [0, 0, 1, 2, 0, 0, 0, 1]).toArray 5)).more (B' := (wA.alloc (.cells (bv [0, 0, 1, 2, 0, 0, 0, 1]).toArray 5)).heap.size) (by simp))
  refine (kf_same [0, 0, 1, 2, 0, 0, 0, 1] [0, 0, 1, 2, 0, 0, 0, 1] rfl _ _ _ _ _ _ _ RP.out (Rd.litS _ [0, 0, 1, 2, 0, 0, 0, 1] (by intro x hx; simp at hx; omega))).mono ?_
  rintro e w' ⟨rfl, rfl⟩
  clear RP OPA
  go_wp2_with fail
  have RI := Lib.hid ((OGA.out.below (show Below wA.heap.size wA ((wA.alloc (.cells (bv [0, 0, 1, 2, 0, 0, 0, 1]).toArray 5)).alloc (.cells (iv [258]).toArray 3)) from (by repeat (first | (with_reducible exact Below.refl _ _) | (with_reducible refine Below.drew ?_) | (with_reducible refine below_drewN ?_ _) | ((with_reducible refine Below.alloc ?_ ?_ _); rotate_left; (first | omega | (simp <;> omega)); rotate_right) | ((with_reducible refine Below.setCell ?_ ?_ _); rotate_left; (first | omega | (simp <;> omega)); rotate_right) | (with_reducible assumption) | (refine Below.trans ?_ (Below.mono (by assumption) ?_); rotate_left; (first | omega | (simp <;> omega)); rotate_right)))) (Nat.le_refl _)).more (B' := ((wA.alloc (.cells (bv [0, 0, 1, 2, 0, 0, 0, 1]).toArray 5)).alloc (.cells (iv [258]).toArray 3)).heap.size) (by simp; omega))
  refine (kf_samei [258] _ _ 1 _ 1 (by omega) _ RI.out (Ri.litA _ [258] _ (by simp) (by intro x hx; simp at hx; omega))).mono ?_
  rintro e wb ⟨rfl, q, hwb⟩
  have hbb : Below wA.heap.size wA wb := by rw [hwb]; exact below_drewN (((Below.refl _ wA).alloc (Nat.le_refl _) _).alloc (by simp) _) _
  clear hwb RI OGA
  have Hwb := (show Below wA.heap.size wA wb from (by repeat (first | (with_reducible exact Below.refl _ _) | (with_reducible refine Below.drew ?_) | (with_reducible refine below_drewN ?_ _) | ((with_reducible refine Below.alloc ?_ ?_ _); rotate_left; (first | omega | (simp <;> omega)); rotate_right) | ((with_reducible refine Below.setCell ?_ ?_ _); rotate_left; (first | omega | (simp <;> omega)); rotate_right) | (with_reducible assumption) | (refine Below.trans ?_ (Below.mono (by assumption) ?_); rotate_left; (first | omega | (simp <;> omega)); rotate_right))))
  have zwb := Hwb.size
  have OWwb := Lib.hid (OWwA.out.below Hwb (Nat.le_refl _))
  have HAwb := Lib.hid (blk_below HAwA.out Hwb (by omega))
  have HBwb := Lib.hid (HBwA.out.trans (Hwb.mono (Nat.le_of_lt zBwA)))
  have zBwb : w.heap.size < wb.heap.size := Nat.lt_of_lt_of_le zBwA zwb
  have hgwb : g < wb.heap.size := Nat.lt_of_lt_of_le hgwA zwb
  clear hbb Hwb OWwA HAwA HBwA zBwA hgwA zwb
  have hreads := Lib.hid (((OWwb.out.rd).alloc (Nat.le_refl _) (.cells (bv [7]).toArray 5)).reads)
  have hown := Lib.hid (World.ownsRow_lit (base := wb.heap.size) (e := 5) (size := 1) wb #[.int .u8 7] 1 (Nat.le_refl _) (by unfold maxLen; omega) rfl)
  go_wp2_with (first | (at_builtin; refine wpList_append_any _ rfl (.tmp 127) (.tmp 128) _ rfl wb.heap.size 5 i0 _ 1 1 Try.underlying23 hi0 hzA hzB hzC rfl (by omega) (.slice (some ⟨wb.heap.size, 0, none⟩) 1 1) 1 _ rfl hown.out wb.heap.size (some ⟨g, 0, none⟩) 10 c1 (bv armB) rfl hreads.out (bv_one _) (by simp only [maxLen]; omega) (by omega) (by simp) ?_; intro v1 wc hown1 hgc hat1; have hbc := (show Below wb.heap.size wb wc from Below.grown (w := wb.alloc (.cells #[.int .u8 7] 5)) ((Below.refl _ wb).alloc (Nat.le_refl _) _) hgc (by simp) (fun j hj => (hown.out.lt j hj).1)); obtain ⟨A2, c2, rfl⟩ := own_form hown1; have hown2 := Lib.hid hown1; clear hown1 hat1) | (at_builtin; refine wpList_append_any _ rfl (.tmp 129) (.tmp 130) _ rfl wb.heap.size 5 i0 _ 1 1 Try.underlying23 hi0 hzA hzB hzC rfl (by omega) (.slice A2 (1 + 10) c2) (1 + 10) _ rfl (hown2.out.alloc _) (wc.heap.size + 1) (some ⟨wc.heap.size, 0, none⟩) 1 1 [.int .u8 213] rfl (Reads.new wc #[.int .u8 213] 5) (by simp [Value.oneCell']) (by simp only [maxLen]; omega) (by omega) (by have := hbc.size; simp; omega) ?_; intro v2 wd hown3 hgd hat3; have hbd := (show Below wb.heap.size wb wd from Below.grown (w := wc.alloc (.cells #[.int .u8 213] 5)) (hbc.alloc hbc.size _) hgd (by have := hbc.size; simp; omega) (fun j hj => (hown2.out.lt j hj).1)); obtain ⟨A3, c3, rfl⟩ := own_form hown3; have hown4 := Lib.hid hown3; clear hown3 hat3))
  have ow : Ow wd wb.heap.size A3 12 c3 ([7] ++ armB ++ [213]) := ⟨hown4.out, by intro x hx; simp [armB] at hx; omega⟩
  obtain ⟨g3, rfl, _, _, hk3, hk4⟩ := ow.form.resolve_left (by omega)
  unfold maxLen at hk4
  have Hwd := (show Below wb.heap.size wb wd from (by repeat (first | (with_reducible exact Below.refl _ _) | (with_reducible refine Below.drew ?_) | (with_reducible refine below_drewN ?_ _) | ((with_reducible refine Below.alloc ?_ ?_ _); rotate_left; (first | omega | (simp <;> omega)); rotate_right) | ((with_reducible refine Below.setCell ?_ ?_ _); rotate_left; (first | omega | (simp <;> omega)); rotate_right) | (with_reducible assumption) | (refine Below.trans ?_ (Below.mono (by assumption) ?_); rotate_left; (first | omega | (simp <;> omega)); rotate_right))))
  have zwd := Hwd.size
  have HAwd := Lib.hid (blk_below HAwb.out Hwd (by omega))
  have HBwd := Lib.hid (HBwb.out.trans (Hwd.mono (Nat.le_of_lt zBwb)))
  have zBwd : w.heap.size < wd.heap.size := Nat.lt_of_lt_of_le zBwb zwd
  clear hbd Hwd HAwb HBwb zBwb zwd
  refine (kf_scan _ _ _ hk3 (by omega) ow.rd).mono ?_
  clear ow
  rintro e we ⟨A4, c4, rfl, ho4, hbe⟩
  have hrf := Lib.hid ho4.rf
  clear ho4
  have hze := hbe.size
  have Hwe := (show Below wd.heap.size wd we from (by repeat (first | (with_reducible exact Below.refl _ _) | (with_reducible refine Below.drew ?_) | (with_reducible refine below_drewN ?_ _) | ((with_reducible refine Below.alloc ?_ ?_ _); rotate_left; (first | omega | (simp <;> omega)); rotate_right) | ((with_reducible refine Below.setCell ?_ ?_ _); rotate_left; (first | omega | (simp <;> omega)); rotate_right) | (with_reducible assumption) | (refine Below.trans ?_ (Below.mono (by assumption) ?_); rotate_left; (first | omega | (simp <;> omega)); rotate_right))))
  have zwe := Hwe.size
  have HAwe := Lib.hid (blk_below HAwd.out Hwe (by omega))
  have HBwe := Lib.hid (HBwd.out.trans (Hwe.mono (Nat.le_of_lt zBwd)))
  have zBwe : w.heap.size < we.heap.size := Nat.lt_of_lt_of_le zBwd zwe
  clear hbe Hwe HAwd HBwd zBwd zwe
  have ha := HAwe.out
  have ca_0 := blk_cell ha 0 rfl; have fa_0 := blk_free ha 0; have ca_1 := blk_cell ha 1 rfl; have fa_1 := blk_free ha 1; have ca_2 := blk_cell ha 2 rfl; have fa_2 := blk_free ha 2; have ca_3 := blk_cell ha 3 rfl; have fa_3 := blk_free ha 3; have ca_4 := blk_cell ha 4 rfl; have fa_4 := blk_free ha 4; have la := lt_of_block ha
  go_wp2_with fail
  have R1 := Lib.hid ((hrf.out.below (show Below we.heap.size we (we.alloc (.cells #[.int .i64 2, .int .i64 0, .int .i64 3, .int .i64 258, .slice none 0 0] 25)) from (by repeat (first | (with_reducible exact Below.refl _ _) | (with_reducible refine Below.drew ?_) | (with_reducible refine below_drewN ?_ _) | ((with_reducible refine Below.alloc ?_ ?_ _); rotate_left; (first | omega | (simp <;> omega)); rotate_right) | ((with_reducible refine Below.setCell ?_ ?_ _); rotate_left; (first | omega | (simp <;> omega)); rotate_right) | (with_reducible assumption) | (refine Below.trans ?_ (Below.mono (by assumption) ?_); rotate_left; (first | omega | (simp <;> omega)); rotate_right)))) (Nat.le_refl _)).more (B' := (we.alloc (.cells #[.int .i64 2, .int .i64 0, .int .i64 3, .int .i64 258, .slice none 0 0] 25)).heap.size) (by simp))
  refine (kf_samef [armF] _ _ 1 _ 1 (by omega) _ R1.out (Rf.lit1 we 2 0 3 258)).mono ?_
  rintro e wf ⟨rfl, hbf⟩
  have HF := (show Below we.heap.size we wf from (by repeat (first | (with_reducible exact Below.refl _ _) | (with_reducible refine Below.drew ?_) | (with_reducible refine below_drewN ?_ _) | ((with_reducible refine Below.alloc ?_ ?_ _); rotate_left; (first | omega | (simp <;> omega)); rotate_right) | ((with_reducible refine Below.setCell ?_ ?_ _); rotate_left; (first | omega | (simp <;> omega)); rotate_right) | (with_reducible assumption) | (refine Below.trans ?_ (Below.mono (by assumption) ?_); rotate_left; (first | omega | (simp <;> omega)); rotate_right))))
  have HBF := HBwe.out.trans (HF.mono (Nat.le_of_lt zBwe))
  go_wp2_with fail
  go_ret
  exact ⟨rfl, HBF⟩
end Go.Proofs.Yteakljjalmgicaa

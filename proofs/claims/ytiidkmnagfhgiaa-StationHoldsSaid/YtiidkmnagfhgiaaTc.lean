/- known() of the chapter returns true. -/
import Derived.Test.YtiidkmnagfhgiaaTb
namespace Go.Proofs.Ytiidkmnagfhgiaa
open Go.RowKit
set_option maxHeartbeats 16000000
set_option maxRecDepth 100000
set_option linter.unusedSimpArgs false
set_option linter.unusedVariables false
attribute [local go_sem ↓] Go.wp_at_zero Go.wp_at_succ
namespace Ks
def ff : List Bool := [false, false]
def nn : List Stn.Rep := [(false, 0, 0), (false, 0, 0)]
def s0 : Stn.St := ⟨2, 100, 0, 0, 0, false, 0, 0, 0, 0, ff, nn⟩
def s1 : Stn.St := ⟨2, 100, 1, 0, 1, true, 7, 1, 0, 0, ff, nn⟩
def s2 : Stn.St := ⟨2, 100, 1, 10, 1, true, 7, 1, 0, 0, [true, false], nn⟩
def s3 : Stn.St := ⟨2, 100, 1, 99, 1, true, 7, 1, 0, 0, [true, false], nn⟩
def s4 : Stn.St := ⟨2, 100, 1, 100, 1, true, 7, 1, 0, 100, [true, false], nn⟩
def s5 : Stn.St := ⟨2, 100, 2, 120, 1, true, 7, 1, 0, 100, [true, true], nn⟩
def s6 : Stn.St := ⟨2, 100, 2, 300, 1, true, 7, 1, 0, 100, [true, true], nn⟩
def s7 : Stn.St := ⟨2, 100, 2, 310, 1, true, 7, 1, 0, 100, [true, true], [(false, 0, 0), (true, 1, 310)]⟩
def s8 : Stn.St := ⟨2, 100, 3, 320, 2, true, 7, 2, 0, 320, ff, [(false, 0, 0), (true, 1, 310)]⟩
def s9 : Stn.St := ⟨2, 100, 8, 330, 3, true, 7, 6, 0, 330, ff, [(false, 0, 0), (true, 1, 310)]⟩
def d7 : List Int := [0, 0, 0, 7]
def d1 : List Int := [1]
def d8 : List Int := [0, 0, 1, 54, 0, 0, 1, 54]
def f1 : Fr := ⟨1, 0, 1, 1, d7⟩
def f2 : Fr := ⟨1, 0, 2, 1, d7⟩
def f3 : Fr := ⟨7, 0, 2, 9, d8⟩
def a1 : Fr := ⟨2, 0, 1, 2, d7⟩
def a2 : Fr := ⟨2, 0, 2, 2, d7⟩
def b1 : Fr := ⟨6, 0, 1, 3, []⟩
def b2 : Fr := ⟨6, 0, 2, 3, []⟩
theorem by7 : By d7 := by intro x hx; simp [d7] at hx; omega
theorem by1 : By d1 := by intro x hx; simp [d1] at hx; omega
theorem by8 : By d8 := by intro x hx; simp [d8] at hx; omega
theorem e0 : Stn.new 2 100 = s0 := by kernel_rfl
theorem x0 : Stn.give s0 2 0 0 = s0 ∧ Stn.giveF s0 2 0 0 = [] ∧ Stn.giveE s0 2 0 0 = 8 := by refine ⟨?_, ?_, ?_⟩ <;> kernel_rfl
theorem x1 : Stn.give s0 1 0 7 = s1 ∧ Stn.giveF s0 1 0 7 = [f1, f2] ∧ Stn.giveE s0 1 0 7 = 0 := by refine ⟨?_, ?_, ?_⟩ <;> kernel_rfl
theorem x2 : Stn.recv s1 10 ⟨8, 1, 0, 1, d1⟩ = s2 ∧ Stn.recvF s1 10 ⟨8, 1, 0, 1, d1⟩ = [] ∧ Stn.recvE s1 10 ⟨8, 1, 0, 1, d1⟩ = 0 := by refine ⟨?_, ?_, ?_⟩ <;> kernel_rfl
theorem x3 : Stn.tick s2 99 = s3 ∧ Stn.tickF s2 99 = [] ∧ Stn.timeE s2 99 = 0 := by refine ⟨?_, ?_, ?_⟩ <;> kernel_rfl
theorem x4 : Stn.tick s3 100 = s4 ∧ Stn.tickF s3 100 = [f2] ∧ Stn.timeE s3 100 = 0 := by refine ⟨?_, ?_, ?_⟩ <;> kernel_rfl
theorem x5 : Stn.recv s4 120 ⟨8, 2, 0, 1, d1⟩ = s5 ∧ Stn.recvF s4 120 ⟨8, 2, 0, 1, d1⟩ = [] ∧ Stn.recvE s4 120 ⟨8, 2, 0, 1, d1⟩ = 0 := by refine ⟨?_, ?_, ?_⟩ <;> kernel_rfl
theorem x6 : Stn.tick s5 300 = s6 ∧ Stn.tickF s5 300 = [] ∧ Stn.timeE s5 300 = 0 := by refine ⟨?_, ?_, ?_⟩ <;> kernel_rfl
theorem x7 : Stn.recv s6 310 ⟨9, 2, 0, 9, d1⟩ = s7 ∧ Stn.recvF s6 310 ⟨9, 2, 0, 9, d1⟩ = [f3] ∧ Stn.recvE s6 310 ⟨9, 2, 0, 9, d1⟩ = 0 := by refine ⟨?_, ?_, ?_⟩ <;> kernel_rfl
theorem x8 : Stn.give s7 3 320 500 = s7 ∧ Stn.giveF s7 3 320 500 = [] ∧ Stn.giveE s7 3 320 500 = 8 := by refine ⟨?_, ?_, ?_⟩ <;> kernel_rfl
theorem x9 : Stn.give s7 2 320 0 = s8 ∧ Stn.giveF s7 2 320 0 = [a1, a2] ∧ Stn.giveE s7 2 320 0 = 0 := by refine ⟨?_, ?_, ?_⟩ <;> kernel_rfl
theorem x10 : Stn.give s8 3 330 500 = s8 ∧ Stn.giveF s8 3 330 500 = [] ∧ Stn.giveE s8 3 330 500 = 8 := by refine ⟨?_, ?_, ?_⟩ <;> kernel_rfl
theorem x11 : Stn.give s8 6 300 0 = s8 ∧ Stn.giveF s8 6 300 0 = [] ∧ Stn.giveE s8 6 300 0 = 3 := by refine ⟨?_, ?_, ?_⟩ <;> kernel_rfl
theorem x12 : Stn.give s8 6 330 0 = s9 ∧ Stn.giveF s8 6 330 0 = [b1, b2] ∧ Stn.giveE s8 6 330 0 = 0 := by refine ⟨?_, ?_, ?_⟩ <;> kernel_rfl
end Ks
theorem known_true (w : World) : Calls Try.prog 9 #[] w fun e w' => e = .returned (.bool true) ∧ Below w.heap.size w w' := by
  have N := Lib.hid (fun W : World => snew_yes 2 100 W (by decide +kernel))
  rw [Ks.e0] at N
  have HI := Lib.hid (show Stn.Inv Ks.s0 from Stn.inv_new (n := 2) (again := 100) (by decide +kernel))
  go_enter Try.func9, Try.ntmps9
  go_wp2_with fail
  refine (N.out _).mono ?_
  rintro e w1 ⟨b, RA, rfl, hs1, hb1⟩
  have T := Lib.hid (show SK w w1 b Ks.s0 [] from ⟨⟨_, _, _, _, hs1⟩, HI.out, hb1, fun x hx => by cases hx⟩)
  clear hs1 hb1 N HI
  go_wp2_with fail
  refine (sk_arm T.out 0 [] 8 Ks.x0.1 Ks.x0.2.1 Ks.x0.2.2).mono ?_
  rintro e w2 ⟨A2, c2, rfl, t, _, _⟩
  have T := Lib.hid t; clear t
  go_wp2_with fail
  refine (sk_load T.out 0 7 [Ks.f1, Ks.f2] 0 Ks.x1.1 Ks.x1.2.1 Ks.x1.2.2).mono ?_
  rintro e w3 ⟨A3, c3, rfl, t, hr, _⟩
  have T := Lib.hid t; have R3 := Lib.hid hr; clear t hr
  go_wp2_with fail
  generalize hV : World.alloc _ _ = V
  have q0 : V.heap[w3.heap.size]? = some (.cells (bv Ks.f2.d).toArray 5 (0, 0)) := by rw [← hV]; exact blk_alloc (blk_alloc (blk_alloc (heap_new' _ _ _ rfl) _) _) _
  have q1 : V.heap[w3.heap.size + 1]? = some (.cells #[.int .i64 1, .int .i64 0, .int .i64 2, .int .i64 1, .slice (some ⟨w3.heap.size, 0, none⟩) 4 4] 40 (0, 0)) := by rw [← hV]; exact blk_alloc (blk_alloc (heap_new' _ _ _ (by simp)) _) _
  have q2 : V.heap[w3.heap.size + 1 + 1]? = some (.cells (bv Ks.f1.d).toArray 5 (0, 0)) := by rw [← hV]; exact blk_alloc (heap_new' _ _ _ (by simp)) _
  have q3 : V.heap[w3.heap.size + 1 + 1 + 1]? = some (.cells (([⟨Ks.f1, some ⟨w3.heap.size + 1 + 1, 0, none⟩, 4⟩, ⟨Ks.f2, some ⟨w3.heap.size, 0, none⟩, 4⟩] : List FV).flatMap FV.cells).toArray 40 (0, 0)) := by rw [← hV]; exact heap_new' _ _ _ (by simp)
  have hBV : Below w3.heap.size w3 V := by rw [← hV]; exact (by repeat (first | (with_reducible exact Below.refl _ _) | (with_reducible refine Below.drew ?_) | (with_reducible refine below_drewN ?_ _) | ((with_reducible refine Below.alloc ?_ ?_ _); rotate_left; (first | omega | (simp <;> omega)); rotate_right) | ((with_reducible refine Below.setCell ?_ ?_ _); rotate_left; (first | omega | (simp <;> omega)); rotate_right) | (with_reducible assumption) | (refine Below.trans ?_ (Below.mono (by assumption) ?_); rotate_left; (first | omega | (simp <;> omega)); rotate_right)))
  have hzV := hBV.size
  clear hV
  have W3 := Lib.hid (rf_block _ 2 [Ks.f1, Ks.f2] rfl rfl q3 (fun y hy => by
    simp only [List.mem_cons, List.not_mem_nil, or_false] at hy
    rcases hy with rfl | rfl
    · exact fv_ok Ks.f1 Ks.by7 q2 (by decide) (by decide)
    · exact fv_ok Ks.f2 Ks.by7 q0 (by decide) (by decide)))
  have T := Lib.hid (((T.out.below hBV).add q0 (by decide) (by decide) (by decide)).add q1 (by decide) (by decide) (by decide))
  refine (sends_yes A3 (some _) 2 c3 2 [Ks.f1, Ks.f2] V (by omega) (R3.out.below hBV (Nat.le_refl _)).rf W3.out).mono ?_
  rintro e w4 ⟨rfl, hb4⟩
  have T := Lib.hid (T.out.below hb4)
  clear hb4 hBV q0 q1 q2 q3 W3 R3
  go_wp2_with fail
  refine (sk_state T.out 1 rfl).mono ?_
  rintro e w' ⟨rfl, rfl⟩
  go_wp2_with fail
  refine (sk_missing T.out [1, 2] (by kernel_rfl)).mono ?_
  rintro e w5 ⟨A5, c5, rfl, r5, t, _⟩
  have T := Lib.hid t; have R5 := Lib.hid r5; clear t r5
  go_wp2_with fail
  refine (same_lit A5 c5 2 [1, 2] _ w5 R5.out rfl rfl (by omega)).mono ?_
  rintro e w6 ⟨rfl, hb6⟩
  have T := Lib.hid (T.out.below hb6); clear hb6 R5
  go_wp2_with fail
  refine (sk_recv T.out 10 8 1 0 1 Ks.d1 _ 1 1 rfl rfl Ks.by1 (by decide) [] 0 Ks.x2.1 Ks.x2.2.1 Ks.x2.2.2).mono ?_
  rintro e w7 ⟨A7, c7, rfl, t, _, _⟩
  have T := Lib.hid t; clear t
  go_wp2_with fail
  refine (sk_next T.out 100 0 (by kernel_rfl) (by kernel_rfl)).mono ?_
  rintro e w8 ⟨rfl, q8, hq8⟩
  have T := Lib.hid (show SK w w8 b Ks.s2 [(w3.heap.size + 1, #[.int .i64 1, .int .i64 0, .int .i64 2, .int .i64 1, .slice (some ⟨w3.heap.size, 0, none⟩) 4 4], 40), (w3.heap.size, (bv Ks.f2.d).toArray, 5)] from by rw [hq8]; exact T.out.drewN q8); clear hq8
  go_wp2_with fail
  refine (sends_yes A7 none 0 c7 0 [] w8 (by omega) (rf_nil _ _) (rf_nil _ _)).mono ?_
  rintro e w9 ⟨rfl, hb9⟩
  have T := Lib.hid (T.out.below hb9); clear hb9
  go_wp2_with fail
  refine (sk_missing T.out [2] (by kernel_rfl)).mono ?_
  rintro e w10 ⟨A10, c10, rfl, r10, t, _⟩
  have T := Lib.hid t; have R10 := Lib.hid r10; clear t r10
  go_wp2_with fail
  refine (same_lit A10 c10 1 [2] _ w10 R10.out rfl rfl (by omega)).mono ?_
  rintro e w11 ⟨rfl, hb11⟩
  have T := Lib.hid (T.out.below hb11); clear hb11 R10
  go_wp2_with fail
  refine (sk_tick T.out 99 [] 0 Ks.x3.1 Ks.x3.2.1 Ks.x3.2.2).mono ?_
  rintro e w12 ⟨A12, c12, rfl, t, _, _⟩
  have T := Lib.hid t; clear t
  go_wp2_with fail
  refine (sk_tick T.out 100 [Ks.f2] 0 Ks.x4.1 Ks.x4.2.1 Ks.x4.2.2).mono ?_
  rintro e w13 ⟨A13, c13, rfl, t, r13, _⟩
  have T := Lib.hid t; have R13 := Lib.hid r13; clear t r13
  go_wp2_with fail
  refine (sends_yes A12 none 0 c12 0 [] w13 (by omega) (rf_nil _ _) (rf_nil _ _)).mono ?_
  rintro e w14 ⟨rfl, hb14⟩
  have T := Lib.hid (T.out.below hb14); have R13 := Lib.hid (R13.out.below hb14 (Nat.le_refl _)); clear hb14
  have kL := (T.out.2.2.2 _ (List.mem_cons_self ..)).1
  simp only at kL
  have cl_0 := blk_cell kL 0 rfl; have fl_0 := blk_free kL 0; have cl_1 := blk_cell kL 1 rfl; have fl_1 := blk_free kL 1; have cl_2 := blk_cell kL 2 rfl; have fl_2 := blk_free kL 2; have cl_3 := blk_cell kL 3 rfl; have fl_3 := blk_free kL 3; have cl_4 := blk_cell kL 4 rfl; have fl_4 := blk_free kL 4; have ll := lt_of_block kL
  go_wp2_with fail
  generalize hV : World.alloc _ _ = V
  have q0 : V.heap[w3.heap.size]? = some (.cells (bv Ks.f2.d).toArray 5 (0, 0)) := by rw [← hV]; exact blk_alloc (T.out.2.2.2 _ (List.mem_cons_of_mem _ (List.mem_cons_self ..))).1 _
  have q1 : V.heap[w14.heap.size]? = some (.cells (([⟨Ks.f2, some ⟨w3.heap.size, 0, none⟩, 4⟩] : List FV).flatMap FV.cells).toArray 40 (0, 0)) := by rw [← hV]; exact heap_new' _ _ _ rfl
  have hBV : Below w14.heap.size w14 V := by rw [← hV]; exact (by repeat (first | (with_reducible exact Below.refl _ _) | (with_reducible refine Below.drew ?_) | (with_reducible refine below_drewN ?_ _) | ((with_reducible refine Below.alloc ?_ ?_ _); rotate_left; (first | omega | (simp <;> omega)); rotate_right) | ((with_reducible refine Below.setCell ?_ ?_ _); rotate_left; (first | omega | (simp <;> omega)); rotate_right) | (with_reducible assumption) | (refine Below.trans ?_ (Below.mono (by assumption) ?_); rotate_left; (first | omega | (simp <;> omega)); rotate_right)))
  clear hV
  have W14 := Lib.hid (rf_block _ 1 [Ks.f2] rfl rfl q1 (fun y hy => by
    simp only [List.mem_cons, List.not_mem_nil, or_false] at hy
    rcases hy with rfl
    exact fv_ok Ks.f2 Ks.by7 q0 (by decide) (by decide)))
  have T := Lib.hid ((T.out.below hBV).drop (K' := []) (fun x hx => by cases hx))
  refine (sends_yes A13 (some _) 1 c13 1 [Ks.f2] V (by omega) (R13.out.below hBV (Nat.le_refl _)).rf W14.out).mono ?_
  rintro e w15 ⟨rfl, hb15⟩
  have T := Lib.hid (T.out.below hb15)
  clear cl_0 fl_0 cl_1 fl_1 cl_2 fl_2 cl_3 fl_3 cl_4 fl_4
  clear hb15 hBV q0 q1 W14 R13 kL ll hzV
  go_wp2_with fail
  refine (sk_recv T.out 120 8 2 0 1 Ks.d1 _ 1 1 rfl rfl Ks.by1 (by decide) [] 0 Ks.x5.1 Ks.x5.2.1 Ks.x5.2.2).mono ?_
  rintro e w16 ⟨A16, c16, rfl, t, _, _⟩
  have T := Lib.hid t; clear t
  go_wp2_with fail
  refine (sk_next T.out 0 9 (by kernel_rfl) (by kernel_rfl)).mono ?_
  rintro e w17 ⟨rfl, q17, hq17⟩
  have T := Lib.hid (show SK w w17 b Ks.s5 [] from by rw [hq17]; exact T.out.drewN q17); clear hq17
  go_wp2_with fail
  refine (sk_tick T.out 300 [] 0 Ks.x6.1 Ks.x6.2.1 Ks.x6.2.2).mono ?_
  rintro e w18 ⟨A18, c18, rfl, t, _, _⟩
  have T := Lib.hid t; clear t
  go_wp2_with fail
  refine (sends_yes A16 none 0 c16 0 [] w18 (by omega) (rf_nil _ _) (rf_nil _ _)).mono ?_
  rintro e w19 ⟨rfl, hb19⟩
  have T := Lib.hid (T.out.below hb19); clear hb19
  go_wp2_with fail
  refine (sends_yes A18 none 0 c18 0 [] w19 (by omega) (rf_nil _ _) (rf_nil _ _)).mono ?_
  rintro e w20 ⟨rfl, hb20⟩
  have T := Lib.hid (T.out.below hb20); clear hb20
  go_wp2_with fail
  refine (sk_state T.out 2 rfl).mono ?_
  rintro e w' ⟨rfl, rfl⟩
  go_wp2_with fail
  refine (sk_recv T.out 310 9 2 0 9 Ks.d1 _ 1 1 rfl rfl Ks.by1 (by decide) [Ks.f3] 0 Ks.x7.1 Ks.x7.2.1 Ks.x7.2.2).mono ?_
  rintro e w21 ⟨A21, c21, rfl, t, r21, _⟩
  have T := Lib.hid t; have R21 := Lib.hid r21; clear t r21
  go_wp2_with fail
  refine (sk_seen T.out 2 1 310 0 (by kernel_rfl)).mono ?_
  rintro e w22 ⟨rfl, hb22⟩
  have T := Lib.hid (T.out.below hb22); have R21 := Lib.hid (R21.out.below hb22 (Nat.le_refl _)); clear hb22
  go_wp2_with fail
  refine (sk_seen T.out 1 0 0 9 (by kernel_rfl)).mono ?_
  rintro e w23 ⟨rfl, hb23⟩
  have T := Lib.hid (T.out.below hb23); have R21 := Lib.hid (R21.out.below hb23 (Nat.le_refl _)); clear hb23
  go_wp2_with fail
  generalize hV : World.alloc _ _ = V
  have q0 : V.heap[w23.heap.size]? = some (.cells (bv Ks.f3.d).toArray 5 (0, 0)) := by rw [← hV]; exact blk_alloc (heap_new' _ _ _ rfl) _
  have q1 : V.heap[w23.heap.size + 1]? = some (.cells (([⟨Ks.f3, some ⟨w23.heap.size, 0, none⟩, 8⟩] : List FV).flatMap FV.cells).toArray 40 (0, 0)) := by rw [← hV]; exact heap_new' _ _ _ (by simp)
  have hBV : Below w23.heap.size w23 V := by rw [← hV]; exact (by repeat (first | (with_reducible exact Below.refl _ _) | (with_reducible refine Below.drew ?_) | (with_reducible refine below_drewN ?_ _) | ((with_reducible refine Below.alloc ?_ ?_ _); rotate_left; (first | omega | (simp <;> omega)); rotate_right) | ((with_reducible refine Below.setCell ?_ ?_ _); rotate_left; (first | omega | (simp <;> omega)); rotate_right) | (with_reducible assumption) | (refine Below.trans ?_ (Below.mono (by assumption) ?_); rotate_left; (first | omega | (simp <;> omega)); rotate_right)))
  clear hV
  have W23 := Lib.hid (rf_block _ 1 [Ks.f3] rfl rfl q1 (fun y hy => by
    simp only [List.mem_cons, List.not_mem_nil, or_false] at hy
    rcases hy with rfl
    exact fv_ok Ks.f3 Ks.by8 q0 (by decide) (by decide)))
  have T := Lib.hid (T.out.below hBV)
  refine (sends_yes A21 (some _) 1 c21 1 [Ks.f3] V (by omega) (R21.out.below hBV (Nat.le_refl _)).rf W23.out).mono ?_
  rintro e w24 ⟨rfl, hb24⟩
  have T := Lib.hid (T.out.below hb24)
  clear hb24 hBV q0 q1 W23 R21
  go_wp2_with fail
  refine (sk_start T.out 320 500 [] 8 Ks.x8.1 Ks.x8.2.1 Ks.x8.2.2).mono ?_
  rintro e w25 ⟨A25, c25, rfl, t, _, _⟩
  have T := Lib.hid t; clear t
  go_wp2_with fail
  refine (sk_arm T.out 320 [Ks.a1, Ks.a2] 0 Ks.x9.1 Ks.x9.2.1 Ks.x9.2.2).mono ?_
  rintro e w26 ⟨A26, c26, rfl, t, r26, _⟩
  have T := Lib.hid t; have R26 := Lib.hid r26; clear t r26
  go_wp2_with fail
  refine (sk_start T.out 330 500 [] 8 Ks.x10.1 Ks.x10.2.1 Ks.x10.2.2).mono ?_
  rintro e w27 ⟨A27, c27, rfl, t, _, k27⟩
  have T := Lib.hid t; have R26 := Lib.hid (k27 _ _ _ R26.out); clear t k27
  go_wp2_with fail
  refine (sk_abort T.out 300 [] 3 Ks.x11.1 Ks.x11.2.1 Ks.x11.2.2).mono ?_
  rintro e w28 ⟨A28, c28, rfl, t, _, k28⟩
  have T := Lib.hid t; have R26 := Lib.hid (k28 _ _ _ R26.out); clear t k28
  go_wp2_with fail
  refine (sk_abort T.out 330 [Ks.b1, Ks.b2] 0 Ks.x12.1 Ks.x12.2.1 Ks.x12.2.2).mono ?_
  rintro e w29 ⟨A29, c29, rfl, t, r29, k29⟩
  have T := Lib.hid t; have R26 := Lib.hid (k29 _ _ _ R26.out); have R29 := Lib.hid r29; clear t r29 k29
  obtain ⟨g1, o1, rfl, hg1, hc1⟩ := R26.out.rf.2 (by decide)
  obtain ⟨g2, o2, rfl, hg2, hc2⟩ := R29.out.rf.2 (by decide)
  obtain ⟨_, _, _, _, _, m1, _⟩ := hc1 0 (by decide)
  obtain ⟨_, _, _, _, _, m2, _⟩ := hc2 1 (by decide)
  have m1' : w29.cell? ⟨g1, o1 + 3, none⟩ = some (.int .i64 2) := m1
  have m2' : w29.cell? ⟨g2, o2 + 5 + 3, none⟩ = some (.int .i64 3) := m2
  clear m1 m2 hc1 hc2 R26 R29
  go_wp2_with fail
  refine (sk_state T.out 8 rfl).mono ?_
  rintro e w' ⟨rfl, rfl⟩
  have HB := Lib.hid T.out.2.2.1
  clear T
  go_wp2_with fail
  refine (stick_nil 0 _).mono ?_
  rintro e w' ⟨rfl, rfl⟩
  go_wp2_with fail
  generalize hV : World.alloc _ _ = V
  have z0 : V.heap[w29.heap.size]? = some (.cells ([.int .i64 0, .int .i64 0, .int .i64 0, .int .i64 0, .int .i64 0, .int .i64 0, .bool false, .int .i64 0, .nilIface, .slice none 0 0, .slice none 0 0]).toArray 74 (0, 0)) := by rw [← hV]; exact heap_new' _ _ _ rfl
  have hBV : Below w.heap.size w V := by have hb := HB.out; have hz := hb.size; rw [← hV]; exact (by repeat (first | (with_reducible exact Below.refl _ _) | (with_reducible refine Below.drew ?_) | (with_reducible refine below_drewN ?_ _) | ((with_reducible refine Below.alloc ?_ ?_ _); rotate_left; (first | omega | (simp <;> omega)); rotate_right) | ((with_reducible refine Below.setCell ?_ ?_ _); rotate_left; (first | omega | (simp <;> omega)); rotate_right) | (with_reducible assumption) | (refine Below.trans ?_ (Below.mono (by assumption) ?_); rotate_left; (first | omega | (simp <;> omega)); rotate_right)))
  clear hV
  have HBV := Lib.hid hBV
  have Z0 := Lib.hid z0
  have hzV := hBV.size
  have hlt := lt_of_block z0
  clear hBV z0
  refine (sload_zero w29.heap.size [.int .i64 0, .int .i64 0, .int .i64 0, .int .i64 0, .int .i64 0, .int .i64 0, .bool false, .int .i64 0, .nilIface, .slice none 0 0, .slice none 0 0] 0 0 V Z0.out rfl).mono ?_
  rintro e w' ⟨rfl, rfl⟩
  go_wp2_with fail
  refine (srecv_nil 0 0 0 0 0 none 0 0 _).mono ?_
  rintro e w30 ⟨rfl, hb30⟩
  have Z0 := Lib.hid (blk_below Z0.out hb30 hlt)
  have HBV := Lib.hid (HBV.out.trans (hb30.mono hzV))
  clear hb30
  go_wp2_with fail
  refine (sstate_nil _).mono ?_
  rintro e w' ⟨rfl, rfl⟩
  go_wp2_with fail
  refine (smissing_zero w29.heap.size [.int .i64 0, .int .i64 0, .int .i64 0, .int .i64 0, .int .i64 0, .int .i64 0, .bool false, .int .i64 0, .nilIface, .slice none 0 0, .slice none 0 0] _ Z0.out rfl).mono ?_
  rintro e w' ⟨rfl, rfl⟩
  go_wp2_with fail
  refine (scopy_nil _).mono ?_
  rintro e w' ⟨rfl, rfl⟩
  go_wp2_with fail
  go_ret
  exact ⟨rfl, HBV.out⟩
end Go.Proofs.Ytiidkmnagfhgiaa

/- What the law looks at: some, shows; the reference's New. -/
import Derived.Test.YtjidchaejicjaaaPlW
namespace Go.Proofs.Ytjidchaejicjaaa
open Go.RowKit
set_option maxHeartbeats 4000000
set_option maxRecDepth 100000
set_option linter.unusedSimpArgs false
set_option linter.unusedVariables false
attribute [local go_sem ↓] Go.wp_at_zero Go.wp_at_succ
theorem some_yes (n : Int) (is : Bool) (w : World) :
    Calls Try.prog 49 #[.int .i64 (hasV n is), .int .i64 (hasE is), .int .i64 n, .bool is] w fun e w' => e = .returned (.bool true) ∧ w = w' := by
  cases is
  · simp only [hasV, hasE, Bool.false_eq_true, if_false]
    go_enter Try.func49, Try.ntmps49
    go_wp2_with fail
    go_ret
    exact ⟨rfl, rfl⟩
  · simp only [hasV, hasE, if_true]
    have z : (n == n) = true := by simp
    go_enter Try.func49, Try.ntmps49
    go_wp2_with fail
    go_ret
    exact ⟨rfl, rfl⟩
section
variable {w : World} {base b c : Nat} {s : Plt.St}
theorem shows_yes (h : IsP w base b c s) (hs : Plt.Inv s) :
    Calls Try.prog 22 #[.pointer (some ⟨b, 0, none⟩), .agg (rag s).toArray] w fun e w' => e = .returned (.bool true) ∧ Below w.heap.size w w' := by
  have HH := Lib.hid h
  have C1 := Lib.hid (fun (W : World) (hW : IsP W base b c s) => pprog_any hW hs)
  have C2 := Lib.hid (fun (W : World) (hW : IsP W base b c s) => pstart_any hW hs)
  have C3 := Lib.hid (fun (W : World) (hW : IsP W base b c s) => psince_any hW hs)
  have C4 := Lib.hid (fun (W : World) (hW : IsP W base b c s) => pnext_any hW hs)
  have C5 := Lib.hid (fun (W : World) => rnext_any s hs W)
  have C6 := Lib.hid (fun (W : World) (hW : IsP W base b c s) => pbounds_any hW hs s.now)
  have C7 := Lib.hid (fun (W : World) => Ck.rat_any s.d s.r s.cs s.lo s.hi s.now W hs.clk hs.l0)
  have C8 := Lib.hid (fun (W : World) (hW : IsP W base b c s) => pstate_any hW hs)
  obtain ⟨e1, h1⟩ : ∃ y, y = Ck.aLo s.d s.r s.cs s.lo s.hi s.now := ⟨_, rfl⟩
  obtain ⟨e2, h2⟩ : ∃ y, y = Ck.aHi s.d s.r s.cs s.hi s.now := ⟨_, rfl⟩
  obtain ⟨e3, h3⟩ : ∃ y, y = Ck.aE s.d s.r s.cs s.hi s.now := ⟨_, rfl⟩
  obtain ⟨nx, h4⟩ : ∃ y, y = hasV (Plt.next s) s.begun := ⟨_, rfl⟩
  rw [← h1, ← h2, ← h3] at C6 C7
  rw [← h4] at C4 C5
  obtain ⟨p1, g1⟩ : ∃ y, y = hasV s.prog s.loaded := ⟨_, rfl⟩
  obtain ⟨p2, g2⟩ : ∃ y, y = hasE s.loaded := ⟨_, rfl⟩
  obtain ⟨p3, g3⟩ : ∃ y, y = hasV s.start s.given := ⟨_, rfl⟩
  obtain ⟨p4, g4⟩ : ∃ y, y = hasE s.given := ⟨_, rfl⟩
  obtain ⟨p5, g5⟩ : ∃ y, y = hasV s.since s.begun := ⟨_, rfl⟩
  obtain ⟨p6, g6⟩ : ∃ y, y = hasE s.begun := ⟨_, rfl⟩
  have S1 := Lib.hid (fun W : World => by have := some_yes s.prog s.loaded W; rw [← g1, ← g2] at this; exact this)
  have S2 := Lib.hid (fun W : World => by have := some_yes s.start s.given W; rw [← g3, ← g4] at this; exact this)
  have S3 := Lib.hid (fun W : World => by have := some_yes s.since s.begun W; rw [← g5, ← g6] at this; exact this)
  rw [← g1, ← g2] at C1
  rw [← g3, ← g4] at C2
  rw [← g5, ← g6] at C3
  rw [← g6] at C4 C5
  clear h hs h1 h2 h3 h4 g1 g2 g3 g4 g5 g6
  go_enter Try.func22, Try.ntmps22
  go_upto_region 1 with fail
  generalize hV : World.alloc _ _ = V
  have k0 : RB V w.heap.size s := by rw [← hV]; exact heap_new _ _
  have HB := Lib.hid (show Below w.heap.size w V from by rw [← hV]; exact (Below.refl _ _).alloc (Nat.le_refl _) _)
  have HP := Lib.hid (HH.out.below HB.out (Nat.le_refl _))
  clear hV
  go_wp2_with fail
  refine (C1.out _ HP.out).mono ?_
  rintro e W1 ⟨rfl, hb1⟩
  have i0 := blk_below k0 hb1 (lt_of_block k0); have HP1 := Lib.hid (HP.out.below hb1 (Nat.le_refl _)); have HB1 := Lib.hid (HB.out.trans (hb1.mono HB.out.size)); clear k0 HP HB hb1; have k0 := i0; have HP := HP1; have HB := HB1; clear i0 HP1 HB1
  go_wp2_with fail
  refine (C2.out _ HP.out).mono ?_
  rintro e W2 ⟨rfl, hb1⟩
  have i0 := blk_below k0 hb1 (lt_of_block k0); have HP1 := Lib.hid (HP.out.below hb1 (Nat.le_refl _)); have HB1 := Lib.hid (HB.out.trans (hb1.mono HB.out.size)); clear k0 HP HB hb1; have k0 := i0; have HP := HP1; have HB := HB1; clear i0 HP1 HB1
  go_wp2_with fail
  refine (C3.out _ HP.out).mono ?_
  rintro e W3 ⟨rfl, hb1⟩
  have i0 := blk_below k0 hb1 (lt_of_block k0); have HP1 := Lib.hid (HP.out.below hb1 (Nat.le_refl _)); have HB1 := Lib.hid (HB.out.trans (hb1.mono HB.out.size)); clear k0 HP HB hb1; have k0 := i0; have HP := HP1; have HB := HB1; clear i0 HP1 HB1
  go_wp2_with fail
  refine (C4.out _ HP.out).mono ?_
  rintro e W4 ⟨rfl, hb1⟩
  have i0 := blk_below k0 hb1 (lt_of_block k0); have HP1 := Lib.hid (HP.out.below hb1 (Nat.le_refl _)); have HB1 := Lib.hid (HB.out.trans (hb1.mono HB.out.size)); clear k0 HP HB hb1; have k0 := i0; have HP := HP1; have HB := HB1; clear i0 HP1 HB1
  (go_wp2_with (first | (refine wpList_load_row rfl 54 _ rfl _ rfl 54 _ (0, 0) _ k0 Try.underlying54 rfl (by kernel_rfl) ?_)))
  refine (C5.out _).mono ?_
  rintro e W5 ⟨rfl, hb1⟩
  have i0 := blk_below k0 hb1 (lt_of_block k0); have HP1 := Lib.hid (HP.out.below hb1 (Nat.le_refl _)); have HB1 := Lib.hid (HB.out.trans (hb1.mono HB.out.size)); clear k0 HP HB hb1; have k0 := i0; have HP := HP1; have HB := HB1; clear i0 HP1 HB1
  have c16 : W5.cell? ⟨w.heap.size, 16, none⟩ = some (.int .i64 s.now) := blk_cell k0 16 rfl
  go_wp2_with fail
  refine (C6.out _ HP.out).mono ?_
  rintro e W6 ⟨rfl, hb1⟩
  clear c16
  have i0 := blk_below k0 hb1 (lt_of_block k0); have HP1 := Lib.hid (HP.out.below hb1 (Nat.le_refl _)); have HB1 := Lib.hid (HB.out.trans (hb1.mono HB.out.size)); clear k0 HP HB hb1; have k0 := i0; have HP := HP1; have HB := HB1; clear i0 HP1 HB1
  go_upto_region 7 with fail
  generalize hV : World.alloc _ _ = V6
  have i0 : RB V6 w.heap.size s := by rw [← hV]; exact blk_alloc k0 _
  have j1 : V6.heap[W6.heap.size]? = some (.cells #[.int .i64 e1, .int .i64 e2] 47 (0, 0)) := by rw [← hV]; exact heap_new _ _
  have HB6 := Lib.hid (show Below w.heap.size w V6 by rw [← hV]; exact HB.out.alloc HB.out.size _)
  have HP6 := Lib.hid (show IsP V6 base b c s by rw [← hV]; exact HP.out.alloc _)
  have hz6 : w.heap.size < W6.heap.size := lt_of_block k0
  clear hV k0 HB HP
  obtain ⟨q1, hq1⟩ : ∃ q, q = W6.heap.size := ⟨_, rfl⟩
  rw [← hq1] at j1 hz6 ⊢
  clear hq1
  have d6 : V6.cell? ⟨w.heap.size, 6, none⟩ = some (.int .i64 s.d) := blk_cell i0 6 rfl
  have d7 : V6.cell? ⟨w.heap.size, 7, none⟩ = some (.int .i64 s.r) := blk_cell i0 7 rfl
  have d8 : V6.cell? ⟨w.heap.size, 8, none⟩ = some (.bool s.cs) := blk_cell i0 8 rfl
  have d9 : V6.cell? ⟨w.heap.size, 9, none⟩ = some (.int .i64 s.lo) := blk_cell i0 9 rfl
  have d10 : V6.cell? ⟨w.heap.size, 10, none⟩ = some (.int .i64 s.hi) := blk_cell i0 10 rfl
  have d16 : V6.cell? ⟨w.heap.size, 16, none⟩ = some (.int .i64 s.now) := blk_cell i0 16 rfl
  go_wp2_with fail
  refine (C7.out _).mono ?_
  rintro e W7 ⟨rfl, hb1⟩
  clear d6 d7 d8 d9 d10 d16
  have i1 := blk_below i0 hb1 (lt_of_block i0)
  have j2 := blk_below j1 hb1 (lt_of_block j1)
  have HB7 := Lib.hid (HB6.out.trans (hb1.mono HB6.out.size))
  have HP7 := Lib.hid (HP6.out.below hb1 (Nat.le_refl _))
  have hq7 : q1 < W7.heap.size := lt_of_block j2
  clear i0 j1 HB6 HP6 hb1
  go_upto_region 8 with fail
  generalize hV : World.alloc _ _ = V7
  have i0 : RB V7 w.heap.size s := by rw [← hV]; exact blk_alloc i1 _
  have j1 : V7.heap[q1]? = some (.cells #[.int .i64 e1, .int .i64 e2] 47 (0, 0)) := by rw [← hV]; exact blk_alloc j2 _
  have j3 : V7.heap[W7.heap.size]? = some (.cells #[.int .i64 e1, .int .i64 e2] 47 (0, 0)) := by rw [← hV]; exact heap_new _ _
  have HB8 := Lib.hid (show Below w.heap.size w V7 by rw [← hV]; exact HB7.out.alloc HB7.out.size _)
  have HP8 := Lib.hid (show IsP V7 base b c s by rw [← hV]; exact HP7.out.alloc _)
  clear hV i1 j2 HB7 HP7
  obtain ⟨q2, hq2⟩ : ∃ q, q = W7.heap.size := ⟨_, rfl⟩
  rw [← hq2] at j3 hq7 ⊢
  clear hq2
  have d11 : V7.cell? ⟨w.heap.size, 11, none⟩ = some (.int .i64 s.st) := blk_cell i0 11 rfl
  have d19 : V7.cell? ⟨w.heap.size, 19, none⟩ = some (.int .i64 s.prog) := blk_cell i0 19 rfl
  have d13 : V7.cell? ⟨w.heap.size, 13, none⟩ = some (.bool s.loaded) := blk_cell i0 13 rfl
  have d20 : V7.cell? ⟨w.heap.size, 20, none⟩ = some (.int .i64 s.start) := blk_cell i0 20 rfl
  have d14 : V7.cell? ⟨w.heap.size, 14, none⟩ = some (.bool s.given) := blk_cell i0 14 rfl
  have d18 : V7.cell? ⟨w.heap.size, 18, none⟩ = some (.int .i64 s.since) := blk_cell i0 18 rfl
  have d12 : V7.cell? ⟨w.heap.size, 12, none⟩ = some (.bool s.begun) := blk_cell i0 12 rfl
  have m0 := blk_cell j1 0 rfl
  have m1 := blk_cell j1 1 rfl
  have n0 := blk_cell j3 0 rfl
  have n1 := blk_cell j3 1 rfl
  have u1 : (s.st == s.st) = true := by simp
  have u2 : (nx == nx) = true := by simp
  have u3 : (p6 == p6) = true := by simp
  have u4 : (e1 == e1) = true := by simp
  have u5 : (e2 == e2) = true := by simp
  have u6 : (e3 == e3) = true := by simp
  have I0 := Lib.hid i0
  clear i0 j1 j3
  (go_region_held3 (fun w' => w'.cell? ⟨w.heap.size, 11, none⟩ = some (.int .i64 s.st) ∧ w'.cell? ⟨w.heap.size, 19, none⟩ = some (.int .i64 s.prog) ∧ w'.cell? ⟨w.heap.size, 13, none⟩ = some (.bool s.loaded) ∧ w'.cell? ⟨w.heap.size, 20, none⟩ = some (.int .i64 s.start) ∧ w'.cell? ⟨w.heap.size, 14, none⟩ = some (.bool s.given) ∧ w'.cell? ⟨w.heap.size, 18, none⟩ = some (.int .i64 s.since) ∧ w'.cell? ⟨w.heap.size, 12, none⟩ = some (.bool s.begun) ∧ w'.cell? ⟨q1, 0, none⟩ = some (.int .i64 e1) ∧ w'.cell? ⟨q1, 1, none⟩ = some (.int .i64 e2) ∧ w'.cell? ⟨q2, 0, none⟩ = some (.int .i64 e1) ∧ w'.cell? ⟨q2, 1, none⟩ = some (.int .i64 e2)) (first | (refine ⟨?_, ?_, ?_, ?_, ?_, ?_, ?_, ?_, ?_, ?_, ?_⟩ <;> simp [go_sem, *]; done) | go_keep) (first | (go_at_call 13; refine (C8.out _ (by first | exact HP8.out | exact HP8.out.drewN _ | exact HP8.out.drew)).mono ?_; rintro e w' ⟨rfl, rfl⟩) | (go_at_call 49; first | ((with_reducible refine (S1.out _).mono ?_); rintro e w' ⟨rfl, rfl⟩) | ((with_reducible refine (S2.out _).mono ?_); rintro e w' ⟨rfl, rfl⟩) | ((with_reducible refine (S3.out _).mono ?_); rintro e w' ⟨rfl, rfl⟩))))
  go_wp2_with fail
  go_ret
  exact ⟨rfl, by first | exact HB8.out | exact HB8.out.drew | exact below_drewN HB8.out _⟩
end
end Go.Proofs.Ytjidchaejicjaaa

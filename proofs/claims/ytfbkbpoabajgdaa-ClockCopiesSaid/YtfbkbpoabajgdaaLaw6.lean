/- The law of the clocks' Copy holds: 'skylanternlaw33.ClockCopies' returns true at every input. No conditions. -/
import Derived.Test.YtfbkbpoabajgdaaBase
import Derived.Test.YtfbkbpoabajgdaaShow
namespace Go.Proofs.Ytfbkbpoabajgdaa.lawCopies
open Go.ChangeShapes Go.WideShapes Go.ChangeAt Go.RowKit Go.Joins
set_option linter.unusedVariables false
set_option maxHeartbeats 4000000
set_option maxRecDepth 100000
theorem blk_only {W w' : World} {q b : Nat} {x : Obj} (h : W.heap[q]? = some x) (hg : W.grownBy w' (some b)) (hne : q ≠ b) : w'.heap[q]? = some x := (hg.block q (lt_of_block h) (by simpa using hne)).trans h
theorem clk_only {W w' : World} {b g : Nat} {d r : Int} {m s : Bool} {lo hi : Int} (h : IsClk W b d r m s lo hi) (hg : W.grownBy w' (some g)) (hne : b ≠ g) : IsClk w' b d r m s lo hi := blk_only h hg hne
/-- the state of the clock c in block b and of the reference in block q, and the two exchanges -/
def St (w : World) (b q : Nat) (l0 l1 l2 l3 r0 r1 r2 r3 : Int) (wr : World) (d r : Int) (s : Bool) (lo hi : Int) : Prop :=
  SInv d r s lo hi ∧ IsClk wr b d r true s lo hi ∧ wr.heap[q]? = some (.cells #[.int .i64 d, .int .i64 r, .bool s, .int .i64 lo, .int .i64 hi] 44 (0, 0)) ∧
    wr.heap[w.heap.size]? = some (.cells #[.int .i64 l0, .int .i64 l1, .int .i64 l2, .int .i64 l3] 50 (0, 0)) ∧ wr.heap[w.heap.size + 1]? = some (.cells #[.int .i64 r0, .int .i64 r1, .int .i64 r2, .int .i64 r3] 50 (0, 0)) ∧ Below w.heap.size w wr
theorem walk (a0 : Int) (a1 : Option Addr) (len1 cap1 : Nat) (z1 : Nat → Nat → Int) (a20 a21 a22 a23 : Int) (a30 a31 a32 a33 : Int) (w : World) (w0 : (Lit.int .i64 a0).wf = true) (w1 : IsRows 4 w a1 len1 cap1 z1) (w20 : (Lit.int .i64 a20).wf = true) (w21 : (Lit.int .i64 a21).wf = true) (w22 : (Lit.int .i64 a22).wf = true) (w23 : (Lit.int .i64 a23).wf = true) (w30 : (Lit.int .i64 a30).wf = true) (w31 : (Lit.int .i64 a31).wf = true) (w32 : (Lit.int .i64 a32).wf = true) (w33 : (Lit.int .i64 a33).wf = true) :
    Calls Try.prog 8 #[.int .i64 a0, .slice a1 len1 cap1, .agg #[.int .i64 a20, .int .i64 a21, .int .i64 a22, .int .i64 a23], .agg #[.int .i64 a30, .int .i64 a31, .int .i64 a32, .int .i64 a33]] w fun e w' => e = .returned (.bool true) ∧ Below w.heap.size w w' := by
  obtain ⟨hlc, hcm, hnil, hrow⟩ := w1
  unfold maxLen at hcm
  by_cases hl : 10 < len1 ∨ ¬ (0 ≤ a0 ∧ a0 ≤ 100000)
  · have hl' : 10 < len1 ∨ (len1 ≤ 10 ∧ a0 < 0) ∨ (len1 ≤ 10 ∧ 0 ≤ a0 ∧ 100000 < a0) := by omega
    clear hl
    rcases hl' with hl | ⟨hl, hl2⟩ | ⟨hl, hl2, hl3⟩
    all_goals
      go_enter Try.func8, Try.ntmps8
      go_wp2_with fail
      refine (known_true _).mono ?_
      rintro e w1 ⟨rfl, hb⟩
      go_wp2_with fail
      go_ret
      exact ⟨rfl, (by repeat (first | (with_reducible exact Below.refl _ _) | (with_reducible refine Below.drew ?_) | (with_reducible refine below_drewN ?_ _) | ((with_reducible refine Below.alloc ?_ ?_ _); rotate_left; (first | omega | (simp <;> omega)); rotate_right) | ((with_reducible refine Below.setCell ?_ ?_ _); rotate_left; (first | omega | (simp <;> omega)); rotate_right) | (with_reducible assumption) | (refine Below.trans ?_ (Below.mono (by assumption) ?_); rotate_left; (first | omega | (simp <;> omega)); rotate_right)))⟩
  · have hl1 : len1 ≤ 10 := by omega
    have hd : 0 ≤ a0 ∧ a0 ≤ 100000 := by omega
    clear hl
    have HD := Lib.hid (fun W : World => new_yes a0 W hd)
    have HR := Lib.hid (fun W : World => rNew_yes a0 W hd)
    have S0 := Lib.hid (sinv_new hd)
    obtain ⟨hd1, hd2⟩ := hd
    go_enter Try.func8, Try.ntmps8
    go_wp2_with fail
    refine (HD.out _).mono ?_
    rintro e w1 ⟨rfl, hk, hb⟩
    have hz := hb.size; try simp at hz
    have hk1 : IsClk w1 (w.heap.size + 1 + 1) a0 0 true false 0 0 := by simpa using hk
    have hL1 := blk_below (q := w.heap.size) (by repeat (first | (with_reducible assumption) | ((with_reducible apply blk_far); rotate_left; (first | omega | (simp <;> omega)); rotate_right) | (with_reducible apply blk_drew) | (with_reducible apply blk_drewN) | (with_reducible exact heap_new _ _) | ((with_reducible apply heap_new'); (first | rfl | (simp <;> fail))) | (with_reducible apply blk_alloc))) hb (by first | omega | (simp; done) | (simp; omega))
    have hR1 := blk_below (q := w.heap.size + 1) (by repeat (first | (with_reducible assumption) | ((with_reducible apply blk_far); rotate_left; (first | omega | (simp <;> omega)); rotate_right) | (with_reducible apply blk_drew) | (with_reducible apply blk_drewN) | (with_reducible exact heap_new _ _) | ((with_reducible apply heap_new'); (first | rfl | (simp <;> fail))) | (with_reducible apply blk_alloc))) hb (by first | omega | (simp; done) | (simp; omega))
    have HB1 := (show Below w.heap.size w w1 from (by repeat (first | (with_reducible exact Below.refl _ _) | (with_reducible refine Below.drew ?_) | (with_reducible refine below_drewN ?_ _) | ((with_reducible refine Below.alloc ?_ ?_ _); rotate_left; (first | omega | (simp <;> omega)); rotate_right) | ((with_reducible refine Below.setCell ?_ ?_ _); rotate_left; (first | omega | (simp <;> omega)); rotate_right) | (with_reducible assumption) | (refine Below.trans ?_ (Below.mono (by assumption) ?_); rotate_left; (first | omega | (simp <;> omega)); rotate_right))))
    have hlt := clk_lt hk1
    clear hb hk
    go_wp2_with fail
    refine (HR.out _).mono ?_
    rintro e w2 ⟨rfl, hb2⟩
    have hz2 := hb2.size
    have hk2 := clk_below hk1 hb2 hlt
    have hL2 := blk_below hL1 hb2 (by first | omega | (simp; done) | (simp; omega))
    have hR2 := blk_below hR1 hb2 (by first | omega | (simp; done) | (simp; omega))
    have HB2 := (show Below w.heap.size w w2 from (by repeat (first | (with_reducible exact Below.refl _ _) | (with_reducible refine Below.drew ?_) | (with_reducible refine below_drewN ?_ _) | ((with_reducible refine Below.alloc ?_ ?_ _); rotate_left; (first | omega | (simp <;> omega)); rotate_right) | ((with_reducible refine Below.setCell ?_ ?_ _); rotate_left; (first | omega | (simp <;> omega)); rotate_right) | (with_reducible assumption) | (refine Below.trans ?_ (Below.mono (by assumption) ?_); rotate_left; (first | omega | (simp <;> omega)); rotate_right))))
    clear hL1 hR1 HB1 hk1 hb2
    go_wp2_with fail
    go_loopw [13] (fun i wr => ∃ (k : Nat) (r : Int) (s : Bool) (lo hi : Int), i = .int .i64 k ∧ k ≤ len1 ∧ St w (w.heap.size + 1 + 1) w2.heap.size a20 a21 a22 a23 a30 a31 a32 a33 wr a0 r s lo hi) (fun i _ => len1 - (intOf i).toNat)
    case atStart => exact ⟨0, 0, false, 0, 0, by go_num, Nat.zero_le _, S0.out, (by repeat (first | (with_reducible assumption) | (with_reducible refine clk_alloc ?_ _) | (with_reducible refine clk_drew ?_) | (with_reducible refine clk_drewN ?_ _) | ((with_reducible refine clk_far ?_ ?_ _); rotate_left; (first | omega | (simp <;> omega)); rotate_right))), (by repeat (first | (with_reducible assumption) | ((with_reducible apply blk_far); rotate_left; (first | omega | (simp <;> omega)); rotate_right) | (with_reducible apply blk_drew) | (with_reducible apply blk_drewN) | (with_reducible exact heap_new _ _) | ((with_reducible apply heap_new'); (first | rfl | (simp <;> fail))) | (with_reducible apply blk_alloc))), (by repeat (first | (with_reducible assumption) | ((with_reducible apply blk_far); rotate_left; (first | omega | (simp <;> omega)); rotate_right) | (with_reducible apply blk_drew) | (with_reducible apply blk_drewN) | (with_reducible exact heap_new _ _) | ((with_reducible apply heap_new'); (first | rfl | (simp <;> fail))) | (with_reducible apply blk_alloc))), (by repeat (first | (with_reducible assumption) | ((with_reducible apply blk_far); rotate_left; (first | omega | (simp <;> omega)); rotate_right) | (with_reducible apply blk_drew) | (with_reducible apply blk_drewN) | (with_reducible exact heap_new _ _) | ((with_reducible apply heap_new'); (first | rfl | (simp <;> fail))) | (with_reducible apply blk_alloc))), (by repeat (first | (with_reducible exact Below.refl _ _) | (with_reducible refine Below.drew ?_) | (with_reducible refine below_drewN ?_ _) | ((with_reducible refine Below.alloc ?_ ?_ _); rotate_left; (first | omega | (simp <;> omega)); rotate_right) | ((with_reducible refine Below.setCell ?_ ?_ _); rotate_left; (first | omega | (simp <;> omega)); rotate_right) | (with_reducible assumption) | (refine Below.trans ?_ (Below.mono (by assumption) ?_); rotate_left; (first | omega | (simp <;> omega)); rotate_right)))⟩
    case round =>
      obtain ⟨k, r, s, lo, hi, rfl, hkl, hS, hkr, hq, hL, hR, hB⟩ := hrel
      clear hk2 hL2 hR2 HB2
      have hzr := hB.size
      have hltr := clk_lt hkr
      have HS := Lib.hid hS
      by_cases hlt2 : k < len1
      · obtain ⟨bl, o, rfl, hbl, hcell⟩ := hrow (by omega)
        have c0 : wr.cell? ⟨bl, o + k * 4, none⟩ = some (.int .i64 (z1 k 0)) := (hB.cell (p := ⟨bl, o + (k * 4 + 0), none⟩) hbl).trans (hcell k 0 hlt2 (by omega)).1
        have c1 : wr.cell? ⟨bl, o + k * 4 + 1, none⟩ = some (.int .i64 (z1 k 1)) := (hB.cell (p := ⟨bl, o + (k * 4 + 1), none⟩) hbl).trans (hcell k 1 hlt2 (by omega)).1
        have c2 : wr.cell? ⟨bl, o + k * 4 + 2, none⟩ = some (.int .i64 (z1 k 2)) := (hB.cell (p := ⟨bl, o + (k * 4 + 2), none⟩) hbl).trans (hcell k 2 hlt2 (by omega)).1
        have c3 : wr.cell? ⟨bl, o + k * 4 + 3, none⟩ = some (.int .i64 (z1 k 3)) := (hB.cell (p := ⟨bl, o + (k * 4 + 3), none⟩) hbl).trans (hcell k 3 hlt2 (by omega)).1
        obtain ⟨zz, hzz⟩ : ∃ zz, zz = z1 k := ⟨_, rfl⟩
        rw [← hzz] at c0 c1 c2 c3
        clear hzz hcell hrow hnil
        have RA := Lib.hid (fun W : World => radd_any a0 r s lo hi (zz 0) (zz 1) (zz 2) (zz 3) W hS.1 hS.2)
        have AA := Lib.hid (fun (W : World) (hk : IsClk W (w.heap.size + 1 + 1) a0 r true s lo hi) => add_any (w.heap.size + 1 + 1) a0 r s lo hi (zz 0) (zz 1) (zz 2) (zz 3) W hk hS.1)
        have S1 := Lib.hid (sinv_add (a := zz 0) (g := zz 1) (k := zz 2) (h := zz 3) HS.out)
        clear hS
        go_wp2_with fail
        refine (AA.out _ (by repeat (first | (with_reducible assumption) | (with_reducible refine clk_alloc ?_ _) | (with_reducible refine clk_drew ?_) | (with_reducible refine clk_drewN ?_ _) | ((with_reducible refine clk_far ?_ ?_ _); rotate_left; (first | omega | (simp <;> omega)); rotate_right)))).mono ?_
        rintro e w5 ⟨rfl, hk5, hg5⟩
        have hz5 := hg5.size
        have HB5 := below_of_only hB hg5 hB.size (by omega)
        have hL5 := blk_only hL hg5 (by omega)
        have hR5 := blk_only hR hg5 (by omega)
        have hq5 := (hg5.block w2.heap.size (lt_of_block hq) (by simp; omega)).trans hq
        have x0 : w5.cell? ⟨bl, o + k * 4, none⟩ = some (.int .i64 (zz 0)) := (World.cell?_of_block (hg5.block bl (by omega) (by simp; omega))).trans c0
        have x1 : w5.cell? ⟨bl, o + k * 4 + 1, none⟩ = some (.int .i64 (zz 1)) := (World.cell?_of_block (hg5.block bl (by omega) (by simp; omega))).trans c1
        have x2 : w5.cell? ⟨bl, o + k * 4 + 2, none⟩ = some (.int .i64 (zz 2)) := (World.cell?_of_block (hg5.block bl (by omega) (by simp; omega))).trans c2
        have x3 : w5.cell? ⟨bl, o + k * 4 + 3, none⟩ = some (.int .i64 (zz 3)) := (World.cell?_of_block (hg5.block bl (by omega) (by simp; omega))).trans c3
        clear c0 c1 c2 c3
        have cq5_0 := blk_cell hq5 0 rfl; have fq5_0 := blk_free hq5 0; have cq5_1 := blk_cell hq5 1 rfl; have fq5_1 := blk_free hq5 1; have cq5_2 := blk_cell hq5 2 rfl; have fq5_2 := blk_free hq5 2; have cq5_3 := blk_cell hq5 3 rfl; have fq5_3 := blk_free hq5 3; have cq5_4 := blk_cell hq5 4 rfl; have fq5_4 := blk_free hq5 4; have lq5 := lt_of_block hq5
        go_upto_region 11 with fail
        go_region_law (first | (go_simp; go_at_call 20; refine (RA.out _).mono ?_; rintro e w4 ⟨rfl, hb4⟩; have hz4 := hb4.size; try simp at hz4; have hq4 := blk_below (q := w2.heap.size) (by repeat (first | (with_reducible assumption) | ((with_reducible apply blk_far); rotate_left; (first | omega | (simp <;> omega)); rotate_right) | (with_reducible apply blk_drew) | (with_reducible apply blk_drewN) | (with_reducible exact heap_new _ _) | ((with_reducible apply heap_new'); (first | rfl | (simp <;> fail))) | (with_reducible apply blk_alloc))) hb4 (by first | omega | (simp; done) | (simp; omega)); have cq4_0 := blk_cell hq4 0 rfl; have fq4_0 := blk_free hq4 0; have cq4_1 := blk_cell hq4 1 rfl; have fq4_1 := blk_free hq4 1; have cq4_2 := blk_cell hq4 2 rfl; have fq4_2 := blk_free hq4 2; have cq4_3 := blk_cell hq4 3 rfl; have fq4_3 := blk_free hq4 3; have cq4_4 := blk_cell hq4 4 rfl; have fq4_4 := blk_free hq4 4; have lq4 := lt_of_block hq4; have hk4 := clk_below (clk_drew hk5) hb4 (by first | omega | (simp; done) | (simp; omega)); have hL4 := blk_below (q := w.heap.size) (by repeat (first | (with_reducible assumption) | ((with_reducible apply blk_far); rotate_left; (first | omega | (simp <;> omega)); rotate_right) | (with_reducible apply blk_drew) | (with_reducible apply blk_drewN) | (with_reducible exact heap_new _ _) | ((with_reducible apply heap_new'); (first | rfl | (simp <;> fail))) | (with_reducible apply blk_alloc))) hb4 (by first | omega | (simp; done) | (simp; omega)); have hR4 := blk_below (q := w.heap.size + 1) (by repeat (first | (with_reducible assumption) | ((with_reducible apply blk_far); rotate_left; (first | omega | (simp <;> omega)); rotate_right) | (with_reducible apply blk_drew) | (with_reducible apply blk_drewN) | (with_reducible exact heap_new _ _) | ((with_reducible apply heap_new'); (first | rfl | (simp <;> fail))) | (with_reducible apply blk_alloc))) hb4 (by first | omega | (simp; done) | (simp; omega)); have HB4 := (show Below w.heap.size w w4 from (by repeat (first | (with_reducible exact Below.refl _ _) | (with_reducible refine Below.drew ?_) | (with_reducible refine below_drewN ?_ _) | ((with_reducible refine Below.alloc ?_ ?_ _); rotate_left; (first | omega | (simp <;> omega)); rotate_right) | ((with_reducible refine Below.setCell ?_ ?_ _); rotate_left; (first | omega | (simp <;> omega)); rotate_right) | (with_reducible assumption) | (refine Below.trans ?_ (Below.mono (by assumption) ?_); rotate_left; (first | omega | (simp <;> omega)); rotate_right))))))
        all_goals go_wp2_with fail
        all_goals go_roundw
        case rel => exact ⟨k + 1, _, _, _, _, by go_num, by omega, S1.out, (by repeat (first | (with_reducible assumption) | (with_reducible refine clk_alloc ?_ _) | (with_reducible refine clk_drew ?_) | (with_reducible refine clk_drewN ?_ _) | ((with_reducible refine clk_far ?_ ?_ _); rotate_left; (first | omega | (simp <;> omega)); rotate_right))), (by apply Eq.trans; (repeat (first | (with_reducible assumption) | (with_reducible apply blk_set) | ((with_reducible apply blk_far); rotate_left; (first | omega | (simp <;> omega)); rotate_right) | (with_reducible apply blk_drew) | (with_reducible apply blk_drewN) | ((with_reducible apply heap_new'); (first | rfl | (simp <;> fail))) | (with_reducible apply blk_alloc))); (first | with_reducible rfl | (simp <;> fail) | rfl)), (by repeat (first | (with_reducible assumption) | ((with_reducible apply blk_far); rotate_left; (first | omega | (simp <;> omega)); rotate_right) | (with_reducible apply blk_drew) | (with_reducible apply blk_drewN) | (with_reducible exact heap_new _ _) | ((with_reducible apply heap_new'); (first | rfl | (simp <;> fail))) | (with_reducible apply blk_alloc))), (by repeat (first | (with_reducible assumption) | ((with_reducible apply blk_far); rotate_left; (first | omega | (simp <;> omega)); rotate_right) | (with_reducible apply blk_drew) | (with_reducible apply blk_drewN) | (with_reducible exact heap_new _ _) | ((with_reducible apply heap_new'); (first | rfl | (simp <;> fail))) | (with_reducible apply blk_alloc))), (by repeat (first | (with_reducible exact Below.refl _ _) | (with_reducible refine Below.drew ?_) | (with_reducible refine below_drewN ?_ _) | ((with_reducible refine Below.alloc ?_ ?_ _); rotate_left; (first | omega | (simp <;> omega)); rotate_right) | ((with_reducible refine Below.setCell ?_ ?_ _); rotate_left; (first | omega | (simp <;> omega)); rotate_right) | (with_reducible assumption) | (refine Below.trans ?_ (Below.mono (by assumption) ?_); rotate_left; (first | omega | (simp <;> omega)); rotate_right)))⟩
        case rel => exact ⟨k + 1, _, _, _, _, by go_num, by omega, S1.out, (by repeat (first | (with_reducible assumption) | (with_reducible refine clk_alloc ?_ _) | (with_reducible refine clk_drew ?_) | (with_reducible refine clk_drewN ?_ _) | ((with_reducible refine clk_far ?_ ?_ _); rotate_left; (first | omega | (simp <;> omega)); rotate_right))), (by apply Eq.trans; (repeat (first | (with_reducible assumption) | (with_reducible apply blk_set) | ((with_reducible apply blk_far); rotate_left; (first | omega | (simp <;> omega)); rotate_right) | (with_reducible apply blk_drew) | (with_reducible apply blk_drewN) | ((with_reducible apply heap_new'); (first | rfl | (simp <;> fail))) | (with_reducible apply blk_alloc))); (first | with_reducible rfl | (simp <;> fail) | rfl)), (by repeat (first | (with_reducible assumption) | ((with_reducible apply blk_far); rotate_left; (first | omega | (simp <;> omega)); rotate_right) | (with_reducible apply blk_drew) | (with_reducible apply blk_drewN) | (with_reducible exact heap_new _ _) | ((with_reducible apply heap_new'); (first | rfl | (simp <;> fail))) | (with_reducible apply blk_alloc))), (by repeat (first | (with_reducible assumption) | ((with_reducible apply blk_far); rotate_left; (first | omega | (simp <;> omega)); rotate_right) | (with_reducible apply blk_drew) | (with_reducible apply blk_drewN) | (with_reducible exact heap_new _ _) | ((with_reducible apply heap_new'); (first | rfl | (simp <;> fail))) | (with_reducible apply blk_alloc))), (by repeat (first | (with_reducible exact Below.refl _ _) | (with_reducible refine Below.drew ?_) | (with_reducible refine below_drewN ?_ _) | ((with_reducible refine Below.alloc ?_ ?_ _); rotate_left; (first | omega | (simp <;> omega)); rotate_right) | ((with_reducible refine Below.setCell ?_ ?_ _); rotate_left; (first | omega | (simp <;> omega)); rotate_right) | (with_reducible assumption) | (refine Below.trans ?_ (Below.mono (by assumption) ?_); rotate_left; (first | omega | (simp <;> omega)); rotate_right)))⟩
        all_goals (simp [intOf]; omega)
      · obtain rfl : k = len1 := by omega
        have hltL := lt_of_block hL
        have hltq := lt_of_block hq
        have hltR := lt_of_block hR
        go_wp2_with fail
        refine (copy_clk (w.heap.size + 1 + 1) a0 r true s lo hi _ (by repeat (first | (with_reducible assumption) | (with_reducible refine clk_alloc ?_ _) | (with_reducible refine clk_drew ?_) | (with_reducible refine clk_drewN ?_ _) | ((with_reducible refine clk_far ?_ ?_ _); rotate_left; (first | omega | (simp <;> omega)); rotate_right)))).mono ?_
        rintro e w3 ⟨rfl, hkd, hb3⟩
        have hz3 := hb3.size; try simp at hz3
        have hltd := clk_lt hkd
        have hk3 := clk_below (show IsClk _ (w.heap.size + 1 + 1) a0 r true s lo hi from (by repeat (first | (with_reducible assumption) | (with_reducible refine clk_alloc ?_ _) | (with_reducible refine clk_drew ?_) | (with_reducible refine clk_drewN ?_ _) | ((with_reducible refine clk_far ?_ ?_ _); rotate_left; (first | omega | (simp <;> omega)); rotate_right)))) hb3 (by first | omega | (simp; done) | (simp; omega))
        have hq3 := blk_below (q := w2.heap.size) (by repeat (first | (with_reducible assumption) | ((with_reducible apply blk_far); rotate_left; (first | omega | (simp <;> omega)); rotate_right) | (with_reducible apply blk_drew) | (with_reducible apply blk_drewN) | (with_reducible exact heap_new _ _) | ((with_reducible apply heap_new'); (first | rfl | (simp <;> fail))) | (with_reducible apply blk_alloc))) hb3 (by first | omega | (simp; done) | (simp; omega))
        have hL3 := blk_below (q := w.heap.size) (by repeat (first | (with_reducible assumption) | ((with_reducible apply blk_far); rotate_left; (first | omega | (simp <;> omega)); rotate_right) | (with_reducible apply blk_drew) | (with_reducible apply blk_drewN) | (with_reducible exact heap_new _ _) | ((with_reducible apply heap_new'); (first | rfl | (simp <;> fail))) | (with_reducible apply blk_alloc))) hb3 (by first | omega | (simp; done) | (simp; omega))
        have hR3 := blk_below (q := w.heap.size + 1) (by repeat (first | (with_reducible assumption) | ((with_reducible apply blk_far); rotate_left; (first | omega | (simp <;> omega)); rotate_right) | (with_reducible apply blk_drew) | (with_reducible apply blk_drewN) | (with_reducible exact heap_new _ _) | ((with_reducible apply heap_new'); (first | rfl | (simp <;> fail))) | (with_reducible apply blk_alloc))) hb3 (by first | omega | (simp; done) | (simp; omega))
        have HB3 := (show Below w.heap.size w w3 from (by repeat (first | (with_reducible exact Below.refl _ _) | (with_reducible refine Below.drew ?_) | (with_reducible refine below_drewN ?_ _) | ((with_reducible refine Below.alloc ?_ ?_ _); rotate_left; (first | omega | (simp <;> omega)); rotate_right) | ((with_reducible refine Below.setCell ?_ ?_ _); rotate_left; (first | omega | (simp <;> omega)); rotate_right) | (with_reducible assumption) | (refine Below.trans ?_ (Below.mono (by assumption) ?_); rotate_left; (first | omega | (simp <;> omega)); rotate_right))))
        have cq3_0 := blk_cell hq3 0 rfl; have fq3_0 := blk_free hq3 0; have cq3_1 := blk_cell hq3 1 rfl; have fq3_1 := blk_free hq3 1; have cq3_2 := blk_cell hq3 2 rfl; have fq3_2 := blk_free hq3 2; have cq3_3 := blk_cell hq3 3 rfl; have fq3_3 := blk_free hq3 3; have cq3_4 := blk_cell hq3 4 rfl; have fq3_4 := blk_free hq3 4; have lq3 := lt_of_block hq3
        clear hkr hq hL hR hB hb3
        go_wp2_with fail
        refine (shows_yes wr.heap.size a0 r s lo hi 0 _ (by repeat (first | (with_reducible assumption) | (with_reducible refine clk_alloc ?_ _) | (with_reducible refine clk_drew ?_) | (with_reducible refine clk_drewN ?_ _) | ((with_reducible refine clk_far ?_ ?_ _); rotate_left; (first | omega | (simp <;> omega)); rotate_right))) HS.out).mono ?_
        rintro e w4 ⟨rfl, hb4⟩
        have hz4 := hb4.size; try simp at hz4
        have hkd4 := clk_below hkd hb4 hltd
        have hk4 := clk_below hk3 hb4 (by first | omega | (simp; done) | (simp; omega))
        have hq4 := blk_below hq3 hb4 (by first | omega | (simp; done) | (simp; omega))
        have hL4 := blk_below hL3 hb4 (by first | omega | (simp; done) | (simp; omega))
        have hR4 := blk_below hR3 hb4 (by first | omega | (simp; done) | (simp; omega))
        have HB4 := (show Below w.heap.size w w4 from (by repeat (first | (with_reducible exact Below.refl _ _) | (with_reducible refine Below.drew ?_) | (with_reducible refine below_drewN ?_ _) | ((with_reducible refine Below.alloc ?_ ?_ _); rotate_left; (first | omega | (simp <;> omega)); rotate_right) | ((with_reducible refine Below.setCell ?_ ?_ _); rotate_left; (first | omega | (simp <;> omega)); rotate_right) | (with_reducible assumption) | (refine Below.trans ?_ (Below.mono (by assumption) ?_); rotate_left; (first | omega | (simp <;> omega)); rotate_right))))
        clear hkd hk3 lq3 cq3_0 fq3_0 cq3_1 fq3_1 cq3_2 fq3_2 cq3_3 fq3_3 cq3_4 fq3_4 hq3 hL3 hR3 HB3 hb4
        have cq4_0 := blk_cell hq4 0 rfl; have fq4_0 := blk_free hq4 0; have cq4_1 := blk_cell hq4 1 rfl; have fq4_1 := blk_free hq4 1; have cq4_2 := blk_cell hq4 2 rfl; have fq4_2 := blk_free hq4 2; have cq4_3 := blk_cell hq4 3 rfl; have fq4_3 := blk_free hq4 3; have cq4_4 := blk_cell hq4 4 rfl; have fq4_4 := blk_free hq4 4; have lq4 := lt_of_block hq4
        have cL4_0 := blk_cell hL4 0 rfl; have fL4_0 := blk_free hL4 0; have cL4_1 := blk_cell hL4 1 rfl; have fL4_1 := blk_free hL4 1; have cL4_2 := blk_cell hL4 2 rfl; have fL4_2 := blk_free hL4 2; have cL4_3 := blk_cell hL4 3 rfl; have fL4_3 := blk_free hL4 3; have lL4 := lt_of_block hL4
        go_wp2_with fail
        refine (radd_any a0 r s lo hi a20 a21 a22 a23 _ HS.out.1 HS.out.2).mono ?_
        rintro e w5 ⟨rfl, hb5⟩
        have hz5 := hb5.size; try simp at hz5
        have hkd5 := clk_below hkd4 hb5 (by first | omega | (simp; done) | (simp; omega))
        have hk5 := clk_below hk4 hb5 (by first | omega | (simp; done) | (simp; omega))
        have hq5 := blk_below hq4 hb5 (by first | omega | (simp; done) | (simp; omega))
        have hL5 := blk_below hL4 hb5 (by first | omega | (simp; done) | (simp; omega))
        have hR5 := blk_below hR4 hb5 (by first | omega | (simp; done) | (simp; omega))
        have HB5 := (show Below w.heap.size w w5 from (by repeat (first | (with_reducible exact Below.refl _ _) | (with_reducible refine Below.drew ?_) | (with_reducible refine below_drewN ?_ _) | ((with_reducible refine Below.alloc ?_ ?_ _); rotate_left; (first | omega | (simp <;> omega)); rotate_right) | ((with_reducible refine Below.setCell ?_ ?_ _); rotate_left; (first | omega | (simp <;> omega)); rotate_right) | (with_reducible assumption) | (refine Below.trans ?_ (Below.mono (by assumption) ?_); rotate_left; (first | omega | (simp <;> omega)); rotate_right))))
        clear hkd4 hk4 lq4 cq4_0 fq4_0 cq4_1 fq4_1 cq4_2 fq4_2 cq4_3 fq4_3 cq4_4 fq4_4 hq4 lL4 cL4_0 fL4_0 cL4_1 fL4_1 cL4_2 fL4_2 cL4_3 fL4_3 hL4 hR4 HB4 hb5
        have cq5_0 := blk_cell hq5 0 rfl; have fq5_0 := blk_free hq5 0; have cq5_1 := blk_cell hq5 1 rfl; have fq5_1 := blk_free hq5 1; have cq5_2 := blk_cell hq5 2 rfl; have fq5_2 := blk_free hq5 2; have cq5_3 := blk_cell hq5 3 rfl; have fq5_3 := blk_free hq5 3; have cq5_4 := blk_cell hq5 4 rfl; have fq5_4 := blk_free hq5 4; have lq5 := lt_of_block hq5
        have cR5_0 := blk_cell hR5 0 rfl; have fR5_0 := blk_free hR5 0; have cR5_1 := blk_cell hR5 1 rfl; have fR5_1 := blk_free hR5 1; have cR5_2 := blk_cell hR5 2 rfl; have fR5_2 := blk_free hR5 2; have cR5_3 := blk_cell hR5 3 rfl; have fR5_3 := blk_free hR5 3; have lR5 := lt_of_block hR5
        go_wp2_with fail
        refine (radd_any a0 r s lo hi a30 a31 a32 a33 _ HS.out.1 HS.out.2).mono ?_
        rintro e w6 ⟨rfl, hb6⟩
        have hz6 := hb6.size; try simp at hz6
        have hkd6 := clk_below (clk_alloc hkd5 _) hb6 (by first | omega | (simp; done) | (simp; omega))
        have hk6 := clk_below (clk_alloc hk5 _) hb6 (by first | omega | (simp; done) | (simp; omega))
        have hP6 := blk_below (q := w5.heap.size) (by repeat (first | (with_reducible assumption) | ((with_reducible apply blk_far); rotate_left; (first | omega | (simp <;> omega)); rotate_right) | (with_reducible apply blk_drew) | (with_reducible apply blk_drewN) | (with_reducible exact heap_new _ _) | ((with_reducible apply heap_new'); (first | rfl | (simp <;> fail))) | (with_reducible apply blk_alloc))) hb6 (by first | omega | (simp; done) | (simp; omega))
        have hL6 := blk_below (blk_alloc hL5 _) hb6 (by first | omega | (simp; done) | (simp; omega))
        have hR6 := blk_below (blk_alloc hR5 _) hb6 (by first | omega | (simp; done) | (simp; omega))
        have HB6 := (show Below w.heap.size w w6 from (by repeat (first | (with_reducible exact Below.refl _ _) | (with_reducible refine Below.drew ?_) | (with_reducible refine below_drewN ?_ _) | ((with_reducible refine Below.alloc ?_ ?_ _); rotate_left; (first | omega | (simp <;> omega)); rotate_right) | ((with_reducible refine Below.setCell ?_ ?_ _); rotate_left; (first | omega | (simp <;> omega)); rotate_right) | (with_reducible assumption) | (refine Below.trans ?_ (Below.mono (by assumption) ?_); rotate_left; (first | omega | (simp <;> omega)); rotate_right))))
        clear hkd5 hk5 lq5 cq5_0 fq5_0 cq5_1 fq5_1 cq5_2 fq5_2 cq5_3 fq5_3 cq5_4 fq5_4 hq5 lR5 cR5_0 fR5_0 cR5_1 fR5_1 cR5_2 fR5_2 cR5_3 fR5_3 hL5 hR5 HB5 hb6
        have cL6_0 := blk_cell hL6 0 rfl; have fL6_0 := blk_free hL6 0; have cL6_1 := blk_cell hL6 1 rfl; have fL6_1 := blk_free hL6 1; have cL6_2 := blk_cell hL6 2 rfl; have fL6_2 := blk_free hL6 2; have cL6_3 := blk_cell hL6 3 rfl; have fL6_3 := blk_free hL6 3; have lL6 := lt_of_block hL6
        go_wp2_with fail
        refine (add_any (w.heap.size + 1 + 1) a0 r s lo hi a20 a21 a22 a23 _ (by repeat (first | (with_reducible assumption) | (with_reducible refine clk_alloc ?_ _) | (with_reducible refine clk_drew ?_) | (with_reducible refine clk_drewN ?_ _) | ((with_reducible refine clk_far ?_ ?_ _); rotate_left; (first | omega | (simp <;> omega)); rotate_right))) HS.out.1).mono ?_
        rintro e w7 ⟨rfl, hk7, hg7⟩
        have hz7 := hg7.size; try simp at hz7
        have hkd7 := clk_only (clk_alloc hkd6 _) hg7 (by omega)
        have hP7 := blk_only (blk_alloc hP6 _) hg7 (by omega)
        have hQ7 := blk_only (q := w6.heap.size) (heap_new _ _) hg7 (by omega)
        have hR7 := blk_only (blk_alloc hR6 _) hg7 (by omega)
        have HB7 : Below w.heap.size w w7 := below_of_only1 (k := hg7) (hg := by omega) (h := (by repeat (first | (with_reducible exact Below.refl _ _) | (with_reducible refine Below.drew ?_) | (with_reducible refine below_drewN ?_ _) | ((with_reducible refine Below.alloc ?_ ?_ _); rotate_left; (first | omega | (simp <;> omega)); rotate_right) | ((with_reducible refine Below.setCell ?_ ?_ _); rotate_left; (first | omega | (simp <;> omega)); rotate_right) | (with_reducible assumption) | (refine Below.trans ?_ (Below.mono (by assumption) ?_); rotate_left; (first | omega | (simp <;> omega)); rotate_right))))
        have hlt7 := clk_lt hk7
        clear hkd6 hk6 lL6 cL6_0 fL6_0 cL6_1 fL6_1 cL6_2 fL6_2 cL6_3 fL6_3 hL6 hP6 hR6 HB6 hg7
        have cR7_0 := blk_cell hR7 0 rfl; have fR7_0 := blk_free hR7 0; have cR7_1 := blk_cell hR7 1 rfl; have fR7_1 := blk_free hR7 1; have cR7_2 := blk_cell hR7 2 rfl; have fR7_2 := blk_free hR7 2; have cR7_3 := blk_cell hR7 3 rfl; have fR7_3 := blk_free hR7 3; have lR7 := lt_of_block hR7
        go_wp2_with fail
        refine (add_any wr.heap.size a0 r s lo hi a30 a31 a32 a33 _ (by repeat (first | (with_reducible assumption) | (with_reducible refine clk_alloc ?_ _) | (with_reducible refine clk_drew ?_) | (with_reducible refine clk_drewN ?_ _) | ((with_reducible refine clk_far ?_ ?_ _); rotate_left; (first | omega | (simp <;> omega)); rotate_right))) HS.out.1).mono ?_
        rintro e w8 ⟨rfl, hkd8, hg8⟩
        have hz8 := hg8.size; try simp at hz8
        have hk8 := clk_only hk7 hg8 (by omega)
        have hP8 := blk_only hP7 hg8 (by omega)
        have hQ8 := blk_only hQ7 hg8 (by omega)
        have HB8 : Below w.heap.size w w8 := below_of_only1 (k := hg8) (hg := by omega) (h := (by repeat (first | (with_reducible exact Below.refl _ _) | (with_reducible refine Below.drew ?_) | (with_reducible refine below_drewN ?_ _) | ((with_reducible refine Below.alloc ?_ ?_ _); rotate_left; (first | omega | (simp <;> omega)); rotate_right) | ((with_reducible refine Below.setCell ?_ ?_ _); rotate_left; (first | omega | (simp <;> omega)); rotate_right) | (with_reducible assumption) | (refine Below.trans ?_ (Below.mono (by assumption) ?_); rotate_left; (first | omega | (simp <;> omega)); rotate_right))))
        have SL := Lib.hid (sinv_add (a := a20) (g := a21) (k := a22) (h := a23) HS.out)
        have SR := Lib.hid (sinv_add (a := a30) (g := a31) (k := a32) (h := a33) HS.out)
        clear hk7 hP7 hQ7 lR7 cR7_0 fR7_0 cR7_1 fR7_1 cR7_2 fR7_2 cR7_3 fR7_3 hR7 HB7 hg8 hkd7
        have cP8_0 := blk_cell hP8 0 rfl; have fP8_0 := blk_free hP8 0; have cP8_1 := blk_cell hP8 1 rfl; have fP8_1 := blk_free hP8 1; have cP8_2 := blk_cell hP8 2 rfl; have fP8_2 := blk_free hP8 2; have cP8_3 := blk_cell hP8 3 rfl; have fP8_3 := blk_free hP8 3; have cP8_4 := blk_cell hP8 4 rfl; have fP8_4 := blk_free hP8 4; have lP8 := lt_of_block hP8
        go_wp2_with fail
        refine (shows_yes (w.heap.size + 1 + 1) a0 _ _ _ _ 0 _ hk8 SL.out).mono ?_
        rintro e w9 ⟨rfl, hb9⟩
        have hz9 := hb9.size; try simp at hz9
        have hkd9 := clk_below hkd8 hb9 (by first | omega | (simp; done) | (simp; omega))
        have hQ9 := blk_below hQ8 hb9 (by first | omega | (simp; done) | (simp; omega))
        have HB9 := (show Below w.heap.size w w9 from (by repeat (first | (with_reducible exact Below.refl _ _) | (with_reducible refine Below.drew ?_) | (with_reducible refine below_drewN ?_ _) | ((with_reducible refine Below.alloc ?_ ?_ _); rotate_left; (first | omega | (simp <;> omega)); rotate_right) | ((with_reducible refine Below.setCell ?_ ?_ _); rotate_left; (first | omega | (simp <;> omega)); rotate_right) | (with_reducible assumption) | (refine Below.trans ?_ (Below.mono (by assumption) ?_); rotate_left; (first | omega | (simp <;> omega)); rotate_right))))
        clear hkd8 hk8 hP8 hQ8 lP8 cP8_0 fP8_0 cP8_1 fP8_1 cP8_2 fP8_2 cP8_3 fP8_3 cP8_4 fP8_4 HB8 hb9
        have cQ9_0 := blk_cell hQ9 0 rfl; have fQ9_0 := blk_free hQ9 0; have cQ9_1 := blk_cell hQ9 1 rfl; have fQ9_1 := blk_free hQ9 1; have cQ9_2 := blk_cell hQ9 2 rfl; have fQ9_2 := blk_free hQ9 2; have cQ9_3 := blk_cell hQ9 3 rfl; have fQ9_3 := blk_free hQ9 3; have cQ9_4 := blk_cell hQ9 4 rfl; have fQ9_4 := blk_free hQ9 4; have lQ9 := lt_of_block hQ9
        go_wp2_with fail
        refine (shows_yes wr.heap.size a0 _ _ _ _ 0 _ hkd9 SR.out).mono ?_
        rintro e wa ⟨rfl, hba⟩
        have hza := hba.size; try simp at hza
        have HBa := (show Below w.heap.size w wa from (by repeat (first | (with_reducible exact Below.refl _ _) | (with_reducible refine Below.drew ?_) | (with_reducible refine below_drewN ?_ _) | ((with_reducible refine Below.alloc ?_ ?_ _); rotate_left; (first | omega | (simp <;> omega)); rotate_right) | ((with_reducible refine Below.setCell ?_ ?_ _); rotate_left; (first | omega | (simp <;> omega)); rotate_right) | (with_reducible assumption) | (refine Below.trans ?_ (Below.mono (by assumption) ?_); rotate_left; (first | omega | (simp <;> omega)); rotate_right))))
        clear hkd9 hQ9 lQ9 cQ9_0 fQ9_0 cQ9_1 fQ9_1 cQ9_2 fQ9_2 cQ9_3 fQ9_3 cQ9_4 fQ9_4 HB9 hba
        go_wp2_with fail
        refine (known_true _).mono ?_
        rintro e wb ⟨rfl, hbb⟩
        have hzb := hbb.size; try simp at hzb
        go_wp2_with fail
        go_ret
        exact ⟨rfl, (by repeat (first | (with_reducible exact Below.refl _ _) | (with_reducible refine Below.drew ?_) | (with_reducible refine below_drewN ?_ _) | ((with_reducible refine Below.alloc ?_ ?_ _); rotate_left; (first | omega | (simp <;> omega)); rotate_right) | ((with_reducible refine Below.setCell ?_ ?_ _); rotate_left; (first | omega | (simp <;> omega)); rotate_right) | (with_reducible assumption) | (refine Below.trans ?_ (Below.mono (by assumption) ?_); rotate_left; (first | omega | (simp <;> omega)); rotate_right)))⟩
theorem own : ownKnob Try.prog.godebug = none := by kernel_rfl
theorem laidOut : laidOutB Try.prog = true := by kernel_rfl
theorem cells50 : Try.prog.cellsOf 50 = 4 := by kernel_rfl
set_option maxRecDepth 100000 in
theorem lifted (os : Os) (started : os.Started) (H : Type) (enc : TypeId × Value → H) :
    ReturnsInHanded {} Try.checked os 8 .any (Rows.clockCopiesSpec.pre6 enc Try.prog Try.f8 Rows.clockCopiesRow.domain false) (Rows.clockCopiesSpec.post enc Try.prog Try.f8 false true false false) := by
  refine returnsInHanded_of_change (C := Try.checked) own started (by kernel_rfl) Try.func8
    (ChangeSpec.witness6 (enc := enc) (C := Try.checked) false ⟨#[], #[.int .i64 0, .slice none 0 0, .agg #[.int .i64 0, .int .i64 0, .int .i64 0, .int .i64 0], .agg #[.int .i64 0, .int .i64 0, .int .i64 0, .int .i64 0]], []⟩ 8 (by kernel_rfl) (by kernel_rfl) (by kernel_rfl) (by kernel_rfl)) ?_
  intro W base args ds gs before hval0 hW hcnd _
  have hval : ∀ (j : Nat) t v, Try.f8.params[j]? = some t → args[j]? = some v → Value.okWide Try.prog W .any base t v := hval0
  have hW' := hW
  obtain ⟨p, q, hA0, hV, rfl, hfz, hnd⟩ := hW
  have hA : DataW.TrodAll enc Try.prog W 0 (fun _ => true) true Try.f8.params.toList args.toList ds p := hA0
  rw [Try.params8] at hA hval
  obtain ⟨v0, vs0, d0, ds0, p0, q0, hargs, rfl, rfl, h0, r0⟩ := trodAll_cons hA
  obtain ⟨v1, vs1, d1, ds1, p1, q1, rfl, rfl, rfl, h1, r1⟩ := trodAll_cons r0
  obtain ⟨v2, vs2, d2, ds2, p2, q2, rfl, rfl, rfl, h2, r2⟩ := trodAll_cons r1
  obtain ⟨v3, vs3, d3, ds3, p3, q3, rfl, rfl, rfl, h3, r3⟩ := trodAll_cons r2
  obtain ⟨rfl, rfl, rfl⟩ := trodAll_nil r3
  obtain rfl : args = #[v0, v1, v2, v3] := by cases args; simp_all
  obtain ⟨rfl, rfl⟩ := trodVars_none hV
  have k0 := h0
  have lt0 : ∀ x ∈ p0, x.block < W.heap.size := by obtain ⟨m, hm⟩ := k0; exact DataW.trod_lt m _ _ _ hm
  obtain ⟨a0, rfl, _, _, w0⟩ := open_int Try.underlying3 (hval 0 3 v0 rfl rfl) h0
  have k1 := h1
  have lt1 : ∀ x ∈ p1, x.block < W.heap.size := by obtain ⟨m, hm⟩ := k1; exact DataW.trod_lt m _ _ _ hm
  obtain ⟨a1, len1, cap1, rfl⟩ := okWide_slice Try.underlying39 (hval 1 39 v1 rfl rfl)
  obtain ⟨z1, w1⟩ : ∃ z, IsRows 4 W a1 len1 cap1 z := isRows_of (fs := #[_, _, _, _]) Try.underlying39 Try.underlying50 (by kernel_rfl) cells50 (by simp) (fun j f hj => by rcases j with _ | _ | _ | _ | j <;> simp at hj <;> (subst hj; exact Try.underlying3)) h1
  have k2 := h2
  have lt2 : ∀ x ∈ p2, x.block < W.heap.size := by obtain ⟨m, hm⟩ := k2; exact DataW.trod_lt m _ _ _ hm
  obtain ⟨c20, c21, c22, c23, y20, y21, y22, y23, m2, rfl, _, _, hy20, hy21, hy22, hy23⟩ := open_agg4 Try.underlying50 (by kernel_rfl) cells50 (hval 2 50 v2 rfl rfl) h2
  obtain ⟨a20, e20, _, w20⟩ := DataW.trod_int Try.underlying3 hy20; simp at e20; subst e20
  obtain ⟨a21, e21, _, w21⟩ := DataW.trod_int Try.underlying3 hy21; simp at e21; subst e21
  obtain ⟨a22, e22, _, w22⟩ := DataW.trod_int Try.underlying3 hy22; simp at e22; subst e22
  obtain ⟨a23, e23, _, w23⟩ := DataW.trod_int Try.underlying3 hy23; simp at e23; subst e23
  have k3 := h3
  have lt3 : ∀ x ∈ p3, x.block < W.heap.size := by obtain ⟨m, hm⟩ := k3; exact DataW.trod_lt m _ _ _ hm
  obtain ⟨c30, c31, c32, c33, y30, y31, y32, y33, m3, rfl, _, _, hy30, hy31, hy32, hy33⟩ := open_agg4 Try.underlying50 (by kernel_rfl) cells50 (hval 3 50 v3 rfl rfl) h3
  obtain ⟨a30, e30, _, w30⟩ := DataW.trod_int Try.underlying3 hy30; simp at e30; subst e30
  obtain ⟨a31, e31, _, w31⟩ := DataW.trod_int Try.underlying3 hy31; simp at e31; subst e31
  obtain ⟨a32, e32, _, w32⟩ := DataW.trod_int Try.underlying3 hy32; simp at e32; subst e32
  obtain ⟨a33, e33, _, w33⟩ := DataW.trod_int Try.underlying3 hy33; simp at e33; subst e33
  clear hA0 hval0
  refine (walk a0 a1 len1 cap1 z1 a20 a21 a22 a23 a30 a31 a32 a33 W w0 w1 w20 w21 w22 w23 w30 w31 w32 w33).mono fun e W' ⟨he, bel⟩ => ?_
  subst he
  exact ⟨_, rfl, _, _, _, [], _, [], hW', trodAll_mk1 (shut_bool Try.underlying4 _), (trodAll_cons_mk (Below.trod laidOut (by kernel_rfl) (of_decide_eq_true (by kernel_rfl)) k0 bel lt0) (trodAll_cons_mk (Below.trod laidOut (by kernel_rfl) (of_decide_eq_true (by kernel_rfl)) k1 bel lt1) (trodAll_cons_mk (Below.trod laidOut (by kernel_rfl) (of_decide_eq_true (by kernel_rfl)) k2 bel lt2) (trodAll_cons_mk (Below.trod laidOut (by kernel_rfl) (of_decide_eq_true (by kernel_rfl)) k3 bel lt3) trodAll_mk0)))), rfl, bel.frame _, fun h => by cases h⟩
theorem over : Rows.clockCopiesRow.holds Try.pinned (OpenSpec.ofChange Rows.clockCopiesSpec) :=
  OpenClaim.holds_of_wide 8 Try.f8 rfl rfl rfl rfl rfl rfl rfl ⟨rfl, rfl, rfl, rfl, rfl⟩ rfl rfl rfl rfl rfl (by kernel_rfl) Try.func8 (by kernel_rfl)
    (of_decide_eq_true (by kernel_rfl)) (by unfold Func.isWrapper; first | (rw [if_pos (by decide +kernel)]; kernel_rfl) | (rw [if_neg (by decide +kernel)]; exact ⟨rfl, rfl⟩))
    (fun os started H enc _ => lifted os started H enc)
theorem proved : Rows.ClockCopiesSaid := over
end Go.Proofs.Ytfbkbpoabajgdaa.lawCopies

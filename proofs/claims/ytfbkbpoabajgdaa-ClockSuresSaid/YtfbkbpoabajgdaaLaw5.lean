/- The law of the clocks' Sure holds: 'skylanternlaw33.ClockSures' returns true at every input. No conditions. -/
import Derived.Test.YtfbkbpoabajgdaaBase
import Derived.Test.YtfbkbpoabajgdaaShow
namespace Go.Proofs.Ytfbkbpoabajgdaa.lawSures
open Go.ChangeShapes Go.WideShapes Go.ChangeAt Go.RowKit Go.Joins
set_option linter.unusedVariables false
set_option maxHeartbeats 4000000
set_option maxRecDepth 100000
/-- the state of the clock c in block b and of the reference in block q -/
def St (w : World) (b q : Nat) (wr : World) (d r : Int) (s : Bool) (lo hi : Int) : Prop :=
  SInv d r s lo hi ∧ IsClk wr b d r true s lo hi ∧ wr.heap[q]? = some (.cells #[.int .i64 d, .int .i64 r, .bool s, .int .i64 lo, .int .i64 hi] 44 (0, 0)) ∧ Below w.heap.size w wr
theorem walk (a0 : Int) (a1 : Option Addr) (len1 cap1 : Nat) (z1 : Nat → Nat → Int) (a2 : Int) (w : World) (w0 : (Lit.int .i64 a0).wf = true) (w1 : IsRows 4 w a1 len1 cap1 z1) (w2 : (Lit.int .i64 a2).wf = true) :
    Calls Try.prog 7 #[.int .i64 a0, .slice a1 len1 cap1, .int .i64 a2] w fun e w' => e = .returned (.bool true) ∧ Below w.heap.size w w' := by
  obtain ⟨hlc, hcm, hnil, hrow⟩ := w1
  unfold maxLen at hcm
  by_cases hl : 20 < len1 ∨ ¬ (0 ≤ a0 ∧ a0 ≤ 100000)
  · have hl' : 20 < len1 ∨ (len1 ≤ 20 ∧ a0 < 0) ∨ (len1 ≤ 20 ∧ 0 ≤ a0 ∧ 100000 < a0) := by omega
    clear hl
    rcases hl' with hl | ⟨hl, hl2⟩ | ⟨hl, hl2, hl3⟩
    all_goals
      go_enter Try.func7, Try.ntmps7
      go_wp2_with fail
      refine (known_true _).mono ?_
      rintro e w1 ⟨rfl, hb⟩
      go_wp2_with fail
      go_ret
      exact ⟨rfl, (by repeat (first | (with_reducible exact Below.refl _ _) | (with_reducible refine Below.drew ?_) | (with_reducible refine below_drewN ?_ _) | ((with_reducible refine Below.alloc ?_ ?_ _); rotate_left; (first | omega | (simp <;> omega)); rotate_right) | ((with_reducible refine Below.setCell ?_ ?_ _); rotate_left; (first | omega | (simp <;> omega)); rotate_right) | (with_reducible assumption) | (refine Below.trans ?_ (Below.mono (by assumption) ?_); rotate_left; (first | omega | (simp <;> omega)); rotate_right)))⟩
  · have hl1 : len1 ≤ 20 := by omega
    have hd : 0 ≤ a0 ∧ a0 ≤ 100000 := by omega
    clear hl
    have HD := Lib.hid (fun W : World => new_yes a0 W hd)
    have HR := Lib.hid (fun W : World => rNew_yes a0 W hd)
    have S0 := Lib.hid (sinv_new hd)
    obtain ⟨hd1, hd2⟩ := hd
    go_enter Try.func7, Try.ntmps7
    go_wp2_with fail
    refine (HD.out _).mono ?_
    rintro e w1 ⟨rfl, hk, hb⟩
    have hz := hb.size; have hlt := clk_lt hk
    go_wp2_with fail
    refine (HR.out _).mono ?_
    rintro e w2 ⟨rfl, hb2⟩
    have hz2 := hb2.size
    have hk2 := clk_below hk hb2 hlt
    go_wp2_with fail
    go_loopw [11] (fun i wr => ∃ (k : Nat) (r : Int) (s : Bool) (lo hi : Int), i = .int .i64 k ∧ k ≤ len1 ∧ St w w.heap.size w2.heap.size wr a0 r s lo hi) (fun i _ => len1 - (intOf i).toNat)
    case atStart => exact ⟨0, 0, false, 0, 0, by go_num, Nat.zero_le _, S0.out, (by repeat (first | (with_reducible assumption) | (with_reducible refine clk_alloc ?_ _) | (with_reducible refine clk_drew ?_) | (with_reducible refine clk_drewN ?_ _) | ((with_reducible refine clk_far ?_ ?_ _); rotate_left; (first | omega | (simp <;> omega)); rotate_right))), (by repeat (first | (with_reducible assumption) | ((with_reducible apply blk_far); rotate_left; (first | omega | (simp <;> omega)); rotate_right) | (with_reducible apply blk_drew) | (with_reducible apply blk_drewN) | (with_reducible exact heap_new _ _) | ((with_reducible apply heap_new'); (first | rfl | (simp <;> fail))) | (with_reducible apply blk_alloc))), (by repeat (first | (with_reducible exact Below.refl _ _) | (with_reducible refine Below.drew ?_) | (with_reducible refine below_drewN ?_ _) | ((with_reducible refine Below.alloc ?_ ?_ _); rotate_left; (first | omega | (simp <;> omega)); rotate_right) | ((with_reducible refine Below.setCell ?_ ?_ _); rotate_left; (first | omega | (simp <;> omega)); rotate_right) | (with_reducible assumption) | (refine Below.trans ?_ (Below.mono (by assumption) ?_); rotate_left; (first | omega | (simp <;> omega)); rotate_right)))⟩
    case round =>
      obtain ⟨k, r, s, lo, hi, rfl, hkl, hS, hkr, hq, hB⟩ := hrel
      clear hk hk2 hb hb2
      have hzr := hB.size
      have hltr := clk_lt hkr
      have HS := Lib.hid hS
      by_cases hlt2 : k < len1
      · obtain ⟨bl, o, rfl, hbl, hcell⟩ := hrow (by omega)
        have c0 : wr.cell? ⟨bl, o + k * 4, none⟩ = some (.int .i64 (z1 k 0)) := (hB.cell (p := ⟨bl, o + (k * 4 + 0), none⟩) hbl).trans (hcell k 0 hlt2 (by omega)).1
        have c1 : wr.cell? ⟨bl, o + k * 4 + 1, none⟩ = some (.int .i64 (z1 k 1)) := (hB.cell (p := ⟨bl, o + (k * 4 + 1), none⟩) hbl).trans (hcell k 1 hlt2 (by omega)).1
        have c2 : wr.cell? ⟨bl, o + k * 4 + 2, none⟩ = some (.int .i64 (z1 k 2)) := (hB.cell (p := ⟨bl, o + (k * 4 + 2), none⟩) hbl).trans (hcell k 2 hlt2 (by omega)).1
        have c3 : wr.cell? ⟨bl, o + k * 4 + 3, none⟩ = some (.int .i64 (z1 k 3)) := (hB.cell (p := ⟨bl, o + (k * 4 + 3), none⟩) hbl).trans (hcell k 3 hlt2 (by omega)).1
        obtain ⟨zz, hzz⟩ : ∃ zz, zz = z1 k := ⟨_, rfl⟩
        rw [← hzz] at c0 c1 c2 c3
        clear hzz hcell hrow hnil
        have RA := Lib.hid (fun W : World => radd_any a0 r s lo hi (zz 0) (zz 1) (zz 2) (zz 3) W hS.1 hS.2)
        have AA := Lib.hid (fun (W : World) (hk : IsClk W w.heap.size a0 r true s lo hi) => add_any w.heap.size a0 r s lo hi (zz 0) (zz 1) (zz 2) (zz 3) W hk hS.1)
        have S1 := Lib.hid (sinv_add (a := zz 0) (g := zz 1) (k := zz 2) (h := zz 3) HS.out)
        clear hS
        go_wp2_with fail
        refine (AA.out _ (by repeat (first | (with_reducible assumption) | (with_reducible refine clk_alloc ?_ _) | (with_reducible refine clk_drew ?_) | (with_reducible refine clk_drewN ?_ _) | ((with_reducible refine clk_far ?_ ?_ _); rotate_left; (first | omega | (simp <;> omega)); rotate_right)))).mono ?_
        rintro e w5 ⟨rfl, hk5, hg5⟩
        have hz5 := hg5.size
        have HB5 := below_of_only hB hg5 hB.size (Nat.le_refl _)
        have hq5 := (hg5.block w2.heap.size (lt_of_block hq) (by simp; omega)).trans hq
        have x0 : w5.cell? ⟨bl, o + k * 4, none⟩ = some (.int .i64 (zz 0)) := (World.cell?_of_block (hg5.block bl (by omega) (by simp; omega))).trans c0
        have x1 : w5.cell? ⟨bl, o + k * 4 + 1, none⟩ = some (.int .i64 (zz 1)) := (World.cell?_of_block (hg5.block bl (by omega) (by simp; omega))).trans c1
        have x2 : w5.cell? ⟨bl, o + k * 4 + 2, none⟩ = some (.int .i64 (zz 2)) := (World.cell?_of_block (hg5.block bl (by omega) (by simp; omega))).trans c2
        have x3 : w5.cell? ⟨bl, o + k * 4 + 3, none⟩ = some (.int .i64 (zz 3)) := (World.cell?_of_block (hg5.block bl (by omega) (by simp; omega))).trans c3
        clear c0 c1 c2 c3
        have cq5_0 := blk_cell hq5 0 rfl; have fq5_0 := blk_free hq5 0; have cq5_1 := blk_cell hq5 1 rfl; have fq5_1 := blk_free hq5 1; have cq5_2 := blk_cell hq5 2 rfl; have fq5_2 := blk_free hq5 2; have cq5_3 := blk_cell hq5 3 rfl; have fq5_3 := blk_free hq5 3; have cq5_4 := blk_cell hq5 4 rfl; have fq5_4 := blk_free hq5 4; have lq5 := lt_of_block hq5
        go_upto_region 11 with fail
        go_region_law (first | (go_simp; go_at_call 20; refine (RA.out _).mono ?_; rintro e w4 ⟨rfl, hb4⟩; have hz4 := hb4.size; try simp at hz4; have hq4 := blk_below (q := w2.heap.size) (by repeat (first | (with_reducible assumption) | ((with_reducible apply blk_far); rotate_left; (first | omega | (simp <;> omega)); rotate_right) | (with_reducible apply blk_drew) | (with_reducible apply blk_drewN) | (with_reducible exact heap_new _ _) | ((with_reducible apply heap_new'); (first | rfl | (simp <;> fail))) | (with_reducible apply blk_alloc))) hb4 (by first | omega | (simp; done) | (simp; omega)); have cq4_0 := blk_cell hq4 0 rfl; have fq4_0 := blk_free hq4 0; have cq4_1 := blk_cell hq4 1 rfl; have fq4_1 := blk_free hq4 1; have cq4_2 := blk_cell hq4 2 rfl; have fq4_2 := blk_free hq4 2; have cq4_3 := blk_cell hq4 3 rfl; have fq4_3 := blk_free hq4 3; have cq4_4 := blk_cell hq4 4 rfl; have fq4_4 := blk_free hq4 4; have lq4 := lt_of_block hq4; have hk4 := clk_below (clk_drew hk5) hb4 (by first | omega | (simp; done) | (simp; omega)); have HB4 := (show Below w.heap.size w w4 from (by repeat (first | (with_reducible exact Below.refl _ _) | (with_reducible refine Below.drew ?_) | (with_reducible refine below_drewN ?_ _) | ((with_reducible refine Below.alloc ?_ ?_ _); rotate_left; (first | omega | (simp <;> omega)); rotate_right) | ((with_reducible refine Below.setCell ?_ ?_ _); rotate_left; (first | omega | (simp <;> omega)); rotate_right) | (with_reducible assumption) | (refine Below.trans ?_ (Below.mono (by assumption) ?_); rotate_left; (first | omega | (simp <;> omega)); rotate_right))))))
        all_goals go_wp2_with fail
        all_goals go_roundw
        case rel => exact ⟨k + 1, _, _, _, _, by go_num, by omega, S1.out, (by repeat (first | (with_reducible assumption) | (with_reducible refine clk_alloc ?_ _) | (with_reducible refine clk_drew ?_) | (with_reducible refine clk_drewN ?_ _) | ((with_reducible refine clk_far ?_ ?_ _); rotate_left; (first | omega | (simp <;> omega)); rotate_right))), (by apply Eq.trans; (repeat (first | (with_reducible assumption) | (with_reducible apply blk_set) | ((with_reducible apply blk_far); rotate_left; (first | omega | (simp <;> omega)); rotate_right) | (with_reducible apply blk_drew) | (with_reducible apply blk_drewN) | ((with_reducible apply heap_new'); (first | rfl | (simp <;> fail))) | (with_reducible apply blk_alloc))); (first | with_reducible rfl | (simp <;> fail) | rfl)), (by repeat (first | (with_reducible exact Below.refl _ _) | (with_reducible refine Below.drew ?_) | (with_reducible refine below_drewN ?_ _) | ((with_reducible refine Below.alloc ?_ ?_ _); rotate_left; (first | omega | (simp <;> omega)); rotate_right) | ((with_reducible refine Below.setCell ?_ ?_ _); rotate_left; (first | omega | (simp <;> omega)); rotate_right) | (with_reducible assumption) | (refine Below.trans ?_ (Below.mono (by assumption) ?_); rotate_left; (first | omega | (simp <;> omega)); rotate_right)))⟩
        case rel => exact ⟨k + 1, _, _, _, _, by go_num, by omega, S1.out, (by repeat (first | (with_reducible assumption) | (with_reducible refine clk_alloc ?_ _) | (with_reducible refine clk_drew ?_) | (with_reducible refine clk_drewN ?_ _) | ((with_reducible refine clk_far ?_ ?_ _); rotate_left; (first | omega | (simp <;> omega)); rotate_right))), (by apply Eq.trans; (repeat (first | (with_reducible assumption) | (with_reducible apply blk_set) | ((with_reducible apply blk_far); rotate_left; (first | omega | (simp <;> omega)); rotate_right) | (with_reducible apply blk_drew) | (with_reducible apply blk_drewN) | ((with_reducible apply heap_new'); (first | rfl | (simp <;> fail))) | (with_reducible apply blk_alloc))); (first | with_reducible rfl | (simp <;> fail) | rfl)), (by repeat (first | (with_reducible exact Below.refl _ _) | (with_reducible refine Below.drew ?_) | (with_reducible refine below_drewN ?_ _) | ((with_reducible refine Below.alloc ?_ ?_ _); rotate_left; (first | omega | (simp <;> omega)); rotate_right) | ((with_reducible refine Below.setCell ?_ ?_ _); rotate_left; (first | omega | (simp <;> omega)); rotate_right) | (with_reducible assumption) | (refine Below.trans ?_ (Below.mono (by assumption) ?_); rotate_left; (first | omega | (simp <;> omega)); rotate_right)))⟩
        all_goals (simp [intOf]; omega)
      · obtain rfl : k = len1 := by omega
        have cq_0 := blk_cell hq 0 rfl; have fq_0 := blk_free hq 0; have cq_1 := blk_cell hq 1 rfl; have fq_1 := blk_free hq 1; have cq_2 := blk_cell hq 2 rfl; have fq_2 := blk_free hq 2; have cq_3 := blk_cell hq 3 rfl; have fq_3 := blk_free hq 3; have cq_4 := blk_cell hq 4 rfl; have fq_4 := blk_free hq 4; have lq := lt_of_block hq
        go_wp2_with fail
        refine (sure_any w.heap.size a0 r s lo hi a2 _ (by repeat (first | (with_reducible assumption) | (with_reducible refine clk_alloc ?_ _) | (with_reducible refine clk_drew ?_) | (with_reducible refine clk_drewN ?_ _) | ((with_reducible refine clk_far ?_ ?_ _); rotate_left; (first | omega | (simp <;> omega)); rotate_right))) HS.out.1).mono ?_
        rintro e w3 ⟨rfl, hb3⟩
        have hz3 := hb3.size; try simp at hz3
        have hq3 := blk_below (q := w2.heap.size) (by repeat (first | (with_reducible assumption) | ((with_reducible apply blk_far); rotate_left; (first | omega | (simp <;> omega)); rotate_right) | (with_reducible apply blk_drew) | (with_reducible apply blk_drewN) | (with_reducible exact heap_new _ _) | ((with_reducible apply heap_new'); (first | rfl | (simp <;> fail))) | (with_reducible apply blk_alloc))) hb3 (by first | omega | (simp; done) | (simp; omega))
        have cq3_0 := blk_cell hq3 0 rfl; have fq3_0 := blk_free hq3 0; have cq3_1 := blk_cell hq3 1 rfl; have fq3_1 := blk_free hq3 1; have cq3_2 := blk_cell hq3 2 rfl; have fq3_2 := blk_free hq3 2; have cq3_3 := blk_cell hq3 3 rfl; have fq3_3 := blk_free hq3 3; have cq3_4 := blk_cell hq3 4 rfl; have fq3_4 := blk_free hq3 4; have lq3 := lt_of_block hq3
        go_wp2_with fail
        refine (rsure_any a0 r s lo hi a2 _ HS.out.1).mono ?_
        rintro e w4 ⟨rfl, hb4⟩
        have hz4 := hb4.size; try simp at hz4
        go_wp2_with fail
        refine (known_true _).mono ?_
        rintro e w6 ⟨rfl, hb6⟩
        have hz6 := hb6.size; try simp at hz6
        go_wp2_with fail
        go_ret
        exact ⟨rfl, (by repeat (first | (with_reducible exact Below.refl _ _) | (with_reducible refine Below.drew ?_) | (with_reducible refine below_drewN ?_ _) | ((with_reducible refine Below.alloc ?_ ?_ _); rotate_left; (first | omega | (simp <;> omega)); rotate_right) | ((with_reducible refine Below.setCell ?_ ?_ _); rotate_left; (first | omega | (simp <;> omega)); rotate_right) | (with_reducible assumption) | (refine Below.trans ?_ (Below.mono (by assumption) ?_); rotate_left; (first | omega | (simp <;> omega)); rotate_right)))⟩
theorem own : ownKnob Try.prog.godebug = none := by kernel_rfl
theorem laidOut : laidOutB Try.prog = true := by kernel_rfl
theorem cells50 : Try.prog.cellsOf 50 = 4 := by kernel_rfl
set_option maxRecDepth 100000 in
theorem lifted (os : Os) (started : os.Started) (H : Type) (enc : TypeId × Value → H) :
    ReturnsInHanded {} Try.checked os 7 .any (Rows.clockSuresSpec.pre6 enc Try.prog Try.f7 Rows.clockSuresRow.domain false) (Rows.clockSuresSpec.post enc Try.prog Try.f7 false true false false) := by
  refine returnsInHanded_of_change (C := Try.checked) own started (by kernel_rfl) Try.func7
    (ChangeSpec.witness6 (enc := enc) (C := Try.checked) false ⟨#[], #[.int .i64 0, .slice none 0 0, .int .i64 0], []⟩ 8 (by kernel_rfl) (by kernel_rfl) (by kernel_rfl) (by kernel_rfl)) ?_
  intro W base args ds gs before hval0 hW hcnd _
  have hval : ∀ (j : Nat) t v, Try.f7.params[j]? = some t → args[j]? = some v → Value.okWide Try.prog W .any base t v := hval0
  have hW' := hW
  obtain ⟨p, q, hA0, hV, rfl, hfz, hnd⟩ := hW
  have hA : DataW.TrodAll enc Try.prog W 0 (fun _ => true) true Try.f7.params.toList args.toList ds p := hA0
  rw [Try.params7] at hA hval
  obtain ⟨v0, vs0, d0, ds0, p0, q0, hargs, rfl, rfl, h0, r0⟩ := trodAll_cons hA
  obtain ⟨v1, vs1, d1, ds1, p1, q1, rfl, rfl, rfl, h1, r1⟩ := trodAll_cons r0
  obtain ⟨v2, vs2, d2, ds2, p2, q2, rfl, rfl, rfl, h2, r2⟩ := trodAll_cons r1
  obtain ⟨rfl, rfl, rfl⟩ := trodAll_nil r2
  obtain rfl : args = #[v0, v1, v2] := by cases args; simp_all
  obtain ⟨rfl, rfl⟩ := trodVars_none hV
  have k0 := h0
  have lt0 : ∀ x ∈ p0, x.block < W.heap.size := by obtain ⟨m, hm⟩ := k0; exact DataW.trod_lt m _ _ _ hm
  obtain ⟨a0, rfl, _, _, w0⟩ := open_int Try.underlying3 (hval 0 3 v0 rfl rfl) h0
  have k1 := h1
  have lt1 : ∀ x ∈ p1, x.block < W.heap.size := by obtain ⟨m, hm⟩ := k1; exact DataW.trod_lt m _ _ _ hm
  obtain ⟨a1, len1, cap1, rfl⟩ := okWide_slice Try.underlying39 (hval 1 39 v1 rfl rfl)
  obtain ⟨z1, w1⟩ : ∃ z, IsRows 4 W a1 len1 cap1 z := isRows_of (fs := #[_, _, _, _]) Try.underlying39 Try.underlying50 (by kernel_rfl) cells50 (by simp) (fun j f hj => by rcases j with _ | _ | _ | _ | j <;> simp at hj <;> (subst hj; exact Try.underlying3)) h1
  have k2 := h2
  have lt2 : ∀ x ∈ p2, x.block < W.heap.size := by obtain ⟨m, hm⟩ := k2; exact DataW.trod_lt m _ _ _ hm
  obtain ⟨a2, rfl, _, _, w2⟩ := open_int Try.underlying3 (hval 2 3 v2 rfl rfl) h2
  clear hA0 hval0
  refine (walk a0 a1 len1 cap1 z1 a2 W w0 w1 w2).mono fun e W' ⟨he, bel⟩ => ?_
  subst he
  exact ⟨_, rfl, _, _, _, [], _, [], hW', trodAll_mk1 (shut_bool Try.underlying4 _), (trodAll_cons_mk (Below.trod laidOut (by kernel_rfl) (of_decide_eq_true (by kernel_rfl)) k0 bel lt0) (trodAll_cons_mk (Below.trod laidOut (by kernel_rfl) (of_decide_eq_true (by kernel_rfl)) k1 bel lt1) (trodAll_cons_mk (Below.trod laidOut (by kernel_rfl) (of_decide_eq_true (by kernel_rfl)) k2 bel lt2) trodAll_mk0))), rfl, bel.frame _, fun h => by cases h⟩
theorem over : Rows.clockSuresRow.holds Try.pinned (OpenSpec.ofChange Rows.clockSuresSpec) :=
  OpenClaim.holds_of_wide 7 Try.f7 rfl rfl rfl rfl rfl rfl rfl ⟨rfl, rfl, rfl, rfl, rfl⟩ rfl rfl rfl rfl rfl (by kernel_rfl) Try.func7 (by kernel_rfl)
    (of_decide_eq_true (by kernel_rfl)) (by unfold Func.isWrapper; first | (rw [if_pos (by decide +kernel)]; kernel_rfl) | (rw [if_neg (by decide +kernel)]; exact ⟨rfl, rfl⟩))
    (fun os started H enc _ => lifted os started H enc)
theorem proved : Rows.ClockSuresSaid := over
end Go.Proofs.Ytfbkbpoabajgdaa.lawSures

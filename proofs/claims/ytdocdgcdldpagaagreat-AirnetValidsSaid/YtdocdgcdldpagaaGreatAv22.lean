import Derived.Test.YtdocdgcdldpagaaGreatAp
import Derived.Test.YtdocdgcdldpagaaGreatAv21
import Derived.Test.YtdocdgcdldpagaaGreatAv04
import Derived.Deep.LoopGhost
import Derived.Deep.RegionHeld3
import Derived.Deep.RegionLaw
import Derived.Deep.DeepCutAuto
namespace Go.Proofs.YtdocdgcdldpagaaGreat.Ck
open Go.RowKit
set_option maxHeartbeats 4000000
set_option linter.unusedSimpArgs false
set_option linter.unusedVariables false
set_option maxRecDepth 100000
def LastCut (wy : World) (b : Nat) (d r : Int) (lo hi a g k h : Int) (q z c : Nat) (wz : World) : Prop :=
  IsClk wz b d r true true lo hi ∧ wz.heap[z]? = some (.cells #[.int .i64 a, .int .i64 g, .int .i64 k, .int .i64 h] 246 (0, 0)) ∧
    wz.heap[q]? = some (.cells #[.int .i64 (Clk.rLo g g d (h - a)), .int .i64 (Clk.rHi g d (h - a))] 65 (0, 0)) ∧
    wz.heap[c]? = some (.cells #[.int .i64 (Clk.rLo lo hi d (h - r)), .int .i64 (Clk.rHi hi d (h - r))] 65 (0, 0)) ∧ Below c wy wz
def EndCut (wr : World) (b : Nat) (d r : Int) (lo hi a g k h : Int) (z c : Nat) (wz : World) : Prop :=
  IsClk wz b d r true true lo hi ∧ wz.heap[z]? = some (.cells #[.int .i64 a, .int .i64 g, .int .i64 k, .int .i64 h] 246 (0, 0)) ∧
    wz.heap[c]? = some (.cells #[.int .i64 (Clk.nLo d r true lo hi k h), .int .i64 (Clk.nHi d r true hi a g h)] 65 (0, 0)) ∧ Below c wr wz
theorem add_next (b : Nat) (d r : Int) (lo hi a g k h : Int) (w : World) (hk : IsClk w b d r true true lo hi) (c : Clk.CInv d r lo hi) (x1 : -1073741824 ≤ a) (x2 : a ≤ h) (x3 : h ≤ 1073741824) (x4 : 0 ≤ g) (x5 : g ≤ k) (x6 : k ≤ 3600000) (y : r ≤ h) :
    Calls Tryz.prog 165 #[.pointer (some ⟨b, 0, none⟩), .agg #[.int .i64 a, .int .i64 g, .int .i64 k, .int .i64 h]] w fun e w' => AddPost w b d r true lo hi a g k h e w' := by
  obtain ⟨h0, h1, r0, r1, l0, l1, l2⟩ := c
  obtain ⟨q0, q1, q2, q3, q4, q5⟩ := clk_cells hk; obtain ⟨z0, z1, z2, z3, z4, z5⟩ := clk_free hk; have hlt := clk_lt hk
  have X := Clk.xOk_iff.2 ⟨x1, x2, x3, x4, x5, x6⟩
  have k1 := IntWalk.i64_in (h - a) Cb
  have k2 := IntWalk.i64_in (h - r) Cb
  go_enter Tryz.func165, Tryz.ntmps165
  go_upto_region 5 with (first | (go_at_call 125; refine (none_made b d r true lo hi _ Af).mono ?_; rintro e w' ⟨rfl, rfl⟩))
  go_cut [5, 6] (fun s5 s6 wx => AddCut w b d r true lo hi a g k h s5 s6 wx)
  case first =>
    go_region_held3 (fun w' => w'.cell? ⟨b, 0, none⟩ = some (.int .i64 d) ∧ w'.cell? ⟨w.heap.size, 0, none⟩ = some (.int .i64 a) ∧ w'.cell? ⟨w.heap.size, 1, none⟩ = some (.int .i64 g) ∧ w'.cell? ⟨w.heap.size, 3, none⟩ = some (.int .i64 h)) (first | (refine ⟨?_, ?_, ?_, ?_⟩ <;> simp [go_sem, *]) | go_keep) (first | (go_at_call 127; refine (grow_any g g d (h - a) _ Cb Cb Cb h0 h1 Cb Cb).mono ?_; rintro e w2 ⟨rfl, hb2⟩; have hz2 := hb2.size; simp at hz2; have hk2 := clk_below (show IsClk _ b d r true true lo hi from Af) hb2 C6; obtain ⟨q20, q21, q22, q23, q24, q25⟩ := clk_cells hk2; obtain ⟨z20, z21, z22, z23, z24, z25⟩ := clk_free hk2; have hlt2 := clk_lt hk2; have hx2 := blk_below (q := w.heap.size) Ae hb2 Ba; have cx2_0 := blk_cell hx2 0 rfl; have fx2_0 := blk_free hx2 0; have cx2_1 := blk_cell hx2 1 rfl; have fx2_1 := blk_free hx2 1; have cx2_2 := blk_cell hx2 2 rfl; have fx2_2 := blk_free hx2 2; have cx2_3 := blk_cell hx2 3 rfl; have fx2_3 := blk_free hx2 3; have lx2 := lt_of_block hx2; try (have hq2 := blk_below (q := w.heap.size + 1) Ae hb2 Ba; have cq2_0 := blk_cell hq2 0 rfl; have fq2_0 := blk_free hq2 0; have cq2_1 := blk_cell hq2 1 rfl; have fq2_1 := blk_free hq2 1; have lq2 := lt_of_block hq2)))
    all_goals (go_wp2_with fail; go_meet)
    all_goals refine ⟨_, rfl, rfl, Af, Aa, Aa, ?_, A9⟩
    all_goals (first | omega | (simp <;> omega))
  case rest =>
    obtain ⟨q, rfl, rfl, hk3, hx, hq, hlq, hbx⟩ := hcut
    have hz3 := hbx.size
    obtain ⟨q30, q31, q32, q33, q34, q35⟩ := clk_cells hk3; obtain ⟨z30, z31, z32, z33, z34, z35⟩ := clk_free hk3; have hlt3 := clk_lt hk3
    have cx_0 := blk_cell hx 0 rfl; have fx_0 := blk_free hx 0; have cx_1 := blk_cell hx 1 rfl; have fx_1 := blk_free hx 1; have cx_2 := blk_cell hx 2 rfl; have fx_2 := blk_free hx 2; have cx_3 := blk_cell hx 3 rfl; have fx_3 := blk_free hx 3; have lx := lt_of_block hx
    have cq_0 := blk_cell hq 0 rfl; have fq_0 := blk_free hq 0; have cq_1 := blk_cell hq 1 rfl; have fq_1 := blk_free hq 1; have lq := lt_of_block hq
    go_wp2_with fail
    go_quiet (fail)
    go_wp2_with fail
    obtain ⟨wo, hwo⟩ : ∃ wo : World, wo = wc := ⟨_, rfl⟩
    subst hwo
    go_upto_region 10 with fail
    go_cut [8, 9] (fun s8 s9 wy => NextCut wo b d r lo hi a g k h q w.heap.size s8 s9 wy)
    case first =>
      go_region_held3 (fun w' => w'.cell? ⟨b, 0, none⟩ = some (.int .i64 d) ∧ w'.cell? ⟨b, 1, none⟩ = some (.int .i64 r) ∧ w'.cell? ⟨b, 4, none⟩ = some (.int .i64 lo) ∧ w'.cell? ⟨b, 5, none⟩ = some (.int .i64 hi) ∧ w'.cell? ⟨w.heap.size, 3, none⟩ = some (.int .i64 h)) (first | (refine ⟨?_, ?_, ?_, ?_, ?_⟩ <;> simp [go_sem, *]) | go_keep) (first | (go_at_call 127; refine (grow_any lo hi d (h - r) _ l0 l1 l2 h0 h1 Cb Cb).mono ?_; rintro e w2 ⟨rfl, hb2⟩; have hz2 := hb2.size; simp at hz2; have hk2 := clk_below (show IsClk _ b d r true true lo hi from Af) hb2 C6; obtain ⟨q20, q21, q22, q23, q24, q25⟩ := clk_cells hk2; obtain ⟨z20, z21, z22, z23, z24, z25⟩ := clk_free hk2; have hlt2 := clk_lt hk2; have hx2 := blk_below (q := w.heap.size) Ae hb2 Ba; have cx2_0 := blk_cell hx2 0 rfl; have fx2_0 := blk_free hx2 0; have cx2_1 := blk_cell hx2 1 rfl; have fx2_1 := blk_free hx2 1; have cx2_2 := blk_cell hx2 2 rfl; have fx2_2 := blk_free hx2 2; have cx2_3 := blk_cell hx2 3 rfl; have fx2_3 := blk_free hx2 3; have lx2 := lt_of_block hx2; have hq2 := blk_below (q := q) Ae hb2 Ba; have hc2 := blk_below (q := wo.heap.size) Ae hb2 Ba; have cc2_0 := blk_cell hc2 0 rfl; have fc2_0 := blk_free hc2 0; have cc2_1 := blk_cell hc2 1 rfl; have fc2_1 := blk_free hc2 1; have lc2 := lt_of_block hc2; try (have hp2 := blk_below (q := wo.heap.size + 1) Ae hb2 Ba; have cp2_0 := blk_cell hp2 0 rfl; have fp2_0 := blk_free hp2 0; have cp2_1 := blk_cell hp2 1 rfl; have fp2_1 := blk_free hp2 1; have lp2 := lt_of_block hp2)))
      all_goals (go_wp2_with fail; go_meet)
      all_goals refine ⟨_, rfl, rfl, Af, Aa, Aa, Aa, Aa, ?_, A9⟩
      all_goals (first | omega | (simp <;> omega))
    case rest =>
      obtain ⟨p, rfl, rfl, hk4, hx4, hq4, hc4, hp4, hlp, hby⟩ := hcut
      have hz4 := hby.size
      obtain ⟨q40, q41, q42, q43, q44, q45⟩ := clk_cells hk4; obtain ⟨z40, z41, z42, z43, z44, z45⟩ := clk_free hk4; have hlt4 := clk_lt hk4
      have cx4_0 := blk_cell hx4 0 rfl; have fx4_0 := blk_free hx4 0; have cx4_1 := blk_cell hx4 1 rfl; have fx4_1 := blk_free hx4 1; have cx4_2 := blk_cell hx4 2 rfl; have fx4_2 := blk_free hx4 2; have cx4_3 := blk_cell hx4 3 rfl; have fx4_3 := blk_free hx4 3; have lx4 := lt_of_block hx4
      have cq4_0 := blk_cell hq4 0 rfl; have fq4_0 := blk_free hq4 0; have cq4_1 := blk_cell hq4 1 rfl; have fq4_1 := blk_free hq4 1; have lq4 := lt_of_block hq4
      have cc4_0 := blk_cell hc4 0 rfl; have fc4_0 := blk_free hc4 0; have cc4_1 := blk_cell hc4 1 rfl; have fc4_1 := blk_free hc4 1; have lc4 := lt_of_block hc4
      have cp4_0 := blk_cell hp4 0 rfl; have fp4_0 := blk_free hp4 0; have cp4_1 := blk_cell hp4 1 rfl; have fp4_1 := blk_free hp4 1; have lp4 := lt_of_block hp4
      go_upto_region 13 with fail
      · obtain ⟨e1, e2⟩ := Clk.next_old (lo := lo) (a := a) (g := g) (k := k) X y ‹_›
        have hg := only_below (only_of_below hbx (some b)) hby hz3
        go_wp2_with fail
        go_ret
        exact post_err e1 e2 Af Ab
      · obtain ⟨wp, hwp⟩ : ∃ wp : World, wp = wc := ⟨_, rfl⟩
        subst hwp
        go_cut [] (fun wz => LastCut wp b d r lo hi a g k h q w.heap.size wo.heap.size wz)
        case first =>
          go_wp2_with fail
          go_meet
          exact ⟨Af, Aa, Aa, Aa, A9⟩
        case rest =>
          obtain ⟨hk5, hx5, hq5, hc5, hbz⟩ := hcut
          have hz5 := hbz.size
          obtain ⟨q50, q51, q52, q53, q54, q55⟩ := clk_cells hk5; obtain ⟨z50, z51, z52, z53, z54, z55⟩ := clk_free hk5; have hlt5 := clk_lt hk5
          have cx5_0 := blk_cell hx5 0 rfl; have fx5_0 := blk_free hx5 0; have cx5_1 := blk_cell hx5 1 rfl; have fx5_1 := blk_free hx5 1; have cx5_2 := blk_cell hx5 2 rfl; have fx5_2 := blk_free hx5 2; have cx5_3 := blk_cell hx5 3 rfl; have fx5_3 := blk_free hx5 3; have lx5 := lt_of_block hx5
          have cq5_0 := blk_cell hq5 0 rfl; have fq5_0 := blk_free hq5 0; have cq5_1 := blk_cell hq5 1 rfl; have fq5_1 := blk_free hq5 1; have lq5 := lt_of_block hq5
          have cc5_0 := blk_cell hc5 0 rfl; have fc5_0 := blk_free hc5 0; have cc5_1 := blk_cell hc5 1 rfl; have fc5_1 := blk_free hc5 1; have lc5 := lt_of_block hc5
          have hg1 := only_below (only_below (only_of_below hbx (some b)) hby hz3) hbz Cb
          go_upto_region 18 with fail
          · obtain ⟨e1, e2⟩ := Clk.next_said (d := d) (r := r) (lo := lo) (hi := hi) (a := a) (g := g) (k := k) (h := h) X y Ca Ca
            go_wp2_with fail
            go_ret
            exact post_err e1 e2 Af Ab
          · obtain ⟨wr, hwr⟩ : ∃ wr : World, wr = wc := ⟨_, rfl⟩
            subst hwr
            go_cut [] (fun wz => EndCut wr b d r lo hi a g k h w.heap.size wo.heap.size wz)
            case first =>
              go_wp2_with fail
              all_goals
                go_meet
                refine ⟨Af, Aa, ?_, A9⟩
                rw [Clk.nLo_if, Clk.nHi_if]
                (split <;> (try split) <;> (first | (exfalso; omega) | exact Aa))
            case rest =>
              obtain ⟨hk6, hx6, hc6, hbe⟩ := hcut
              have hz6 := hbe.size
              obtain ⟨q60, q61, q62, q63, q64, q65⟩ := clk_cells hk6; obtain ⟨z60, z61, z62, z63, z64, z65⟩ := clk_free hk6; have hlt6 := clk_lt hk6
              have cx6_0 := blk_cell hx6 0 rfl; have fx6_0 := blk_free hx6 0; have cx6_1 := blk_cell hx6 1 rfl; have fx6_1 := blk_free hx6 1; have cx6_2 := blk_cell hx6 2 rfl; have fx6_2 := blk_free hx6 2; have cx6_3 := blk_cell hx6 3 rfl; have fx6_3 := blk_free hx6 3; have lx6 := lt_of_block hx6
              have cc6_0 := blk_cell hc6 0 rfl; have fc6_0 := blk_free hc6 0; have cc6_1 := blk_cell hc6 1 rfl; have fc6_1 := blk_free hc6 1; have lc6 := lt_of_block hc6
              have hg2 := only_below hg1 hbe Cb
              go_wp2_with fail
              · have e1 := Clk.next_check' (d := d) (r := r) (lo := lo) (hi := hi) (a := a) (g := g) (k := k) (h := h) X y Ca Ca Ca
                go_ret
                exact post_err e1 C8 Af Ab
              · have E1 := Lib.hid (Clk.next_ok' (d := d) (r := r) (lo := lo) (hi := hi) (a := a) (g := g) (k := k) (h := h) X y Ca Ca Ca)
                go_region
                all_goals go_wp2_with fail
                all_goals go_ret
                all_goals exact post_ok E1.out rfl rfl Ac Ab
end Go.Proofs.YtdocdgcdldpagaaGreat.Ck
namespace Go.Proofs.YtdocdgcdldpagaaGreat.Ck
open Go.RowKit
set_option maxRecDepth 100000
set_option maxHeartbeats 4000000
set_option linter.unusedSimpArgs false
set_option linter.unusedVariables false
theorem add_any (b : Nat) (d r : Int) (s : Bool) (lo hi a g k h : Int) (w : World) (hk : IsClk w b d r true s lo hi) (c : Clk.CInv d r lo hi) :
    Calls Tryz.prog 165 #[.pointer (some ⟨b, 0, none⟩), .agg #[.int .i64 a, .int .i64 g, .int .i64 k, .int .i64 h]] w fun e w' => AddPost w b d r s lo hi a g k h e w' := by
  by_cases x : (-1073741824 ≤ a ∧ a ≤ h ∧ h ≤ 1073741824 ∧ 0 ≤ g ∧ g ≤ k ∧ k ≤ 3600000)
  · obtain ⟨x1, x2, x3, x4, x5, x6⟩ := x
    cases s with
    | false => exact add_first b d r lo hi a g k h w hk c.1 c.2.1 x1 x2 x3 x4 x5 x6
    | true =>
      by_cases y : h < r
      · exact add_early b d r lo hi a g k h w hk c.1 c.2.1 x1 x2 x3 x4 x5 x6 y
      · exact add_next b d r lo hi a g k h w hk c x1 x2 x3 x4 x5 x6 Cb
  · exact add_bad b d r s lo hi a g k h w hk x
theorem add_zero (b : Nat) (d r : Int) (s : Bool) (lo hi a g k h : Int) (w : World) (hk : IsClk w b d r false s lo hi) :
    Calls Tryz.prog 165 #[.pointer (some ⟨b, 0, none⟩), .agg #[.int .i64 a, .int .i64 g, .int .i64 k, .int .i64 h]] w fun e w' => e = .returned (.int .i64 1) ∧ Below w.heap.size w w' := by
  go_enter Tryz.func165, Tryz.ntmps165
  go_wp2_with (first | (go_at_call 125; refine (none_zero b d r s lo hi _ Af).mono ?_; rintro e w' ⟨rfl, rfl⟩))
  go_ret
  exact ⟨rfl, A9⟩
end Go.Proofs.YtdocdgcdldpagaaGreat.Ck
namespace Go.Proofs.YtdocdgcdldpagaaGreat.Ck
open Go.RowKit
set_option maxHeartbeats 4000000
set_option linter.unusedSimpArgs false
set_option linter.unusedVariables false
set_option maxRecDepth 100000
theorem Db {p : Prop} (h : p := by
  go_enter Tryz.func181, Tryz.ntmps181
  go_wp2_with fail
  go_quiet (fail)
  go_wp2_with fail
  go_ret
  exact ⟨ret_bool (by rw [G.out]), A9⟩
 ) : p := h
theorem sure1 (b B T : Nat) (d r : Int) (s : Bool) (lo hi time l : Int) (w : World) (hk : IsClk w b d r true s lo hi) (hB : w.heap[B]? = some (.cells #[.pointer (some ⟨b, 0, none⟩)] 166 (0, 0))) (hT : w.heap[T]? = some (.cells #[.int .i64 time] 3 (0, 0)))
    (h0 : 0 ≤ d) (h1 : d ≤ 100000) (l0 : -1073741824 ≤ lo) (l1 : lo ≤ 1073741824) (y0 : 0 ≤ l) (y1 : l ≤ 2147483650) :
    Calls Tryz.prog 181 #[.int .i64 l, .pointer (some ⟨B, 0, none⟩), .pointer (some ⟨T, 0, none⟩)] w fun e w' => e = .returned (.bool (decide (time ≤ Clk.gLo lo d l))) ∧ Below w.heap.size w w' := by
  obtain ⟨q0, q1, q2, q3, q4, q5⟩ := clk_cells hk; obtain ⟨z0, z1, z2, z3, z4, z5⟩ := clk_free hk; have hlt := clk_lt hk
  have cB_0 := blk_cell hB 0 rfl; have fB_0 := blk_free hB 0; have lB := lt_of_block hB
  have cT_0 := blk_cell hT 0 rfl; have fT_0 := blk_free hT 0; have lT := lt_of_block hT
  have k1 := IntWalk.i64_in (l - 1) Cb
  have k3 := IntWalk.i64_in (1000000 + d) Cb
  by_cases hl : 1 ≤ l
  · have a1 := Clk.lo_le l d hl h0 h1
    have k2 := IntWalk.i64_in ((l - 1) * 1000000) Cb
    have k4 := IntWalk.i64_in ((l - 1) * 1000000 / (1000000 + d)) Cb
    have k5 := IntWalk.i64_in (lo + (l - 1) * 1000000 / (1000000 + d)) Cb
    have G := Lib.hid (show Clk.gLo lo d l = lo + (l - 1) * 1000000 / (1000000 + d) by rw [Clk.gLo, if_pos hl]; rfl)
    exact Db
  · obtain rfl : l = 0 := by omega
    have G := Lib.hid (show Clk.gLo lo d 0 = lo by rw [Clk.gLo, if_neg hl])
    have k6 := IntWalk.i64_in lo Cb
    exact Db
def SearchRel (w : World) (n : Nat) (p : Nat → Bool) (kx : Nat) (s5 s6 : Value) (wr : World) : Prop :=
  ∃ lo hi : Nat, s5 = .int .i64 lo ∧ s6 = .int .i64 hi ∧ lo ≤ hi ∧ hi ≤ n ∧ hi - lo ≤ kx ∧ Below w.heap.size w wr ∧ (∀ t, t < lo → p t = false) ∧ (∀ t, hi ≤ t → t < n → p t = true)
theorem search_any (cb : Array Value) (n : Nat) (p : Nat → Bool) (w : World) (hn : n ≤ 2147483650)
    (hf : ∀ (wx : World) (i : Nat), Below w.heap.size w wx → i < n → Calls Tryz.prog 181 (#[.int .i64 i] ++ cb) wx fun e w' => e = .returned (.bool (p i)) ∧ Below wx.heap.size wx w')
    (hm : ∀ a b, a ≤ b → b < n → p a = true → p b = true) :
    Calls Tryz.prog 180 #[.int .i64 n, .func (.func 181) #[] cb] w fun e w' => ∃ m : Nat, e = .returned (.int .i64 m) ∧ m ≤ n ∧ (∀ t, t < m → p t = false) ∧ (∀ t, m ≤ t → t < n → p t = true) ∧ Below w.heap.size w w' := by
  have HF := Lib.hid hf
  have M := Lib.hid hm
  clear hf hm
  go_enter Tryz.func180, Tryz.ntmps180
  go_wp2_with fail
  go_loopg [5, 6] n (fun kx s5 s6 wr => SearchRel w n p kx s5 s6 wr)
  case atStart => exact ⟨0, n, rfl, rfl, Nat.zero_le _, Nat.le_refl _, by omega, Below.refl _ _, fun t ht => absurd ht (Nat.not_lt_zero _), fun t h1 h2 => by omega⟩
  case round =>
    obtain ⟨lo, hi, rfl, rfl, hlh, hin, hg, hb, i1, i2⟩ := hrel
    have hz := hb.size
    have I1 := Lib.hid i1
    have I2 := Lib.hid i2
    clear i1 i2
    by_cases hlt : lo < hi
    · have hc := HF.out wr ((lo + hi) / 2) hb Cb
      rw [show (((lo + hi) / 2 : Nat) : Int) = ((lo : Int) + (hi : Int)) / 2 by omega] at hc
      cases hp : p ((lo + hi) / 2) <;> rw [hp] at hc
      · have HP := Lib.hid hp
        have HC := Lib.hid hc
        clear hc hp
        go_wp2_with fail
        refine HC.out.mono ?_
        rintro e w1 ⟨rfl, hb1⟩
        go_wp2_with fail
        go_roundg (hi - ((lo + hi) / 2 + 1))
        case rel =>
          refine ⟨(lo + hi) / 2 + 1, hi, by go_num, rfl, by omega, hin, by omega, A9, fun t ht => ?_, I2.out⟩
          cases hpt : p t with
          | false => rfl
          | true => rw [M.out t ((lo + hi) / 2) Cb Cb hpt] at HP; exact absurd HP.out C9
        case measure => omega
      · have HP := Lib.hid hp
        have HC := Lib.hid hc
        clear hc hp
        go_wp2_with fail
        refine HC.out.mono ?_
        rintro e w1 ⟨rfl, hb1⟩
        go_wp2_with fail
        go_roundg ((lo + hi) / 2 - lo)
        case rel =>
          exact ⟨lo, (lo + hi) / 2, rfl, by go_num, by omega, by omega, by omega, A9, I1.out, fun t h1 h2 => M.out ((lo + hi) / 2) t h1 h2 HP.out⟩
        case measure => omega
    · go_wp2_with fail
      go_ret
      obtain rfl : lo = hi := by omega
      exact ⟨lo, rfl, hin, I1.out, I2.out, hb⟩
end Go.Proofs.YtdocdgcdldpagaaGreat.Ck
namespace Go.Proofs.YtdocdgcdldpagaaGreat.Ck
open Go.RowKit
set_option maxHeartbeats 4000000
set_option linter.unusedSimpArgs false
set_option linter.unusedVariables false
set_option maxRecDepth 100000
theorem sure_arg (b : Nat) (d r : Int) (s : Bool) (lo hi x : Int) (w : World) (hk : IsClk w b d r true s lo hi) (h : Clk.inB x 0 3600000 = false) :
    Calls Tryz.prog 175 #[.pointer (some ⟨b, 0, none⟩), .int .i64 x] w fun e w' => e = .returned (.tuple #[.int .i64 0, .int .i64 2]) ∧ Below w.heap.size w w' := by
  obtain ⟨q0, q1, q2, q3, q4, q5⟩ := clk_cells hk; obtain ⟨z0, z1, z2, z3, z4, z5⟩ := clk_free hk; have hlt := clk_lt hk
  have H := Lib.hid h
  clear h
  go_enter Tryz.func175, Tryz.ntmps175
  go_wp2_with (first | (go_at_call 125; refine (none_made b d r s lo hi _ Af).mono ?_; rintro e w' ⟨rfl, rfl⟩) | (go_at_call 126; refine (within_any _ _ _ _).mono ?_; rintro e w' ⟨rfl, rfl⟩; rw [H.out]))
  go_ret2
  exact ⟨rfl, A9⟩
theorem sure_none (b : Nat) (d r : Int) (lo hi x : Int) (w : World) (hk : IsClk w b d r true false lo hi) (h : 0 ≤ x ∧ x ≤ 3600000) :
    Calls Tryz.prog 175 #[.pointer (some ⟨b, 0, none⟩), .int .i64 x] w fun e w' => e = .returned (.tuple #[.int .i64 0, .int .i64 9]) ∧ Below w.heap.size w w' := by
  obtain ⟨q0, q1, q2, q3, q4, q5⟩ := clk_cells hk; obtain ⟨z0, z1, z2, z3, z4, z5⟩ := clk_free hk; have hlt := clk_lt hk
  go_enter Tryz.func175, Tryz.ntmps175
  go_wp2_with (first | (go_at_call 125; refine (none_made b d r false lo hi _ Af).mono ?_; rintro e w' ⟨rfl, rfl⟩) | (go_at_call 126; refine (within_yes _ _ _ _ h).mono ?_; rintro e w' ⟨rfl, rfl⟩))
  go_ret2
  exact ⟨rfl, A9⟩
theorem sure_some (b : Nat) (d r : Int) (lo hi x : Int) (w : World) (hk : IsClk w b d r true true lo hi) (c : Clk.CInv d r lo hi) (h : 0 ≤ x ∧ x ≤ 3600000) :
    Calls Tryz.prog 175 #[.pointer (some ⟨b, 0, none⟩), .int .i64 x] w fun e w' => e = .returned (.tuple #[.int .i64 (Clk.suV d r true lo x), .int .i64 (Clk.suE d r true lo x)]) ∧ Below w.heap.size w w' := by
  obtain ⟨h0, h1, r0, r1, l0, l1, l2⟩ := c
  obtain ⟨q0, q1, q2, q3, q4, q5⟩ := clk_cells hk; obtain ⟨z0, z1, z2, z3, z4, z5⟩ := clk_free hk; have hlt := clk_lt hk
  have N := Lib.hid (show ((Clk.suN r : Nat) : Int) = 1073741824 - r + 1 by unfold Clk.suN; omega)
  have S := Lib.hid (fun (wx : World) (hb : Below w.heap.size w wx) (hB : wx.heap[w.heap.size]? = some (.cells #[.pointer (some ⟨b, 0, none⟩)] 166 (0, 0))) (hT : wx.heap[w.heap.size + 1]? = some (.cells #[.int .i64 x] 3 (0, 0))) =>
    search_any #[.pointer (some ⟨w.heap.size, 0, none⟩), .pointer (some ⟨w.heap.size + 1, 0, none⟩)] (Clk.suN r) (Clk.suP d lo x) wx (by have := N.out; omega)
      (fun wy i hy hii => by
        have := N.out
        exact sure1 b w.heap.size (w.heap.size + 1) d r true lo hi x i wy (clk_below (clk_below hk hb hlt) hy (by have := hb.size; omega)) (blk_below hB hy (lt_of_block hB)) (blk_below hT hy (lt_of_block hT)) h0 h1 l0 Cb Cb Cb)
      (fun a b' hab _ hp => Clk.suP_mono h0 h1 a b' hab hp))
  have E1 := Lib.hid (fun (m : Nat) (q1 : m ≤ Clk.suN r) (q2 : ∀ t, t < m → Clk.suP d lo x t = false) (q3 : ∀ t, m ≤ t → t < Clk.suN r → Clk.suP d lo x t = true) => show Clk.suM d r lo x = m from Clk.cnt_eq _ m _ q1 q2 q3)
  have k1 := Clk.inB_iff.2 h
  have E2 := Lib.hid (show Clk.suM d r lo x = Clk.suN r → Clk.suV d r true lo x = 0 ∧ Clk.suE d r true lo x = 3 from fun e => by simp [Clk.suV, Clk.suE, k1, e])
  have E3 := Lib.hid (show ∀ m : Nat, m < Clk.suN r → Clk.suM d r lo x = m → Clk.suV d r true lo x = r + m ∧ Clk.suE d r true lo x = 0 from fun m hm e => by
    have e' : Clk.suE d r true lo x = 0 := by rw [Clk.suE, if_neg (by simp [k1]), if_neg C9, if_neg Cb]
    exact ⟨by rw [Clk.suV, if_pos e', e], e'⟩)
  clear k1
  go_enter Tryz.func175, Tryz.ntmps175
  go_wp2_with (first | (go_at_call 125; refine (none_made b d r true lo hi _ Af).mono ?_; rintro e w' ⟨rfl, rfl⟩) | (go_at_call 126; refine (within_yes _ _ _ _ h).mono ?_; rintro e w' ⟨rfl, rfl⟩))
  rw [← N.out]
  refine (S.out _ A9 Ae Ae).mono ?_
  rintro e w1 ⟨m, rfl, q1, q2, q3, hb1⟩
  have EM := Lib.hid (E1.out m q1 q2 q3)
  clear q2 q3
  have hk2 := clk_below (show IsClk _ b d r true true lo hi from Af) hb1 C6
  have hB2 := blk_below (q := w.heap.size) Ae hb1 Ba
  have hT2 := blk_below (q := w.heap.size + 1) Ae hb1 Ba
  obtain ⟨q20, q21, q22, q23, q24, q25⟩ := clk_cells hk2; obtain ⟨z20, z21, z22, z23, z24, z25⟩ := clk_free hk2; have hlt2 := clk_lt hk2
  have cB_0 := blk_cell hB2 0 rfl; have fB_0 := blk_free hB2 0; have lB := lt_of_block hB2
  have cT_0 := blk_cell hT2 0 rfl; have fT_0 := blk_free hT2 0; have lT := lt_of_block hT2
  rcases Nat.lt_or_ge m (Clk.suN r) with hm | hm
  · obtain ⟨v1, v2⟩ := E3.out m hm EM.out
    have V1 := Lib.hid v1
    have V2 := Lib.hid v2
    clear v1 v2
    have ht : ((m : Int) == (Clk.suN r : Int)) = false := by rw [beq_eq_false_iff_ne]; omega
    have hm2 : (m : Int) ≤ 2147483650 := by have := N.out; omega
    have k9 := IntWalk.i64_in (r + (m : Int)) Cb
    go_wp2_with fail
    go_ret2
    exact ⟨ret_ii V1.out.symm V2.out.symm, A9⟩
  · obtain rfl : m = Clk.suN r := by omega
    obtain ⟨v1, v2⟩ := E2.out EM.out
    have V1 := Lib.hid v1
    have V2 := Lib.hid v2
    clear v1 v2
    go_wp2_with fail
    go_ret2
    exact ⟨ret_ii V1.out.symm V2.out.symm, A9⟩
theorem sure_any (b : Nat) (d r : Int) (s : Bool) (lo hi x : Int) (w : World) (hk : IsClk w b d r true s lo hi) (c : Clk.CInv d r lo hi) :
    Calls Tryz.prog 175 #[.pointer (some ⟨b, 0, none⟩), .int .i64 x] w fun e w' => e = .returned (.tuple #[.int .i64 (Clk.suV d r s lo x), .int .i64 (Clk.suE d r s lo x)]) ∧ Below w.heap.size w w' := by
  cases h : Clk.inB x 0 3600000 with
  | false =>
    refine (sure_arg b d r s lo hi x w hk h).mono ?_
    rintro e w' ⟨rfl, hb⟩
    exact ⟨by simp [Clk.suV, Clk.suE, h], hb⟩
  | true =>
    cases s with
    | false =>
      refine (sure_none b d r lo hi x w hk (Clk.inB_iff.1 h)).mono ?_
      rintro e w' ⟨rfl, hb⟩
      exact ⟨by simp [Clk.suV, Clk.suE, h], hb⟩
    | true => exact sure_some b d r lo hi x w hk c (Clk.inB_iff.1 h)
end Go.Proofs.YtdocdgcdldpagaaGreat.Ck
namespace Go.Proofs.YtdocdgcdldpagaaGreat.Ck
open Go.RowKit
set_option maxHeartbeats 4000000
set_option linter.unusedSimpArgs false
set_option linter.unusedVariables false
def gOk (lo hi d l : Int) : Bool := Clk.vB lo hi && Clk.inB d 0 100000 && Clk.inB l 0 1073741824
theorem gOk_of {lo hi d l : Int} (h1 : Clk.vB lo hi = true) (h2 : Clk.inB d 0 100000 = true) (h3 : (!Clk.inB l 0 1073741824) = false) : gOk lo hi d l = true := by simp_all [gOk]
def GLo (lo hi d l : Int) : Int := if gOk lo hi d l then Clk.rLo lo hi d l else 0
def GHi (lo hi d l : Int) : Int := if gOk lo hi d l then Clk.rHi hi d l else 0
def GE (lo hi d l : Int) : Int := if gOk lo hi d l then Clk.rE hi d l else 2
set_option maxRecDepth 100000 in
theorem rGrow_any (lo hi d l : Int) (w : World) :
    Calls Tryz.prog 122 #[.agg #[.int .i64 lo, .int .i64 hi], .int .i64 d, .int .i64 l] w fun e w' => e = .returned (.tuple #[.agg #[.int .i64 (GLo lo hi d l), .int .i64 (GHi lo hi d l)], .int .i64 (GE lo hi d l)]) ∧ Below w.heap.size w w' := by
  by_cases h : gOk lo hi d l
  · have e1 := Lib.hid (show GLo lo hi d l = Clk.rLo lo hi d l by rw [GLo, if_pos h])
    have e2 := Lib.hid (show GHi lo hi d l = Clk.rHi hi d l by rw [GHi, if_pos h])
    have e3 := Lib.hid (show GE lo hi d l = Clk.rE hi d l by rw [GE, if_pos h])
    simp only [gOk, Bool.and_eq_true, Clk.inB_iff, Clk.vB_iff] at h
    obtain ⟨⟨⟨hv1, hv2, hv3⟩, hd0, hd1⟩, hl0, hl1⟩ := h
    have V := Lib.hid (show ∀ W : World, Calls Tryz.prog 149 #[.agg #[.int .i64 lo, .int .i64 hi]] W fun e w' => e = .returned (.bool true) ∧ Below W.heap.size W w' from fun W => (rvalid_any lo hi W).mono fun e w' ⟨h1, h2⟩ => ⟨by rw [h1, Clk.vB_iff.2 ⟨hv1, hv2, hv3⟩], h2⟩)
    have a2 := Clk.hi_ge l d hl0 hd0 hd1
    have E4 := Lib.hid (Clk.grow_hi l d hd0 hd1)
    have E5 := Lib.hid (show (-(l + 1) * 1000000) / (1000000 - d) = - (((l+1)*1000000 + (1000000 - d) - 1) / (1000000 - d)) by rw [← E4.out]; omega)
    have a4 : -(2 * l + 3) ≤ (-(l + 1) * 1000000) / (1000000 - d) ∧ (-(l + 1) * 1000000) / (1000000 - d) ≤ - (l + 1) := by rw [E5.out]; omega
    have c1 := Lib.hid (show hi - (-(l + 1) * 1000000) / (1000000 - d) ≤ 1073741824 → Clk.rLo lo hi d l = Clk.gLo lo d l ∧ Clk.rHi hi d l = hi - (-(l + 1) * 1000000) / (1000000 - d) ∧ Clk.rE hi d l = 0 by
      rw [E5.out]; intro h; have h' : Clk.gHi hi d l ≤ 1073741824 := by simp only [Clk.gHi, Clk.vp]; omega
      exact ⟨by rw [Clk.rLo, if_pos h'], by rw [Clk.rHi, if_pos h']; simp only [Clk.gHi, Clk.vp]; omega, by rw [Clk.rE, if_pos h']⟩)
    have c2 := Lib.hid (show 1073741824 < hi - (-(l + 1) * 1000000) / (1000000 - d) → Clk.rLo lo hi d l = 0 ∧ Clk.rHi hi d l = 0 ∧ Clk.rE hi d l = 3 by
      rw [E5.out]; intro h; have h' : ¬ Clk.gHi hi d l ≤ 1073741824 := by simp only [Clk.gHi, Clk.vp]; omega
      exact ⟨by rw [Clk.rLo, if_neg h'], by rw [Clk.rHi, if_neg h'], by rw [Clk.rE, if_neg h']⟩)
    by_cases hl : 0 < l
    · have a1 := Clk.lo_le l d hl hd0 hd1
      have c3 := Lib.hid (show Clk.gLo lo d l = lo + (l - 1) * 1000000 / (1000000 + d) by rw [Clk.gLo, if_pos Cb]; rfl)
      go_enter Tryz.func122, Tryz.ntmps122
      go_wp2_with fail
      refine (V.out _).mono ?_
      rintro e w1 ⟨rfl, hb⟩
      have ca0_0 := (bcell hb).1 (w.heap.size) 0 Ba; have fa0_0 := (bcell hb).2 (w.heap.size) 0 Ba; have ca0_1 := (bcell hb).1 (w.heap.size) 1 Ba; have fa0_1 := (bcell hb).2 (w.heap.size) 1 Ba; have ca1_0 := (bcell hb).1 (w.heap.size + 1) 0 Ba; have fa1_0 := (bcell hb).2 (w.heap.size + 1) 0 Ba; have ca1_1 := (bcell hb).1 (w.heap.size + 1) 1 Ba; have fa1_1 := (bcell hb).2 (w.heap.size + 1) 1 Ba; try simp [go_sem] at ca0_0 fa0_0 ca0_1 fa0_1 ca1_0 fa1_0 ca1_1 fa1_1
      have hz : w.heap.size + 1 < w1.heap.size := by have := hb.size; simp at this; omega
      go_wp2_with (first | (go_at_call 123; refine (to_yes _ _ _ _ Cb).mono ?_; rintro e w' ⟨rfl, rfl⟩))
      go_region
      go_wp2_with fail
      have k1 := IntWalk.i64_in (l + 1) Cb
      have k2 := IntWalk.i64_in (-(l + 1)) Cb
      have k3 := IntWalk.i64_in (-(l + 1) * 1000000) Cb
      have k4 := IntWalk.i64_in (1000000 - d) Cb
      have k5 := IntWalk.i64_in (hi - (-(l + 1) * 1000000) / (1000000 - d)) Cb
      go_region_law (first | (go_simp; go_at_call 124; refine (down_any _ _ _ Bl Bl).mono ?_; rintro e w' ⟨rfl, rfl⟩))
      all_goals clear k1 k2 k3 k4 k5
      go_wp2_with fail
      all_goals first | (obtain ⟨d1, d2, d3⟩ := c1.out Cb; refine bodyPost_ret (v := .tuple #[.agg #[.int .i64 (lo + (l - 1) * 1000000 / (1000000 + d)), .int .i64 (hi - (-(l + 1) * 1000000) / (1000000 - d))], .int .i64 0]) ?_ rfl ⟨ret_bb (c3.out.symm.trans (d1.symm.trans e1.out.symm)) (d2.symm.trans e2.out.symm) (d3.symm.trans e3.out.symm), ?_⟩; (· simp [results, Tryz.results122, go_sem, ca0_0, ca0_1, ca1_0, ca1_1, hz]); (· exact A9)) | (obtain ⟨d1, d2, d3⟩ := c2.out Cb; refine bodyPost_ret (v := .tuple #[.agg #[.int .i64 0, .int .i64 0], .int .i64 3]) ?_ rfl ⟨ret_bb (d1.symm.trans e1.out.symm) (d2.symm.trans e2.out.symm) (d3.symm.trans e3.out.symm), ?_⟩; (· simp [results, Tryz.results122, go_sem, ca0_0, ca0_1, ca1_0, ca1_1, hz]); (· exact A9))
    · have c3 := Lib.hid (show Clk.gLo lo d l = lo by rw [Clk.gLo, if_neg Cb])
      go_enter Tryz.func122, Tryz.ntmps122
      go_wp2_with fail
      refine (V.out _).mono ?_
      rintro e w1 ⟨rfl, hb⟩
      have ca0_0 := (bcell hb).1 (w.heap.size) 0 Ba; have fa0_0 := (bcell hb).2 (w.heap.size) 0 Ba; have ca0_1 := (bcell hb).1 (w.heap.size) 1 Ba; have fa0_1 := (bcell hb).2 (w.heap.size) 1 Ba; have ca1_0 := (bcell hb).1 (w.heap.size + 1) 0 Ba; have fa1_0 := (bcell hb).2 (w.heap.size + 1) 0 Ba; have ca1_1 := (bcell hb).1 (w.heap.size + 1) 1 Ba; have fa1_1 := (bcell hb).2 (w.heap.size + 1) 1 Ba; try simp [go_sem] at ca0_0 fa0_0 ca0_1 fa0_1 ca1_0 fa1_0 ca1_1 fa1_1
      have hz : w.heap.size + 1 < w1.heap.size := by have := hb.size; simp at this; omega
      go_wp2_with (first | (go_at_call 123; refine (to_yes _ _ _ _ Cb).mono ?_; rintro e w' ⟨rfl, rfl⟩))
      have k1 := IntWalk.i64_in (l + 1) Cb
      have k2 := IntWalk.i64_in (-(l + 1)) Cb
      have k3 := IntWalk.i64_in (-(l + 1) * 1000000) Cb
      have k4 := IntWalk.i64_in (1000000 - d) Cb
      have k5 := IntWalk.i64_in (hi - (-(l + 1) * 1000000) / (1000000 - d)) Cb
      go_region_law (first | (go_simp; go_at_call 124; refine (down_any _ _ _ Bl Bl).mono ?_; rintro e w' ⟨rfl, rfl⟩))
      all_goals clear k1 k2 k3 k4 k5
      go_wp2_with fail
      all_goals first | (obtain ⟨d1, d2, d3⟩ := c1.out Cb; refine bodyPost_ret (v := .tuple #[.agg #[.int .i64 (lo), .int .i64 (hi - (-(l + 1) * 1000000) / (1000000 - d))], .int .i64 0]) ?_ rfl ⟨ret_bb (c3.out.symm.trans (d1.symm.trans e1.out.symm)) (d2.symm.trans e2.out.symm) (d3.symm.trans e3.out.symm), ?_⟩; (· simp [results, Tryz.results122, go_sem, ca0_0, ca0_1, ca1_0, ca1_1, hz]); (· exact A9)) | (obtain ⟨d1, d2, d3⟩ := c2.out Cb; refine bodyPost_ret (v := .tuple #[.agg #[.int .i64 0, .int .i64 0], .int .i64 3]) ?_ rfl ⟨ret_bb (d1.symm.trans e1.out.symm) (d2.symm.trans e2.out.symm) (d3.symm.trans e3.out.symm), ?_⟩; (· simp [results, Tryz.results122, go_sem, ca0_0, ca0_1, ca1_0, ca1_1, hz]); (· exact A9))
  · have e1 := Lib.hid (show GLo lo hi d l = 0 by rw [GLo, if_neg h])
    have e2 := Lib.hid (show GHi lo hi d l = 0 by rw [GHi, if_neg h])
    have e3 := Lib.hid (show GE lo hi d l = 2 by rw [GE, if_neg h])
    have H := Lib.hid h
    clear h
    go_enter Tryz.func122, Tryz.ntmps122
    go_wp2_with fail
    refine (rvalid_any _ _ _).mono ?_
    rintro e w1 ⟨rfl, hb⟩
    obtain ⟨hc, hf⟩ := bcell hb; have hz : w.heap.size + 1 < w1.heap.size := (by have := hb.size; simp at this; omega)
    have a : True := trivial
    go_wp2_with (first | (go_at_call 123; refine (to_any _ _ _ _).mono ?_; rintro e w' ⟨rfl, rfl⟩))
    all_goals first | (refine bodyPost_ret (v := .tuple #[.agg #[.int .i64 0, .int .i64 0], .int .i64 2]) ?_ rfl ⟨ret_bb e1.out.symm e2.out.symm e3.out.symm, ?_⟩; (· simp [results, Tryz.results122, go_sem, hc, hz]); (· exact A9)) | skip
    all_goals (exfalso; exact absurd (gOk_of ‹_› ‹_› ‹_›) H.out)
end Go.Proofs.YtdocdgcdldpagaaGreat.Ck

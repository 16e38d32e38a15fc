/- The law of the pilots' times holds: 'skylanternlaw37.PilotNexts' returns true at every input. No conditions. -/
import Derived.Test.YtjidchaejicjaaaPlNx
import Derived.Test.YtjidchaejicjaaaPlAE
import Derived.Test.YtjidchaejicjaaaFrC
namespace Go.Proofs.Ytjidchaejicjaaa.lawPilotNexts
open Go.ChangeShapes Go.WideShapes Go.ChangeAt Go.RowKit Go.Joins
set_option linter.unusedVariables false
set_option linter.unusedSimpArgs false
attribute [local go_sem ↓] Go.wp_at_zero Go.wp_at_succ
set_option maxHeartbeats 8000000
set_option maxRecDepth 100000
theorem walk (a0 : Int) (a10 a11 a12 a13 a14 : Int) (a2 : Int) (a3 : Option Addr) (len3 cap3 : Nat) (l3 : List LAct) (w : World) (w0 : (Lit.int .i64 a0).wf = true) (w10 : (Lit.int .i64 a10).wf = true) (w11 : (Lit.int .i64 a11).wf = true) (w12 : (Lit.int .i64 a12).wf = true) (w13 : (Lit.int .i64 a13).wf = true) (w14 : (Lit.int .i64 a14).wf = true) (w2 : (Lit.int .i64 a2).wf = true) (w3 : LRf w w.heap.size a3 len3 l3) (r3 : Room a3 len3 cap3) (f3 : ∀ y ∈ l3, LaOk y) :
    Calls Try.prog 6 #[.int .i64 a0, .agg #[.int .i64 a10, .int .i64 a11, .int .i64 a12, .int .i64 a13, .int .i64 a14], .int .i64 a2, .slice a3 len3 cap3] w fun e w' => e = .returned (.bool true) ∧ Below w.heap.size w w' := by
  have FW := Lib.hid (fun (W : World) (hW : LRf W w.heap.size a3 len3 l3) => few_any a3 len3 cap3 30 w.heap.size l3 W hW (by have h1 := r3.1; have h2 := r3.2.1; unfold maxLen at h2; omega) (by omega))
  have HW := Lib.hid w3
  clear w0 w10 w11 w12 w13 w14 w2 w3 r3 f3
  cases hfew : fewB l3 30
  · rw [hfew] at FW
    clear hfew
    go_enter Try.func6, Try.ntmps6
    go_upto_region 1 with fail; generalize hV : World.alloc _ _ = V0; have k0 : V0.heap[w.heap.size]? = some (.cells #[.int .i64 a10, .int .i64 a11, .int .i64 a12, .int .i64 a13, .int .i64 a14] 23 (0, 0)) := (by rw [← hV]; exact heap_new _ _); have HB := Lib.hid (show Below w.heap.size w V0 by rw [← hV]; exact (Below.refl _ _).alloc (Nat.le_refl _) _); clear hV; (have cf_0 := blk_cell k0 0 rfl; have ff_0 := blk_free k0 0; have cf_1 := blk_cell k0 1 rfl; have ff_1 := blk_free k0 1; have cf_2 := blk_cell k0 2 rfl; have ff_2 := blk_free k0 2; have cf_3 := blk_cell k0 3 rfl; have ff_3 := blk_free k0 3; have cf_4 := blk_cell k0 4 rfl; have ff_4 := blk_free k0 4; have lf := lt_of_block k0); go_wp2_with fail; refine (FW.out _ (HW.out.below HB.out (Nat.le_refl _))).mono ?_; rintro e w' ⟨rfl, rfl⟩
    go_wp2_with fail; refine (known_true _).mono ?_; rintro e W9 ⟨rfl, hb9⟩; have HB9 := Lib.hid (HB.out.trans (hb9.mono HB.out.size)); clear hb9; go_wp2_with fail; go_ret; exact ⟨rfl, HB9.out⟩
  rw [hfew] at FW
  have hlen : l3.length ≤ 30 ∧ ∀ y ∈ l3, okA y = true := by
    unfold fewB at hfew
    simp only [Bool.and_eq_true, decide_eq_true_eq, List.all_eq_true] at hfew
    exact hfew
  have hl60 : len3 ≤ 30 := by rw [← HW.out.1]; exact hlen.1
  have AL := Lib.hid hlen.2
  clear hfew hlen
  by_cases hv : Plt.newE a0 a10 a11 a12 a13 a14 a2 = 0
  case neg =>
    have M := Lib.hid (fun W : World => made_no a0 a10 a11 a12 a13 a14 a2 W hv)
    clear hv
    go_enter Try.func6, Try.ntmps6
    go_upto_region 1 with fail; generalize hV : World.alloc _ _ = V0; have k0 : V0.heap[w.heap.size]? = some (.cells #[.int .i64 a10, .int .i64 a11, .int .i64 a12, .int .i64 a13, .int .i64 a14] 23 (0, 0)) := (by rw [← hV]; exact heap_new _ _); have HB := Lib.hid (show Below w.heap.size w V0 by rw [← hV]; exact (Below.refl _ _).alloc (Nat.le_refl _) _); clear hV; (have cf_0 := blk_cell k0 0 rfl; have ff_0 := blk_free k0 0; have cf_1 := blk_cell k0 1 rfl; have ff_1 := blk_free k0 1; have cf_2 := blk_cell k0 2 rfl; have ff_2 := blk_free k0 2; have cf_3 := blk_cell k0 3 rfl; have ff_3 := blk_free k0 3; have cf_4 := blk_cell k0 4 rfl; have ff_4 := blk_free k0 4; have lf := lt_of_block k0); go_wp2_with fail; refine (FW.out _ (HW.out.below HB.out (Nat.le_refl _))).mono ?_; rintro e w' ⟨rfl, rfl⟩
    go_wp2_with fail
    refine (M.out _).mono ?_
    rintro e W1 ⟨rfl, hb1⟩
    have z1 := heap_new W1 (.cells (rag rzero).toArray 54 (0, 0))
    have hz1 : w.heap.size < W1.heap.size := lt_of_block (blk_below k0 hb1 (lt_of_block k0))
    have HB1 := Lib.hid ((HB.out.trans (hb1.mono HB.out.size)).alloc (by omega) (.cells (rag rzero).toArray 54 (0, 0)))
    clear cf_0 ff_0 cf_1 ff_1 cf_2 ff_2 cf_3 ff_3 cf_4 ff_4
    clear k0 HB hb1
    (go_upto_region 4 with (refine wpList_store_row rfl 54 _ _ rfl _ _ rfl rfl 54 _ z1 (by kernel_rfl) rfl (rag_one _) ?_))
    generalize hW : World.setRow _ _ _ = W2
    have HB := Lib.hid (show Below w.heap.size w W2 by rw [← hW]; exact below_setRow HB1.out (by omega) _)
    clear hW z1 HB1
    go_wp2_with fail; refine (known_true _).mono ?_; rintro e W9 ⟨rfl, hb9⟩; have HB9 := Lib.hid (HB.out.trans (hb9.mono HB.out.size)); clear hb9; go_wp2_with fail; go_ret; exact ⟨rfl, HB9.out⟩
  have M := Lib.hid (fun W : World => made_yes a0 a10 a11 a12 a13 a14 a2 W hv)
  have HI := Lib.hid (Plt.new_inv hv)
  obtain ⟨s0, hs0⟩ : ∃ s0, s0 = Plt.new a0 a10 a11 a12 a13 a14 a2 := ⟨_, rfl⟩
  have hrep0 : s0.reports = 0 := by rw [hs0]; rfl
  rw [← hs0] at M HI
  have HR0 := Lib.hid hrep0
  clear hv hs0 hrep0
  go_enter Try.func6, Try.ntmps6
  go_upto_region 1 with fail; generalize hV : World.alloc _ _ = V0; have k0 : V0.heap[w.heap.size]? = some (.cells #[.int .i64 a10, .int .i64 a11, .int .i64 a12, .int .i64 a13, .int .i64 a14] 23 (0, 0)) := (by rw [← hV]; exact heap_new _ _); have HB := Lib.hid (show Below w.heap.size w V0 by rw [← hV]; exact (Below.refl _ _).alloc (Nat.le_refl _) _); clear hV; (have cf_0 := blk_cell k0 0 rfl; have ff_0 := blk_free k0 0; have cf_1 := blk_cell k0 1 rfl; have ff_1 := blk_free k0 1; have cf_2 := blk_cell k0 2 rfl; have ff_2 := blk_free k0 2; have cf_3 := blk_cell k0 3 rfl; have ff_3 := blk_free k0 3; have cf_4 := blk_cell k0 4 rfl; have ff_4 := blk_free k0 4; have lf := lt_of_block k0); go_wp2_with fail; refine (FW.out _ (HW.out.below HB.out (Nat.le_refl _))).mono ?_; rintro e w' ⟨rfl, rfl⟩
  go_wp2_with fail
  refine (M.out _).mono ?_
  rintro e W1 ⟨b, c, rfl, hp1, hb1⟩
  have z1 := heap_new W1 (.cells (rag rzero).toArray 54 (0, 0))
  have hz1 : w.heap.size < W1.heap.size := lt_of_block (blk_below k0 hb1 (lt_of_block k0))
  have HB1 := Lib.hid ((HB.out.trans (hb1.mono HB.out.size)).alloc (by omega) (.cells (rag rzero).toArray 54 (0, 0)))
  have HP1 := Lib.hid ((hp1.lower HB.out.size).alloc (.cells (rag rzero).toArray 54 (0, 0)))
  clear cf_0 ff_0 cf_1 ff_1 cf_2 ff_2 cf_3 ff_3 cf_4 ff_4
  clear k0 HB hb1 hp1 M
  (go_upto_region 4 with (refine wpList_store_row rfl 54 _ _ rfl _ _ rfl rfl 54 _ z1 (by kernel_rfl) rfl (rag_one _) ?_))
  generalize hW : World.setRow _ _ _ = W2
  have HS := Lib.hid (show PS w.heap.size b c W1.heap.size s0 0 w W2 from ⟨by rw [← hW]; exact HP1.out.setRow _ ⟨_, z1⟩, HI.out, by rw [HR0.out]; omega, by rw [← hW]; exact setRow_heap _ _ _ _ _ _ z1, by rw [← hW]; exact below_setRow HB1.out (by omega) _⟩)
  have hR0 : w.heap.size ≤ W1.heap.size := by omega
  obtain ⟨R, hR⟩ : ∃ R, R = W1.heap.size := ⟨_, rfl⟩
  rw [← hR] at HS hR0 ⊢
  clear hW z1 HB1 HP1 hR hz1 HI HR0
  go_wp2_with fail
  go_loopw [12] (fun sl wr => ∃ (i : Nat) (s : Plt.St), sl = .int .i64 i ∧ i ≤ len3 ∧ Hid (PS w.heap.size b c R s i w wr)) (fun sl _ => len3 - (intOf sl).toNat)
  case atStart => exact ⟨0, s0, by go_num, by omega, HS⟩
  case round =>
    obtain ⟨i, s, rfl, hi, HQ⟩ := hrel
    clear HS
    have HP := Lib.hid HQ.out.1
    have HI := Lib.hid HQ.out.2.1
    have HRP := Lib.hid HQ.out.2.2.1
    have g0 : RB wr R s := HQ.out.2.2.2.1
    have HB := Lib.hid HQ.out.2.2.2.2
    clear HQ
    by_cases hlt : i < len3
    case neg =>
      obtain rfl : i = len3 := by omega
      have hRl := lt_of_block g0
      have hr0 : s.reports < 1000000000 := by have := HRP.out; omega
      obtain ⟨n, hn⟩ : ∃ n, n = Plt.next s := ⟨_, rfl⟩
      cases hbg : s.begun
      · have NX := Lib.hid (show Calls Try.prog 23 #[.pointer (some ⟨b, 0, none⟩)] wr fun e w' => e = .returned (.tuple #[.int .i64 0, .int .i64 9]) ∧ Below wr.heap.size wr w' from by have := pnext_any HP.out HI.out; rw [hbg] at this; exact this)
        go_wp2_with fail
        refine NX.out.mono ?_
        rintro e W1 ⟨rfl, hb1⟩
        have r1 := blk_below g0 hb1 hRl
        have c12 : W1.cell? ⟨R, 12, none⟩ = some (.bool false) := by have h : W1.cell? ⟨R, 12, none⟩ = some (.bool s.begun) := blk_cell r1 12 rfl; rw [hbg] at h; exact h
        have HB := Lib.hid (HB.out.trans (hb1.mono HB.out.size))
        clear hb1 r1 g0 NX HP HI HRP hn hbg
        go_wp2_with fail; refine (known_true _).mono ?_; rintro e W9 ⟨rfl, hb9⟩; have HB9 := Lib.hid (HB.out.trans (hb9.mono HB.out.size)); clear hb9; go_wp2_with fail; go_ret; exact ⟨rfl, HB9.out⟩
      · have NX := Lib.hid (show Calls Try.prog 23 #[.pointer (some ⟨b, 0, none⟩)] wr fun e w' => e = .returned (.tuple #[.int .i64 n, .int .i64 0]) ∧ Below wr.heap.size wr w' from by have := pnext_any HP.out HI.out; rw [hbg, ← hn] at this; exact this)
        by_cases hbig : 1000000000 < n
        · go_wp2_with fail
          refine NX.out.mono ?_
          rintro e W1 ⟨rfl, hb1⟩
          have r1 := blk_below g0 hb1 hRl
          have c12 : W1.cell? ⟨R, 12, none⟩ = some (.bool true) := by have h : W1.cell? ⟨R, 12, none⟩ = some (.bool s.begun) := blk_cell r1 12 rfl; rw [hbg] at h; exact h
          have HB := Lib.hid (HB.out.trans (hb1.mono HB.out.size))
          clear hb1 r1 g0 NX HP HI HRP hn hbg
          go_wp2_with fail; refine (known_true _).mono ?_; rintro e W9 ⟨rfl, hb9⟩; have HB9 := Lib.hid (HB.out.trans (hb9.mono HB.out.size)); clear hb9; go_wp2_with fail; go_ret; exact ⟨rfl, HB9.out⟩
        · have hge : s.now ≤ n := by rw [hn]; exact Plt.next_ge s
          have hnow := HI.out.now
          go_wp2_with fail
          refine NX.out.mono ?_
          rintro e W1 ⟨rfl, hb1⟩
          have r1 := blk_below g0 hb1 hRl
          have c12 : W1.cell? ⟨R, 12, none⟩ = some (.bool true) := by have h : W1.cell? ⟨R, 12, none⟩ = some (.bool s.begun) := blk_cell r1 12 rfl; rw [hbg] at h; exact h
          have c16 : W1.cell? ⟨R, 16, none⟩ = some (.int .i64 s.now) := blk_cell r1 16 rfl
          have HB1 := Lib.hid (HB.out.trans (hb1.mono HB.out.size))
          have HP1 := Lib.hid (HP.out.below hb1 (Nat.le_refl _))
          have ST1 := Lib.hid (pstate_any HP1.out HI.out)
          have HG := Lib.hid hbg
          have HN := Lib.hid hn
          clear hb1 r1 g0 NX HP hbg hn HRP HB
          go_wp2_with fail
          refine ST1.out.mono ?_
          rintro e w' ⟨rfl, rfl⟩
          clear ST1
          by_cases hgt : s.now < n
          · have wn : IntKind.i64.wrap (n - 1) = n - 1 := IntWalk.i64_in _ (by omega)
            have HQ := Lib.hid (Plt.tick_quiet HI.out HG.out (by rw [← HN.out]; exact hgt) (by rw [← HN.out]; omega))
            rw [← HN.out] at HQ
            have TK := Lib.hid (show Calls Try.prog 15 #[.pointer (some ⟨b, 0, none⟩), .int .i64 (n - 1)] W1 (PRPost w.heap.size b c { s with now := n - 1 } [] 0 W1) from by have := ptick_any HP1.out HI.out hr0 (n - 1); rw [HQ.out.1, HQ.out.2.1, HQ.out.2.2] at this; exact this)
            have HI1 := Lib.hid (show Plt.Inv { s with now := n - 1 } by rw [← HQ.out.2.1]; exact Plt.tickS_inv HI.out (n - 1))
            have HD := Lib.hid (Plt.tick_does HI.out HG.out (n - 1) (by rw [← HN.out]; omega) (by rw [← HN.out]; omega) (Or.inr trivial))
            rw [← HN.out] at HD
            obtain ⟨s1, hs1⟩ : ∃ x : Plt.St, x = { s with now := n - 1 } := ⟨_, rfl⟩
            have hr1 : s1.reports < 1000000000 := by rw [hs1]; exact hr0
            have hst : s1.st = s.st := by rw [hs1]
            rw [← hs1] at TK HI1 HD
            have z : (s.st == s.st) = true := by simp
            clear hs1 HQ HN HG HI
            go_wp2_with fail
            refine TK.out.mono ?_
            rintro e W2 ⟨v, rfl, hv, hp2, hk2⟩
            obtain ⟨A, cp, rfl⟩ := hv.form
            rw [List.length_nil]
            have HB2 := Lib.hid (act_below HB1.out HB1.out.size HP1.out hk2)
            have HP2 := Lib.hid hp2
            have ST2 := Lib.hid (pstate_any HP2.out HI1.out)
            rw [hst] at ST2
            clear hv hp2 hk2 TK HP1 HB1 hst
            go_wp2_with fail
            refine ST2.out.mono ?_
            rintro e wq ⟨rfl, rfl⟩
            clear ST2
            have hd := HD.out
            clear HD
            have TN := Lib.hid (show Calls Try.prog 15 #[.pointer (some ⟨b, 0, none⟩), .int .i64 n] W2 (PRPost w.heap.size b c (Plt.tickS s1 n) (Plt.tickF s1 n) 0 W2) from by have := ptick_any HP2.out HI1.out hr1 n; rw [hd.1] at this; exact this)
            have HI2 := Lib.hid (Plt.tickS_inv HI1.out n)
            have hd2 := hd.2
            obtain ⟨s2, hs2⟩ : ∃ x, x = Plt.tickS s1 n := ⟨_, rfl⟩
            obtain ⟨fr, hfr⟩ : ∃ x, x = Plt.tickF s1 n := ⟨_, rfl⟩
            rw [← hs2, ← hfr] at TN hd2
            rw [← hs2] at HI2
            obtain ⟨L, hL⟩ : ∃ L, L = fr.length := ⟨_, rfl⟩
            rw [← hL] at hd2
            have hd2 := Lib.hid hd2
            clear hs2 hd
            go_wp2_with fail
            refine TN.out.mono ?_
            rintro e W3 ⟨v, rfl, hv, hp3, hk3⟩
            obtain ⟨A, cp, rfl⟩ := hv.form
            rw [← hL]
            have HB := Lib.hid (act_below HB2.out HB2.out.size HP2.out hk3)
            have HP3 := Lib.hid hp3
            clear hv hp3 hk3 TN hL hfr HB2 HP2
            by_cases h1 : L = 1
            · rw [h1]
              clear hd2
              go_wp2_with fail; refine (known_true _).mono ?_; rintro e W9 ⟨rfl, hb9⟩; have HB9 := Lib.hid (HB.out.trans (hb9.mono HB.out.size)); clear hb9; go_wp2_with fail; go_ret; exact ⟨rfl, HB9.out⟩
            · have ST := Lib.hid (pstate_any HP3.out HI2.out)
              have hne : s2.st ≠ s.st := hd2.out.resolve_left h1
              have zb : (s2.st == s.st) = false := by simp [hne]
              have hL1 : ¬ ((L : Int) = 1) := by omega
              clear hd2 HP3 HI2
              go_wp2_with fail
              refine ST.out.mono ?_
              rintro e w' ⟨rfl, rfl⟩
              have hbb : ((L : Int) == 1 || s2.st != s.st) = true := by simp [hne]
              have HBB := Lib.hid hbb
              clear hbb
              go_wp2_with fail; refine (known_true _).mono ?_; rintro e W9 ⟨rfl, hb9⟩; have HB9 := Lib.hid (HB.out.trans (hb9.mono HB.out.size)); clear hb9; go_wp2_with fail; go_ret; exact ⟨congrArg (fun z => Ending.returned (Value.bool z)) HBB.out, HB9.out⟩
          · have HD := Lib.hid (Plt.tick_does HI.out HG.out s.now (by rw [← HN.out]; exact hge) (by rw [← HN.out]; omega) (Or.inr trivial))
            rw [← HN.out] at HD
            have hd := HD.out
            obtain ⟨s1, hs1⟩ : ∃ s1, s1 = s := ⟨_, rfl⟩
            have hr1 : s1.reports < 1000000000 := by rw [hs1]; exact hr0
            have HI1 := Lib.hid (show Plt.Inv s1 by rw [hs1]; exact HI.out)
            have HP2 := Lib.hid (show IsP W1 w.heap.size b c s1 by rw [hs1]; exact HP1.out)
            have HB2 := HB1
            have hd : Plt.timE s1 n = 0 ∧ ((Plt.tickF s1 n).length = 1 ∨ (Plt.tickS s1 n).st ≠ s.st) := by rw [hs1]; exact HD.out
            clear HD HN HG HP1 HB1 HI hs1
            have TN := Lib.hid (show Calls Try.prog 15 #[.pointer (some ⟨b, 0, none⟩), .int .i64 n] W1 (PRPost w.heap.size b c (Plt.tickS s1 n) (Plt.tickF s1 n) 0 W1) from by have := ptick_any HP2.out HI1.out hr1 n; rw [hd.1] at this; exact this)
            have HI2 := Lib.hid (Plt.tickS_inv HI1.out n)
            have hd2 := hd.2
            obtain ⟨s2, hs2⟩ : ∃ x, x = Plt.tickS s1 n := ⟨_, rfl⟩
            obtain ⟨fr, hfr⟩ : ∃ x, x = Plt.tickF s1 n := ⟨_, rfl⟩
            rw [← hs2, ← hfr] at TN hd2
            rw [← hs2] at HI2
            obtain ⟨L, hL⟩ : ∃ L, L = fr.length := ⟨_, rfl⟩
            rw [← hL] at hd2
            have hd2 := Lib.hid hd2
            clear hs2 hd
            go_wp2_with fail
            refine TN.out.mono ?_
            rintro e W3 ⟨v, rfl, hv, hp3, hk3⟩
            obtain ⟨A, cp, rfl⟩ := hv.form
            rw [← hL]
            have HB := Lib.hid (act_below HB2.out HB2.out.size HP2.out hk3)
            have HP3 := Lib.hid hp3
            clear hv hp3 hk3 TN hL hfr HB2 HP2
            by_cases h1 : L = 1
            · rw [h1]
              clear hd2
              go_wp2_with fail; refine (known_true _).mono ?_; rintro e W9 ⟨rfl, hb9⟩; have HB9 := Lib.hid (HB.out.trans (hb9.mono HB.out.size)); clear hb9; go_wp2_with fail; go_ret; exact ⟨rfl, HB9.out⟩
            · have ST := Lib.hid (pstate_any HP3.out HI2.out)
              have hne : s2.st ≠ s.st := hd2.out.resolve_left h1
              have zb : (s2.st == s.st) = false := by simp [hne]
              have hL1 : ¬ ((L : Int) = 1) := by omega
              clear hd2 HP3 HI2
              go_wp2_with fail
              refine ST.out.mono ?_
              rintro e w' ⟨rfl, rfl⟩
              have hbb : ((L : Int) == 1 || s2.st != s.st) = true := by simp [hne]
              have HBB := Lib.hid hbb
              clear hbb
              go_wp2_with fail; refine (known_true _).mono ?_; rintro e W9 ⟨rfl, hb9⟩; have HB9 := Lib.hid (HB.out.trans (hb9.mono HB.out.size)); clear hb9; go_wp2_with fail; go_ret; exact ⟨congrArg (fun z => Ending.returned (Value.bool z)) HBB.out, HB9.out⟩
    case pos =>
    obtain ⟨bb, oo, rfl, hbb, hcc⟩ := (HW.out.below HB.out (Nat.le_refl _)).2 (by omega)
    obtain ⟨FD, fc, c0, c1, c2, c3, c4, c5, hrd, hrm⟩ := hcc i hlt
    obtain ⟨x, hx⟩ : ∃ x, x = l3.getD i la0 := ⟨_, rfl⟩
    rw [← hx] at c0 c1 c2 c3 c4 c5 hrd
    have hok : okA x = true := AL.out x (by rw [hx]; simp [List.getD, List.getElem?_eq_getElem (show i < l3.length by rw [HW.out.1]; exact hlt)])
    unfold okA at hok
    simp only [decide_eq_true_eq] at hok
    have AC := Lib.hid (show ∀ W : World, IsP W w.heap.size b c s → w.heap.size ≤ W.heap.size → Rd W w.heap.size FD x.f.d.length x.f.d → Calls Try.prog 21 #[.pointer (some ⟨b, 0, none⟩), .agg (rag s).toArray, .agg #[.int .i64 x.now, .int .i64 x.f.k, .int .i64 x.f.f, .int .i64 x.f.t, .int .i64 x.f.s, .slice FD x.f.d.length fc]] W (ActPost w.heap.size b c (Plt.actS s x) W) from fun W h1 h2 h3 => act_any h1 HI.out (by have := HRP.out; omega) x FD fc (by omega) h2 h3)
    have HI2 := Lib.hid (Plt.actS_inv HI.out (a := x) hrd.2.1)
    have HRP2 := Lib.hid (show (Plt.actS s x).reports ≤ ((i + 1 : Nat) : Int) by have h1 := (Plt.actS_reports s x).1; have h2 := HRP.out; omega)
    obtain ⟨s', hs'⟩ : ∃ s', s' = Plt.actS s x := ⟨_, rfl⟩
    rw [← hs'] at AC HI2 HRP2
    have hzr := HB.out.size
    have HRD := Lib.hid hrd
    have hin : (i : Int) < (len3 : Int) := by omega
    have hG := Lib.hid g0
    have hRl := lt_of_block g0
    clear hcc hrd hrm hx hok hs' HI HRP
    go_upto_region 11 with fail
    refine wp_region_held_drew (S := fun w' => SC bb (oo + i * 6) x FD fc w') (by kernel_rfl) ?_ (fun h0 => ?_)
    · exact ⟨c0, c1, c2, c3, c4, c5⟩
    refine wpAnyH_take (i := 0) (v := ?_) rfl (by kernel_rfl) (by kernel_rfl) (by kernel_rfl) (fun _ _ _ h => h) (Or.inl ⟨by rfl, ?_⟩) h0 ?_
    rotate_left
    focus (intro w' hSw; skip; go_simp; (try with_reducible rfl))
    (try simp only [List.getElem_toArray, List.getElem_cons_succ, List.getElem_cons_zero, Act.put, List.setIfInBounds_toArray, List.set_cons_zero, List.set_cons_succ])
    refine wpAnyH_take (i := 2) (v := ?_) rfl (by kernel_rfl) (by kernel_rfl) (by kernel_rfl) (fun _ _ _ h => h) (Or.inl ⟨by rfl, ?_⟩) h0 ?_
    rotate_left
    focus (intro w' hSw; skip; go_simp; (try with_reducible rfl))
    (try simp only [List.getElem_toArray, List.getElem_cons_succ, List.getElem_cons_zero, Act.put, List.setIfInBounds_toArray, List.set_cons_zero, List.set_cons_succ])
    refine wpAnyH_take (i := 3) (v := ?_) rfl (by kernel_rfl) (by kernel_rfl) (by kernel_rfl) (fun _ _ _ h => h) (Or.inl ⟨by rfl, ?_⟩) h0 ?_
    rotate_left
    focus (intro w' hSw; skip; go_simp; (try with_reducible rfl))
    (try simp only [List.getElem_toArray, List.getElem_cons_succ, List.getElem_cons_zero, Act.put, List.setIfInBounds_toArray, List.set_cons_zero, List.set_cons_succ])
    refine wpAnyH_take (i := 4) (v := ?_) rfl (by kernel_rfl) (by kernel_rfl) (by kernel_rfl) (fun _ _ _ h => h) (Or.inl ⟨by rfl, ?_⟩) h0 ?_
    rotate_left
    focus (intro w' hSw; skip; go_simp; (try with_reducible rfl))
    (try simp only [List.getElem_toArray, List.getElem_cons_succ, List.getElem_cons_zero, Act.put, List.setIfInBounds_toArray, List.set_cons_zero, List.set_cons_succ])
    refine wpAnyH_take (i := 5) (v := ?_) rfl (by kernel_rfl) (by kernel_rfl) (by kernel_rfl) (fun _ _ _ h => h) (Or.inl ⟨by rfl, ?_⟩) h0 ?_
    rotate_left
    focus (intro w' hSw; obtain ⟨a0, a1, a2, a3, a4, a5⟩ := hSw; go_simp; (try with_reducible rfl))
    (try simp only [List.getElem_toArray, List.getElem_cons_succ, List.getElem_cons_zero, Act.put, List.setIfInBounds_toArray, List.set_cons_zero, List.set_cons_succ])
    clear c0 c1 c2 c3 c4 c5
    refine wpAnyH_ready (rs := [1]) (by kernel_rfl) (by simp) ?_
    refine AllReadyH.cons rfl (fun K hK => ?_) AllReadyH.nil
    refine wp_load_row 54 _ rfl R rfl 54 _ (0, 0) _ g0 Try.underlying54 rfl (by kernel_rfl) ?_
    refine hK.out _ _ ?_ (fun h1 => ?_)
    · exact h0
    clear hK K
    (try simp only [List.getElem_toArray, List.getElem_cons_succ, List.getElem_cons_zero, Act.put, List.setIfInBounds_toArray, List.set_cons_zero, List.set_cons_succ])
    refine wpAnyH_ready (rs := [6]) (by kernel_rfl) (by simp) ?_
    refine AllReadyH.cons rfl (fun K hK => ?_) AllReadyH.nil
    go_simp
    refine (AC.out _ HP.out.drew hzr HRD.out.drew).mono ?_
    rintro e W3 ⟨rfl, hp3, hk3⟩
    go_wp2_with fail
    refine hK.out _ _ ?_ (fun h2 => ?_)
    · exact h1.keep hk3 (HP.out.noA hbb)
    clear hK K
    (try simp only [List.getElem_toArray, List.getElem_cons_succ, List.getElem_cons_zero, Act.put, List.setIfInBounds_toArray, List.set_cons_zero, List.set_cons_succ])
    refine wpAnyH_take (i := 7) (v := ?_) rfl (by kernel_rfl) (by kernel_rfl) (by kernel_rfl) (fun _ _ _ h => h) (Or.inl ⟨by rfl, ?_⟩) h2 ?_
    rotate_left
    focus (intro w' hSw; skip; go_simp; (try with_reducible rfl))
    (try simp only [List.getElem_toArray, List.getElem_cons_succ, List.getElem_cons_zero, Act.put, List.setIfInBounds_toArray, List.set_cons_zero, List.set_cons_succ])
    refine wpAnyH_take (i := 8) (v := ?_) rfl (by kernel_rfl) (by kernel_rfl) (by kernel_rfl) (fun _ _ _ h => h) (Or.inl ⟨by rfl, ?_⟩) h2 ?_
    rotate_left
    focus (intro w' hSw; skip; go_simp; (try with_reducible rfl))
    (try simp only [List.getElem_toArray, List.getElem_cons_succ, List.getElem_cons_zero, Act.put, List.setIfInBounds_toArray, List.set_cons_zero, List.set_cons_succ])
    refine wpAnyH_take (i := 9) (v := ?_) rfl (by kernel_rfl) (by kernel_rfl) (by kernel_rfl) (fun _ _ _ h => h) (Or.inl ⟨by rfl, ?_⟩) h2 ?_
    rotate_left
    focus (intro w' hSw; skip; go_simp; (try with_reducible rfl))
    (try simp only [List.getElem_toArray, List.getElem_cons_succ, List.getElem_cons_zero, Act.put, List.setIfInBounds_toArray, List.set_cons_zero, List.set_cons_succ])
    have g3 := blk_keep (show (World.drew _).heap[R]? = _ from g0) hk3 (HP.out.noR g0)
    refine wpAnyH_ready (rs := [10]) (by kernel_rfl) (by simp) ?_
    refine AllReadyH.cons rfl (fun K hK => ?_) AllReadyH.nil
    refine wp_store_row 54 _ _ rfl _ _ rfl rfl 54 _ g3 (by kernel_rfl) rfl (rag_one _) ?_
    refine hK.out _ _ ?_ (fun h3 => ?_)
    · exact h2.setRow (by omega) _
    clear hK K
    (try simp only [List.getElem_toArray, List.getElem_cons_succ, List.getElem_cons_zero, Act.put, List.setIfInBounds_toArray, List.set_cons_zero, List.set_cons_succ])
    have hB3 : Below w.heap.size w W3 := act_below HB.out.drew hzr HP.out.drew hk3
    have HS3 := Lib.hid (show PS w.heap.size b c R s' (i + 1) w (W3.setRow R (rag s').toArray) from ⟨hp3.setRow _ ⟨_, g3⟩, HI2.out, HRP2.out, setRow_heap _ _ _ _ _ _ g3, below_setRow hB3 hR0 _⟩)
    clear h0 h1 h2 h3 hp3 hk3 g3 hB3
    refine wpAnyH_done (by kernel_rfl) ?_ _
    go_wp2_with fail
    go_roundw
    case rel => exact ⟨i + 1, s', by go_num, by omega, HS3⟩
    case measure => simp [intOf]; omega
theorem own : ownKnob Try.prog.godebug = none := by kernel_rfl
theorem laidOut : laidOutB Try.prog = true := by kernel_rfl
theorem cells23 : Try.prog.cellsOf 23 = 5 := by kernel_rfl
set_option maxRecDepth 100000 in
theorem lifted (os : Os) (started : os.Started) (H : Type) (enc : TypeId × Value → H) :
    ReturnsInHanded {} Try.checked os 6 .any (Rows.pilotNextsSpec.pre6 enc Try.prog Try.f6 Rows.pilotNextsRow.domain false) (Rows.pilotNextsSpec.post enc Try.prog Try.f6 false true false false) := by
  refine returnsInHanded_of_change (C := Try.checked) own started (by kernel_rfl) Try.func6
    (ChangeSpec.witness6 (enc := enc) (C := Try.checked) false ⟨#[], #[.int .i64 0, .agg #[.int .i64 0, .int .i64 0, .int .i64 0, .int .i64 0, .int .i64 0], .int .i64 0, .slice none 0 0], []⟩ 8 (by kernel_rfl) (by kernel_rfl) (by kernel_rfl) (by kernel_rfl)) ?_
  intro W base args ds gs before hval0 hW hcnd _
  have hval : ∀ (j : Nat) t v, Try.f6.params[j]? = some t → args[j]? = some v → Value.okWide Try.prog W .any base t v := hval0
  have hW' := hW
  obtain ⟨p, q, hA0, hV, rfl, hfz, hnd⟩ := hW
  have hA : DataW.TrodAll enc Try.prog W 0 (fun _ => true) true Try.f6.params.toList args.toList ds p := hA0
  rw [Try.params6] at hA hval
  obtain ⟨v0, vs0, d0, ds0, p0, q0, hargs, rfl, rfl, h0, r0⟩ := trodAll_cons hA
  obtain ⟨v1, vs1, d1, ds1, p1, q1, rfl, rfl, rfl, h1, r1⟩ := trodAll_cons r0
  obtain ⟨v2, vs2, d2, ds2, p2, q2, rfl, rfl, rfl, h2, r2⟩ := trodAll_cons r1
  obtain ⟨v3, vs3, d3, ds3, p3, q3, rfl, rfl, rfl, h3, r3⟩ := trodAll_cons r2
  obtain ⟨rfl, rfl, rfl⟩ := trodAll_nil r3
  obtain rfl : args = #[v0, v1, v2, v3] := by cases args; simp_all
  obtain ⟨rfl, rfl⟩ := trodVars_none hV
  have k0 := h0
  have lt0 : ∀ x ∈ p0, x.block < W.heap.size := by obtain ⟨m, hm⟩ := k0; exact DataW.trod_lt m _ _ _ hm
  obtain ⟨a0, rfl, _, _, w0⟩ := open_int Try.underlying3 (hval 0 3 v0 rfl rfl) h0
  have k1 := h1
  have lt1 : ∀ x ∈ p1, x.block < W.heap.size := by obtain ⟨m, hm⟩ := k1; exact DataW.trod_lt m _ _ _ hm
  obtain ⟨c10, c11, c12, c13, c14, y10, y11, y12, y13, y14, m1, rfl, _, _, hy10, hy11, hy12, hy13, hy14⟩ := open_agg5 Try.underlying23 (by kernel_rfl) cells23 (hval 1 23 v1 rfl rfl) h1
  obtain ⟨a10, e10, _, w10⟩ := DataW.trod_int Try.underlying3 hy10; simp at e10; subst e10
  obtain ⟨a11, e11, _, w11⟩ := DataW.trod_int Try.underlying3 hy11; simp at e11; subst e11
  obtain ⟨a12, e12, _, w12⟩ := DataW.trod_int Try.underlying3 hy12; simp at e12; subst e12
  obtain ⟨a13, e13, _, w13⟩ := DataW.trod_int Try.underlying3 hy13; simp at e13; subst e13
  obtain ⟨a14, e14, _, w14⟩ := DataW.trod_int Try.underlying3 hy14; simp at e14; subst e14
  have k2 := h2
  have lt2 : ∀ x ∈ p2, x.block < W.heap.size := by obtain ⟨m, hm⟩ := k2; exact DataW.trod_lt m _ _ _ hm
  obtain ⟨a2, rfl, _, _, w2⟩ := open_int Try.underlying3 (hval 2 3 v2 rfl rfl) h2
  have k3 := h3
  have lt3 : ∀ x ∈ p3, x.block < W.heap.size := by obtain ⟨m, hm⟩ := k3; exact DataW.trod_lt m _ _ _ hm
  obtain ⟨a3, len3, cap3, rfl⟩ := okWide_slice Try.underlying24 (hval 3 24 v3 rfl rfl)
  obtain ⟨fuel3, hf3⟩ := h3
  obtain ⟨xa3, xlen3, xcap3, l3, xe3, ro3, wo3, fo3⟩ := lacts_of hf3
  obtain ⟨rfl, rfl, rfl⟩ : a3 = xa3 ∧ len3 = xlen3 ∧ cap3 = xcap3 := by injection xe3 with e1 e2 e3; exact ⟨e1, e2, e3⟩
  clear hA0 hval0
  refine (walk a0 a10 a11 a12 a13 a14 a2 a3 len3 cap3 l3 W w0 w10 w11 w12 w13 w14 w2 wo3 ro3 fo3).mono fun e W' ⟨he, bel⟩ => ?_
  subst he
  exact ⟨_, rfl, _, _, _, [], _, [], hW', trodAll_mk1 (shut_bool Try.underlying4 _), (trodAll_cons_mk (Below.trod laidOut (by kernel_rfl) (of_decide_eq_true (by kernel_rfl)) k0 bel lt0) (trodAll_cons_mk (Below.trod laidOut (by kernel_rfl) (of_decide_eq_true (by kernel_rfl)) k1 bel lt1) (trodAll_cons_mk (Below.trod laidOut (by kernel_rfl) (of_decide_eq_true (by kernel_rfl)) k2 bel lt2) (trodAll_cons_mk (Below.trod laidOut (by kernel_rfl) (of_decide_eq_true (by kernel_rfl)) k3 bel lt3) trodAll_mk0)))), rfl, bel.frame _, fun h => by cases h⟩
theorem over : Rows.pilotNextsRow.holds Try.pinned (OpenSpec.ofChange Rows.pilotNextsSpec) :=
  OpenClaim.holds_of_wide 6 Try.f6 rfl rfl rfl rfl rfl rfl rfl ⟨rfl, rfl, rfl, rfl, rfl⟩ rfl rfl rfl rfl rfl (by kernel_rfl) Try.func6 (by kernel_rfl)
    (of_decide_eq_true (by kernel_rfl)) (by unfold Func.isWrapper; first | (rw [if_pos (by decide +kernel)]; kernel_rfl) | (rw [if_neg (by decide +kernel)]; exact ⟨rfl, rfl⟩))
    (fun os started H enc _ => lifted os started H enc)
theorem proved : Rows.PilotNextsSaid := over
end Go.Proofs.Ytjidchaejicjaaa.lawPilotNexts

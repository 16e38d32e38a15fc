/- A pilot's Next and Bounds. -/
import Derived.Test.YtjidchaejicjaaaPlL
namespace Go.Proofs.Ytjidchaejicjaaa
open Go.RowKit
set_option maxHeartbeats 2000000
set_option maxRecDepth 100000
set_option linter.unusedSimpArgs false
set_option linter.unusedVariables false
attribute [local go_sem ↓] Go.wp_at_zero Go.wp_at_succ
attribute [local go_sem high] run_mn run_mx
section
variable {w w' : World} {base b c : Nat} {s : Plt.St}
theorem pbounds_any (h : IsP w base b c s) (hs : Plt.Inv s) (x : Int) :
    Calls Try.prog 18 #[.pointer (some ⟨b, 0, none⟩), .int .i64 x] w fun e w' => e = .returned (.tuple #[.agg #[.int .i64 (Ck.aLo s.d s.r s.cs s.lo s.hi x), .int .i64 (Ck.aHi s.d s.r s.cs s.hi x)], .int .i64 (Ck.aE s.d s.r s.cs s.hi x)]) ∧ Below w.heap.size w w' := by
  have HH := Lib.hid h
  have NO := Lib.hid (fun (W : World) (hW : IsP W base b c s) => pnone_any hW hs)
  have AT := Lib.hid (fun (W : World) (hW : Ck.IsClk W c s.d s.r true s.cs s.lo s.hi) => Ck.at_any c s.d s.r s.cs s.lo s.hi x W hW hs.clk)
  obtain ⟨e1, h1⟩ : ∃ y, y = Ck.aLo s.d s.r s.cs s.lo s.hi x := ⟨_, rfl⟩
  obtain ⟨e2, h2⟩ : ∃ y, y = Ck.aHi s.d s.r s.cs s.hi x := ⟨_, rfl⟩
  obtain ⟨e3, h3⟩ : ∃ y, y = Ck.aE s.d s.r s.cs s.hi x := ⟨_, rfl⟩
  rw [← h1, ← h2, ← h3] at AT
  rw [← h1, ← h2, ← h3]
  clear h hs h1 h2 h3
  go_enter Try.func18, Try.ntmps18
  go_upto_region 1 with fail
  generalize hV : World.alloc _ _ = V
  have HB := Lib.hid (show Below w.heap.size w V by rw [← hV]; exact (Below.refl _ _).alloc (Nat.le_refl _) _)
  have HP := Lib.hid (HH.out.below HB.out (Nat.le_refl _))
  have k0 : V.heap[w.heap.size]? = some (.cells #[.int .i64 0, .int .i64 0] 47 (0, 0)) := by rw [← hV]; exact heap_new _ _
  clear hV
  have K0 := Lib.hid k0
  clear k0
  go_wp2_with fail
  refine (NO.out _ HP.out).mono ?_
  rintro e w' ⟨rfl, rfl⟩
  have c6 : V.cell? ⟨b, 6, none⟩ = some (.pointer (some ⟨c, 0, none⟩)) := blk_cell HP.out.blk 6 rfl
  go_wp2_with fail
  refine (AT.out _ HP.out.clk).mono ?_
  rintro e w2 ⟨rfl, hb2⟩
  have j0 := blk_below K0.out hb2 (lt_of_block K0.out)
  have HB2 := Lib.hid (HB.out.trans (hb2.mono HB.out.size))
  clear hb2 c6
  have cf_0 := blk_cell j0 0 rfl; have ff_0 := blk_free j0 0; have cf_1 := blk_cell j0 1 rfl; have ff_1 := blk_free j0 1; have lf := lt_of_block j0
  have J0 := Lib.hid j0
  clear j0
  go_wp2_with fail
  generalize hW : World.setCell _ _ _ = W
  have kW : W.heap[w.heap.size]? = some (.cells #[.int .i64 e1, .int .i64 e2] 47 (0, 0)) := by rw [← hW]; have := J0.out; exact (by apply Eq.trans; (repeat (first | (with_reducible assumption) | (with_reducible apply blk_set) | ((with_reducible apply blk_far); rotate_left; (first | omega | (simp <;> omega)); rotate_right) | (with_reducible apply blk_drew) | (with_reducible apply blk_drewN) | ((with_reducible apply heap_new'); (first | rfl | (simp <;> fail))) | (with_reducible apply blk_alloc))); (first | with_reducible rfl | (simp <;> fail) | rfl))
  have hW2 := Lib.hid (show Below w.heap.size w W by rw [← hW]; have := HB2.out; exact (by repeat (first | (with_reducible exact Below.refl _ _) | (with_reducible refine Below.drew ?_) | (with_reducible refine below_drewN ?_ _) | ((with_reducible refine Below.alloc ?_ ?_ _); rotate_left; (first | omega | (simp <;> omega)); rotate_right) | ((with_reducible refine Below.setCell ?_ ?_ _); rotate_left; (first | omega | (simp <;> omega)); rotate_right) | (with_reducible assumption) | (refine Below.trans ?_ (Below.mono (by assumption) ?_); rotate_left; (first | omega | (simp <;> omega)); rotate_right))))
  clear hW
  clear cf_0 ff_0 cf_1 ff_1
  have cg_0 := blk_cell kW 0 rfl; have fg_0 := blk_free kW 0; have cg_1 := blk_cell kW 1 rfl; have fg_1 := blk_free kW 1; have lg := lt_of_block kW
  clear kW
  refine bodyPost_ret (v := .tuple #[.agg #[.int .i64 e1, .int .i64 e2], .int .i64 e3]) ?_ rfl ⟨rfl, hW2.out⟩
  simp [results, Try.results18, go_sem, cg_0, cg_1]
theorem next_eq (s : Plt.St) : Plt.next s = max (if (Plt.evt s).2.2 then min (if 0 < s.reports then s.rep + s.every else s.now) (Plt.evt s).1 else if 0 < s.reports then s.rep + s.every else s.now) s.now := rfl
theorem pnext_any (h : IsP w base b c s) (hs : Plt.Inv s) :
    Calls Try.prog 23 #[.pointer (some ⟨b, 0, none⟩)] w fun e w' => e = .returned (.tuple #[.int .i64 (hasV (Plt.next s) s.begun), .int .i64 (hasE s.begun)]) ∧ Below w.heap.size w w' := by
  have HH := Lib.hid h
  have NO := Lib.hid (fun (W : World) (hW : IsP W base b c s) => pnone_any hW hs)
  have EV := Lib.hid (fun (W : World) (hW : IsP W base b c s) => event_any hW hs)
  obtain ⟨m, hm⟩ : ∃ m, m = Plt.next s := ⟨_, rfl⟩
  rw [← hm]
  rw [next_eq] at hm
  obtain ⟨a, ha⟩ : ∃ a, a = (Plt.evt s).1 := ⟨_, rfl⟩
  obtain ⟨x, hx⟩ : ∃ x, x = (Plt.evt s).2.1 := ⟨_, rfl⟩
  rw [← ha, ← hx] at EV
  rw [← ha] at hm
  have h1 := hs.rep
  have h2 := hs.every
  have wr : IntKind.i64.wrap (s.rep + s.every) = s.rep + s.every := IntWalk.i64_in _ (by omega)
  have c12 : w.cell? ⟨b, 12, none⟩ = some (.int .i64 s.now) := blk_cell h.blk 12 rfl
  have c17 : w.cell? ⟨b, 17, none⟩ = some (.int .i64 s.reports) := blk_cell h.blk 17 rfl
  have c18 : w.cell? ⟨b, 18, none⟩ = some (.int .i64 s.rep) := blk_cell h.blk 18 rfl
  have c5 : w.cell? ⟨b, 5, none⟩ = some (.int .i64 s.every) := blk_cell h.blk 5 rfl
  obtain ⟨y, hy⟩ : ∃ y, y = (if 0 < s.reports then s.rep + s.every else s.now) := ⟨_, rfl⟩
  rw [← hy] at hm
  clear h hs ha hx h1 h2
  by_cases hr : 0 < s.reports
  · have z1 : decide (0 < s.reports) = true := decide_eq_true hr
    rw [if_pos hr] at hy
    subst hy
    clear hr
    cases hf : (Plt.evt s).2.2
    · rw [hf] at hm EV
      simp only [Bool.false_eq_true, if_false] at hm
      have hM := Lib.hid hm
      clear hf hm
      go_enter Try.func23, Try.ntmps23
      go_wp2_with fail
      refine (NO.out _ HH.out).mono ?_
      rintro e w' ⟨rfl, rfl⟩
      go_wp2_with fail
      go_quiet (fail)
      go_wp2_with fail
      refine (EV.out _ (HH.out.drewN _)).mono ?_
      rintro e w2 ⟨rfl, hb2⟩
      have HB2 := Lib.hid (show Below w.heap.size w w2 from (below_drewN (Below.refl _ _) _).trans hb2)
      have HP2 := Lib.hid (HH.out.below HB2.out (Nat.le_refl _))
      have d12 : w2.cell? ⟨b, 12, none⟩ = some (.int .i64 s.now) := blk_cell HP2.out.blk 12 rfl
      have d8 : w2.cell? ⟨b, 8, none⟩ = some (.bool s.begun) := blk_cell HP2.out.blk 8 rfl
      clear hb2 c12 c17 c18 c5
      go_wp2_with fail
      go_quiet ((go_at_call 35; exact Calls.quiet_of_same ((phas_any _ _ _ _).mono fun _ _ ⟨h1, h2⟩ => ⟨h1, h2.symm⟩)))
      go_wp2_with fail
      go_returns
      exact ⟨ret_pii (by first | exact congrArg (hasV · s.begun) hM.out.symm | (have e9 := hM.out; rw [Int.max_self] at e9; rw [e9])) rfl, by first | exact HB2.out | exact below_drewN HB2.out _⟩
    · rw [hf] at hm EV
      simp only [if_true] at hm
      have hM := Lib.hid hm
      clear hf hm
      go_enter Try.func23, Try.ntmps23
      go_wp2_with fail
      refine (NO.out _ HH.out).mono ?_
      rintro e w' ⟨rfl, rfl⟩
      go_wp2_with fail
      go_quiet (fail)
      go_wp2_with fail
      refine (EV.out _ (HH.out.drewN _)).mono ?_
      rintro e w2 ⟨rfl, hb2⟩
      have HB2 := Lib.hid (show Below w.heap.size w w2 from (below_drewN (Below.refl _ _) _).trans hb2)
      have HP2 := Lib.hid (HH.out.below HB2.out (Nat.le_refl _))
      have d12 : w2.cell? ⟨b, 12, none⟩ = some (.int .i64 s.now) := blk_cell HP2.out.blk 12 rfl
      have d8 : w2.cell? ⟨b, 8, none⟩ = some (.bool s.begun) := blk_cell HP2.out.blk 8 rfl
      clear hb2 c12 c17 c18 c5
      go_wp2_with fail
      go_quiet ((go_at_call 35; exact Calls.quiet_of_same ((phas_any _ _ _ _).mono fun _ _ ⟨h1, h2⟩ => ⟨h1, h2.symm⟩)))
      go_wp2_with fail
      go_returns
      exact ⟨ret_pii (by first | exact congrArg (hasV · s.begun) hM.out.symm | (have e9 := hM.out; rw [Int.max_self] at e9; rw [e9])) rfl, by first | exact HB2.out | exact below_drewN HB2.out _⟩
  · have z1 : decide (0 < s.reports) = false := decide_eq_false hr
    rw [if_neg hr] at hy
    subst hy
    clear hr
    cases hf : (Plt.evt s).2.2
    · rw [hf] at hm EV
      simp only [Bool.false_eq_true, if_false] at hm
      have hM := Lib.hid hm
      clear hf hm
      go_enter Try.func23, Try.ntmps23
      go_wp2_with fail
      refine (NO.out _ HH.out).mono ?_
      rintro e w' ⟨rfl, rfl⟩
      go_wp2_with fail
      refine (EV.out _ HH.out).mono ?_
      rintro e w2 ⟨rfl, hb2⟩
      have HB2 := Lib.hid (show Below w.heap.size w w2 from hb2)
      have HP2 := Lib.hid (HH.out.below HB2.out (Nat.le_refl _))
      have d12 : w2.cell? ⟨b, 12, none⟩ = some (.int .i64 s.now) := blk_cell HP2.out.blk 12 rfl
      have d8 : w2.cell? ⟨b, 8, none⟩ = some (.bool s.begun) := blk_cell HP2.out.blk 8 rfl
      clear hb2 c12 c17 c18 c5
      go_wp2_with fail
      go_quiet ((go_at_call 35; exact Calls.quiet_of_same ((phas_any _ _ _ _).mono fun _ _ ⟨h1, h2⟩ => ⟨h1, h2.symm⟩)))
      go_wp2_with fail
      go_returns
      exact ⟨ret_pii (by first | exact congrArg (hasV · s.begun) hM.out.symm | (have e9 := hM.out; rw [Int.max_self] at e9; rw [e9])) rfl, by first | exact HB2.out | exact below_drewN HB2.out _⟩
    · rw [hf] at hm EV
      simp only [if_true] at hm
      have hM := Lib.hid hm
      clear hf hm
      go_enter Try.func23, Try.ntmps23
      go_wp2_with fail
      refine (NO.out _ HH.out).mono ?_
      rintro e w' ⟨rfl, rfl⟩
      go_wp2_with fail
      refine (EV.out _ HH.out).mono ?_
      rintro e w2 ⟨rfl, hb2⟩
      have HB2 := Lib.hid (show Below w.heap.size w w2 from hb2)
      have HP2 := Lib.hid (HH.out.below HB2.out (Nat.le_refl _))
      have d12 : w2.cell? ⟨b, 12, none⟩ = some (.int .i64 s.now) := blk_cell HP2.out.blk 12 rfl
      have d8 : w2.cell? ⟨b, 8, none⟩ = some (.bool s.begun) := blk_cell HP2.out.blk 8 rfl
      clear hb2 c12 c17 c18 c5
      go_wp2_with fail
      go_quiet ((go_at_call 35; exact Calls.quiet_of_same ((phas_any _ _ _ _).mono fun _ _ ⟨h1, h2⟩ => ⟨h1, h2.symm⟩)))
      go_wp2_with fail
      go_returns
      exact ⟨ret_pii (by first | exact congrArg (hasV · s.begun) hM.out.symm | (have e9 := hM.out; rw [Int.max_self] at e9; rw [e9])) rfl, by first | exact HB2.out | exact below_drewN HB2.out _⟩
end
end Go.Proofs.Ytjidchaejicjaaa

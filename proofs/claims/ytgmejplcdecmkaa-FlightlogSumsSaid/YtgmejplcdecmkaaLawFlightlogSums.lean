/- The law of the records' check sums holds: 'skylanternlaw39.FlightlogSums' returns true at every input. No conditions. -/
import Derived.Test.YtgmejplcdecmkaaLgMg
namespace Go.Proofs.Ytgmejplcdecmkaa.lawFlightlogSums
open Go.ChangeShapes Go.WideShapes Go.ChangeAt Go.RowKit Go.Joins
set_option linter.unusedVariables false
set_option linter.unusedSimpArgs false
attribute [local go_sem ↓] Go.wp_at_zero Go.wp_at_succ
set_option maxHeartbeats 8000000
set_option maxRecDepth 100000
theorem walk (a0 : Int) (y1 : Lg.RV) (w : World) (w0 : (Lit.int .u32 a0).wf = true) (f1 : RcOk y1.x) (w1 : Lg.Ok w w.heap.size y1) :
    Calls Try.prog 3 #[.int .u32 a0, y1.val] w fun e w' => e = .returned (.bool true) ∧ Below w.heap.size w w' := by
  have LS := Lib.hid (fun (W : World) (hW : Below w.heap.size w W) => lsum_any a0 y1 W (w1.up hW))
  have RS := Lib.hid (fun (W : World) (hW : Below w.heap.size w W) => rlsum_any a0 y1 W (w1.up hW))
  have hlen := w1.2.1
  have hcap := w1.2.2.1
  unfold maxLen at hcap
  obtain ⟨C, hval, hC, hCs⟩ := rv_opaque y1
  have h11 : C[11]? = some (.slice y1.A y1.x.f.d.length y1.cap) := by rw [← hC]; rfl
  rw [hval] at LS RS ⊢
  have hbx := heap_new w (.cells C 32 (0, 0))
  have c11 := arr_cell hbx h11
  have HB0 : Below w.heap.size w (w.alloc (.cells C 32)) := (Below.refl _ w).alloc (Nat.le_refl _) _
  clear hval hC h11 w1 f1 w0
  by_cases hn : 100 < y1.x.f.d.length
  · go_enter Try.func3, Try.ntmps3
    go_wp2_with fail
    refine (known_true _).mono ?_
    rintro e w1 ⟨rfl, hb1⟩
    have HB1 := HB0.trans (hb1.mono HB0.size)
    go_wp2_with fail
    go_ret
    exact ⟨rfl, HB1⟩
  · go_enter Try.func3, Try.ntmps3
    go_upto_region 1 with fail
    generalize World.alloc _ _ = W0 at *
    go_wp2_with (refine wpList_load_row rfl 32 (.tmp 3) rfl w.heap.size rfl 32 C (0, 0) _ hbx Try.underlying32 rfl (by rw [hCs]; kernel_rfl) ?_)
    refine (LS.out _ HB0).mono ?_
    rintro e w2 ⟨rfl, hb2⟩
    have HB2 := HB0.trans (hb2.mono HB0.size)
    have hbx2 := blk_below hbx hb2 (lt_of_block hbx)
    go_wp2_with (refine wpList_load_row rfl 32 (.tmp 3) rfl w.heap.size rfl 32 C (0, 0) _ hbx2 Try.underlying32 rfl (by rw [hCs]; kernel_rfl) ?_)
    refine (RS.out _ HB2).mono ?_
    rintro e w3 ⟨rfl, hb3⟩
    have HB3 := HB2.trans (hb3.mono HB2.size)
    go_wp2_with fail
    refine (known_true _).mono ?_
    rintro e w4 ⟨rfl, hb4⟩
    have HB4 := HB3.trans (hb4.mono HB3.size)
    go_wp2_with fail
    go_ret
    exact ⟨rfl, HB4⟩
theorem own : ownKnob Try.prog.godebug = none := by kernel_rfl
theorem laidOut : laidOutB Try.prog = true := by kernel_rfl
set_option maxRecDepth 100000 in
theorem lifted (os : Os) (started : os.Started) (H : Type) (enc : TypeId × Value → H) :
    ReturnsInHanded {} Try.checked os 3 .any (Rows.flightlogSumsSpec.pre6 enc Try.prog Try.f3 Rows.flightlogSumsRow.domain false) (Rows.flightlogSumsSpec.post enc Try.prog Try.f3 false true false false) := by
  refine returnsInHanded_of_change (C := Try.checked) own started (by kernel_rfl) Try.func3
    (ChangeSpec.witness6 (enc := enc) (C := Try.checked) false ⟨#[], #[.int .u32 0, .agg #[.int .i64 0, .int .i64 0, .int .i64 0, .int .i64 0, .int .i64 0, .int .i64 0, .int .i64 0, .int .i64 0, .int .i64 0, .int .i64 0, .int .i64 0, .slice none 0 0, .int .u32 0]], []⟩ 8 (by kernel_rfl) (by kernel_rfl) (by kernel_rfl) (by kernel_rfl)) ?_
  intro W base args ds gs before hval0 hW hcnd _
  have hval : ∀ (j : Nat) t v, Try.f3.params[j]? = some t → args[j]? = some v → Value.okWide Try.prog W .any base t v := hval0
  have hW' := hW
  obtain ⟨p, q, hA0, hV, rfl, hfz, hnd⟩ := hW
  have hA : DataW.TrodAll enc Try.prog W 0 (fun _ => true) true Try.f3.params.toList args.toList ds p := hA0
  rw [Try.params3] at hA hval
  obtain ⟨v0, vs0, d0, ds0, p0, q0, hargs, rfl, rfl, h0, r0⟩ := trodAll_cons hA
  obtain ⟨v1, vs1, d1, ds1, p1, q1, rfl, rfl, rfl, h1, r1⟩ := trodAll_cons r0
  obtain ⟨rfl, rfl, rfl⟩ := trodAll_nil r1
  obtain rfl : args = #[v0, v1] := by cases args; simp_all
  obtain ⟨rfl, rfl⟩ := trodVars_none hV
  have k0 := h0
  have lt0 : ∀ x ∈ p0, x.block < W.heap.size := by obtain ⟨m, hm⟩ := k0; exact DataW.trod_lt m _ _ _ hm
  obtain ⟨a0, rfl, _, _, w0⟩ := open_int Try.underlying22 (hval 0 22 v0 rfl rfl) h0
  have k1 := h1
  have lt1 : ∀ x ∈ p1, x.block < W.heap.size := by obtain ⟨m, hm⟩ := k1; exact DataW.trod_lt m _ _ _ hm
  obtain ⟨y1, rfl, fo1, wo1⟩ := rec_of (hval 1 32 v1 rfl rfl) h1
  clear hA0 hval0
  refine (walk a0 y1 W w0 fo1 wo1).mono fun e W' ⟨he, bel⟩ => ?_
  subst he
  exact ⟨_, rfl, _, _, _, [], _, [], hW', trodAll_mk1 (shut_bool Try.underlying4 _), (trodAll_cons_mk (Below.trod laidOut (by kernel_rfl) (of_decide_eq_true (by kernel_rfl)) k0 bel lt0) (trodAll_cons_mk (Below.trod laidOut (by kernel_rfl) (of_decide_eq_true (by kernel_rfl)) k1 bel lt1) trodAll_mk0)), rfl, bel.frame _, fun h => by cases h⟩
theorem over : Rows.flightlogSumsRow.holds Try.pinned (OpenSpec.ofChange Rows.flightlogSumsSpec) :=
  OpenClaim.holds_of_wide 3 Try.f3 rfl rfl rfl rfl rfl rfl rfl ⟨rfl, rfl, rfl, rfl, rfl⟩ rfl rfl rfl rfl rfl (by kernel_rfl) Try.func3 (by kernel_rfl)
    (of_decide_eq_true (by kernel_rfl)) (by unfold Func.isWrapper; first | (rw [if_pos (by decide +kernel)]; kernel_rfl) | (rw [if_neg (by decide +kernel)]; exact ⟨rfl, rfl⟩))
    (fun os started H enc _ => lifted os started H enc)
theorem proved : Rows.FlightlogSumsSaid := over
end Go.Proofs.Ytgmejplcdecmkaa.lawFlightlogSums

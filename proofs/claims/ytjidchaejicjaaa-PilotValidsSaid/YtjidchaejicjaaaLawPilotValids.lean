/- The law of the pilots' rules holds: 'skylanternlaw37.PilotValids' returns true at every input. No conditions. -/
import Derived.Test.YtjidchaejicjaaaPlAD
import Derived.Test.YtjidchaejicjaaaFrC
namespace Go.Proofs.Ytjidchaejicjaaa.lawPilotValids
open Go.ChangeShapes Go.WideShapes Go.ChangeAt Go.RowKit Go.Joins
set_option linter.unusedVariables false
set_option linter.unusedSimpArgs false
attribute [local go_sem ↓] Go.wp_at_zero Go.wp_at_succ
set_option maxHeartbeats 8000000
set_option maxRecDepth 100000
theorem made_all (id lost ret desc late every d : Int) (w : World) :
    Calls Try.prog 19 #[.int .i64 id, .agg #[.int .i64 lost, .int .i64 ret, .int .i64 desc, .int .i64 late, .int .i64 every], .int .i64 d] w fun e w' => ∃ p s, e = .returned (.tuple #[.pointer p, .agg (rag s).toArray, .bool true]) ∧ Below w.heap.size w w' := by
  by_cases h : Plt.newE id lost ret desc late every d = 0
  · exact (made_yes id lost ret desc late every d w h).mono fun e w' ⟨b, c, h1, _, h2⟩ => ⟨_, _, h1, h2⟩
  · exact (made_no id lost ret desc late every d w h).mono fun e w' ⟨h1, h2⟩ => ⟨_, _, h1, h2⟩
theorem walk (a0 : Int) (a10 a11 a12 a13 a14 : Int) (a2 : Int) (w : World) (w0 : (Lit.int .i64 a0).wf = true) (w10 : (Lit.int .i64 a10).wf = true) (w11 : (Lit.int .i64 a11).wf = true) (w12 : (Lit.int .i64 a12).wf = true) (w13 : (Lit.int .i64 a13).wf = true) (w14 : (Lit.int .i64 a14).wf = true) (w2 : (Lit.int .i64 a2).wf = true) :
    Calls Try.prog 4 #[.int .i64 a0, .agg #[.int .i64 a10, .int .i64 a11, .int .i64 a12, .int .i64 a13, .int .i64 a14], .int .i64 a2] w fun e w' => e = .returned (.bool true) ∧ Below w.heap.size w w' := by
  have V := Lib.hid (fun W : World => pvalid_any a10 a11 a12 a13 a14 W)
  have R := Lib.hid (fun W : World => rpvalid_any a10 a11 a12 a13 a14 W)
  have M := Lib.hid (fun W : World => made_all a0 a10 a11 a12 a13 a14 a2 W)
  obtain ⟨v, hv⟩ : ∃ v, v = Plt.ruOk a10 a11 a12 a13 a14 := ⟨_, rfl⟩
  rw [← hv] at V R
  have z : (v == v) = true := by simp
  clear hv w0 w10 w11 w12 w13 w14 w2
  go_enter Try.func4, Try.ntmps4
  go_upto_region 1 with fail
  generalize hV : World.alloc _ _ = V0
  have k0 : V0.heap[w.heap.size]? = some (.cells #[.int .i64 a10, .int .i64 a11, .int .i64 a12, .int .i64 a13, .int .i64 a14] 23 (0, 0)) := by rw [← hV]; exact heap_new _ _
  have HB := Lib.hid (show Below w.heap.size w V0 by rw [← hV]; exact (Below.refl _ _).alloc (Nat.le_refl _) _)
  clear hV
  have cf_0 := blk_cell k0 0 rfl; have ff_0 := blk_free k0 0; have cf_1 := blk_cell k0 1 rfl; have ff_1 := blk_free k0 1; have cf_2 := blk_cell k0 2 rfl; have ff_2 := blk_free k0 2; have cf_3 := blk_cell k0 3 rfl; have ff_3 := blk_free k0 3; have cf_4 := blk_cell k0 4 rfl; have ff_4 := blk_free k0 4; have lf := lt_of_block k0
  go_wp2_with fail
  refine (M.out _).mono ?_
  rintro e W1 ⟨p, s, rfl, hb1⟩
  have j0 := blk_alloc (blk_below k0 hb1 (lt_of_block k0)) (.cells (rag rzero).toArray 54 (0, 0))
  have z1 := heap_new W1 (.cells (rag rzero).toArray 54 (0, 0))
  have hz1 : w.heap.size < W1.heap.size := lt_of_block (blk_below k0 hb1 (lt_of_block k0))
  have HB1 := Lib.hid ((HB.out.trans (hb1.mono HB.out.size)).alloc (by omega) (.cells (rag rzero).toArray 54 (0, 0)))
  clear cf_0 ff_0 cf_1 ff_1 cf_2 ff_2 cf_3 ff_3 cf_4 ff_4
  clear k0 HB hb1
  (go_upto_region 2 with (refine wpList_store_row rfl 54 _ _ rfl _ _ rfl rfl 54 _ z1 (by kernel_rfl) rfl (rag_one _) ?_))
  generalize hW : World.setRow _ _ _ = W2
  have i0 : W2.heap[w.heap.size]? = some (.cells #[.int .i64 a10, .int .i64 a11, .int .i64 a12, .int .i64 a13, .int .i64 a14] 23 (0, 0)) := by rw [← hW]; exact (setRow_other _ _ _ _ (by omega)).trans j0
  have HB2 := Lib.hid (show Below w.heap.size w W2 by rw [← hW]; exact below_setRow HB1.out (by omega) _)
  clear hW j0 z1 HB1
  have hlt := lt_of_block i0
  have I0 := Lib.hid i0
  have cg_0 := blk_cell i0 0 rfl; have fg_0 := blk_free i0 0; have cg_1 := blk_cell i0 1 rfl; have fg_1 := blk_free i0 1; have cg_2 := blk_cell i0 2 rfl; have fg_2 := blk_free i0 2; have cg_3 := blk_cell i0 3 rfl; have fg_3 := blk_free i0 3; have cg_4 := blk_cell i0 4 rfl; have fg_4 := blk_free i0 4; have lg := lt_of_block i0
  clear i0
  go_region_held3 (fun w' => w'.cell? ⟨w.heap.size, 0, none⟩ = some (.int .i64 a10) ∧ w'.cell? ⟨w.heap.size, 1, none⟩ = some (.int .i64 a11) ∧ w'.cell? ⟨w.heap.size, 2, none⟩ = some (.int .i64 a12) ∧ w'.cell? ⟨w.heap.size, 3, none⟩ = some (.int .i64 a13) ∧ w'.cell? ⟨w.heap.size, 4, none⟩ = some (.int .i64 a14)) (first | (refine ⟨?_, ?_, ?_, ?_, ?_⟩ <;> simp [go_sem, *]; done) | go_keep) (first | (go_at_call 20; refine (V.out _).mono ?_; rintro e W3 ⟨rfl, hb3⟩; have hc3 : Below W2.heap.size W2 W3 := (by first | exact hb3 | exact (below_drewN (Below.refl _ _) _).trans hb3 | exact (Below.refl _ _).drew.trans hb3); have i3 := blk_below I0.out hc3 hlt; have HB3 := Lib.hid (HB2.out.trans (hc3.mono HB2.out.size)); have J3 := Lib.hid i3; have hl3 := lt_of_block i3; (have ch_0 := blk_cell i3 0 rfl; have fh_0 := blk_free i3 0; have ch_1 := blk_cell i3 1 rfl; have fh_1 := blk_free i3 1; have ch_2 := blk_cell i3 2 rfl; have fh_2 := blk_free i3 2; have ch_3 := blk_cell i3 3 rfl; have fh_3 := blk_free i3 3; have ch_4 := blk_cell i3 4 rfl; have fh_4 := blk_free i3 4; have lh := lt_of_block i3); clear hb3 hc3 i3) | (go_at_call 10; refine (R.out _).mono ?_; rintro e W4 ⟨rfl, hb4⟩; have hc4 : Below W3.heap.size W3 W4 := (by first | exact hb4 | exact (below_drewN (Below.refl _ _) _).trans hb4 | exact (Below.refl _ _).drew.trans hb4); have i4 := blk_below J3.out hc4 hl3; have HB4 := Lib.hid (HB3.out.trans (hc4.mono HB3.out.size)); (have cm_0 := blk_cell i4 0 rfl; have fm_0 := blk_free i4 0; have cm_1 := blk_cell i4 1 rfl; have fm_1 := blk_free i4 1; have cm_2 := blk_cell i4 2 rfl; have fm_2 := blk_free i4 2; have cm_3 := blk_cell i4 3 rfl; have fm_3 := blk_free i4 3; have cm_4 := blk_cell i4 4 rfl; have fm_4 := blk_free i4 4; have lm := lt_of_block i4); clear hb4 hc4) | (go_at_call 11; refine (known_true _).mono ?_; rintro e W5 ⟨rfl, hb5⟩; have hc5 : Below W4.heap.size W4 W5 := (by first | exact hb5 | exact (below_drewN (Below.refl _ _) _).trans hb5 | exact (Below.refl _ _).drew.trans hb5); have i5 := blk_below i4 hc5 (lt_of_block i4); have HB5 := Lib.hid (HB4.out.trans (hc5.mono HB4.out.size)); (have cn_0 := blk_cell i5 0 rfl; have fn_0 := blk_free i5 0; have cn_1 := blk_cell i5 1 rfl; have fn_1 := blk_free i5 1; have cn_2 := blk_cell i5 2 rfl; have fn_2 := blk_free i5 2; have cn_3 := blk_cell i5 3 rfl; have fn_3 := blk_free i5 3; have cn_4 := blk_cell i5 4 rfl; have fn_4 := blk_free i5 4; have ln := lt_of_block i5); clear hb5 hc5))
  go_wp2_with fail
  go_ret
  exact ⟨rfl, by first | exact HB5.out | exact HB5.out.drew⟩
theorem own : ownKnob Try.prog.godebug = none := by kernel_rfl
theorem laidOut : laidOutB Try.prog = true := by kernel_rfl
theorem cells23 : Try.prog.cellsOf 23 = 5 := by kernel_rfl
set_option maxRecDepth 100000 in
theorem lifted (os : Os) (started : os.Started) (H : Type) (enc : TypeId × Value → H) :
    ReturnsInHanded {} Try.checked os 4 .any (Rows.pilotValidsSpec.pre6 enc Try.prog Try.f4 Rows.pilotValidsRow.domain false) (Rows.pilotValidsSpec.post enc Try.prog Try.f4 false true false false) := by
  refine returnsInHanded_of_change (C := Try.checked) own started (by kernel_rfl) Try.func4
    (ChangeSpec.witness6 (enc := enc) (C := Try.checked) false ⟨#[], #[.int .i64 0, .agg #[.int .i64 0, .int .i64 0, .int .i64 0, .int .i64 0, .int .i64 0], .int .i64 0], []⟩ 8 (by kernel_rfl) (by kernel_rfl) (by kernel_rfl) (by kernel_rfl)) ?_
  intro W base args ds gs before hval0 hW hcnd _
  have hval : ∀ (j : Nat) t v, Try.f4.params[j]? = some t → args[j]? = some v → Value.okWide Try.prog W .any base t v := hval0
  have hW' := hW
  obtain ⟨p, q, hA0, hV, rfl, hfz, hnd⟩ := hW
  have hA : DataW.TrodAll enc Try.prog W 0 (fun _ => true) true Try.f4.params.toList args.toList ds p := hA0
  rw [Try.params4] at hA hval
  obtain ⟨v0, vs0, d0, ds0, p0, q0, hargs, rfl, rfl, h0, r0⟩ := trodAll_cons hA
  obtain ⟨v1, vs1, d1, ds1, p1, q1, rfl, rfl, rfl, h1, r1⟩ := trodAll_cons r0
  obtain ⟨v2, vs2, d2, ds2, p2, q2, rfl, rfl, rfl, h2, r2⟩ := trodAll_cons r1
  obtain ⟨rfl, rfl, rfl⟩ := trodAll_nil r2
  obtain rfl : args = #[v0, v1, v2] := by cases args; simp_all
  obtain ⟨rfl, rfl⟩ := trodVars_none hV
  have k0 := h0
  have lt0 : ∀ x ∈ p0, x.block < W.heap.size := by obtain ⟨m, hm⟩ := k0; exact DataW.trod_lt m _ _ _ hm
  obtain ⟨a0, rfl, _, _, w0⟩ := open_int Try.underlying3 (hval 0 3 v0 rfl rfl) h0
  have k1 := h1
  have lt1 : ∀ x ∈ p1, x.block < W.heap.size := by obtain ⟨m, hm⟩ := k1; exact DataW.trod_lt m _ _ _ hm
  obtain ⟨c10, c11, c12, c13, c14, y10, y11, y12, y13, y14, m1, rfl, _, _, hy10, hy11, hy12, hy13, hy14⟩ := open_agg5 Try.underlying23 (by kernel_rfl) cells23 (hval 1 23 v1 rfl rfl) h1
  obtain ⟨a10, e10, _, w10⟩ := DataW.trod_int Try.underlying3 hy10; simp at e10; subst e10
  obtain ⟨a11, e11, _, w11⟩ := DataW.trod_int Try.underlying3 hy11; simp at e11; subst e11
  obtain ⟨a12, e12, _, w12⟩ := DataW.trod_int Try.underlying3 hy12; simp at e12; subst e12
  obtain ⟨a13, e13, _, w13⟩ := DataW.trod_int Try.underlying3 hy13; simp at e13; subst e13
  obtain ⟨a14, e14, _, w14⟩ := DataW.trod_int Try.underlying3 hy14; simp at e14; subst e14
  have k2 := h2
  have lt2 : ∀ x ∈ p2, x.block < W.heap.size := by obtain ⟨m, hm⟩ := k2; exact DataW.trod_lt m _ _ _ hm
  obtain ⟨a2, rfl, _, _, w2⟩ := open_int Try.underlying3 (hval 2 3 v2 rfl rfl) h2
  clear hA0 hval0
  refine (walk a0 a10 a11 a12 a13 a14 a2 W w0 w10 w11 w12 w13 w14 w2).mono fun e W' ⟨he, bel⟩ => ?_
  subst he
  exact ⟨_, rfl, _, _, _, [], _, [], hW', trodAll_mk1 (shut_bool Try.underlying4 _), (trodAll_cons_mk (Below.trod laidOut (by kernel_rfl) (of_decide_eq_true (by kernel_rfl)) k0 bel lt0) (trodAll_cons_mk (Below.trod laidOut (by kernel_rfl) (of_decide_eq_true (by kernel_rfl)) k1 bel lt1) (trodAll_cons_mk (Below.trod laidOut (by kernel_rfl) (of_decide_eq_true (by kernel_rfl)) k2 bel lt2) trodAll_mk0))), rfl, bel.frame _, fun h => by cases h⟩
theorem over : Rows.pilotValidsRow.holds Try.pinned (OpenSpec.ofChange Rows.pilotValidsSpec) :=
  OpenClaim.holds_of_wide 4 Try.f4 rfl rfl rfl rfl rfl rfl rfl ⟨rfl, rfl, rfl, rfl, rfl⟩ rfl rfl rfl rfl rfl (by kernel_rfl) Try.func4 (by kernel_rfl)
    (of_decide_eq_true (by kernel_rfl)) (by unfold Func.isWrapper; first | (rw [if_pos (by decide +kernel)]; kernel_rfl) | (rw [if_neg (by decide +kernel)]; exact ⟨rfl, rfl⟩))
    (fun os started H enc _ => lifted os started H enc)
theorem proved : Rows.PilotValidsSaid := over
end Go.Proofs.Ytjidchaejicjaaa.lawPilotValids

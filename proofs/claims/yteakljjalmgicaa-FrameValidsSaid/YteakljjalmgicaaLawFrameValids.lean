/- The law of valid frames holds: 'skylanternlaw34.FrameValids' returns true at every input. No conditions. -/
import Derived.Test.YteakljjalmgicaaArg
import Derived.Test.YteakljjalmgicaaKnownF
import Derived.Deep.DrawnRows
namespace Go.Proofs.Yteakljjalmgicaa.lawFrameValids
open Go.ChangeShapes Go.WideShapes Go.ChangeAt Go.RowKit Go.Joins
set_option linter.unusedVariables false
attribute [local go_sem ↓] Go.wp_at_zero Go.wp_at_succ
set_option maxHeartbeats 4000000
theorem walk (y0 : Fr) (a0 : Option Addr) (cap0 : Nat) (w : World) (f0 : FrOk y0) (w0 : Rd w w.heap.size a0 y0.d.length y0.d) (r0 : Room a0 y0.d.length cap0) :
    Calls Try.prog 3 #[.agg #[.int .i64 y0.k, .int .i64 y0.f, .int .i64 y0.t, .int .i64 y0.s, .slice a0 y0.d.length cap0]] w fun e w' => e = .returned (.bool true) ∧ Below w.heap.size w w' := by
  obtain ⟨y0k, y0f, y0t, y0s, d⟩ := y0
  have hcap := r0.1
  have hmax := r0.2.1
  clear w0 r0 f0
  simp only at *
  generalize d.length = n at *
  unfold maxLen at hmax
  rcases Nat.lt_or_ge 100 n with hn | hn
  · go_enter Try.func3, Try.ntmps3
    go_wp2_with fail
    refine (knownf _).mono ?_
    rintro e w1 ⟨rfl, hb⟩
    go_wp2_with fail
    go_ret
    exact ⟨rfl, (by repeat (first | (with_reducible exact Below.refl _ _) | (with_reducible refine Below.drew ?_) | (with_reducible refine below_drewN ?_ _) | ((with_reducible refine Below.alloc ?_ ?_ _); rotate_left; (first | omega | (simp <;> omega)); rotate_right) | ((with_reducible refine Below.setCell ?_ ?_ _); rotate_left; (first | omega | (simp <;> omega)); rotate_right) | (with_reducible assumption) | (refine Below.trans ?_ (Below.mono (by assumption) ?_); rotate_left; (first | omega | (simp <;> omega)); rotate_right)))⟩
  · go_enter Try.func3, Try.ntmps3
    go_wp2_with fail
    have V1 := Lib.hid (fun W => valid_any y0k y0f y0t y0s a0 n cap0 W (by omega))
    have V2 := Lib.hid (fun W => rvalid_any y0k y0f y0t y0s a0 n cap0 W (by omega))
    generalize Frm.vd y0k y0f y0t y0s n = b at V1 V2
    have c0 := blk_cell (l := [_, _, _, _, _]) (heap_new w (.cells #[.int .i64 y0k, .int .i64 y0f, .int .i64 y0t, .int .i64 y0s, .slice a0 n cap0] 25)) 0 rfl
    have c1 := blk_cell (l := [_, _, _, _, _]) (heap_new w (.cells #[.int .i64 y0k, .int .i64 y0f, .int .i64 y0t, .int .i64 y0s, .slice a0 n cap0] 25)) 1 rfl
    have c2 := blk_cell (l := [_, _, _, _, _]) (heap_new w (.cells #[.int .i64 y0k, .int .i64 y0f, .int .i64 y0t, .int .i64 y0s, .slice a0 n cap0] 25)) 2 rfl
    have c3 := blk_cell (l := [_, _, _, _, _]) (heap_new w (.cells #[.int .i64 y0k, .int .i64 y0f, .int .i64 y0t, .int .i64 y0s, .slice a0 n cap0] 25)) 3 rfl
    have c4 := blk_cell (l := [_, _, _, _, _]) (heap_new w (.cells #[.int .i64 y0k, .int .i64 y0f, .int .i64 y0t, .int .i64 y0s, .slice a0 n cap0] 25)) 4 rfl
    have B0 := (show Below w.heap.size w (w.alloc (.cells #[.int .i64 y0k, .int .i64 y0f, .int .i64 y0t, .int .i64 y0s, .slice a0 n cap0] 25)) from (by repeat (first | (with_reducible exact Below.refl _ _) | (with_reducible refine Below.drew ?_) | (with_reducible refine below_drewN ?_ _) | ((with_reducible refine Below.alloc ?_ ?_ _); rotate_left; (first | omega | (simp <;> omega)); rotate_right) | ((with_reducible refine Below.setCell ?_ ?_ _); rotate_left; (first | omega | (simp <;> omega)); rotate_right) | (with_reducible assumption) | (refine Below.trans ?_ (Below.mono (by assumption) ?_); rotate_left; (first | omega | (simp <;> omega)); rotate_right))))
    have z0 : w.heap.size < (w.alloc (.cells #[.int .i64 y0k, .int .i64 y0f, .int .i64 y0t, .int .i64 y0s, .slice a0 n cap0] 25)).heap.size := by simp
    generalize w.alloc (.cells #[.int .i64 y0k, .int .i64 y0f, .int .i64 y0t, .int .i64 y0s, .slice a0 n cap0] 25) = W at *
    go_region_held3 (fun w' => w'.cell? ⟨w.heap.size, 0, none⟩ = some (.int .i64 y0k) ∧ w'.cell? ⟨w.heap.size, 1, none⟩ = some (.int .i64 y0f) ∧ w'.cell? ⟨w.heap.size, 2, none⟩ = some (.int .i64 y0t) ∧ w'.cell? ⟨w.heap.size, 3, none⟩ = some (.int .i64 y0s) ∧ w'.cell? ⟨w.heap.size, 4, none⟩ = some (.slice a0 n cap0)) (refine ⟨?_, ?_, ?_, ?_, ?_⟩ <;> (first | (with_reducible assumption) | (with_reducible exact cell_drew_keep c0) | (with_reducible exact cell_drew_keep c1) | (with_reducible exact cell_drew_keep c2) | (with_reducible exact cell_drew_keep c3) | (with_reducible exact cell_drew_keep c4))) (first | (go_at_call 11; refine (V1.out _).mono ?_; rintro e w1 ⟨rfl, hb1⟩; have hz1 := hb1.size; (try simp at hz1); have d0 := ((bcell hb1).1 w.heap.size 0 (by first | omega | (simp; done) | (simp; omega))).trans c0; have d1 := ((bcell hb1).1 w.heap.size 1 (by first | omega | (simp; done) | (simp; omega))).trans c1; have d2 := ((bcell hb1).1 w.heap.size 2 (by first | omega | (simp; done) | (simp; omega))).trans c2; have d3 := ((bcell hb1).1 w.heap.size 3 (by first | omega | (simp; done) | (simp; omega))).trans c3; have d4 := ((bcell hb1).1 w.heap.size 4 (by first | omega | (simp; done) | (simp; omega))).trans c4; have B1 := (show Below w.heap.size w w1 from (by repeat (first | (with_reducible exact Below.refl _ _) | (with_reducible refine Below.drew ?_) | (with_reducible refine below_drewN ?_ _) | ((with_reducible refine Below.alloc ?_ ?_ _); rotate_left; (first | omega | (simp <;> omega)); rotate_right) | ((with_reducible refine Below.setCell ?_ ?_ _); rotate_left; (first | omega | (simp <;> omega)); rotate_right) | (with_reducible assumption) | (refine Below.trans ?_ (Below.mono (by assumption) ?_); rotate_left; (first | omega | (simp <;> omega)); rotate_right))))) | (go_at_call 12; refine (V2.out _).mono ?_; rintro e w2 ⟨rfl, hb2⟩; have hz2 := hb2.size; (try simp at hz2); have e0 := ((bcell hb2).1 w.heap.size 0 (by first | omega | (simp; done) | (simp; omega))).trans d0; have e1 := ((bcell hb2).1 w.heap.size 1 (by first | omega | (simp; done) | (simp; omega))).trans d1; have e2 := ((bcell hb2).1 w.heap.size 2 (by first | omega | (simp; done) | (simp; omega))).trans d2; have e3 := ((bcell hb2).1 w.heap.size 3 (by first | omega | (simp; done) | (simp; omega))).trans d3; have e4 := ((bcell hb2).1 w.heap.size 4 (by first | omega | (simp; done) | (simp; omega))).trans d4; have B2 := (show Below w.heap.size w w2 from (by repeat (first | (with_reducible exact Below.refl _ _) | (with_reducible refine Below.drew ?_) | (with_reducible refine below_drewN ?_ _) | ((with_reducible refine Below.alloc ?_ ?_ _); rotate_left; (first | omega | (simp <;> omega)); rotate_right) | ((with_reducible refine Below.setCell ?_ ?_ _); rotate_left; (first | omega | (simp <;> omega)); rotate_right) | (with_reducible assumption) | (refine Below.trans ?_ (Below.mono (by assumption) ?_); rotate_left; (first | omega | (simp <;> omega)); rotate_right))))) | (go_at_call 10; refine (knownf _).mono ?_; rintro e w3 ⟨rfl, hb3⟩; have hz3 := hb3.size; (try simp at hz3); have f0 := ((bcell hb3).1 w.heap.size 0 (by first | omega | (simp; done) | (simp; omega))).trans e0; have f1 := ((bcell hb3).1 w.heap.size 1 (by first | omega | (simp; done) | (simp; omega))).trans e1; have f2 := ((bcell hb3).1 w.heap.size 2 (by first | omega | (simp; done) | (simp; omega))).trans e2; have f3 := ((bcell hb3).1 w.heap.size 3 (by first | omega | (simp; done) | (simp; omega))).trans e3; have f4 := ((bcell hb3).1 w.heap.size 4 (by first | omega | (simp; done) | (simp; omega))).trans e4; have B3 := (show Below w.heap.size w w3 from (by repeat (first | (with_reducible exact Below.refl _ _) | (with_reducible refine Below.drew ?_) | (with_reducible refine below_drewN ?_ _) | ((with_reducible refine Below.alloc ?_ ?_ _); rotate_left; (first | omega | (simp <;> omega)); rotate_right) | ((with_reducible refine Below.setCell ?_ ?_ _); rotate_left; (first | omega | (simp <;> omega)); rotate_right) | (with_reducible assumption) | (refine Below.trans ?_ (Below.mono (by assumption) ?_); rotate_left; (first | omega | (simp <;> omega)); rotate_right))))))
    go_wp2_with fail
    go_ret
    exact ⟨rfl, (by repeat (first | (with_reducible exact Below.refl _ _) | (with_reducible refine Below.drew ?_) | (with_reducible refine below_drewN ?_ _) | ((with_reducible refine Below.alloc ?_ ?_ _); rotate_left; (first | omega | (simp <;> omega)); rotate_right) | ((with_reducible refine Below.setCell ?_ ?_ _); rotate_left; (first | omega | (simp <;> omega)); rotate_right) | (with_reducible assumption) | (refine Below.trans ?_ (Below.mono (by assumption) ?_); rotate_left; (first | omega | (simp <;> omega)); rotate_right)))⟩
theorem own : ownKnob Try.prog.godebug = none := by kernel_rfl
theorem laidOut : laidOutB Try.prog = true := by kernel_rfl
set_option maxRecDepth 100000 in
theorem lifted (os : Os) (started : os.Started) (H : Type) (enc : TypeId × Value → H) :
    ReturnsInHanded {} Try.checked os 3 .any (Rows.frameValidsSpec.pre6 enc Try.prog Try.f3 Rows.frameValidsRow.domain false) (Rows.frameValidsSpec.post enc Try.prog Try.f3 false true false false) := by
  refine returnsInHanded_of_change (C := Try.checked) own started (by kernel_rfl) Try.func3
    (ChangeSpec.witness6 (enc := enc) (C := Try.checked) false ⟨#[], #[.agg #[.int .i64 0, .int .i64 0, .int .i64 0, .int .i64 0, .slice none 0 0]], []⟩ 8 (by kernel_rfl) (by kernel_rfl) (by kernel_rfl) (by kernel_rfl)) ?_
  intro W base args ds gs before hval0 hW hcnd _
  have hval : ∀ (j : Nat) t v, Try.f3.params[j]? = some t → args[j]? = some v → Value.okWide Try.prog W .any base t v := hval0
  have hW' := hW
  obtain ⟨p, q, hA0, hV, rfl, hfz, hnd⟩ := hW
  have hA : DataW.TrodAll enc Try.prog W 0 (fun _ => true) true Try.f3.params.toList args.toList ds p := hA0
  rw [Try.params3] at hA hval
  obtain ⟨v0, vs0, d0, ds0, p0, q0, hargs, rfl, rfl, h0, r0⟩ := trodAll_cons hA
  obtain ⟨rfl, rfl, rfl⟩ := trodAll_nil r0
  obtain rfl : args = #[v0] := by cases args; simp_all
  obtain ⟨rfl, rfl⟩ := trodVars_none hV
  have k0 := h0
  have lt0 : ∀ x ∈ p0, x.block < W.heap.size := by obtain ⟨m, hm⟩ := k0; exact DataW.trod_lt m _ _ _ hm
  obtain ⟨y0, a0, cap0, rfl, fo0, wo0, ro0⟩ := frame_of (hval 0 25 v0 rfl rfl) h0
  clear hA0 hval0
  refine (walk y0 a0 cap0 W fo0 wo0 ro0).mono fun e W' ⟨he, bel⟩ => ?_
  subst he
  exact ⟨_, rfl, _, _, _, [], _, [], hW', trodAll_mk1 (shut_bool Try.underlying4 _), (trodAll_cons_mk (Below.trod laidOut (by kernel_rfl) (of_decide_eq_true (by kernel_rfl)) k0 bel lt0) trodAll_mk0), rfl, bel.frame _, fun h => by cases h⟩
theorem over : Rows.frameValidsRow.holds Try.pinned (OpenSpec.ofChange Rows.frameValidsSpec) :=
  OpenClaim.holds_of_wide 3 Try.f3 rfl rfl rfl rfl rfl rfl rfl ⟨rfl, rfl, rfl, rfl, rfl⟩ rfl rfl rfl rfl rfl (by kernel_rfl) Try.func3 (by kernel_rfl)
    (of_decide_eq_true (by kernel_rfl)) (by unfold Func.isWrapper; first | (rw [if_pos (by decide +kernel)]; kernel_rfl) | (rw [if_neg (by decide +kernel)]; exact ⟨rfl, rfl⟩))
    (fun os started H enc _ => lifted os started H enc)
theorem proved : Rows.FrameValidsSaid := over
end Go.Proofs.Yteakljjalmgicaa.lawFrameValids

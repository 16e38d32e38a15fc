/- The law of encodings holds: 'skylanternlaw34.FrameEncodes' returns true at every input. No conditions. -/
import Derived.Test.YteakljjalmgicaaArg
import Derived.Test.YteakljjalmgicaaKnownF
namespace Go.Proofs.Yteakljjalmgicaa.lawFrameEncodes
open Go.ChangeShapes Go.WideShapes Go.ChangeAt Go.RowKit Go.Joins
set_option linter.unusedVariables false
set_option maxHeartbeats 4000000
/-- what both encoders leave -/
def EPost (w : World) (k f t s : Int) (d : List Int) (e : Ending) (w' : World) : Prop :=
  (Frm.vd k f t s d.length = false ∧ e = .returned (.tuple #[.slice none 0 0, .int .i64 2]) ∨ Frm.vd k f t s d.length = true ∧ ∃ A' cap', e = .returned (.tuple #[.slice A' (d.length + 10) cap', .int .i64 0]) ∧ Ow w' w.heap.size A' (d.length + 10) cap' (Frm.enc k f t s d)) ∧ Below w.heap.size w w'
theorem enc_post (k f t s : Int) (A : Option Addr) (cap : Nat) (d : List Int) (w : World) (hn : d.length ≤ 1000) (h : Rd w w.heap.size A d.length d) : Calls Try.prog 16 #[.agg #[.int .i64 k, .int .i64 f, .int .i64 t, .int .i64 s, .slice A d.length cap]] w fun e w' => EPost w k f t s d e w' := by
  cases hv : Frm.vd k f t s d.length
  · exact (enc_no k f t s A d.length cap w (by omega) hv).mono fun e w' h => ⟨.inl ⟨hv, h.1⟩, h.2⟩
  · exact (enc_yes k f t s A d.length cap d w hv h).mono fun e w' ⟨A', c', h1, h2, h3⟩ => ⟨.inr ⟨hv, A', c', h1, h2⟩, h3⟩
theorem renc_post (k f t s : Int) (A : Option Addr) (cap : Nat) (d : List Int) (w : World) (hn : d.length ≤ 1000) (h : Rd w w.heap.size A d.length d) : Calls Try.prog 17 #[.agg #[.int .i64 k, .int .i64 f, .int .i64 t, .int .i64 s, .slice A d.length cap]] w fun e w' => EPost w k f t s d e w' := by
  cases hv : Frm.vd k f t s d.length
  · exact (renc_no k f t s A d.length cap w (by omega) hv).mono fun e w' h => ⟨.inl ⟨hv, h.1⟩, h.2⟩
  · exact (renc_yes k f t s A d.length cap d w hv h).mono fun e w' ⟨A', c', h1, h2, h3⟩ => ⟨.inr ⟨hv, A', c', h1, h2⟩, h3⟩
theorem same_yes (k f t s : Int) (A C : Option Addr) (n m cap caq : Nat) (l : List Int) (w : World) (h : Rd w w.heap.size A n l) (g : Rd w w.heap.size C m l) :
    Calls Try.prog 18 #[.agg #[.int .i64 k, .int .i64 f, .int .i64 t, .int .i64 s, .slice A n cap], .agg #[.int .i64 k, .int .i64 f, .int .i64 t, .int .i64 s, .slice C m caq]] w fun e w' => e = .returned (.bool true) ∧ Below w.heap.size w w' :=
  (same_any k f t s k f t s A C n m cap caq l l w h g).mono fun e w' h => ⟨by rw [h.1]; simp [sameB], h.2⟩
theorem walk (y0 : Fr) (a0 : Option Addr) (cap0 : Nat) (w : World) (f0 : FrOk y0) (w0 : Rd w w.heap.size a0 y0.d.length y0.d) (r0 : Room a0 y0.d.length cap0) :
    Calls Try.prog 5 #[.agg #[.int .i64 y0.k, .int .i64 y0.f, .int .i64 y0.t, .int .i64 y0.s, .slice a0 y0.d.length cap0]] w fun e w' => e = .returned (.bool true) ∧ Below w.heap.size w w' := by
  obtain ⟨i0, hi0, hzA, hzB, hzC⟩ := info_parts info_u8
  obtain ⟨y0k, y0f, y0t, y0s, d⟩ := y0
  have hcap := r0.1
  have hmax := r0.2.1
  unfold maxLen at hmax
  have HW := Lib.hid w0
  clear w0 r0 f0
  simp only at *
  rcases Nat.lt_or_ge 100 d.length with hn | hn
  · go_enter Try.func5, Try.ntmps5
    go_wp2_with fail
    refine (knownf _).mono ?_
    rintro e w1 ⟨rfl, hb⟩
    go_wp2_with fail
    go_ret
    exact ⟨rfl, (by repeat (first | (with_reducible exact Below.refl _ _) | (with_reducible refine Below.drew ?_) | (with_reducible refine below_drewN ?_ _) | ((with_reducible refine Below.alloc ?_ ?_ _); rotate_left; (first | omega | (simp <;> omega)); rotate_right) | ((with_reducible refine Below.setCell ?_ ?_ _); rotate_left; (first | omega | (simp <;> omega)); rotate_right) | (with_reducible assumption) | (refine Below.trans ?_ (Below.mono (by assumption) ?_); rotate_left; (first | omega | (simp <;> omega)); rotate_right)))⟩
  · have RD := Lib.hid ((HW.out.alloc (Nat.le_refl _) (.cells #[.int .i64 y0k, .int .i64 y0f, .int .i64 y0t, .int .i64 y0s, .slice a0 d.length cap0] 25)).alloc (by simp) (.cells #[.int .i64 y0k, .int .i64 y0f, .int .i64 y0t, .int .i64 y0s, .slice a0 d.length cap0] 25)).reads
    go_enter Try.func5, Try.ntmps5
    go_wp2_with (at_builtin; refine wpList_append_any _ rfl (.const (.slice none 0 0)) (.tmp 15) _ rfl (w.heap.size + 2) 5 i0 _ 1 1 Try.underlying23 hi0 hzA hzB hzC rfl (by omega) (.slice none 0 0) 0 [] rfl (World.ownsRow_nil _ _ _ _) w.heap.size a0 d.length cap0 (bv d) rfl RD.out (bv_one _) (by simp only [maxLen]; omega) (by omega) (by simp) ?_; intro v1 w1 hown1 hg1 hat1; obtain ⟨A1, cap1, rfl⟩ := own_form hown1; have hX := blk_only (q := w.heap.size) (blk_alloc (heap_new w _) _) hg1 (by simp [Value.ownBlock]); have hY := blk_only (q := w.heap.size + 1) (heap_new' _ _ _ (by simp)) hg1 (by simp [Value.ownBlock]); have hb1 := (show Below w.heap.size w w1 from Below.grown (w := (w.alloc (.cells #[.int .i64 y0k, .int .i64 y0f, .int .i64 y0t, .int .i64 y0s, .slice a0 d.length cap0] 25)).alloc (.cells #[.int .i64 y0k, .int .i64 y0f, .int .i64 y0t, .int .i64 y0s, .slice a0 d.length cap0] 25)) (by repeat (first | (with_reducible exact Below.refl _ _) | (with_reducible refine Below.drew ?_) | (with_reducible refine below_drewN ?_ _) | ((with_reducible refine Below.alloc ?_ ?_ _); rotate_left; (first | omega | (simp <;> omega)); rotate_right) | ((with_reducible refine Below.setCell ?_ ?_ _); rotate_left; (first | omega | (simp <;> omega)); rotate_right) | (with_reducible assumption) | (refine Below.trans ?_ (Below.mono (by assumption) ?_); rotate_left; (first | omega | (simp <;> omega)); rotate_right))) hg1 (by simp; omega) (fun k hk => by simp [Value.ownBlock] at hk)); have HO := Lib.hid hown1; clear hown1 hg1 hat1; (have cX_0 := blk_cell hX 0 rfl; have fX_0 := blk_free hX 0; have cX_1 := blk_cell hX 1 rfl; have fX_1 := blk_free hX 1; have cX_2 := blk_cell hX 2 rfl; have fX_2 := blk_free hX 2; have cX_3 := blk_cell hX 3 rfl; have fX_3 := blk_free hX 3; have cX_4 := blk_cell hX 4 rfl; have fX_4 := blk_free hX 4; have lX := lt_of_block hX); (have cY_0 := blk_cell hY 0 rfl; have fY_0 := blk_free hY 0; have cY_1 := blk_cell hY 1 rfl; have fY_1 := blk_free hY 1; have cY_2 := blk_cell hY 2 rfl; have fY_2 := blk_free hY 2; have cY_3 := blk_cell hY 3 rfl; have fY_3 := blk_free hY 3; have cY_4 := blk_cell hY 4 rfl; have fY_4 := blk_free hY 4; have lY := lt_of_block hY))
    have hz1 := hb1.size
    have lX2 := lX
    have lY2 := lY
    obtain ⟨wy, hwy⟩ : ∃ wy : World, wy = w1.setCell ⟨w.heap.size + 1, 4, none⟩ (.slice A1 d.length cap1) := ⟨_, rfl⟩
    have HXy := Lib.hid (show wy.heap[w.heap.size]? = some (.cells #[.int .i64 y0k, .int .i64 y0f, .int .i64 y0t, .int .i64 y0s, .slice a0 d.length cap0] 25 (0, 0)) by rw [hwy]; exact blk_far hX (by simp) _)
    have HYy := Lib.hid (show wy.heap[w.heap.size + 1]? = some (.cells #[.int .i64 y0k, .int .i64 y0f, .int .i64 y0t, .int .i64 y0s, .slice A1 d.length cap1] 25 (0, 0)) by rw [hwy]; exact (blk_set hY 4 _).trans rfl)
    have hby : Below w.heap.size w wy := by rw [hwy]; exact hb1.setCell (by simp) _
    have OWy := Lib.hid (show Ow wy (w.heap.size + 2) A1 d.length cap1 d by
      rw [hwy]
      have h : Ow w1 (w.heap.size + 2) A1 (0 + d.length) cap1 d := ⟨by simpa using HO.out, HW.out.2.1⟩
      rw [Nat.zero_add] at h
      exact h.far (by simp) _)
    have zwy : wy.heap.size = w1.heap.size := by rw [hwy]; simp
    rw [← hwy]
    clear cX_0 fX_0 cX_1 fX_1 cX_2 fX_2 cX_3 fX_3 cX_4 fX_4
    clear cY_0 fY_0 cY_1 fY_1 cY_2 fY_2 cY_3 fY_3 cY_4 fY_4
    clear hwy hX hY hb1 HO lX lY
    have hzy := hby.size
    have HW1 := Lib.hid ((HW.out.below hby (Nat.le_refl _)).more hzy)
    refine (enc_post _ _ _ _ _ _ _ _ (by omega) OWy.out.rd).mono ?_
    have E2 := fun W h => renc_post y0k y0f y0t y0s a0 cap0 d W (by omega) h
    have HE2 := Lib.hid E2
    clear E2
    rintro e w2 ⟨⟨hv, rfl⟩ | ⟨hv, A2, cap2, rfl, how2⟩, hb2⟩
    · have HV := Lib.hid hv
      clear hv
      have hz2 := hb2.size
      have HX2 := Lib.hid (blk_below HXy.out hb2 (by omega))
      have HY2 := Lib.hid (blk_below HYy.out hb2 (by omega))
      have HB2 := (show Below w.heap.size w w2 from hby.trans (hb2.mono hzy))
      have R2 := Lib.hid ((HW.out.below HB2 (Nat.le_refl _)).more (B' := w2.heap.size) (by omega))
      have RO2 := Lib.hid ((OWy.out.rd.below hb2 (Nat.le_refl _)).more (B' := w2.heap.size) (by omega))
      have hx2 := HX2.out
      have cX_0 := blk_cell hx2 0 rfl; have fX_0 := blk_free hx2 0; have cX_1 := blk_cell hx2 1 rfl; have fX_1 := blk_free hx2 1; have cX_2 := blk_cell hx2 2 rfl; have fX_2 := blk_free hx2 2; have cX_3 := blk_cell hx2 3 rfl; have fX_3 := blk_free hx2 3; have cX_4 := blk_cell hx2 4 rfl; have fX_4 := blk_free hx2 4; have lX := lt_of_block hx2
      go_wp2_with fail
      refine (HE2.out _ R2.out).mono ?_
      clear cX_0 fX_0 cX_1 fX_1 cX_2 fX_2 cX_3 fX_3 cX_4 fX_4
      clear hx2 lX
      rintro e w3 ⟨⟨hv, rfl⟩ | ⟨hv, _⟩, hb3⟩
      · clear hv
        have hz3 := hb3.size
        have HX3 := blk_below HX2.out hb3 (by omega)
        have HY3 := blk_below HY2.out hb3 (by omega)
        have cX_0 := blk_cell HX3 0 rfl; have fX_0 := blk_free HX3 0; have cX_1 := blk_cell HX3 1 rfl; have fX_1 := blk_free HX3 1; have cX_2 := blk_cell HX3 2 rfl; have fX_2 := blk_free HX3 2; have cX_3 := blk_cell HX3 3 rfl; have fX_3 := blk_free HX3 3; have cX_4 := blk_cell HX3 4 rfl; have fX_4 := blk_free HX3 4; have lX := lt_of_block HX3
        have cY_0 := blk_cell HY3 0 rfl; have fY_0 := blk_free HY3 0; have cY_1 := blk_cell HY3 1 rfl; have fY_1 := blk_free HY3 1; have cY_2 := blk_cell HY3 2 rfl; have fY_2 := blk_free HY3 2; have cY_3 := blk_cell HY3 3 rfl; have fY_3 := blk_free HY3 3; have cY_4 := blk_cell HY3 4 rfl; have fY_4 := blk_free HY3 4; have lY := lt_of_block HY3
        have HB3 := (show Below w.heap.size w w3 from HB2.trans (hb3.mono (by omega)))
        have R3 := Lib.hid ((R2.out.below hb3 (Nat.le_refl _)).more (B' := w3.heap.size) (by omega))
        have RO3 := Lib.hid ((RO2.out.below hb3 (Nat.le_refl _)).more (B' := w3.heap.size) (by omega))
        go_wp2_with fail
        refine (kf_same [] [] rfl _ _ _ _ _ _ _ (Rd.nil _ _ _) (Rd.nil _ _ _)).mono ?_
        rintro e w4 ⟨rfl, rfl⟩
        go_wp2_with fail
        refine (same_yes _ _ _ _ _ _ _ _ _ _ _ _ RO3.out R3.out).mono ?_
        rintro e w5 ⟨rfl, hb5⟩
        have hz5 := hb5.size
        have HB5 := (show Below w.heap.size w w5 from HB3.trans (hb5.mono (by omega)))
        go_wp2_with fail
        refine (knownf _).mono ?_
        rintro e w6 ⟨rfl, hb6⟩
        have HB6 := (show Below w.heap.size w w6 from HB5.trans (hb6.mono (by omega)))
        go_wp2_with fail
        go_ret
        exact ⟨rfl, HB6⟩
      · rw [HV.out] at hv; cases hv
    · have HV := Lib.hid hv
      have OE2 := Lib.hid how2
      clear hv how2
      have hz2 := hb2.size
      have HX2 := Lib.hid (blk_below HXy.out hb2 (by omega))
      have HY2 := Lib.hid (blk_below HYy.out hb2 (by omega))
      have HB2 := (show Below w.heap.size w w2 from hby.trans (hb2.mono hzy))
      have R2 := Lib.hid ((HW.out.below HB2 (Nat.le_refl _)).more (B' := w2.heap.size) (by omega))
      have RO2 := Lib.hid ((OWy.out.rd.below hb2 (Nat.le_refl _)).more (B' := w2.heap.size) (by omega))
      have hx2 := HX2.out
      have cX_0 := blk_cell hx2 0 rfl; have fX_0 := blk_free hx2 0; have cX_1 := blk_cell hx2 1 rfl; have fX_1 := blk_free hx2 1; have cX_2 := blk_cell hx2 2 rfl; have fX_2 := blk_free hx2 2; have cX_3 := blk_cell hx2 3 rfl; have fX_3 := blk_free hx2 3; have cX_4 := blk_cell hx2 4 rfl; have fX_4 := blk_free hx2 4; have lX := lt_of_block hx2
      go_wp2_with fail
      refine (HE2.out _ R2.out).mono ?_
      clear cX_0 fX_0 cX_1 fX_1 cX_2 fX_2 cX_3 fX_3 cX_4 fX_4
      clear hx2 lX
      rintro e w3 ⟨⟨hv, _⟩ | ⟨hv, A3, cap3, rfl, how3⟩, hb3⟩
      · rw [HV.out] at hv; cases hv
      · have OE3 := Lib.hid how3
        clear hv how3
        have hz3 := hb3.size
        have HX3 := blk_below HX2.out hb3 (by omega)
        have HY3 := blk_below HY2.out hb3 (by omega)
        have cX_0 := blk_cell HX3 0 rfl; have fX_0 := blk_free HX3 0; have cX_1 := blk_cell HX3 1 rfl; have fX_1 := blk_free HX3 1; have cX_2 := blk_cell HX3 2 rfl; have fX_2 := blk_free HX3 2; have cX_3 := blk_cell HX3 3 rfl; have fX_3 := blk_free HX3 3; have cX_4 := blk_cell HX3 4 rfl; have fX_4 := blk_free HX3 4; have lX := lt_of_block HX3
        have cY_0 := blk_cell HY3 0 rfl; have fY_0 := blk_free HY3 0; have cY_1 := blk_cell HY3 1 rfl; have fY_1 := blk_free HY3 1; have cY_2 := blk_cell HY3 2 rfl; have fY_2 := blk_free HY3 2; have cY_3 := blk_cell HY3 3 rfl; have fY_3 := blk_free HY3 3; have cY_4 := blk_cell HY3 4 rfl; have fY_4 := blk_free HY3 4; have lY := lt_of_block HY3
        have HB3 := (show Below w.heap.size w w3 from HB2.trans (hb3.mono (by omega)))
        have R3 := Lib.hid ((R2.out.below hb3 (Nat.le_refl _)).more (B' := w3.heap.size) (by omega))
        have RO3 := Lib.hid ((RO2.out.below hb3 (Nat.le_refl _)).more (B' := w3.heap.size) (by omega))
        have RE3 := Lib.hid ((OE2.out.rd.below hb3 (Nat.le_refl _)).more (B' := w3.heap.size) (by omega))
        go_wp2_with fail
        refine (kf_same (Frm.enc y0k y0f y0t y0s d) (Frm.enc y0k y0f y0t y0s d) rfl _ _ _ _ _ _ _ RE3.out OE3.out.rd).mono ?_
        rintro e w4 ⟨rfl, rfl⟩
        go_wp2_with fail
        refine (same_yes _ _ _ _ _ _ _ _ _ _ _ _ RO3.out R3.out).mono ?_
        rintro e w5 ⟨rfl, hb5⟩
        have hz5 := hb5.size
        have HB5 := (show Below w.heap.size w w5 from HB3.trans (hb5.mono (by omega)))
        go_wp2_with fail
        refine (knownf _).mono ?_
        rintro e w6 ⟨rfl, hb6⟩
        have HB6 := (show Below w.heap.size w w6 from HB5.trans (hb6.mono (by omega)))
        go_wp2_with fail
        go_ret
        exact ⟨rfl, HB6⟩
theorem own : ownKnob Try.prog.godebug = none := by kernel_rfl
theorem laidOut : laidOutB Try.prog = true := by kernel_rfl
set_option maxRecDepth 100000 in
theorem lifted (os : Os) (started : os.Started) (H : Type) (enc : TypeId × Value → H) :
    ReturnsInHanded {} Try.checked os 5 .any (Rows.frameEncodesSpec.pre6 enc Try.prog Try.f5 Rows.frameEncodesRow.domain false) (Rows.frameEncodesSpec.post enc Try.prog Try.f5 false true false false) := by
  refine returnsInHanded_of_change (C := Try.checked) own started (by kernel_rfl) Try.func5
    (ChangeSpec.witness6 (enc := enc) (C := Try.checked) false ⟨#[], #[.agg #[.int .i64 0, .int .i64 0, .int .i64 0, .int .i64 0, .slice none 0 0]], []⟩ 8 (by kernel_rfl) (by kernel_rfl) (by kernel_rfl) (by kernel_rfl)) ?_
  intro W base args ds gs before hval0 hW hcnd _
  have hval : ∀ (j : Nat) t v, Try.f5.params[j]? = some t → args[j]? = some v → Value.okWide Try.prog W .any base t v := hval0
  have hW' := hW
  obtain ⟨p, q, hA0, hV, rfl, hfz, hnd⟩ := hW
  have hA : DataW.TrodAll enc Try.prog W 0 (fun _ => true) true Try.f5.params.toList args.toList ds p := hA0
  rw [Try.params5] at hA hval
  obtain ⟨v0, vs0, d0, ds0, p0, q0, hargs, rfl, rfl, h0, r0⟩ := trodAll_cons hA
  obtain ⟨rfl, rfl, rfl⟩ := trodAll_nil r0
  obtain rfl : args = #[v0] := by cases args; simp_all
  obtain ⟨rfl, rfl⟩ := trodVars_none hV
  have k0 := h0
  have lt0 : ∀ x ∈ p0, x.block < W.heap.size := by obtain ⟨m, hm⟩ := k0; exact DataW.trod_lt m _ _ _ hm
  obtain ⟨y0, a0, cap0, rfl, fo0, wo0, ro0⟩ := frame_of (hval 0 25 v0 rfl rfl) h0
  clear hA0 hval0
  refine (walk y0 a0 cap0 W fo0 wo0 ro0).mono fun e W' ⟨he, bel⟩ => ?_
  subst he
  exact ⟨_, rfl, _, _, _, [], _, [], hW', trodAll_mk1 (shut_bool Try.underlying4 _), (trodAll_cons_mk (Below.trod laidOut (by kernel_rfl) (of_decide_eq_true (by kernel_rfl)) k0 bel lt0) trodAll_mk0), rfl, bel.frame _, fun h => by cases h⟩
theorem over : Rows.frameEncodesRow.holds Try.pinned (OpenSpec.ofChange Rows.frameEncodesSpec) :=
  OpenClaim.holds_of_wide 5 Try.f5 rfl rfl rfl rfl rfl rfl rfl ⟨rfl, rfl, rfl, rfl, rfl⟩ rfl rfl rfl rfl rfl (by kernel_rfl) Try.func5 (by kernel_rfl)
    (of_decide_eq_true (by kernel_rfl)) (by unfold Func.isWrapper; first | (rw [if_pos (by decide +kernel)]; kernel_rfl) | (rw [if_neg (by decide +kernel)]; exact ⟨rfl, rfl⟩))
    (fun os started H enc _ => lifted os started H enc)
theorem proved : Rows.FrameEncodesSaid := over
end Go.Proofs.Yteakljjalmgicaa.lawFrameEncodes

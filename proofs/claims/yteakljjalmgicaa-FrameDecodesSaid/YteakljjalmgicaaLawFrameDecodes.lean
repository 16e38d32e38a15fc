/- The law of decodings holds: 'skylanternlaw34.FrameDecodes' returns true at every input. No conditions. -/
import Derived.Test.YteakljjalmgicaaArg
import Derived.Test.YteakljjalmgicaaDecU
namespace Go.Proofs.Yteakljjalmgicaa.lawFrameDecodes
open Go.ChangeShapes Go.WideShapes Go.ChangeAt Go.RowKit Go.Joins
set_option linter.unusedVariables false
set_option maxHeartbeats 8000000
theorem walk (a0 : Option Addr) (len0 cap0 : Nat) (l0 : List Int) (w : World) (w0 : Rd w w.heap.size a0 len0 l0) (r0 : Room a0 len0 cap0) :
    Calls Try.prog 6 #[.slice a0 len0 cap0] w fun e w' => e = .returned (.bool true) ∧ Below w.heap.size w w' := by
  obtain ⟨i0, hi0, hzA, hzB, hzC⟩ := info_parts info_u8
  have hcap := r0.1
  have hmax := r0.2.1
  unfold maxLen at hmax
  have HW := Lib.hid w0
  clear w0 r0
  rcases Nat.lt_or_ge 200 len0 with hn | hn
  · go_enter Try.func6, Try.ntmps6
    go_wp2_with fail
    refine (knownf _).mono ?_
    rintro e w1 ⟨rfl, hb⟩
    go_wp2_with fail
    go_ret
    exact ⟨rfl, (by repeat (first | (with_reducible exact Below.refl _ _) | (with_reducible refine Below.drew ?_) | (with_reducible refine below_drewN ?_ _) | ((with_reducible refine Below.alloc ?_ ?_ _); rotate_left; (first | omega | (simp <;> omega)); rotate_right) | ((with_reducible refine Below.setCell ?_ ?_ _); rotate_left; (first | omega | (simp <;> omega)); rotate_right) | (with_reducible assumption) | (refine Below.trans ?_ (Below.mono (by assumption) ?_); rotate_left; (first | omega | (simp <;> omega)); rotate_right)))⟩
  · have RD := Lib.hid (HW.out.reads)
    go_enter Try.func6, Try.ntmps6
    go_wp2_with (at_builtin; refine wpList_append_any _ rfl (.const (.slice none 0 0)) (.tmp 13) _ rfl w.heap.size 5 i0 _ 1 1 Try.underlying23 hi0 hzA hzB hzC rfl (by omega) (.slice none 0 0) 0 [] rfl (World.ownsRow_nil _ _ _ _) w.heap.size a0 len0 cap0 (bv l0) rfl RD.out (bv_one _) (by simp only [maxLen]; omega) (by omega) (by simp) ?_; intro v1 w1 hown1 hg1 hat1; obtain ⟨A1, cap1, rfl⟩ := own_form hown1; have hb1 := (show Below w.heap.size w w1 from (Below.refl _ w).grown hg1 (Nat.le_refl _) (fun k hk => by simp [Value.ownBlock] at hk)); have HO := Lib.hid hown1; clear hown1 hg1 hat1)
    have hz1 := hb1.size
    have ow : Ow w1 w.heap.size A1 len0 cap1 l0 := ⟨by have h := HO.out; rw [Nat.zero_add] at h; simpa using h, HW.out.2.1⟩
    have hrm := ow.room
    have OR := Lib.hid ow.rd
    clear ow HO
    unfold maxLen at hrm
    have HW1 := Lib.hid ((HW.out.below hb1 (Nat.le_refl _)).more hz1)
    refine (dec_uni A1 len0 cap1 l0 _ (by omega) hrm.1 hrm.2 OR.out).mono ?_
    rintro e w2 ⟨A2, cap2, rfl, how2, hb2⟩
    have OW2 := Lib.hid how2
    clear how2
    have hz2 := hb2.size
    have HB2 := Lib.hid hb2
    have HW2 := Lib.hid (((HW1.out.below hb2 (Nat.le_refl _)).alloc hz2 (.cells #[.int .i64 (Frm.uk l0 2), .int .i64 (Frm.uk l0 3), .int .i64 (Frm.uk l0 4), .int .i64 (Frm.us l0), .slice A2 (Frm.ud l0).length cap2] 25)).more (B' := (w2.alloc (.cells #[.int .i64 (Frm.uk l0 2), .int .i64 (Frm.uk l0 3), .int .i64 (Frm.uk l0 4), .int .i64 (Frm.us l0), .slice A2 (Frm.ud l0).length cap2] 25)).heap.size) (by simp; omega))
    have RU := Lib.hid (fun (W : World) (h : Rd W W.heap.size a0 len0 l0) => (show Calls Try.prog 20 #[.slice a0 len0 cap0] W fun e w' => ∃ A cap, e = .returned (.tuple #[.agg #[.int .i64 (Frm.uk l0 2), .int .i64 (Frm.uk l0 3), .int .i64 (Frm.uk l0 4), .int .i64 (Frm.us l0), .slice A (Frm.ud l0).length cap], .int .i64 (Frm.dE l0)]) ∧ Ow w' W.heap.size A (Frm.ud l0).length cap (Frm.ud l0) ∧ Below W.heap.size W w' from rdec_uni a0 len0 cap0 l0 W (by omega) hcap (by omega) h))
    generalize Frm.uk l0 2 = k at RU HW2
    generalize Frm.uk l0 3 = f at RU HW2
    generalize Frm.uk l0 4 = t at RU HW2
    generalize Frm.us l0 = s at RU HW2
    generalize Frm.ud l0 = d at RU HW2 OW2
    generalize Frm.dE l0 = ee at RU
    clear hb2
    go_wp2_with fail
    refine (RU.out _ HW2.out).mono ?_
    rintro e w3 ⟨A3, cap3, rfl, how3, hb3⟩
    have OW3 := Lib.hid how3
    clear how3 RU
    have hz3 := hb3.size; try simp at hz3
    have hF3 := Lib.hid (blk_below (q := w2.heap.size) (heap_new _ _) hb3 (by simp))
    have HB3 := Lib.hid (show Below w2.heap.size w2 w3 from (by repeat (first | (with_reducible exact Below.refl _ _) | (with_reducible refine Below.drew ?_) | (with_reducible refine below_drewN ?_ _) | ((with_reducible refine Below.alloc ?_ ?_ _); rotate_left; (first | omega | (simp <;> omega)); rotate_right) | ((with_reducible refine Below.setCell ?_ ?_ _); rotate_left; (first | omega | (simp <;> omega)); rotate_right) | (with_reducible assumption) | (refine Below.trans ?_ (Below.mono (by assumption) ?_); rotate_left; (first | omega | (simp <;> omega)); rotate_right))))
    have OX3 := Lib.hid (OW2.out.below HB3.out (Nat.le_refl _))
    have hrm2 := OW2.out.room
    unfold maxLen at hrm2
    clear hb3 HW2
    have c0 := (hF3.out)
    have cF_0 := blk_cell c0 0 rfl; have fF_0 := blk_free c0 0; have cF_1 := blk_cell c0 1 rfl; have fF_1 := blk_free c0 1; have cF_2 := blk_cell c0 2 rfl; have fF_2 := blk_free c0 2; have cF_3 := blk_cell c0 3 rfl; have fF_3 := blk_free c0 3; have cF_4 := blk_cell c0 4 rfl; have fF_4 := blk_free c0 4; have lF := lt_of_block c0
    go_upto_region 6 with fail
    obtain ⟨wz, hwz⟩ : ∃ wz : World, wz = w3.alloc (.cells #[.int .i64 k, .int .i64 f, .int .i64 t, .int .i64 s, .slice A3 d.length cap3] 25) := ⟨_, rfl⟩
    have HBz : Below w3.heap.size w3 wz := by rw [hwz]; exact (Below.refl _ _).alloc (Nat.le_refl _) _
    have hG : wz.heap[w3.heap.size]? = some (.cells #[.int .i64 k, .int .i64 f, .int .i64 t, .int .i64 s, .slice A3 d.length cap3] 25 (0, 0)) := by rw [hwz]; exact heap_new _ _
    rw [← hwz]
    clear hwz
    have hzz := HBz.size
    have hFz := blk_below c0 HBz lF
    have RA := Lib.hid ((OX3.out.rd.below HBz (Nat.le_refl _)).more hzz)
    have RB := Lib.hid ((OW3.out.rd.below HBz (Nat.le_refl _)).more hzz)
    clear cF_0 fF_0 cF_1 fF_1 cF_2 fF_2 cF_3 fF_3 cF_4 fF_4
    clear c0
    have cF_0 := blk_cell hFz 0 rfl; have fF_0 := blk_free hFz 0; have cF_1 := blk_cell hFz 1 rfl; have fF_1 := blk_free hFz 1; have cF_2 := blk_cell hFz 2 rfl; have fF_2 := blk_free hFz 2; have cF_3 := blk_cell hFz 3 rfl; have fF_3 := blk_free hFz 3; have cF_4 := blk_cell hFz 4 rfl; have fF_4 := blk_free hFz 4; have lF := lt_of_block hFz
    have cG_0 := blk_cell hG 0 rfl; have fG_0 := blk_free hG 0; have cG_1 := blk_cell hG 1 rfl; have fG_1 := blk_free hG 1; have cG_2 := blk_cell hG 2 rfl; have fG_2 := blk_free hG 2; have cG_3 := blk_cell hG 3 rfl; have fG_3 := blk_free hG 3; have cG_4 := blk_cell hG 4 rfl; have fG_4 := blk_free hG 4; have lG := lt_of_block hG
    go_wp2_with fail
    refine (same_yes k f t s A2 A3 _ _ _ _ d _ RA.out RB.out).mono ?_
    rintro e w4 ⟨rfl, hb4⟩
    have hz4 := hb4.size
    have HB4 := Lib.hid (show Below w2.heap.size w2 w4 from (HB3.out.trans (HBz.mono (by omega))).trans (hb4.mono (by omega)))
    have hF4 := Lib.hid (blk_below hFz hb4 (by omega))
    have OY := Lib.hid (OW2.out.below HB4.out (Nat.le_refl _))
    clear OW2
    clear cF_0 fF_0 cF_1 fF_1 cF_2 fF_2 cF_3 fF_3 cF_4 fF_4
    clear cG_0 fG_0 cG_1 fG_1 cG_2 fG_2 cG_3 fG_3 cG_4 fG_4
    clear hFz hG RA RB OX3 OW3 HBz hF3 HB3 hb4
    go_wp2_with fail
    go_loopw [8] (fun s8 wr => ∃ (i : Nat) (x : List Int), s8 = .int .i64 i ∧ i ≤ d.length ∧ Ow wr w1.heap.size A2 d.length cap2 x ∧ Below w1.heap.size w1 wr ∧ wr.heap[w2.heap.size]? = some (.cells #[.int .i64 k, .int .i64 f, .int .i64 t, .int .i64 s, .slice A2 d.length cap2] 25 (0, 0))) (fun s8 _ => d.length - (intOf s8).toNat)
    case atStart => exact ⟨0, d, by go_num, by omega, OY.out, HB2.out.trans (HB4.out.mono hz2), hF4.out⟩
    case round =>
      obtain ⟨i, x, rfl, hi, hO, hB, hF⟩ := hrel
      have hzr := hB.size
      have hOH := Lib.hid hO
      have hFH := Lib.hid hF
      by_cases hlt : i < d.length
      · obtain ⟨g, rfl, hg1, hg2, hg3, hg4⟩ := hO.form.resolve_left (by omega)
        have hcl := hO.rd.2.2 (by omega)
        obtain ⟨g', o', e', hbl, hcl⟩ := hcl
        injection e' with e'; injection e' with eg eo; subst eg; subst eo
        have hck := hcl i hlt
        rw [Nat.zero_add] at hck
        have hby := hO.2.at_ i
        have hfz : wr.frozen? ⟨g, i, none⟩ = false := by obtain ⟨cur, hh, _⟩ := hO.block; exact blk_free hh i
        have hne : w2.heap.size ≠ g := by
          intro e
          obtain ⟨cur, hh, _⟩ := hO.block
          rw [← e, hF] at hh
          injection hh with hh; injection hh with _ hh; revert hh; decide
        generalize x.getD i 0 = y at hck hby
        obtain ⟨y0, y1⟩ := hby
        have cF_0 := blk_cell hF 0 rfl; have fF_0 := blk_free hF 0; have cF_1 := blk_cell hF 1 rfl; have fF_1 := blk_free hF 1; have cF_2 := blk_cell hF 2 rfl; have fF_2 := blk_free hF 2; have cF_3 := blk_cell hF 3 rfl; have fF_3 := blk_free hF 3; have cF_4 := blk_cell hF 4 rfl; have fF_4 := blk_free hF 4; have lF := lt_of_block hF
        clear hO hF hcl
        go_wp2_with fail
        go_roundw
        case rel => exact ⟨i + 1, _, by go_num, by omega, hOH.out.store i _ (by first | omega | (rw [IntKind.wrap_u8]; omega)), hB.setCell hg1 _, blk_far hFH.out hne _⟩
        case measure => simp [intOf]; omega
      · obtain rfl : i = d.length := by omega
        have RA := Lib.hid ((OR.out.below hB (Nat.le_refl _)).more hzr)
        have RB := Lib.hid ((HW1.out.below hB (Nat.le_refl _)).more hzr)
        have cF_0 := blk_cell hF 0 rfl; have fF_0 := blk_free hF 0; have cF_1 := blk_cell hF 1 rfl; have fF_1 := blk_free hF 1; have cF_2 := blk_cell hF 2 rfl; have fF_2 := blk_free hF 2; have cF_3 := blk_cell hF 3 rfl; have fF_3 := blk_free hF 3; have cF_4 := blk_cell hF 4 rfl; have fF_4 := blk_free hF 4; have lF := lt_of_block hF
        clear hO hF
        go_wp2_with fail
        refine (kf_same l0 l0 rfl _ _ _ _ _ _ _ RA.out RB.out).mono ?_
        rintro e w5 ⟨rfl, rfl⟩
        go_wp2_with fail
        refine (knownf _).mono ?_
        rintro e w6 ⟨rfl, hb6⟩
        have HB6 := (show Below w.heap.size w w6 from (hb1.trans (hB.mono hz1)).trans (hb6.mono (by omega)))
        go_wp2_with fail
        go_ret
        exact ⟨rfl, HB6⟩
theorem own : ownKnob Try.prog.godebug = none := by kernel_rfl
theorem laidOut : laidOutB Try.prog = true := by kernel_rfl
set_option maxRecDepth 100000 in
theorem lifted (os : Os) (started : os.Started) (H : Type) (enc : TypeId × Value → H) :
    ReturnsInHanded {} Try.checked os 6 .any (Rows.frameDecodesSpec.pre6 enc Try.prog Try.f6 Rows.frameDecodesRow.domain false) (Rows.frameDecodesSpec.post enc Try.prog Try.f6 false true false false) := by
  refine returnsInHanded_of_change (C := Try.checked) own started (by kernel_rfl) Try.func6
    (ChangeSpec.witness6 (enc := enc) (C := Try.checked) false ⟨#[], #[.slice none 0 0], []⟩ 8 (by kernel_rfl) (by kernel_rfl) (by kernel_rfl) (by kernel_rfl)) ?_
  intro W base args ds gs before hval0 hW hcnd _
  have hval : ∀ (j : Nat) t v, Try.f6.params[j]? = some t → args[j]? = some v → Value.okWide Try.prog W .any base t v := hval0
  have hW' := hW
  obtain ⟨p, q, hA0, hV, rfl, hfz, hnd⟩ := hW
  have hA : DataW.TrodAll enc Try.prog W 0 (fun _ => true) true Try.f6.params.toList args.toList ds p := hA0
  rw [Try.params6] at hA hval
  obtain ⟨v0, vs0, d0, ds0, p0, q0, hargs, rfl, rfl, h0, r0⟩ := trodAll_cons hA
  obtain ⟨rfl, rfl, rfl⟩ := trodAll_nil r0
  obtain rfl : args = #[v0] := by cases args; simp_all
  obtain ⟨rfl, rfl⟩ := trodVars_none hV
  have k0 := h0
  have lt0 : ∀ x ∈ p0, x.block < W.heap.size := by obtain ⟨m, hm⟩ := k0; exact DataW.trod_lt m _ _ _ hm
  obtain ⟨a0, len0, cap0, rfl⟩ := okWide_slice Try.underlying23 (hval 0 23 v0 rfl rfl)
  obtain ⟨fuel0, hf0⟩ := h0
  obtain ⟨xa0, xlen0, xcap0, l0, xe0, ro0, wo0⟩ := bytes_of hf0
  obtain ⟨rfl, rfl, rfl⟩ : a0 = xa0 ∧ len0 = xlen0 ∧ cap0 = xcap0 := by injection xe0 with e1 e2 e3; exact ⟨e1, e2, e3⟩
  clear hA0 hval0
  refine (walk a0 len0 cap0 l0 W wo0 ro0).mono fun e W' ⟨he, bel⟩ => ?_
  subst he
  exact ⟨_, rfl, _, _, _, [], _, [], hW', trodAll_mk1 (shut_bool Try.underlying4 _), (trodAll_cons_mk (Below.trod laidOut (by kernel_rfl) (of_decide_eq_true (by kernel_rfl)) k0 bel lt0) trodAll_mk0), rfl, bel.frame _, fun h => by cases h⟩
theorem over : Rows.frameDecodesRow.holds Try.pinned (OpenSpec.ofChange Rows.frameDecodesSpec) :=
  OpenClaim.holds_of_wide 6 Try.f6 rfl rfl rfl rfl rfl rfl rfl ⟨rfl, rfl, rfl, rfl, rfl⟩ rfl rfl rfl rfl rfl (by kernel_rfl) Try.func6 (by kernel_rfl)
    (of_decide_eq_true (by kernel_rfl)) (by unfold Func.isWrapper; first | (rw [if_pos (by decide +kernel)]; kernel_rfl) | (rw [if_neg (by decide +kernel)]; exact ⟨rfl, rfl⟩))
    (fun os started H enc _ => lifted os started H enc)
theorem proved : Rows.FrameDecodesSaid := over
end Go.Proofs.Yteakljjalmgicaa.lawFrameDecodes

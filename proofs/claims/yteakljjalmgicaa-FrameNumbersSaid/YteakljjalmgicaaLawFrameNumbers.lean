/- The law of encoded numbers holds: 'skylanternlaw34.FrameNumbers' returns true at every input. No conditions. -/
import Derived.Test.YteakljjalmgicaaArg
import Derived.Test.YteakljjalmgicaaNumU
namespace Go.Proofs.Yteakljjalmgicaa.lawFrameNumbers
open Go.ChangeShapes Go.WideShapes Go.ChangeAt Go.RowKit Go.Joins
set_option linter.unusedVariables false
set_option maxHeartbeats 8000000
theorem samei_yes (l : List Int) (A C : Option Addr) (n cap caq : Nat) (hn : n ≤ 140737488355328) (w : World) (h : Ri w w.heap.size A n l) (g : Ri w w.heap.size C n l) :
    Calls Try.prog 28 #[.slice A n cap, .slice C n caq] w fun e w' => e = .returned (.bool true) ∧ ∃ q, w' = w.drewN q :=
  (samei_any A C n n cap caq l l w hn hn h g).mono fun e w' ⟨h1, h2⟩ => ⟨by rw [h1]; simp, h2⟩
theorem gL_le (l : List Int) (n : Nat) (many : Int) (hn : n ≤ 1000) : (Frm.gL l n many).length ≤ 1000 := by
  unfold Frm.gL
  by_cases h : Frm.gOk n many = true
  · rw [if_pos h, Frm.gn_len]; simp only [Frm.gOk, decide_eq_true_eq] at h; omega
  · rw [if_neg h]; simp
theorem gL_pn {l : List Int} {n : Nat} (h : Frm.okAll l = true) (hn : l.length = n) : Frm.gL (Frm.pn l) (Frm.pn l).length n = l ∧ Frm.gE (Frm.pn l).length n = 0 := by
  have hl := Frm.pn_len l
  have ho : Frm.gOk (Frm.pn l).length n = true := by simp only [Frm.gOk, decide_eq_true_eq]; omega
  refine ⟨?_, ?_⟩
  · rw [Frm.gL, if_pos ho, Int.toNat_natCast, ← hn, Frm.gn_pn l h]
  · rw [Frm.gE, if_neg (by omega), if_neg (by omega), if_neg (by omega)]
set_option maxRecDepth 100000 in
theorem walk (a0 : Option Addr) (len0 cap0 : Nat) (l0 : List Int) (a1 : Option Addr) (len1 cap1 : Nat) (l1 : List Int) (a2 : Int) (w : World) (w0 : Ri w w.heap.size a0 len0 l0) (r0 : Room a0 len0 cap0) (w1 : Rd w w.heap.size a1 len1 l1) (r1 : Room a1 len1 cap1) (w2 : (Lit.int .i64 a2).wf = true) :
    Calls Try.prog 8 #[.slice a0 len0 cap0, .slice a1 len1 cap1, .int .i64 a2] w fun e w' => e = .returned (.bool true) ∧ Below w.heap.size w w' := by
  have hcap := r0.1
  have hmax := r0.2.1
  have hcap1 := r1.1
  have hmax1 := r1.2.1
  unfold maxLen at hmax hmax1
  have hm := i64_wf w2
  have H0 := Lib.hid w0
  have H1 := Lib.hid w1
  clear w0 r0 w1 r1
  by_cases hbig : 20 < len0 ∨ 100 < len1
  · rcases Nat.lt_or_ge 20 len0 with hn | hn
    · clear hbig
      go_enter Try.func8, Try.ntmps8
      go_wp2_with fail
      refine (knownf _).mono ?_
      rintro e w1 ⟨rfl, hb⟩
      go_wp2_with fail
      go_ret
      exact ⟨rfl, (by repeat (first | (with_reducible exact Below.refl _ _) | (with_reducible refine Below.drew ?_) | (with_reducible refine below_drewN ?_ _) | ((with_reducible refine Below.alloc ?_ ?_ _); rotate_left; (first | omega | (simp <;> omega)); rotate_right) | ((with_reducible refine Below.setCell ?_ ?_ _); rotate_left; (first | omega | (simp <;> omega)); rotate_right) | (with_reducible assumption) | (refine Below.trans ?_ (Below.mono (by assumption) ?_); rotate_left; (first | omega | (simp <;> omega)); rotate_right)))⟩
    · have h1 : 100 < len1 := by omega
      clear hbig
      go_enter Try.func8, Try.ntmps8
      go_wp2_with fail
      refine (knownf _).mono ?_
      rintro e w1 ⟨rfl, hb⟩
      go_wp2_with fail
      go_ret
      exact ⟨rfl, (by repeat (first | (with_reducible exact Below.refl _ _) | (with_reducible refine Below.drew ?_) | (with_reducible refine below_drewN ?_ _) | ((with_reducible refine Below.alloc ?_ ?_ _); rotate_left; (first | omega | (simp <;> omega)); rotate_right) | ((with_reducible refine Below.setCell ?_ ?_ _); rotate_left; (first | omega | (simp <;> omega)); rotate_right) | (with_reducible assumption) | (refine Below.trans ?_ (Below.mono (by assumption) ?_); rotate_left; (first | omega | (simp <;> omega)); rotate_right)))⟩
  · have hn0 : len0 ≤ 20 := by omega
    have hn1 : len1 ≤ 100 := by omega
    clear hbig
    have P1 := Lib.hid (fun (W : World) (h : Ri W W.heap.size a0 len0 l0) => (show Calls Try.prog 24 #[.slice a0 len0 cap0] W fun e w' => ∃ A cap, e = .returned (.tuple #[.slice A (Frm.pL l0).length cap, .int .i64 (Frm.pE l0)]) ∧ Ow w' W.heap.size A (Frm.pL l0).length cap (Frm.pL l0) ∧ Below W.heap.size W w' from put_uni a0 len0 cap0 l0 W (by omega) h))
    have P2 := Lib.hid (fun (W : World) (h : Ri W W.heap.size a0 len0 l0) => (show Calls Try.prog 25 #[.slice a0 len0 cap0] W fun e w' => ∃ A cap, e = .returned (.tuple #[.slice A (Frm.pL l0).length cap, .int .i64 (Frm.pE l0)]) ∧ Ow w' W.heap.size A (Frm.pL l0).length cap (Frm.pL l0) ∧ Below W.heap.size W w' from rput_uni a0 len0 cap0 l0 W (by omega) h))
    have G1 := Lib.hid (fun (W : World) (h : Rd W W.heap.size a1 len1 l1) => (show Calls Try.prog 26 #[.slice a1 len1 cap1, .int .i64 a2] W fun e w' => ∃ A cap, e = .returned (.tuple #[.slice A (Frm.gL l1 len1 a2).length cap, .int .i64 (Frm.gE len1 a2)]) ∧ Oi w' W.heap.size A (Frm.gL l1 len1 a2).length cap (Frm.gL l1 len1 a2) ∧ Below W.heap.size W w' from get_uni a1 len1 cap1 a2 l1 W (by omega) hcap1 (by omega) hm h))
    have G2 := Lib.hid (fun (W : World) (h : Rd W W.heap.size a1 len1 l1) => (show Calls Try.prog 27 #[.slice a1 len1 cap1, .int .i64 a2] W fun e w' => ∃ A cap, e = .returned (.tuple #[.slice A (Frm.gL l1 len1 a2).length cap, .int .i64 (Frm.gE len1 a2)]) ∧ Oi w' W.heap.size A (Frm.gL l1 len1 a2).length cap (Frm.gL l1 len1 a2) ∧ Below W.heap.size W w' from rget_uni a1 len1 cap1 a2 l1 W (by omega) hm h))
    have KQ := Lib.hid (show Frm.pE l0 = 0 → Frm.pL l0 = Frm.pn l0 ∧ Frm.okAll l0 = true from fun h => by
      unfold Frm.pE at h
      by_cases ho : Frm.pOk l0 = true
      · refine ⟨by rw [Frm.pL, if_pos ho], ?_⟩
        simp only [Frm.pOk, Bool.and_eq_true] at ho
        exact ho.2
      · rw [if_neg ho] at h; omega)
    have hgl := gL_le l1 len1 a2 (by omega)
    generalize Frm.gL l1 len1 a2 = gl at G1 G2 hgl
    generalize Frm.gE len1 a2 = ge at G1 G2
    obtain ⟨pl, hpl⟩ : ∃ pl, pl = Frm.pL l0 := ⟨_, rfl⟩
    obtain ⟨pe, hpe⟩ : ∃ pe, pe = Frm.pE l0 := ⟨_, rfl⟩
    rw [← hpl, ← hpe] at P1 P2 KQ
    clear hpl hpe
    obtain ⟨hm0, hm1⟩ := hm
    clear w2
    go_enter Try.func8, Try.ntmps8
    go_wp2_with fail
    refine (P1.out _ H0.out).mono ?_
    rintro e w1 ⟨A1, c1, rfl, how, hb1⟩
    have O1 := Lib.hid how.rd
    have hz1 := hb1.size
    have HB1 := Lib.hid hb1
    clear how hb1
    go_wp2_with fail
    refine (P2.out _ ((H0.out.below HB1.out (Nat.le_refl _)).more hz1)).mono ?_
    rintro e w2 ⟨A2, c2, rfl, how, hb2⟩
    have O2 := Lib.hid how.rd
    have hrm2 := how.room
    unfold maxLen at hrm2
    have hz2 := hb2.size
    have HB2 := Lib.hid (HB1.out.trans (hb2.mono hz1))
    have O1b := Lib.hid ((O1.out.below hb2 (Nat.le_refl _)).more hz2)
    clear how hb2 O1
    go_wp2_with fail
    refine (G1.out _ ((H1.out.below HB2.out (Nat.le_refl _)).more (by omega))).mono ?_
    rintro e w3 ⟨A3, c3, rfl, how, hb3⟩
    have O3 := Lib.hid how.ri
    have hz3 := hb3.size
    have HB3 := Lib.hid (HB2.out.trans (hb3.mono (by omega)))
    have O1c := Lib.hid ((O1b.out.below hb3 (Nat.le_refl _)).more hz3)
    have O2c := Lib.hid ((O2.out.below hb3 (Nat.le_refl _)).more hz3)
    clear how hb3 O1b O2
    go_wp2_with fail
    refine (G2.out _ ((H1.out.below HB3.out (Nat.le_refl _)).more (by omega))).mono ?_
    rintro e w4 ⟨A4, c4, rfl, how, hb4⟩
    have O4 := Lib.hid how.ri
    have hz4 := hb4.size
    have HB4 := Lib.hid (HB3.out.trans (hb4.mono (by omega)))
    have O1d := Lib.hid ((O1c.out.below hb4 (Nat.le_refl _)).more hz4)
    have O2d := Lib.hid ((O2c.out.below hb4 (Nat.le_refl _)).more hz4)
    have O3d := Lib.hid ((O3.out.below hb4 (Nat.le_refl _)).more hz4)
    clear how hb4 O1c O2c O3 P1 P2 G1 G2
    go_wp2_with fail
    refine (kf_same pl pl rfl _ _ _ _ _ _ _ O1d.out O2d.out).mono ?_
    rintro e w5 ⟨rfl, rfl⟩
    go_wp2_with fail
    refine (samei_yes gl _ _ _ _ _ (by omega) _ O3d.out O4.out).mono ?_
    rintro e w5 ⟨rfl, q, hw5⟩
    have HB5 := Lib.hid (show Below w.heap.size w w5 by rw [hw5]; exact below_drewN HB4.out q)
    have O2e := Lib.hid (show Rd w5 w5.heap.size A2 pl.length pl by rw [hw5]; exact O2d.out.drewN q)
    have hz5 : w4.heap.size ≤ w5.heap.size := by rw [hw5]; exact Nat.le_refl _
    clear hw5 O1d O2d O3d O4
    by_cases hq : pe = 0
    · obtain ⟨hp1, hp2⟩ := KQ.out hq
      subst hp1
      subst hq
      have hl0 := H0.out.1
      have hlp := Frm.pn_len l0
      have hbnd : (Frm.pn l0).length = 4 * len0 := by omega
      obtain ⟨hg1, hg2⟩ := gL_pn hp2 hl0
      have GG := Lib.hid (fun (W : World) (h : Rd W W.heap.size A2 (Frm.pn l0).length (Frm.pn l0)) => (show Calls Try.prog 26 #[.slice A2 (Frm.pn l0).length c2, .int .i64 len0] W fun e w' => ∃ A cap, e = .returned (.tuple #[.slice A len0 cap, .int .i64 0]) ∧ Oi w' W.heap.size A len0 cap l0 ∧ Below W.heap.size W w' from by
        have := get_uni A2 (Frm.pn l0).length c2 len0 (Frm.pn l0) W (by omega) hrm2.1 (by omega) (by omega) h
        unfold GuPost at this
        rw [hg1, hg2, hl0] at this
        exact this))
      clear hg1 hg2 hp2 hlp hl0 hbnd
      go_wp2_with fail
      refine (GG.out _ O2e.out).mono ?_
      rintro e w6 ⟨A6, c6, rfl, how, hb6⟩
      have O6 := Lib.hid how.ri
      have hz6 := hb6.size
      have HB6 := Lib.hid (HB5.out.trans (hb6.mono (by omega)))
      clear how hb6 GG
      go_wp2_with fail
      refine (samei_yes l0 _ _ _ _ _ (by omega) _ O6.out ((H0.out.below HB6.out (Nat.le_refl _)).more (by omega))).mono ?_
      rintro e w7 ⟨rfl, q', hw7⟩
      have HB7 := Lib.hid (show Below w.heap.size w w7 by rw [hw7]; exact below_drewN HB6.out q')
      have hz7 : w6.heap.size ≤ w7.heap.size := by rw [hw7]; exact Nat.le_refl _
      clear hw7
      go_wp2_with fail
      refine (knownf _).mono ?_
      rintro e w8 ⟨rfl, hb8⟩
      have HB8 := (show Below w.heap.size w w8 from HB7.out.trans (hb8.mono (by omega)))
      go_wp2_with fail
      go_ret
      exact ⟨rfl, HB8⟩
    · have z := (show (pe != 0) = true by simpa using hq)
      clear hq
      go_wp2_with fail
      refine (knownf _).mono ?_
      rintro e w6 ⟨rfl, hb6⟩
      have HB6 := (show Below w.heap.size w w6 from HB5.out.trans (hb6.mono (by omega)))
      go_wp2_with fail
      go_ret
      exact ⟨rfl, HB6⟩
theorem own : ownKnob Try.prog.godebug = none := by kernel_rfl
theorem laidOut : laidOutB Try.prog = true := by kernel_rfl
set_option maxRecDepth 100000 in
theorem lifted (os : Os) (started : os.Started) (H : Type) (enc : TypeId × Value → H) :
    ReturnsInHanded {} Try.checked os 8 .any (Rows.frameNumbersSpec.pre6 enc Try.prog Try.f8 Rows.frameNumbersRow.domain false) (Rows.frameNumbersSpec.post enc Try.prog Try.f8 false true false false) := by
  refine returnsInHanded_of_change (C := Try.checked) own started (by kernel_rfl) Try.func8
    (ChangeSpec.witness6 (enc := enc) (C := Try.checked) false ⟨#[], #[.slice none 0 0, .slice none 0 0, .int .i64 0], []⟩ 8 (by kernel_rfl) (by kernel_rfl) (by kernel_rfl) (by kernel_rfl)) ?_
  intro W base args ds gs before hval0 hW hcnd _
  have hval : ∀ (j : Nat) t v, Try.f8.params[j]? = some t → args[j]? = some v → Value.okWide Try.prog W .any base t v := hval0
  have hW' := hW
  obtain ⟨p, q, hA0, hV, rfl, hfz, hnd⟩ := hW
  have hA : DataW.TrodAll enc Try.prog W 0 (fun _ => true) true Try.f8.params.toList args.toList ds p := hA0
  rw [Try.params8] at hA hval
  obtain ⟨v0, vs0, d0, ds0, p0, q0, hargs, rfl, rfl, h0, r0⟩ := trodAll_cons hA
  obtain ⟨v1, vs1, d1, ds1, p1, q1, rfl, rfl, rfl, h1, r1⟩ := trodAll_cons r0
  obtain ⟨v2, vs2, d2, ds2, p2, q2, rfl, rfl, rfl, h2, r2⟩ := trodAll_cons r1
  obtain ⟨rfl, rfl, rfl⟩ := trodAll_nil r2
  obtain rfl : args = #[v0, v1, v2] := by cases args; simp_all
  obtain ⟨rfl, rfl⟩ := trodVars_none hV
  have k0 := h0
  have lt0 : ∀ x ∈ p0, x.block < W.heap.size := by obtain ⟨m, hm⟩ := k0; exact DataW.trod_lt m _ _ _ hm
  obtain ⟨a0, len0, cap0, rfl⟩ := okWide_slice Try.underlying48 (hval 0 48 v0 rfl rfl)
  obtain ⟨fuel0, hf0⟩ := h0
  obtain ⟨xa0, xlen0, xcap0, l0, xe0, ro0, wo0⟩ := ints_of hf0
  obtain ⟨rfl, rfl, rfl⟩ : a0 = xa0 ∧ len0 = xlen0 ∧ cap0 = xcap0 := by injection xe0 with e1 e2 e3; exact ⟨e1, e2, e3⟩
  have k1 := h1
  have lt1 : ∀ x ∈ p1, x.block < W.heap.size := by obtain ⟨m, hm⟩ := k1; exact DataW.trod_lt m _ _ _ hm
  obtain ⟨a1, len1, cap1, rfl⟩ := okWide_slice Try.underlying23 (hval 1 23 v1 rfl rfl)
  obtain ⟨fuel1, hf1⟩ := h1
  obtain ⟨xa1, xlen1, xcap1, l1, xe1, ro1, wo1⟩ := bytes_of hf1
  obtain ⟨rfl, rfl, rfl⟩ : a1 = xa1 ∧ len1 = xlen1 ∧ cap1 = xcap1 := by injection xe1 with e1 e2 e3; exact ⟨e1, e2, e3⟩
  have k2 := h2
  have lt2 : ∀ x ∈ p2, x.block < W.heap.size := by obtain ⟨m, hm⟩ := k2; exact DataW.trod_lt m _ _ _ hm
  obtain ⟨a2, rfl, _, _, w2⟩ := open_int Try.underlying3 (hval 2 3 v2 rfl rfl) h2
  clear hA0 hval0
  refine (walk a0 len0 cap0 l0 a1 len1 cap1 l1 a2 W wo0 ro0 wo1 ro1 w2).mono fun e W' ⟨he, bel⟩ => ?_
  subst he
  exact ⟨_, rfl, _, _, _, [], _, [], hW', trodAll_mk1 (shut_bool Try.underlying4 _), (trodAll_cons_mk (Below.trod laidOut (by kernel_rfl) (of_decide_eq_true (by kernel_rfl)) k0 bel lt0) (trodAll_cons_mk (Below.trod laidOut (by kernel_rfl) (of_decide_eq_true (by kernel_rfl)) k1 bel lt1) (trodAll_cons_mk (Below.trod laidOut (by kernel_rfl) (of_decide_eq_true (by kernel_rfl)) k2 bel lt2) trodAll_mk0))), rfl, bel.frame _, fun h => by cases h⟩
theorem over : Rows.frameNumbersRow.holds Try.pinned (OpenSpec.ofChange Rows.frameNumbersSpec) :=
  OpenClaim.holds_of_wide 8 Try.f8 rfl rfl rfl rfl rfl rfl rfl ⟨rfl, rfl, rfl, rfl, rfl⟩ rfl rfl rfl rfl rfl (by kernel_rfl) Try.func8 (by kernel_rfl)
    (of_decide_eq_true (by kernel_rfl)) (by unfold Func.isWrapper; first | (rw [if_pos (by decide +kernel)]; kernel_rfl) | (rw [if_neg (by decide +kernel)]; exact ⟨rfl, rfl⟩))
    (fun os started H enc _ => lifted os started H enc)
theorem proved : Rows.FrameNumbersSaid := over
end Go.Proofs.Yteakljjalmgicaa.lawFrameNumbers

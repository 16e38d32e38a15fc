/- The law of a log's calls holds: 'skylanternlaw39.FlightlogActs' returns true at every input. No conditions. -/
import Derived.Test.YtgmejplcdecmkaaLgFw
namespace Go.Proofs.Ytgmejplcdecmkaa.lawFlightlogActs
open Go.ChangeShapes Go.WideShapes Go.ChangeAt Go.RowKit Go.Joins
set_option linter.unusedVariables false
set_option linter.unusedSimpArgs false
attribute [local go_sem ↓] Go.wp_at_zero Go.wp_at_succ
set_option maxHeartbeats 8000000
set_option maxRecDepth 100000
theorem walk (a0 : Option Addr) (len0 cap0 : Nat) (l0 : List AV) (w : World) (w0 : Ra w w.heap.size a0 len0 l0) (r0 : Room a0 len0 cap0) (f0 : ∀ y ∈ l0, GaOk y.x) :
    Calls Try.prog 6 #[.slice a0 len0 cap0] w fun e w' => e = .returned (.bool true) ∧ Below w.heap.size w w' := by
  have FW := Lib.hid (few_all a0 len0 cap0 30 w.heap.size l0 w w0 (room_len r0) (by omega))
  have H := Lib.hid w0
  have HLL := Lib.hid w0.1
  clear w0 r0 f0
  cases hf : fewB l0 30
  · rw [hf] at FW
    clear hf
    go_enter Try.func6, Try.ntmps6
    go_wp2_with fail
    refine FW.out.mono ?_
    rintro _ _ ⟨rfl, rfl⟩
    go_wp2_with fail
    refine (known_true _).mono ?_
    rintro _ w1 ⟨rfl, hb1⟩
    go_wp2_with fail
    go_ret
    exact ⟨rfl, hb1⟩
  · rw [hf] at FW
    have hfe := few_yes hf
    have hn : len0 ≤ 30 := by rw [← HLL.out]; exact hfe.1
    have HD := Lib.hid (fun (i : Nat) (hi : i < len0) => hfe.2 (l0.getD i av0) (by rw [List.getD, List.getElem?_eq_getElem (by rw [HLL.out]; exact hi)]; exact List.getElem_mem _))
    clear hf hfe
    have NW := Lib.hid (new_any w)
    go_enter Try.func6, Try.ntmps6
    go_wp2_with fail
    refine FW.out.mono ?_
    rintro _ _ ⟨rfl, rfl⟩
    clear FW
    go_wp2_with fail
    refine NW.out.mono ?_
    rintro _ w1 ⟨p, rfl, hlg, hb1⟩
    have L0 := Lib.hid (show Lg.LJ w1 w.heap.size p none 0 [] (fun i => w.heap.size ≤ i) none [] (fun _ => False) from ⟨hlg, Lg.IsJ.nil _ _, fun _ h => h.elim, rfl, Lg.Good.nil⟩)
    clear hlg
    go_wp2_with fail
    go_loopw [4, 5] (fun s6 s7 wr => ∃ (i : Nat) (A : Option Addr) (c : Nat) (vs : List Lg.RV) (X : Nat → Prop) (A2 : Option Addr) (c2 : Nat) (us : List Lg.RV) (XJ : Nat → Prop), s6 = .slice A2 us.length c2 ∧ s7 = .int .i64 i ∧ i ≤ len0 ∧ Hid (Lg.LJ wr w.heap.size p A c vs X A2 us XJ) ∧ Below w.heap.size w wr) (fun _ s7 _ => len0 - (intOf s7).toNat)
    case atStart => exact ⟨0, none, 0, [], _, none, 0, [], _, rfl, by go_num, by omega, L0, hb1⟩
    case round =>
      obtain ⟨i, A, c, vs, X, A2, c2, us, XJ, rfl, rfl, hi, LJ, hB⟩ := hrel
      have hzr := hB.size
      clear L0 hb1
      by_cases hlt : i < len0
      · have ik : (i : Int) < (len0 : Int) := by omega
        obtain ⟨b, o, rfl, hbl, hcl⟩ := (H.out.below hB (Nat.le_refl _)).2.1 (by omega)
        have hcl := hcl i hlt
        have hok := (H.out.below hB (Nat.le_refl _)).ok hlt
        have hdl := HD.out i hlt
        generalize l0.getD i av0 = v at hcl hok hdl
        have AC := Lib.hid (act_any (c2 := c2) LJ.out hzr v hok (by omega))
        have HC := Lib.hid hcl
        clear hcl hok hdl
        obtain ⟨C, hC⟩ : ∃ C : List Value, C = v.cells := ⟨_, rfl⟩
        have hCl : C.length = 12 := by rw [hC]; rfl
        have hval : v.val = .agg C.toArray := by rw [hC]; rfl
        rw [← hC] at HC
        rw [hval] at AC
        clear hC hval
        go_wp2_with (refine wpList_load_at rfl 83 (.tmp 26) rfl b (o + i * 12) rfl C _ HC.out Try.underlying83 rfl (by rw [hCl]; kernel_rfl) ?_)
        refine AC.out.mono ?_
        rintro _ w3 ⟨A', c', vs', X', A2', c2', us', XJ', rfl, hlj, hx, hk, hA, hr, _⟩
        have HB3 : Below w.heap.size w w3 := hB.trans (hk.below (fun i _ hh => (LJ.out.lg.two_lt hh).1) hzr)
        have SH := Lib.hid (shows_yes (c2 := c2') hlj.lg hlj.j.rr hlj.eq (Lg.good_vs hlj.good) (Lg.good_rd hlj.good))
        have HLJ := Lib.hid hlj
        clear hlj hx hk hA hr AC HC
        go_wp2_with fail
        refine SH.out.mono ?_
        rintro _ w4 ⟨rfl, hb4⟩
        have HB4 := HB3.trans (hb4.mono HB3.size)
        have HLJ4 := Lib.hid (HLJ.out.below hb4)
        clear HLJ SH hb4
        go_wp2_with fail
        go_roundw
        case rel => exact ⟨i + 1, A', c', vs', X', A2', c2', us', XJ', rfl, by go_num, by omega, HLJ4, HB4⟩
        case measure => simp [intOf]; omega
      · obtain rfl : i = len0 := by omega
        have ik : ¬ ((i : Int) < (i : Int)) := by omega
        go_wp2_with fail
        refine (known_true _).mono ?_
        rintro _ w4 ⟨rfl, hb4⟩
        have HB4 := hB.trans (hb4.mono hzr)
        go_wp2_with fail
        go_ret
        exact ⟨rfl, HB4⟩
theorem own : ownKnob Try.prog.godebug = none := by kernel_rfl
theorem laidOut : laidOutB Try.prog = true := by kernel_rfl
set_option maxRecDepth 100000 in
theorem lifted (os : Os) (started : os.Started) (H : Type) (enc : TypeId × Value → H) :
    ReturnsInHanded {} Try.checked os 6 .any (Rows.flightlogActsSpec.pre6 enc Try.prog Try.f6 Rows.flightlogActsRow.domain false) (Rows.flightlogActsSpec.post enc Try.prog Try.f6 false true false false) := by
  refine returnsInHanded_of_change (C := Try.checked) own started (by kernel_rfl) Try.func6
    (ChangeSpec.witness6 (enc := enc) (C := Try.checked) false ⟨#[], #[.slice none 0 0], []⟩ 8 (by kernel_rfl) (by kernel_rfl) (by kernel_rfl) (by kernel_rfl)) ?_
  intro W base args ds gs before hval0 hW hcnd _
  have hval : ∀ (j : Nat) t v, Try.f6.params[j]? = some t → args[j]? = some v → Value.okWide Try.prog W .any base t v := hval0
  have hW' := hW
  obtain ⟨p, q, hA0, hV, rfl, hfz, hnd⟩ := hW
  have hA : DataW.TrodAll enc Try.prog W 0 (fun _ => true) true Try.f6.params.toList args.toList ds p := hA0
  rw [Try.params6] at hA hval
  obtain ⟨v0, vs0, d0, ds0, p0, q0, hargs, rfl, rfl, h0, r0⟩ := trodAll_cons hA
  obtain ⟨rfl, rfl, rfl⟩ := trodAll_nil r0
  obtain rfl : args = #[v0] := by cases args; simp_all
  obtain ⟨rfl, rfl⟩ := trodVars_none hV
  have k0 := h0
  have lt0 : ∀ x ∈ p0, x.block < W.heap.size := by obtain ⟨m, hm⟩ := k0; exact DataW.trod_lt m _ _ _ hm
  obtain ⟨a0, len0, cap0, rfl⟩ := okWide_slice Try.underlying78 (hval 0 78 v0 rfl rfl)
  obtain ⟨fuel0, hf0⟩ := h0
  obtain ⟨xa0, xlen0, xcap0, l0, xe0, ro0, wo0, fo0⟩ := gacts_of hf0
  obtain ⟨rfl, rfl, rfl⟩ : a0 = xa0 ∧ len0 = xlen0 ∧ cap0 = xcap0 := by injection xe0 with e1 e2 e3; exact ⟨e1, e2, e3⟩
  clear hA0 hval0
  refine (walk a0 len0 cap0 l0 W wo0 ro0 fo0).mono fun e W' ⟨he, bel⟩ => ?_
  subst he
  exact ⟨_, rfl, _, _, _, [], _, [], hW', trodAll_mk1 (shut_bool Try.underlying4 _), (trodAll_cons_mk (Below.trod laidOut (by kernel_rfl) (of_decide_eq_true (by kernel_rfl)) k0 bel lt0) trodAll_mk0), rfl, bel.frame _, fun h => by cases h⟩
theorem over : Rows.flightlogActsRow.holds Try.pinned (OpenSpec.ofChange Rows.flightlogActsSpec) :=
  OpenClaim.holds_of_wide 6 Try.f6 rfl rfl rfl rfl rfl rfl rfl ⟨rfl, rfl, rfl, rfl, rfl⟩ rfl rfl rfl rfl rfl (by kernel_rfl) Try.func6 (by kernel_rfl)
    (of_decide_eq_true (by kernel_rfl)) (by unfold Func.isWrapper; first | (rw [if_pos (by decide +kernel)]; kernel_rfl) | (rw [if_neg (by decide +kernel)]; exact ⟨rfl, rfl⟩))
    (fun os started H enc _ => lifted os started H enc)
theorem proved : Rows.FlightlogActsSaid := over
end Go.Proofs.Ytgmejplcdecmkaa.lawFlightlogActs

/- The law of a net's rules holds: 'skylanternlaw38.AirnetValids' returns true at every input. No conditions. -/
import Derived.Test.YtdocdgcdldpagaaGreatAp
import Derived.Test.YtdocdgcdldpagaaGreatAv38
import Derived.Test.YtdocdgcdldpagaaGreatAv49
import Derived.BigQuiet
import Derived.BigFrame
namespace Go.Proofs.YtdocdgcdldpagaaGreat.lawAirnetValids
open Go.ChangeShapes Go.WideShapes Go.ChangeAt Go.RowKit Go.Joins
set_option linter.unusedVariables false
set_option linter.unusedSimpArgs false
attribute [local go_sem ↓] Go.wp_at_zero Go.wp_at_succ
set_option maxHeartbeats 8000000
set_option maxRecDepth 100000
theorem wpList_load_row_on {P : Program} {ops : Array Oper} {rest : List Oper} {o : Oper} {a : Act} {w : World} {Q : Exit → Act → World → Prop} (hw : Region.wanted o (yielded ops a.tmps) = true) (ty : TypeId) (x : Operand) (ho : o.op = .load ty x)
    (g : Nat) (hx : a.eval x = .pointer (some ⟨g, 0, none⟩)) (t : TypeId) (cs : Array Value) (fr : Nat × Nat) (d : TypeDesc) (hg : w.heap[g]? = some (.cells cs t fr))
    (hu : P.underlying ty = some d) (hd : (match d with | .struct _ | .array _ _ => true | _ => false) = true) (hi : (P.info? ty).map (·.size) = some cs.size)
    (h : wpList P ops Q rest (a.put o.dst (.agg cs)) w) : wpList P ops Q (o :: rest) a w :=
  BigFrame.wpList_want hw fun K hK => wp_load_row ty x ho g hx t cs fr d hg hu hd hi (hK _ _ h)
theorem F3 {p : Prop} (h : p := by
  (clear MD NV RV SM; go_enter Tryz.func3, Tryz.ntmps3; go_upto_region 1 with fail; generalize hV : World.alloc _ _ = V; have k0 : V.heap[w.heap.size]? = some (.cells (rcl ru0 OA0 n oc0 TA0 m tc0).toArray 28 (0, 0)) := Bd; have HB := Lib.hid (show Below w.heap.size w V from by rw [← hV]; exact (Below.refl _ w).alloc (Nat.le_refl _) _); have q19 : V.cell? ⟨w.heap.size, 19, none⟩ = some (.slice OA0 n oc0) := blk_cell k0 19 rfl; have q20 : V.cell? ⟨w.heap.size, 20, none⟩ = some (.slice TA0 m tc0) := blk_cell k0 20 rfl; clear hV k0; go_wp2_with (go_at_call 8; refine (KN.out _).mono ?_; rintro _ w9 ⟨rfl, hb9⟩; have HB9 := Lib.hid (HB.out.trans (hb9.mono HB.out.size)); clear hb9); go_ret; exact ⟨rfl, HB9.out⟩)
 ) : p := h
theorem walk (ru0 : Nt.Ru) (OA0 : Option Addr) (oc0 : Nat) (TA0 : Option Addr) (tc0 : Nat) (w : World) (wo0 : Ri w w.heap.size OA0 ru0.offs.length ru0.offs) (wt0 : Ri w w.heap.size TA0 ru0.rates.length ru0.rates) (ro0 : Room OA0 ru0.offs.length oc0) (rt0 : Room TA0 ru0.rates.length tc0) :
    Calls Tryz.prog 3 #[rval ru0 OA0 ru0.offs.length oc0 TA0 ru0.rates.length tc0] w fun e w' => e = .returned (.bool true) ∧ Below w.heap.size w w' := by
  obtain ⟨n, hn⟩ : ∃ n, n = ru0.offs.length := ⟨_, rfl⟩
  obtain ⟨m, hm⟩ : ∃ m, m = ru0.rates.length := ⟨_, rfl⟩
  rw [← hn] at wo0
  rw [← hm] at wt0
  obtain ⟨v, hv⟩ : ∃ v, v = Nt.vld ru0 := ⟨_, rfl⟩
  obtain ⟨sm, hsm⟩ : ∃ sm, sm = Nt.smallB ru0 n m := ⟨_, rfl⟩
  have NV := Lib.hid (fun (W : World) (hW : Below w.heap.size w W) => nvalid_any ru0 n m OA0 oc0 TA0 tc0 W hn.symm hm.symm ((wo0.below hW (Nat.le_refl _)).more hW.size) ((wt0.below hW (Nat.le_refl _)).more hW.size))
  have RV := Lib.hid (fun (W : World) (hW : Below w.heap.size w W) => rnvalid_any ru0 n m OA0 oc0 TA0 tc0 W hn.symm hm.symm ((wo0.below hW (Nat.le_refl _)).more hW.size) ((wt0.below hW (Nat.le_refl _)).more hW.size))
  have SM := Lib.hid (fun (W : World) => small_any ru0 n m OA0 oc0 TA0 tc0 W)
  have MD := Lib.hid (show ∀ W : World, Below w.heap.size w W → n ≤ 70 → m ≤ 70 → Calls Tryz.prog 12 #[rval ru0 OA0 n oc0 TA0 m tc0] W fun e w' => ∃ x y, e = .returned (.tuple #[x, y, .bool true]) ∧ Below W.heap.size W w' from fun W hW h7 h8 => (made_any ru0 n m OA0 oc0 TA0 tc0 W hn.symm hm.symm h7 h8 ((wo0.below hW (Nat.le_refl _)).more hW.size) ((wt0.below hW (Nat.le_refl _)).more hW.size)).mono fun e w' ⟨hb, hp⟩ => by
    rcases hp with ⟨_, rfl⟩ | ⟨_, b, m, p, m2, B, C, rfl, _⟩
    · exact ⟨_, _, rfl, hb⟩
    · exact ⟨_, _, rfl, hb⟩)
  rw [← hn, ← hm]
  rw [← hv] at NV RV
  rw [← hsm] at SM
  rw [rval_rcl] at NV RV SM MD ⊢
  clear hn hm hv hsm wo0 wt0 ro0 rt0
  unfold rcl
  have KN := Lib.hid (fun (W : World) => known_true W)
  by_cases h7 : n ≤ 70
  · by_cases h8 : m ≤ 70
    · have i7 : ¬ (70 : Int) < (n : Int) := by omega
      have i8 : ¬ (70 : Int) < (m : Int) := by omega
      have MD := Lib.hid (fun (W : World) (hW : Below w.heap.size w W) => MD.out W hW h7 h8)
      clear h7 h8
      go_enter Tryz.func3, Tryz.ntmps3
      go_upto_region 1 with fail
      generalize hV : World.alloc _ _ = V
      have k0 : V.heap[w.heap.size]? = some (.cells (rcl ru0 OA0 n oc0 TA0 m tc0).toArray 28 (0, 0)) := Bd
      have HB := Lib.hid (show Below w.heap.size w V from by rw [← hV]; exact (Below.refl _ w).alloc (Nat.le_refl _) _)
      have q19 : V.cell? ⟨w.heap.size, 19, none⟩ = some (.slice OA0 n oc0) := blk_cell k0 19 rfl
      have q20 : V.cell? ⟨w.heap.size, 20, none⟩ = some (.slice TA0 m tc0) := blk_cell k0 20 rfl
      clear hV
      go_upto_region 3 with fail
      clear q19 q20
      refine wp_region_held_drew (S := fun w' => w'.heap[w.heap.size]? = some (.cells (rcl ru0 OA0 n oc0 TA0 m tc0).toArray 28 (0, 0))) C7 k0 (fun hHeld => ?_)
      have HB0 := Lib.hid (show Below w.heap.size w V.drew from HB.out.drew)
      have kV : V.drew.heap[w.heap.size]? = some (.cells (rcl ru0 OA0 n oc0 TA0 m tc0).toArray 28 (0, 0)) := k0
      generalize V.drew = V0 at *
      clear HB k0
      refine wpAnyH_take (i := 0) (v := .agg (rcl ru0 OA0 n oc0 TA0 m tc0).toArray) rfl C7 C7 C7 (fun _ _ _ h => h) (yields_load_row (by rfl) 28 _ rfl w.heap.size rfl 28 _ (0, 0) _ (fun w' h => h) Tryz.underlying28 rfl C7) hHeld ?_
      (try simp only [List.getElem_toArray, List.getElem_cons_succ, List.getElem_cons_zero, Act.put, List.setIfInBounds_toArray, List.set_cons_zero, List.set_cons_succ])
      refine wpAnyH_take (i := 2) (v := .agg (rcl ru0 OA0 n oc0 TA0 m tc0).toArray) rfl C7 C7 C7 (fun _ _ _ h => h) (yields_load_row (by rfl) 28 _ rfl w.heap.size rfl 28 _ (0, 0) _ (fun w' h => h) Tryz.underlying28 rfl C7) hHeld ?_
      (try simp only [List.getElem_toArray, List.getElem_cons_succ, List.getElem_cons_zero, Act.put, List.setIfInBounds_toArray, List.set_cons_zero, List.set_cons_succ])
      refine wpAnyH_ready (rs := [1]) C7 C9 ?_
      refine AllReadyH.cons rfl (fun K hK => ?_) AllReadyH.nil
      go_simp
      refine (NV.out _ HB0.out).mono ?_
      rintro e w4 ⟨rfl, hb4⟩
      have HB4 := Lib.hid (HB0.out.trans (hb4.mono HB0.out.size))
      have k4 := blk_below kV hb4 (lt_of_block kV)
      clear hb4 kV
      go_wp2_with fail
      clear hHeld
      refine hK.out _ _ k4 (fun hHeld => ?_)
      clear hK K
      (try simp only [List.getElem_toArray, List.getElem_cons_succ, List.getElem_cons_zero, Act.put, List.setIfInBounds_toArray, List.set_cons_zero, List.set_cons_succ])
      refine wpAnyH_ready (rs := [3]) C7 C9 ?_
      refine AllReadyH.cons rfl (fun K hK => ?_) AllReadyH.nil
      go_simp
      refine (RV.out _ HB4.out).mono ?_
      rintro e w5 ⟨rfl, hb5⟩
      have HB5 := Lib.hid (HB4.out.trans (hb5.mono HB4.out.size))
      have k5 := blk_below k4 hb5 (lt_of_block k4)
      clear hb5 k4
      go_wp2_with fail
      clear hHeld
      refine hK.out _ _ k5 (fun hHeld => ?_)
      clear hK K
      (try simp only [List.getElem_toArray, List.getElem_cons_succ, List.getElem_cons_zero, Act.put, List.setIfInBounds_toArray, List.set_cons_zero, List.set_cons_succ])
      refine wpAnyH_take (i := 4) (v := .bool false) rfl C7 C7 C7 (fun _ _ _ h => h) (Or.inl ⟨by rfl, ?_⟩) hHeld ?_
      focus (intro w' hSw; go_simp; (try simp); done)
      (try simp only [List.getElem_toArray, List.getElem_cons_succ, List.getElem_cons_zero, Act.put, List.setIfInBounds_toArray, List.set_cons_zero, List.set_cons_succ])
      refine wpAnyH_done C7 ?_ _
      have k2 := k5
      clear hHeld k5
      have KD := Lib.hid (show ∀ W : World, Below w.heap.size w W → Below w.heap.size w W from fun _ h => h)
      cases v <;> cases sm
      all_goals
        go_wp2_with (first
          | (first | (refine wpList_load_row rfl 28 _ rfl w.heap.size rfl 28 _ (0, 0) _ k2 Tryz.underlying28 rfl C7 ?_) | (refine wpList_load_row_on (by rfl) 28 _ rfl w.heap.size rfl 28 _ (0, 0) _ k2 Tryz.underlying28 rfl C7 ?_))
          | (go_at_call 10; refine (RV.out _ HB5.out).mono ?_; rintro e w6 ⟨rfl, hb6⟩; have HB6 := Lib.hid (HB5.out.trans (hb6.mono HB5.out.size)); have k2 := blk_below k2 hb6 (lt_of_block k2); clear hb6)
          | (go_at_call 11; refine (SM.out _).mono ?_; rintro e w7 ⟨rfl, hb7⟩; have HB6 := Lib.hid (HB6.out.trans (hb7.mono HB6.out.size)); have k2 := blk_below k2 hb7 (lt_of_block k2); clear hb7)
          | (go_at_call 12; refine (MD.out _ HB6.out).mono ?_; rintro _ w8 ⟨x, y, rfl, hb8⟩; have HB6 := Lib.hid (HB6.out.trans (hb8.mono HB6.out.size)); clear hb8)
          | (go_at_call 8; refine (KN.out _).mono ?_; rintro _ w9 ⟨rfl, hb9⟩; have HB9 := Lib.hid (HB6.out.trans (hb9.mono HB6.out.size)); clear hb9))
        go_ret
        exact ⟨rfl, HB9.out⟩
    · have i7 : ¬ (70 : Int) < (n : Int) := by omega
      have i8 : (70 : Int) < (m : Int) := by omega
      exact F3
  · have i7 : (70 : Int) < (n : Int) := by omega
    exact F3
theorem own : ownKnob Tryz.prog.godebug = none := by kernel_rfl
theorem laidOut : laidOutB Tryz.prog = true := by kernel_rfl
set_option maxRecDepth 100000 in
theorem lifted (os : Os) (started : os.Started) (H : Type) (enc : TypeId × Value → H) :
    ReturnsInHanded {} Tryz.checked os 3 .any (Rows.airnetValidsSpec.pre6 enc Tryz.prog Tryz.f3 Rows.airnetValidsRow.domain false) (Rows.airnetValidsSpec.post enc Tryz.prog Tryz.f3 false true false false) := by
  refine returnsInHanded_of_change (C := Tryz.checked) own started C7 Tryz.func3
    (ChangeSpec.witness6 (enc := enc) (C := Tryz.checked) false ⟨#[], #[.agg #[.int .i64 0, .int .i64 0, .int .i64 0, .int .i64 0, .int .i64 0, .int .i64 0, .int .i64 0, .int .i64 0, .int .i64 0, .int .i64 0, .int .i64 0, .int .i64 0, .int .i64 0, .int .i64 0, .int .i64 0, .int .i64 0, .int .i64 0, .int .i64 0, .int .i64 0, .slice none 0 0, .slice none 0 0]], []⟩ 8 C7 C7 C7 C7) ?_
  intro W base args ds gs before hval0 hW hcnd _
  have hval : ∀ (j : Nat) t v, Tryz.f3.params[j]? = some t → args[j]? = some v → Value.okWide Tryz.prog W .any base t v := hval0
  have hW' := hW
  obtain ⟨p, q, hA0, hV, rfl, hfz, hnd⟩ := hW
  have hA : DataW.TrodAll enc Tryz.prog W 0 (fun _ => true) true Tryz.f3.params.toList args.toList ds p := hA0
  rw [Tryz.params3] at hA hval
  obtain ⟨v0, vs0, d0, ds0, p0, q0, hargs, rfl, rfl, h0, r0⟩ := trodAll_cons hA
  obtain ⟨rfl, rfl, rfl⟩ := trodAll_nil r0
  obtain rfl : args = #[v0] := by cases args; simp_all
  obtain ⟨rfl, rfl⟩ := trodVars_none hV
  have k0 := h0
  have lt0 : ∀ x ∈ p0, x.block < W.heap.size := by obtain ⟨m, hm⟩ := k0; exact DataW.trod_lt m _ _ _ hm
  obtain ⟨ru0, OA0, oc0, TA0, tc0, rfl, wo0, wt0, ro0, rt0⟩ := rules_of (hval 0 28 v0 rfl rfl) h0
  clear hA0 hval0
  refine (walk ru0 OA0 oc0 TA0 tc0 W wo0 wt0 ro0 rt0).mono fun e W' ⟨he, bel⟩ => ?_
  subst he
  exact ⟨_, rfl, _, _, _, [], _, [], hW', trodAll_mk1 (shut_bool Tryz.underlying4 _), (trodAll_cons_mk (Below.trod laidOut C7 (of_decide_eq_true C7) k0 bel lt0) trodAll_mk0), rfl, bel.frame _, fun h => by cases h⟩
theorem over : Rows.airnetValidsRow.holds Tryz.pinned (OpenSpec.ofChange Rows.airnetValidsSpec) :=
  OpenClaim.holds_of_wide 3 Tryz.f3 rfl rfl rfl rfl rfl rfl rfl ⟨rfl, rfl, rfl, rfl, rfl⟩ rfl rfl rfl rfl rfl C7 Tryz.func3 C7
    (of_decide_eq_true C7) (by unfold Func.isWrapper; first | (rw [if_pos C1]; kernel_rfl) | (rw [if_neg C1]; exact ⟨rfl, rfl⟩))
    (fun os started H enc _ => lifted os started H enc)
theorem proved : Rows.AirnetValidsSaid := over
end Go.Proofs.YtdocdgcdldpagaaGreat.lawAirnetValids

/- The law of streams holds: 'skylanternlaw34.FrameScans' returns true at every input. No conditions. -/
import Derived.Test.YteakljjalmgicaaArg
import Derived.Test.YteakljjalmgicaaDecU
namespace Go.Proofs.Yteakljjalmgicaa.lawFrameScans
open Go.ChangeShapes Go.WideShapes Go.ChangeAt Go.RowKit Go.Joins
set_option linter.unusedVariables false
set_option linter.unusedSimpArgs false
set_option maxHeartbeats 8000000
theorem any_store {w : World} {base g n cap : Nat} {A : Option Addr} (h : ∃ x, Ow w base A n cap x) (k : Nat) (y : Int) (hy : 0 ≤ y ∧ y < 256) : ∃ x, Ow (w.setCell ⟨g, k, none⟩ (.int .u8 y)) base A n cap x := by
  obtain ⟨x, h⟩ := h
  rcases h.form with ⟨rfl, rfl, rfl⟩ | ⟨g', rfl, hb, hlt, _⟩
  · exact ⟨[], Ow.nil _ _⟩
  · by_cases e : g' = g
    · subst e; exact ⟨_, h.store k y hy⟩
    · exact ⟨x, h.grown (row := some g) ⟨rfl, rfl, rfl, by simp [World.setCell], fun i hi hne => Below.heap_setCell w ⟨g, k, none⟩ _ i (fun e' => hne (by rw [e']))⟩ (fun q e' => by injection e' with e'; injection e' with e'; subst e'; intro hh; injection hh with hh; exact e hh)⟩
theorem scan_len (l : List Int) : ∀ (n i : Nat), l.length - i ≤ n → (Frm.scan l i).1.length ≤ n := by
  intro n
  induction n with
  | zero => intro i h; rw [Frm.scan_end (by omega)]; simp
  | succ n ih =>
    intro i h
    rcases Nat.lt_or_ge i l.length with hi | hi
    · cases ho : Frm.opB (l.drop i)
      · cases hf : Frm.frAt (l.drop i) with
        | none => rw [Frm.scan_none hi ho hf]; have := ih (i + 1) (by omega); omega
        | some f => rw [Frm.scan_some hi ho hf]; have := ih (i + 10 + f.d.length) (by omega); simp; omega
      · rw [Frm.scan_open ho]; simp
    · rw [Frm.scan_end hi]; simp
theorem samef_yes (l : List Fr) (A C : Option Addr) (n cap caq : Nat) (hn : n ≤ 140737488355328) (w : World) (h : Rf w w.heap.size A n l) (g : Rf w w.heap.size C n l) :
    Calls Try.prog 23 #[.slice A n cap, .slice C n caq] w fun e w' => e = .returned (.bool true) ∧ Below w.heap.size w w' :=
  (samef_any A C n n cap caq l l w hn hn h g).mono fun e w' ⟨h1, h2⟩ => ⟨by rw [h1, frsEq_iff.2 rfl], h2⟩
/-- what the two loops keep -/
def Inv (w1 : World) (v : Value) (vs : List FV) (wr : World) : Prop :=
  wr.ownsRow w1.heap.size 25 5 v vs.length (vs.flatMap FV.cells) ∧ (∀ y ∈ vs, ∃ x, Ow wr w1.heap.size y.A y.x.d.length y.cap x) ∧ Below w1.heap.size w1 wr
theorem Inv.store {w1 wr : World} {v : Value} {vs : List FV} {g : Nat} (h : Inv w1 v vs wr) (hg : w1.heap.size ≤ g) {b2 n2 s2 : Nat} {v2 : Value} {x2 : List Value} (ho : wr.ownsRow b2 5 s2 v2 n2 x2) (hv : v2.ownBlock = some g) (k : Nat) (y : Int) (hy : 0 ≤ y ∧ y < 256) : Inv w1 v vs (wr.setCell ⟨g, k, none⟩ (.int .u8 y)) := by
  refine ⟨h.1.kept (row := some g) ⟨rfl, rfl, rfl, by simp [World.setCell], fun i hi hne => Below.heap_setCell wr ⟨g, k, none⟩ _ i (fun e' => hne (by rw [e']))⟩ ?_, fun z hz => any_store (h.2.1 z hz) k y hy, h.2.2.setCell hg _⟩
  right
  intro e
  exact own_ne h.1 ho (by decide) g e hv.symm
theorem Inv.hd {w1 wr : World} {A : Option Addr} {N c : Nat} {vs : List FV} (h : Inv w1 (.slice A N c) vs wr) (hN : vs.length = N) {i : Nat} (hi : i < N) :
    ∃ (R : Nat) (y : FV), A = some ⟨R, 0, none⟩ ∧ y ∈ vs ∧ vs[i]? = some y ∧ R < wr.heap.size ∧ wr.cell? ⟨R, i * 5 + 4, none⟩ = some (.slice y.A y.x.d.length y.cap) := by
  have hiv : i < vs.length := by omega
  have h1 := h.1
  rw [hN] at h1
  rcases h1.2 with ⟨_, h0⟩ | ⟨R, cap, cur, e, _, hh, _⟩
  · omega
  · injection e with e1 e2 e3
    subst e1; subst e3
    refine ⟨R, vs[i], rfl, List.getElem_mem hiv, List.getElem?_eq_getElem hiv, lt_of_block hh, ?_⟩
    have := World.ownsRow.cellAt h1 (g := R) (i * 5 + 4) (by omega)
    rw [this, FV.cells_at vs i 4 hiv (by omega)]
    rfl
set_option maxRecDepth 100000 in
theorem walk_big (a0 : Option Addr) (len0 cap0 : Nat) (n : Nat) (w : World) (h0 : len0 ≤ 500) (h1 : 65530 ≤ n) (h2 : n ≤ 65540) :
    Calls Try.prog 7 #[.slice a0 len0 cap0, .int .i64 n] w fun e w' => e = .returned (.bool true) ∧ Below w.heap.size w w' := by
  obtain ⟨i0, hi0, hzA, hzB, hzC⟩ := info_parts info_u8
  go_enter Try.func7, Try.ntmps7
  go_wp2_with (at_make; refine wpList_make_full _ rfl (.tmp 28) (.tmp 28) _ rfl w.heap.size 5 i0 _ 1 Try.underlying23 hi0 hzA hzB .i64 .i64 _ _ n rfl rfl (by simp) (by simp) (by rw [hzC]; omega) (by unfold maxLen; omega) (by omega) ?_; intro w2 hown2 hg2)
  have hG2 := full_block hown2
  have hb2 : Below w.heap.size w w2 := ⟨hg2.os, hg2.tape, hg2.output, hg2.size, fun i hi => hg2.block i hi (by simp)⟩
  have hz2 := hb2.size
  have hZ : (madeCells (Value.int .u8 0).cells (n * 1)).toList = bv (List.replicate n 0) := by
    rw [Nat.mul_one]
    refine (toList_madeCells_one _ _).trans ?_
    simp [bv]
  rw [hZ] at hG2
  have hlt := lt_of_block hG2
  have RD := Lib.hid (Rd.of_block (B := w2.heap.size) hG2 hlt (by intro x hx; rw [List.mem_replicate] at hx; omega))
  have hlen : (List.replicate n (0 : Int)).length = n := by simp
  rw [hlen] at RD
  have SC := Lib.hid (scan_any (some ⟨w.heap.size, 0, none⟩) n n (List.replicate n 0) w2 (by omega) (Nat.le_refl _) (by omega) RD.out)
  clear hown2 hg2 hZ hG2 hlt RD hlen
  refine SC.out.mono ?_
  rintro e w3 ⟨⟨hbig, rfl⟩ | ⟨hle, v, rfl, ho⟩, hb3⟩
  · have d1 : decide ((n : Int) ≤ 65536) = false := by rw [decide_eq_false_iff_not]; omega
    go_wp2_with fail
    refine (knownf _).mono ?_
    rintro e wk ⟨rfl, hbk⟩
    have HBk := (show Below w.heap.size w wk from hb2.trans ((hb3.mono hz2).trans (hbk.mono (by have := hb3.size; omega))))
    go_wp2_with fail
    go_ret
    exact ⟨rfl, HBk⟩
  · obtain ⟨A3, c3, rfl⟩ := ho.form
    have d1 : decide (65536 < (n : Int)) = false := by rw [decide_eq_false_iff_not]; omega
    clear ho
    generalize (Frm.scan (List.replicate n 0) 0).2 = k
    generalize (Frm.scan (List.replicate n 0) 0).1.length = k'
    go_wp2_with fail
    refine (knownf _).mono ?_
    rintro e wk ⟨rfl, hbk⟩
    have HBk := (show Below w.heap.size w wk from hb2.trans ((hb3.mono hz2).trans (hbk.mono (by have := hb3.size; omega))))
    go_wp2_with fail
    go_ret
    exact ⟨rfl, HBk⟩
set_option maxRecDepth 100000 in
theorem walk_small (a0 : Option Addr) (len0 cap0 : Nat) (l0 : List Int) (a1 : Int) (w : World) (HW : Hid (Rd w w.heap.size a0 len0 l0)) (hcap : len0 ≤ cap0) (hmax : cap0 ≤ 9223372036854775807) (h0 : len0 ≤ 500) (h1 : a1 < 65530 ∨ 65540 < a1) :
    Calls Try.prog 7 #[.slice a0 len0 cap0, .int .i64 a1] w fun e w' => e = .returned (.bool true) ∧ Below w.heap.size w w' := by
  obtain ⟨i0, hi0, hzA, hzB, hzC⟩ := info_parts info_u8
  have RD := Lib.hid (HW.out.reads)
  have d1 : (decide (65530 ≤ a1) && decide (a1 ≤ 65540)) = false := by
    rw [Bool.and_eq_false_iff, decide_eq_false_iff_not, decide_eq_false_iff_not]; omega
  rcases h1 with h1 | h1
  all_goals
    go_enter Try.func7, Try.ntmps7
    go_upto_region 7 with (at_builtin; refine wpList_append_any _ rfl (.const (.slice none 0 0)) (.tmp 49) _ rfl w.heap.size 5 i0 _ 1 1 Try.underlying23 hi0 hzA hzB hzC rfl (by omega) (.slice none 0 0) 0 [] rfl (World.ownsRow_nil _ _ _ _) w.heap.size a0 len0 cap0 (bv l0) rfl RD.out (bv_one _) (by simp only [maxLen]; omega) (by omega) (by simp) ?_; intro v1 w1 hown1 hg1 hat1; obtain ⟨A1, cap1, rfl⟩ := own_form hown1; have hb1 := (show Below w.heap.size w w1 from (Below.refl _ w).grown hg1 (Nat.le_refl _) (fun k hk => by simp [Value.ownBlock] at hk)); have HO := Lib.hid hown1; clear hown1 hg1 hat1)
    have hz1 := hb1.size
    have ow : Ow w1 w.heap.size A1 len0 cap1 l0 := ⟨by have h := HO.out; rw [Nat.zero_add] at h; simpa using h, HW.out.2.1⟩
    have hrm := ow.room
    have OR := Lib.hid ow.rd
    have OR1 := OR
    clear ow HO
    unfold maxLen at hrm
    have HW1 := Lib.hid ((HW.out.below hb1 (Nat.le_refl _)).more hz1)
    have hsl := scan_len l0 500 0 (by have := HW.out.1; omega)
    have SC := Lib.hid (scan_any A1 len0 cap1 l0 w1 (by omega) hrm.1 (by omega) OR.out)
    have RC := Lib.hid (fun (W : World) (h : Rd W W.heap.size a0 len0 l0) => rscan_any a0 len0 cap0 l0 W (by omega) hcap (by omega) h)
    have HB1 := Lib.hid hb1
    clear hb1 hrm
    go_wp2_with fail
    refine SC.out.mono ?_
    rintro e w2 ⟨⟨hbig, _⟩ | ⟨_, v, rfl, ho⟩, hb2⟩
    · omega
    obtain ⟨A2, c2, rfl⟩ := ho.form
    have HO := Lib.hid ho
    have hz2 := hb2.size
    have HB2 := Lib.hid hb2
    have HW2 := Lib.hid ((HW1.out.below hb2 (Nat.le_refl _)).more hz2)
    clear ho hb2 SC
    go_wp2_with fail
    refine (RC.out _ HW2.out).mono ?_
    rintro e w3 ⟨⟨hbig, _⟩ | ⟨_, v, rfl, ho⟩, hb3⟩
    · omega
    obtain ⟨A3, c3, rfl⟩ := ho.form
    have hz3 := hb3.size
    have hsl2 : (Frm.scan l0 0).1.length ≤ 140737488355328 := Nat.le_trans hsl (by decide)
    generalize (Frm.scan l0 0).2 = ix at *
    generalize (Frm.scan l0 0).1 = fs at *
    have HR3 := Lib.hid ho.rf
    have HO3 := Lib.hid (HO.out.below hb3 (Nat.le_refl _))
    have HR2 := Lib.hid (HO3.out.rf)
    have HB3 := Lib.hid (HB2.out.trans (hb3.mono hz2))
    clear ho hb3 RC HO HB2 HW2 hsl OR
    go_wp2_with fail
    refine (samef_yes fs _ _ _ _ _ hsl2 _ HR2.out HR3.out).mono ?_
    rintro e w4 ⟨rfl, hb4⟩
    have hz4 := hb4.size
    have HO4 := Lib.hid (HO3.out.below hb4 (Nat.le_refl _))
    have HB4 := Lib.hid (HB3.out.trans (hb4.mono (by omega)))
    clear hb4 HR2 HR3 HO3 HB3
    obtain ⟨vs, hv1, hv2, hv3⟩ := HO4.out
    have hvl : vs.length = fs.length := by rw [← hv1]; simp
    have I4 : Inv w1 (.slice A2 fs.length c2) vs w4 := ⟨by rw [hvl]; exact hv2, fun y hy => ⟨_, hv3 y hy⟩, HB4.out⟩
    have HI4 := Lib.hid I4
    have HVL := Lib.hid hvl
    clear hv1 hv2 hv3 hvl I4 HO4 HB4
    go_wp2_with fail
    go_loopw [15] (fun s15 wr => ∃ i : Nat, s15 = .int .i64 i ∧ i ≤ fs.length ∧ Hid (Inv w1 (.slice A2 fs.length c2) vs wr)) (fun s15 _ => fs.length - (intOf s15).toNat)
    case atStart => exact ⟨0, by go_num, by omega, HI4⟩
    case round =>
      obtain ⟨i, rfl, hi, HI⟩ := hrel
      by_cases hlt : i < fs.length
      · obtain ⟨R, y, rfl, hy, hyi, _, _⟩ := HI.out.hd HVL.out hlt
        have HYI := Lib.hid hyi
        have HY := Lib.hid hy
        clear hy hyi
        obtain ⟨yx, yA, yc⟩ := y
        obtain ⟨yk, yf, yt, ys, yd⟩ := yx
        obtain ⟨wo, hwo⟩ : ∃ wo : World, wo = wr := ⟨_, rfl⟩
        rw [← hwo] at HI ⊢
        clear hwo
        go_wp2_with fail
        go_loopw [16] (fun s16 wr => ∃ k : Nat, s16 = .int .i64 k ∧ k ≤ yd.length ∧ Hid (Inv w1 (.slice (some ⟨R, 0, none⟩) fs.length c2) vs wr)) (fun s16 _ => yd.length - (intOf s16).toNat)
        case atStart => exact ⟨0, by go_num, by omega, HI⟩
        case round =>
          obtain ⟨k, rfl, hk, HJ⟩ := hrel
          obtain ⟨R', y', e', hy', hyi', hRl, hcell⟩ := HJ.out.hd HVL.out hlt
          injection e' with e'; injection e' with e'
          subst e'
          rw [HYI.out] at hyi'
          injection hyi' with hyi'
          subst hyi'
          simp only at hcell
          have hRf : wr.frozen? ⟨R, i * 5 + 4, none⟩ = false := World.ownsRow.frozenAt (HVL.out ▸ HJ.out.1) _
          by_cases hkl : k < yd.length
          · obtain ⟨x, hO⟩ := HJ.out.2.1 _ HY.out
            simp only at hO
            obtain ⟨g, rfl, hg1, hg2, hg3, hg4⟩ := hO.form.resolve_left (by omega)
            obtain ⟨g', o', e2, hbl, hcl⟩ := hO.rd.2.2 (by omega)
            injection e2 with e2; injection e2 with eg eo; subst eg; subst eo
            have hck := hcl k hkl
            rw [Nat.zero_add] at hck
            have hby := hO.2.at_ k
            have hfz : wr.frozen? ⟨g, k, none⟩ = false := by obtain ⟨cur, hh, _⟩ := hO.block; exact blk_free hh k
            have HOH := Lib.hid hO
            unfold maxLen at hg4
            generalize x.getD k 0 = y at hck hby
            obtain ⟨y0, y1⟩ := hby
            clear hO hcl hy'
            go_wp2_with fail
            go_roundw
            case rel => exact ⟨k + 1, by go_num, by omega, Lib.hid (HJ.out.store hg1 HOH.out.1 rfl k _ (by first | omega | (rw [IntKind.wrap_u8]; omega)))⟩
            case measure => simp [intOf]; omega
          · obtain rfl : k = yd.length := by omega
            clear hy'
            go_wp2_with fail
            go_roundw
            case rel => exact ⟨i + 1, by go_num, by omega, HJ⟩
            case measure => simp [intOf]; omega
      · obtain rfl : i = fs.length := by omega
        have hB := HI.out.2.2
        have hzr := hB.size
        have RA := Lib.hid ((OR1.out.below hB (Nat.le_refl _)).more hzr)
        have RB := Lib.hid ((HW1.out.below hB (Nat.le_refl _)).more hzr)
        have HBr := Lib.hid (HB1.out.trans (hB.mono hz1))
        clear hB
        go_wp2_with fail
        refine (kf_same l0 l0 rfl _ _ _ _ _ _ _ RA.out RB.out).mono ?_
        rintro e w5 ⟨rfl, rfl⟩
        go_wp2_with fail
        refine (knownf _).mono ?_
        rintro e wk ⟨rfl, hbk⟩
        have HBk := (show Below w.heap.size w wk from HBr.out.trans (hbk.mono (by omega)))
        go_wp2_with fail
        go_ret
        exact ⟨rfl, HBk⟩
theorem walk (a0 : Option Addr) (len0 cap0 : Nat) (l0 : List Int) (a1 : Int) (w : World) (w0 : Rd w w.heap.size a0 len0 l0) (r0 : Room a0 len0 cap0) (w1 : (Lit.int .i64 a1).wf = true) :
    Calls Try.prog 7 #[.slice a0 len0 cap0, .int .i64 a1] w fun e w' => e = .returned (.bool true) ∧ Below w.heap.size w w' := by
  have hcap := r0.1
  have hmax := r0.2.1
  unfold maxLen at hmax
  rcases Nat.lt_or_ge 500 len0 with hn | hn
  · clear w0 r0 w1
    go_enter Try.func7, Try.ntmps7
    go_wp2_with fail
    refine (knownf _).mono ?_
    rintro e w1 ⟨rfl, hb⟩
    go_wp2_with fail
    go_ret
    exact ⟨rfl, (by repeat (first | (with_reducible exact Below.refl _ _) | (with_reducible refine Below.drew ?_) | (with_reducible refine below_drewN ?_ _) | ((with_reducible refine Below.alloc ?_ ?_ _); rotate_left; (first | omega | (simp <;> omega)); rotate_right) | ((with_reducible refine Below.setCell ?_ ?_ _); rotate_left; (first | omega | (simp <;> omega)); rotate_right) | (with_reducible assumption) | (refine Below.trans ?_ (Below.mono (by assumption) ?_); rotate_left; (first | omega | (simp <;> omega)); rotate_right)))⟩
  · by_cases h : 65530 ≤ a1 ∧ a1 ≤ 65540
    · obtain ⟨n, rfl⟩ : ∃ n : Nat, a1 = n := ⟨a1.toNat, by omega⟩
      exact walk_big a0 len0 cap0 n w hn (by omega) (by omega)
    · exact walk_small a0 len0 cap0 l0 a1 w (Lib.hid w0) hcap (by omega) hn (by omega)
theorem own : ownKnob Try.prog.godebug = none := by kernel_rfl
theorem laidOut : laidOutB Try.prog = true := by kernel_rfl
set_option maxRecDepth 100000 in
theorem lifted (os : Os) (started : os.Started) (H : Type) (enc : TypeId × Value → H) :
    ReturnsInHanded {} Try.checked os 7 .any (Rows.frameScansSpec.pre6 enc Try.prog Try.f7 Rows.frameScansRow.domain false) (Rows.frameScansSpec.post enc Try.prog Try.f7 false true false false) := by
  refine returnsInHanded_of_change (C := Try.checked) own started (by kernel_rfl) Try.func7
    (ChangeSpec.witness6 (enc := enc) (C := Try.checked) false ⟨#[], #[.slice none 0 0, .int .i64 0], []⟩ 8 (by kernel_rfl) (by kernel_rfl) (by kernel_rfl) (by kernel_rfl)) ?_
  intro W base args ds gs before hval0 hW hcnd _
  have hval : ∀ (j : Nat) t v, Try.f7.params[j]? = some t → args[j]? = some v → Value.okWide Try.prog W .any base t v := hval0
  have hW' := hW
  obtain ⟨p, q, hA0, hV, rfl, hfz, hnd⟩ := hW
  have hA : DataW.TrodAll enc Try.prog W 0 (fun _ => true) true Try.f7.params.toList args.toList ds p := hA0
  rw [Try.params7] at hA hval
  obtain ⟨v0, vs0, d0, ds0, p0, q0, hargs, rfl, rfl, h0, r0⟩ := trodAll_cons hA
  obtain ⟨v1, vs1, d1, ds1, p1, q1, rfl, rfl, rfl, h1, r1⟩ := trodAll_cons r0
  obtain ⟨rfl, rfl, rfl⟩ := trodAll_nil r1
  obtain rfl : args = #[v0, v1] := by cases args; simp_all
  obtain ⟨rfl, rfl⟩ := trodVars_none hV
  have k0 := h0
  have lt0 : ∀ x ∈ p0, x.block < W.heap.size := by obtain ⟨m, hm⟩ := k0; exact DataW.trod_lt m _ _ _ hm
  obtain ⟨a0, len0, cap0, rfl⟩ := okWide_slice Try.underlying23 (hval 0 23 v0 rfl rfl)
  obtain ⟨fuel0, hf0⟩ := h0
  obtain ⟨xa0, xlen0, xcap0, l0, xe0, ro0, wo0⟩ := bytes_of hf0
  obtain ⟨rfl, rfl, rfl⟩ : a0 = xa0 ∧ len0 = xlen0 ∧ cap0 = xcap0 := by injection xe0 with e1 e2 e3; exact ⟨e1, e2, e3⟩
  have k1 := h1
  have lt1 : ∀ x ∈ p1, x.block < W.heap.size := by obtain ⟨m, hm⟩ := k1; exact DataW.trod_lt m _ _ _ hm
  obtain ⟨a1, rfl, _, _, w1⟩ := open_int Try.underlying3 (hval 1 3 v1 rfl rfl) h1
  clear hA0 hval0
  refine (walk a0 len0 cap0 l0 a1 W wo0 ro0 w1).mono fun e W' ⟨he, bel⟩ => ?_
  subst he
  exact ⟨_, rfl, _, _, _, [], _, [], hW', trodAll_mk1 (shut_bool Try.underlying4 _), (trodAll_cons_mk (Below.trod laidOut (by kernel_rfl) (of_decide_eq_true (by kernel_rfl)) k0 bel lt0) (trodAll_cons_mk (Below.trod laidOut (by kernel_rfl) (of_decide_eq_true (by kernel_rfl)) k1 bel lt1) trodAll_mk0)), rfl, bel.frame _, fun h => by cases h⟩
theorem over : Rows.frameScansRow.holds Try.pinned (OpenSpec.ofChange Rows.frameScansSpec) :=
  OpenClaim.holds_of_wide 7 Try.f7 rfl rfl rfl rfl rfl rfl rfl ⟨rfl, rfl, rfl, rfl, rfl⟩ rfl rfl rfl rfl rfl (by kernel_rfl) Try.func7 (by kernel_rfl)
    (of_decide_eq_true (by kernel_rfl)) (by unfold Func.isWrapper; first | (rw [if_pos (by decide +kernel)]; kernel_rfl) | (rw [if_neg (by decide +kernel)]; exact ⟨rfl, rfl⟩))
    (fun os started H enc _ => lifted os started H enc)
theorem proved : Rows.FrameScansSaid := over
end Go.Proofs.Yteakljjalmgicaa.lawFrameScans

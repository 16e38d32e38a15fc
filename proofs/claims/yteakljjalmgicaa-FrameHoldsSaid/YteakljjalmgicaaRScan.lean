/- The reference's Scan. -/
import Derived.Test.YteakljjalmgicaaScan
namespace Go.Proofs.Yteakljjalmgicaa
open Go.RowKit
set_option maxHeartbeats 8000000
set_option linter.unusedSimpArgs false
set_option linter.unusedVariables false
set_option maxRecDepth 100000 in
theorem rscan_any (A : Option Addr) (n cap : Nat) (l : List Int) (w : World) (hn : n ≤ 140737488355328) (hcap : n ≤ cap) (hcm : cap ≤ 9223372036854775807) (h : Rd w w.heap.size A n l) :
    Calls Try.prog 22 #[.slice A n cap] w fun e w' => SPost w n l e w' := by
  rcases Nat.lt_or_ge 65536 n with hbig | hbig
  · clear h
    go_enter Try.func22, Try.ntmps22
    go_wp2_with fail
    go_ret3
    exact ⟨.inl ⟨hbig, rfl⟩, (by repeat (first | (with_reducible exact Below.refl _ _) | (with_reducible refine Below.drew ?_) | (with_reducible refine below_drewN ?_ _) | ((with_reducible refine Below.alloc ?_ ?_ _); rotate_left; (first | omega | (simp <;> omega)); rotate_right) | ((with_reducible refine Below.setCell ?_ ?_ _); rotate_left; (first | omega | (simp <;> omega)); rotate_right) | (with_reducible assumption) | (refine Below.trans ?_ (Below.mono (by assumption) ?_); rotate_left; (first | omega | (simp <;> omega)); rotate_right)))⟩
  obtain ⟨i0, hi0, hzA, hzB, hzC⟩ := info_parts info_fr
  have HH := Lib.hid h
  clear h
  go_enter Try.func22, Try.ntmps22
  go_wp2_with fail
  go_loopw [5, 6] (fun s5 s6 wr => ∃ (i : Nat) (fs : List Fr), s6 = .int .i64 i ∧ i ≤ n ∧ Rof wr w.heap.size s5 fs ∧ Below w.heap.size w wr ∧ fs.length ≤ i ∧ Hid ((fs ++ (Frm.scan l i).1 = (Frm.scan l 0).1) ∧ (Frm.scan l i).2 = (Frm.scan l 0).2)) (fun _ s6 _ => n - (intOf s6).toNat)
  case atStart => exact ⟨0, [], by go_num, by omega, Rof.nil _ _, (by repeat (first | (with_reducible exact Below.refl _ _) | (with_reducible refine Below.drew ?_) | (with_reducible refine below_drewN ?_ _) | ((with_reducible refine Below.alloc ?_ ?_ _); rotate_left; (first | omega | (simp <;> omega)); rotate_right) | ((with_reducible refine Below.setCell ?_ ?_ _); rotate_left; (first | omega | (simp <;> omega)); rotate_right) | (with_reducible assumption) | (refine Below.trans ?_ (Below.mono (by assumption) ?_); rotate_left; (first | omega | (simp <;> omega)); rotate_right))), by simp, Lib.hid ⟨by simp, rfl⟩⟩
  case round =>
    obtain ⟨i, fs, rfl, hi, hR, hB, hfl, HS⟩ := hrel
    have hzr := hB.size
    have hll := HH.out.1
    have HLL := Lib.hid hll
    obtain ⟨A5, cap5, rfl⟩ := hR.form
    by_cases hlt : i < n
    · have HRd := HH.out.below hB (Nat.le_refl _)
      obtain ⟨b, o, rfl, hbl, hcl⟩ := HRd.2.2 (by omega)
      have hby := HH.out.2.1
      have hsub := HRd.sub i (n - i) (by omega)
      rw [show (l.drop i).take (n - i) = l.drop i by rw [List.take_of_length_le (by rw [List.length_drop]; omega)]] at hsub
      have nc : ¬ cap = i := by omega
      have OP := Lib.hid (rbeg_any (some ⟨b, o + i, none⟩) (n - i) (cap - i) (l.drop i) wr (by omega) (hsub.more (by omega)))
      have hdl : (l.drop i).length = n - i := by rw [List.length_drop, hll]
      clear hcl
      cases hop : Frm.opB (l.drop i)
      · rw [hop] at OP
        have SN := Lib.hid (fun hf => Frm.scan_none (l := l) (i := i) (by omega) hop hf)
        have SS := Lib.hid (fun f hf => Frm.scan_some (l := l) (i := i) (f := f) (by omega) hop hf)
        clear hop hll
        rcases Nat.lt_or_ge (n - i) 10 with hs | hs
        · have E := Lib.hid (SN.out (Frm.frAt_short (.inl (by omega))))
          have z : (((n - i : Nat) : Int) < 10) := by omega
          clear SN SS hdl hs HRd hsub
          go_wp2_with fail
          refine OP.out.mono ?_
          rintro e w1 ⟨rfl, rfl⟩
          go_wp2_with fail
          go_roundw
          case rel => exact ⟨i + 1, fs, by go_num, by omega, hR.alloc _, (by repeat (first | (with_reducible exact Below.refl _ _) | (with_reducible refine Below.drew ?_) | (with_reducible refine below_drewN ?_ _) | ((with_reducible refine Below.alloc ?_ ?_ _); rotate_left; (first | omega | (simp <;> omega)); rotate_right) | ((with_reducible refine Below.setCell ?_ ?_ _); rotate_left; (first | omega | (simp <;> omega)); rotate_right) | (with_reducible assumption) | (refine Below.trans ?_ (Below.mono (by assumption) ?_); rotate_left; (first | omega | (simp <;> omega)); rotate_right))), by omega, Lib.hid ⟨by rw [← E.out]; exact HS.out.1, by rw [← E.out]; exact HS.out.2⟩⟩
          case measure => simp [intOf]; omega
        · have c7 := hsub.2.2 (by omega)
          obtain ⟨b', o', e', hbl', hcl'⟩ := c7
          injection e' with e'; injection e' with eb eo; subst eb; subst eo
          have k7 := hcl' 7 (by omega)
          have y7 := hsub.2.1.at_ 7
          obtain ⟨m, hm⟩ : ∃ m : Nat, m = Frm.dm (l.drop i) := ⟨_, rfl⟩
          have hm7 : (l.drop i).getD 7 0 = (m : Int) := by rw [hm, Frm.dm]; omega
          rw [hm7] at k7 y7
          have hmb : m < 256 := by omega
          clear y7
          have HM := Lib.hid hm
          clear hcl' hm
          rcases Nat.lt_or_ge (n - i) (10 + m) with hq | hq
          · have E := Lib.hid (SN.out (Frm.frAt_short (.inr (by rw [← HM.out]; omega))))
            clear SN SS hdl HRd hsub hm7
            go_wp2_with fail
            refine OP.out.mono ?_
            rintro e w1 ⟨rfl, rfl⟩
            rw [Nat.add_assoc] at k7
            have hbr : b < wr.heap.size := by omega
            go_wp2_with fail
            go_roundw
            case rel => exact ⟨i + 1, fs, by go_num, by omega, hR.alloc _, (by repeat (first | (with_reducible exact Below.refl _ _) | (with_reducible refine Below.drew ?_) | (with_reducible refine below_drewN ?_ _) | ((with_reducible refine Below.alloc ?_ ?_ _); rotate_left; (first | omega | (simp <;> omega)); rotate_right) | ((with_reducible refine Below.setCell ?_ ?_ _); rotate_left; (first | omega | (simp <;> omega)); rotate_right) | (with_reducible assumption) | (refine Below.trans ?_ (Below.mono (by assumption) ?_); rotate_left; (first | omega | (simp <;> omega)); rotate_right))), by omega, Lib.hid ⟨by rw [← E.out]; exact HS.out.1, by rw [← E.out]; exact HS.out.2⟩⟩
            case measure => simp [intOf]; omega
          · have hpre := hsub.sub 0 (10 + m) (by omega)
            rw [Nat.add_zero, List.drop_zero] at hpre
            have ED := Lib.hid (fun hd => SN.out (Frm.frAt_no (r := l.drop i) hd))
            have EY := Lib.hid (fun hd => SS.out _ (Frm.frAt_yes (r := l.drop i) (by omega) (by rw [← HM.out]; omega) hd))
            have EL := Lib.hid (Frm.toFr_len (r := l.drop i) (by rw [← HM.out]; omega))
            rw [← HM.out] at ED EY EL
            have EM := Lib.hid (Frm.dm_take (r := l.drop i) (n := 10 + m) (by omega))
            rw [← HM.out] at EM
            have DC := Lib.hid (fun (W : World) (hW : Below wr.heap.size wr W) => rdec_any (some ⟨b, o + i, none⟩) (10 + m) (cap - i) ((l.drop i).take (10 + m)) W (by omega) (by omega) (by omega) ((hpre.below hW (by omega)).more (by have := hW.size; omega)))
            obtain ⟨lt, hlt'⟩ : ∃ lt, lt = (l.drop i).take (10 + m) := ⟨_, rfl⟩
            rw [← hlt'] at ED EY EL DC EM
            clear SN SS hdl HRd hsub hm7 hpre hlt'
            go_wp2_with fail
            refine OP.out.mono ?_
            rintro e w1 ⟨rfl, rfl⟩
            rw [Nat.add_assoc] at k7
            have hbr : b < wr.heap.size := by omega
            go_wp2_with fail
            rw [show i + 10 + m - i = 10 + m by omega]
            obtain ⟨Z, hZ⟩ : ∃ Z : World, Z = wr.alloc (.cells #[.int .i64 0, .int .i64 0, .int .i64 0, .int .i64 0, .slice none 0 0] 25) := ⟨_, rfl⟩
            have zZ : Z.heap.size = wr.heap.size + 1 := by rw [hZ]; simp
            have HZ : Below wr.heap.size wr Z := by rw [hZ]; exact (Below.refl _ _).alloc (Nat.le_refl _) _
            have hX : Z.heap[wr.heap.size]? = some (.cells #[.int .i64 0, .int .i64 0, .int .i64 0, .int .i64 0, .slice none 0 0] 25 (0, 0)) := by rw [hZ]; exact heap_new _ _
            rw [← hZ]
            refine (DC.out _ HZ).mono ?_
            clear hZ
            rintro e w2 (⟨hd, rfl, hb2⟩ | ⟨hd, A', cap', rfl, how, hb2⟩)
            · have hz2' := hb2.size
              have HB2 := (show Below wr.heap.size wr w2 from HZ.trans (hb2.mono (by omega)))
              have hX2 := blk_below hX hb2 (by omega)
              have cX_0 := blk_cell hX2 0 rfl; have fX_0 := blk_free hX2 0; have cX_1 := blk_cell hX2 1 rfl; have fX_1 := blk_free hX2 1; have cX_2 := blk_cell hX2 2 rfl; have fX_2 := blk_free hX2 2; have cX_3 := blk_cell hX2 3 rfl; have fX_3 := blk_free hX2 3; have cX_4 := blk_cell hX2 4 rfl; have fX_4 := blk_free hX2 4; have lX := lt_of_block hX2
              have E := Lib.hid (ED.out hd)
              have zd : (Frm.dE lt == 0) = false := by rw [beq_eq_false_iff_ne]; exact hd
              generalize Frm.dE lt = ee at zd
              clear ED EY EL hd EM
              go_wp2_with fail
              go_roundw
              case rel => exact ⟨i + 1, fs, by go_num, by omega, hR.below (five_below HB2 (Nat.le_refl _)) (Nat.le_refl _), hB.trans ((five_below HB2 (Nat.le_refl _)).mono hzr), by omega, Lib.hid ⟨by rw [← E.out]; exact HS.out.1, by rw [← E.out]; exact HS.out.2⟩⟩
              case measure => simp [intOf]; omega
            · have hz2' := hb2.size
              have HB2 := (show Below wr.heap.size wr w2 from HZ.trans (hb2.mono (by omega)))
              have hX2 := blk_below hX hb2 (by omega)
              have cX_0 := blk_cell hX2 0 rfl; have fX_0 := blk_free hX2 0; have cX_1 := blk_cell hX2 1 rfl; have fX_1 := blk_free hX2 1; have cX_2 := blk_cell hX2 2 rfl; have fX_2 := blk_free hX2 2; have cX_3 := blk_cell hX2 3 rfl; have fX_3 := blk_free hX2 3; have cX_4 := blk_cell hX2 4 rfl; have fX_4 := blk_free hX2 4; have lX := lt_of_block hX2
              have E := Lib.hid (EY.out hd)
              have HOW := Lib.hid how
              have edm := EM.out
              clear ED EY hd EM how
              obtain ⟨f, hf⟩ : ∃ f : Fr, f = Frm.toFr lt := ⟨_, rfl⟩
              rw [show lt.getD 2 0 = f.k by rw [hf]; rfl, show lt.getD 3 0 = f.f by rw [hf]; rfl, show lt.getD 4 0 = f.t by rw [hf]; rfl, show Frm.dS lt = f.s by rw [hf]; rfl, edm]
              rw [show Frm.dd lt = f.d by rw [hf]; rfl, edm] at HOW
              rw [← hf] at E EL
              clear hf edm
              go_upto_region 12 with fail
              obtain ⟨W3, hW3⟩ : ∃ W3 : World, W3 = (((((w2.setCell ⟨wr.heap.size, 0, none⟩ (.int .i64 f.k)).setCell ⟨wr.heap.size, 1, none⟩ (.int .i64 f.f)).setCell ⟨wr.heap.size, 2, none⟩ (.int .i64 f.t)).setCell ⟨wr.heap.size, 3, none⟩ (.int .i64 f.s)).setCell ⟨wr.heap.size, 4, none⟩ (.slice A' m cap')) := ⟨_, rfl⟩
              have hX3 : W3.heap[wr.heap.size]? = some (.cells #[.int .i64 f.k, .int .i64 f.f, .int .i64 f.t, .int .i64 f.s, .slice A' m cap'] 25 (0, 0)) := by rw [hW3]; exact five_set hX2
              have HB3 : Below wr.heap.size wr W3 := by rw [hW3]; exact five_below HB2 (Nat.le_refl _)
              have HOW3 := Lib.hid (show Ow W3 (wr.heap.size + 1) A' m cap' f.d by rw [hW3]; exact five_ow (HOW.out.more (by omega)) (by omega))
              rw [← hW3]
              clear hW3 hX2 HB2 HOW
              clear cX_0 fX_0 cX_1 fX_1 cX_2 fX_2 cX_3 fX_3 cX_4 fX_4
              have hR3 := hR.below HB3 (Nat.le_refl _)
              obtain ⟨vs, hv1, hv2, hv3⟩ := hR3
              have HV3 := Lib.hid hv3
              have HV1 := Lib.hid hv1
              clear hv3 hv1
              have hvl := hv2.lt
              have hz3 := lt_of_block hX3
              have hR4 := hR.below (Below.refl _ _) (Nat.le_refl _)
              obtain ⟨vs', _, hv2', _⟩ := hR4
              have hvl' := hv2'.lt
              clear hv2'
              have cY_0 := blk_cell hX3 0 rfl; have fY_0 := blk_free hX3 0; have cY_1 := blk_cell hX3 1 rfl; have fY_1 := blk_free hX3 1; have cY_2 := blk_cell hX3 2 rfl; have fY_2 := blk_free hX3 2; have cY_3 := blk_cell hX3 3 rfl; have fY_3 := blk_free hX3 3; have cY_4 := blk_cell hX3 4 rfl; have fY_4 := blk_free hX3 4; have lY := lt_of_block hX3
              go_wp2_with (at_builtin; refine wpList_append_any _ rfl (.tmp 60) (.tmp 62) _ rfl w.heap.size 25 i0 _ 5 56 Try.underlying41 hi0 hzA hzB hzC rfl (by omega) (.slice A5 fs.length cap5) fs.length _ rfl (hv2.alloc _) (W3.heap.size + 1) (some ⟨W3.heap.size, 0, none⟩) 1 1 [.int .i64 f.k, .int .i64 f.f, .int .i64 f.t, .int .i64 f.s, .slice A' m cap'] rfl (Reads.newN W3 #[.int .i64 f.k, .int .i64 f.f, .int .i64 f.t, .int .i64 f.s, .slice A' m cap'] 25 1 5 rfl) (by simp [Value.oneCell']) (by simp only [maxLen]; omega) (by omega) (by simp; omega) ?_; intro v1 w4 hown1 hg1 hat1; have hX4 := blk_only (q := wr.heap.size) (blk_alloc hX3 _) hg1 (fun e => by have := (hvl' _ e.symm).2; omega); (have cX_0 := blk_cell hX4 0 rfl; have fX_0 := blk_free hX4 0; have cX_1 := blk_cell hX4 1 rfl; have fX_1 := blk_free hX4 1; have cX_2 := blk_cell hX4 2 rfl; have fX_2 := blk_free hX4 2; have cX_3 := blk_cell hX4 3 rfl; have fX_3 := blk_free hX4 3; have cX_4 := blk_cell hX4 4 rfl; have fX_4 := blk_free hX4 4; have lX := lt_of_block hX4))
              have hl1 : f.d.length = m := EL.out
              go_roundw
              case rel =>
                refine ⟨i + 10 + m, fs ++ [f], by go_num, by omega, ?_, ?_, by simp; omega, Lib.hid ⟨?_, ?_⟩⟩
                · have hy := ((HOW3.out.more (base' := w.heap.size) (by omega)).alloc (.cells #[.int .i64 f.k, .int .i64 f.f, .int .i64 f.t, .int .i64 f.s, .slice A' m cap'] 25))
                  refine Rof.append (y := ⟨f, A', cap'⟩) HV1.out (hv2.alloc _) (fun y hy => (HV3.out y hy).alloc _) (by rw [hl1]; exact hy) hg1 ?_
                  simpa [FV.cells, hl1] using hown1
                · exact Below.grown (w := W3.alloc (.cells #[.int .i64 f.k, .int .i64 f.f, .int .i64 f.t, .int .i64 f.s, .slice A' m cap'] 25)) ((hB.trans (HB3.mono hzr)).alloc (by omega) _) hg1 (by simp; omega) (fun g hg => (hvl g hg).1)
                · have := HS.out.1
                  rw [E.out, hl1] at this
                  rw [← this]; simp
                · have := HS.out.2
                  rw [E.out, hl1] at this
                  exact this
              case measure => simp [intOf]; omega
      · rw [hop] at OP
        have E := Lib.hid (Frm.scan_open (l := l) (i := i) hop)
        clear hop hll hdl HRd hsub
        go_wp2_with fail
        refine OP.out.mono ?_
        rintro e w1 ⟨rfl, rfl⟩
        go_wp2_with fail
        go_ret3
        refine ⟨.inr ⟨hbig, .slice A5 fs.length cap5, ?_, ?_⟩, hB⟩
        · rw [← HS.out.2, E.out]; rfl
        · rw [← HS.out.1, E.out]; simpa using hR
    · obtain rfl : i = n := by omega
      have E := Lib.hid (Frm.scan_end (l := l) (i := i) (by omega))
      clear hll
      go_wp2_with fail
      go_ret3
      refine ⟨.inr ⟨hbig, .slice A5 fs.length cap5, ?_, ?_⟩, hB⟩
      · rw [← HS.out.2, E.out]; rfl
      · rw [← HS.out.1, E.out]; simpa using hR
end Go.Proofs.Yteakljjalmgicaa

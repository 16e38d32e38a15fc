import Derived.Test.YtdocdgcdldpagaaGreatAp
import Derived.Test.YtdocdgcdldpagaaGreatAv35
import Derived.BigQuiet
namespace Go.Proofs.YtdocdgcdldpagaaGreat
open Go.RowKit
set_option maxHeartbeats 8000000
set_option maxRecDepth 100000
set_option linter.unusedSimpArgs false
set_option linter.unusedVariables false
attribute [local go_sem ↓] Go.wp_at_zero Go.wp_at_succ
attribute [local go_sem high] run_mn run_mx
section
variable {w w' w0 : World}
theorem Eh {p : Prop} (h : p := by
  go_ret
  exact ⟨ret_bool (by rw [HV2.out]; simp), ((HB1.out.trans (hb1.mono Cb)).trans (hb2.mono Cb)).trans (hb3.mono Cb)⟩
 ) : p := h
theorem nvalid_ok0 (r : Nt.Ru) (n : Nat) (OA : Option Addr) (oc : Nat) (TA : Option Addr) (tc : Nat) (w : World) (h : Nt.vld0 r = true) (hn : r.offs.length = n) (ho : Ri w w.heap.size OA n r.offs) (ht : Ri w w.heap.size TA n r.rates) :
    Calls Tryz.prog 9 #[rval r OA n oc TA n tc] w fun e w' => e = .returned (.bool (Nt.vld r)) ∧ Below w.heap.size w w' := by
  have H0 := Lib.hid h
  have h' := of_decide_eq_true h
  obtain ⟨g1, g2, g3, g4, g5, g6⟩ := h'
  have HV := Lib.hid (show Nt.vld r = (Nt.ones r n && Plt.ruOk r.lost r.ret r.desc r.late r.every && Lnk.vld r.up && Lnk.vld r.dn && decide (max r.up.seed r.dn.seed ≤ 1099511627776)) by unfold Nt.vld; rw [h, Bool.true_and, hn])
  have W1 := Lib.hid (fun W => nwithin_yes r.n 1 64 W g1)
  have W2 := Lib.hid (fun W => nwithin_yes r.again 1 60000 W g2)
  have W3 := Lib.hid (fun W => nwithin_yes r.step 1 1000 W g3)
  have W4 := Lib.hid (fun W => nwithin_yes r.drift 0 100000 W g4)
  have hn64 : n ≤ 64 := by omega
  have z5 : ((n : Int) != r.n) = false := by rw [← hn, g5]; simp
  have zd : IntKind.i64.wrap (-r.drift) = -r.drift := IntWalk.i64_in _ Cb
  have HN := Lib.hid hn
  have W7 := Lib.hid (fun W => pvalid_any r.lost r.ret r.desc r.late r.every W)
  have W8 := Lib.hid (fun W => lvalid_any r.up W)
  have W9 := Lib.hid (fun W => lvalid_any r.dn W)
  clear h hn g1 g2 g3 g4 g5 g6
  unfold rval
  go_enter Tryz.func9, Tryz.ntmps9
  go_upto_region 1 with fail
  generalize hV : World.alloc _ _ = V
  have k0 : V.heap[w.heap.size]? = some (.cells #[.int .i64 r.n, .int .i64 r.again, .int .i64 r.step, .int .i64 r.drift, .int .i64 r.lost, .int .i64 r.ret, .int .i64 r.desc, .int .i64 r.late, .int .i64 r.every, .int .i64 r.up.loss, .int .i64 r.up.twice, .int .i64 r.up.least, .int .i64 r.up.most, .int .i64 r.up.seed, .int .i64 r.dn.loss, .int .i64 r.dn.twice, .int .i64 r.dn.least, .int .i64 r.dn.most, .int .i64 r.dn.seed, .slice OA n oc, .slice TA n tc] 28 (0, 0)) := Bd
  have HB := Lib.hid (show Below w.heap.size w V from by rw [← hV]; exact (Below.refl _ w).alloc (Nat.le_refl _) _)
  have HSZ := Lib.hid (show V.heap.size = w.heap.size + 1 by rw [← hV, World.size_alloc])
  have q0 := blk_cell k0 0 rfl; have q1 := blk_cell k0 1 rfl; have q2 := blk_cell k0 2 rfl; have q3 := blk_cell k0 3 rfl; have q19 := blk_cell k0 19 rfl; have q20 := blk_cell k0 20 rfl
  have K0 := Lib.hid k0
  have HO := Lib.hid ho
  have HT := Lib.hid ht
  clear hV k0 ho ht
  go_wp2_with (first | (with_reducible refine (W1.out _).mono ?_; rintro e w' ⟨rfl, rfl⟩) | (with_reducible refine (W2.out _).mono ?_; rintro e w' ⟨rfl, rfl⟩) | (with_reducible refine (W3.out _).mono ?_; rintro e w' ⟨rfl, rfl⟩) | (with_reducible refine (W4.out _).mono ?_; rintro e w' ⟨rfl, rfl⟩))
  clear W1 W2 W3 W4 z5
  go_loopw [3, 4, 46] (fun s3 s4 s46 wr => ∃ (j : Nat), s46 = .int .i64 j ∧ j ≤ n ∧ Hid (Below w.heap.size w wr ∧ wr.heap[w.heap.size]? = some (.cells #[.int .i64 r.n, .int .i64 r.again, .int .i64 r.step, .int .i64 r.drift, .int .i64 r.lost, .int .i64 r.ret, .int .i64 r.desc, .int .i64 r.late, .int .i64 r.every, .int .i64 r.up.loss, .int .i64 r.up.twice, .int .i64 r.up.least, .int .i64 r.up.most, .int .i64 r.up.seed, .int .i64 r.dn.loss, .int .i64 r.dn.twice, .int .i64 r.dn.least, .int .i64 r.dn.most, .int .i64 r.dn.seed, .slice OA n oc, .slice TA n tc] 28 (0, 0))) ∧ Nt.ones r j = true) (fun _ _ s46 _ => n - (intOf s46).toNat)
  case atStart => exact ⟨0, by go_num, by omega, Lib.hid ⟨HB.out, K0.out⟩, rfl⟩
  case round =>
    obtain ⟨j, rfl, hj, HR, hon⟩ := hrel
    clear q0 q1 q2 q3 q19 q20
    by_cases hlt : j < n
    · have q3 := blk_cell HR.out.2 3 rfl
      have q19 := blk_cell HR.out.2 19 rfl
      have q20 := blk_cell HR.out.2 20 rfl
      obtain ⟨b, o, rfl, hbl, hcl⟩ := (HO.out.below HR.out.1 (Nat.le_refl _)).2.2 Cb
      obtain ⟨b', o', rfl, hbl', hcl'⟩ := (HT.out.below HR.out.1 (Nat.le_refl _)).2.2 Cb
      have c1 := hcl j hlt
      have c2 := hcl' j hlt
      have i1 := HO.out.2.1.at_ j
      have i2 := HT.out.2.1.at_ j
      have NS := Lib.hid (show Nt.ones r (j + 1) = Nt.one r j by rw [Nt.ones, hon, Bool.true_and])
      have NO := Lib.hid (fun (e : Nt.one r j = false) => Nt.ones_no hlt e)
      have ED := Lib.hid (show Nt.one r j = decide ((-3600000 ≤ r.offs.getD j 0 ∧ r.offs.getD j 0 ≤ 3600000) ∧ (-r.drift ≤ r.rates.getD j 0 ∧ r.rates.getD j 0 ≤ r.drift)) from rfl)
      obtain ⟨x, hx⟩ : ∃ x, r.offs.getD j 0 = x := ⟨_, rfl⟩
      obtain ⟨y, hy⟩ : ∃ y, r.rates.getD j 0 = y := ⟨_, rfl⟩
      rw [hx] at c1 i1
      rw [hy] at c2 i2
      have ED' := Lib.hid (ED.out.trans (by rw [hx, hy]))
      clear ED hx hy hcl hcl' HO HT hon
      by_cases h5 : -3600000 ≤ x ∧ x ≤ 3600000
      · by_cases h6 : -r.drift ≤ y ∧ y ≤ r.drift
        · have W5 := Lib.hid (fun W => nwithin_yes x (-3600000) 3600000 W h5)
          have W6 := Lib.hid (fun W => nwithin_yes y (-r.drift) r.drift W h6)
          have E := Lib.hid (show Nt.ones r (j + 1) = true by rw [NS.out, ED'.out]; exact decide_eq_true ⟨h5, h6⟩)
          clear NS NO ED' h5 h6
          go_wp2_with fail
          go_quiet ((go_at_call 31; first | (with_reducible refine (show Calls Tryz.prog 31 #[.int .i64 x, .int .i64 (-3600000), .int .i64 3600000] _ _ from ?_); exact Calls.quiet_of_same ((W5.out _).mono fun e w' h => ⟨h.1, h.2.symm⟩)) | (exact Calls.quiet_of_same ((W6.out _).mono fun e w' h => ⟨h.1, h.2.symm⟩))))
          go_wp2_with fail
          go_roundw
          case rel => exact ⟨j + 1, by go_num, by omega, Lib.hid ⟨below_drewN HR.out.1 _, HR.out.2⟩, E.out⟩
          case measure => simp [intOf]; omega
        · have W5 := Lib.hid (fun W => nwithin_yes x (-3600000) 3600000 W h5)
          have W6 := Lib.hid (fun W => nwithin_no y (-r.drift) r.drift W h6)
          have E := Lib.hid (show Nt.vld r = false by rw [HV.out, NO.out (by rw [ED'.out]; exact decide_eq_false (fun h => h6 h.2))]; simp)
          clear NS NO ED' h5 h6
          go_wp2_with fail
          go_quiet ((go_at_call 31; first | (with_reducible refine (show Calls Tryz.prog 31 #[.int .i64 x, .int .i64 (-3600000), .int .i64 3600000] _ _ from ?_); exact Calls.quiet_of_same ((W5.out _).mono fun e w' h => ⟨h.1, h.2.symm⟩)) | (exact Calls.quiet_of_same ((W6.out _).mono fun e w' h => ⟨h.1, h.2.symm⟩))))
          go_wp2_with fail
          go_ret
          exact ⟨ret_bool E.out.symm, below_drewN HR.out.1 _⟩
      · have W5 := Lib.hid (fun W => nwithin_no x (-3600000) 3600000 W h5)
        have E := Lib.hid (show Nt.vld r = false by rw [HV.out, NO.out (by rw [ED'.out]; exact decide_eq_false (fun h => h5 h.1))]; simp)
        clear NS NO ED' h5
        go_wp2_with fail
        go_quiet ((go_at_call 31; exact Calls.quiet_of_same ((W5.out _).mono fun e w' h => ⟨h.1, h.2.symm⟩)))
        go_wp2_with fail
        go_ret
        exact ⟨ret_bool E.out.symm, below_drewN HR.out.1 _⟩
    · obtain rfl : j = n := by omega
      have K1 := Lib.hid HR.out.2
      have HB1 := Lib.hid HR.out.1
      have hsq : w.heap.size < wr.heap.size := lt_of_block HR.out.2
      have HV1 := Lib.hid (HV.out.trans (by rw [hon, Bool.true_and]))
      clear hon HV HO HT K0 HB HSZ HN H0 HR
      have p4 := blk_cell K1.out 4 rfl; have p5 := blk_cell K1.out 5 rfl; have p6 := blk_cell K1.out 6 rfl; have p7 := blk_cell K1.out 7 rfl; have p8 := blk_cell K1.out 8 rfl
      obtain ⟨cp, hcp⟩ : ∃ c, c = Plt.ruOk r.lost r.ret r.desc r.late r.every := ⟨_, rfl⟩
      obtain ⟨cu, hcu⟩ : ∃ c, c = Lnk.vld r.up := ⟨_, rfl⟩
      obtain ⟨cd, hcd⟩ : ∃ c, c = Lnk.vld r.dn := ⟨_, rfl⟩
      have HV2 := Lib.hid (HV1.out.trans (by rw [← hcp, ← hcu, ← hcd]))
      have V7 := Lib.hid (show ∀ W, Calls Tryz.prog 32 #[.agg #[.int .i64 r.lost, .int .i64 r.ret, .int .i64 r.desc, .int .i64 r.late, .int .i64 r.every]] W fun e w' => e = .returned (.bool cp) ∧ Below W.heap.size W w' from fun W => by rw [hcp]; exact W7.out W)
      have V8 := Lib.hid (show ∀ W, Calls Tryz.prog 33 #[.agg #[.int .i64 r.up.loss, .int .i64 r.up.twice, .int .i64 r.up.least, .int .i64 r.up.most, .int .i64 r.up.seed]] W fun e w' => e = .returned (.bool cu) ∧ Below W.heap.size W w' from fun W => by rw [hcu]; exact W8.out W)
      have V9 := Lib.hid (show ∀ W, Calls Tryz.prog 33 #[.agg #[.int .i64 r.dn.loss, .int .i64 r.dn.twice, .int .i64 r.dn.least, .int .i64 r.dn.most, .int .i64 r.dn.seed]] W fun e w' => e = .returned (.bool cd) ∧ Below W.heap.size W w' from fun W => by rw [hcd]; exact W9.out W)
      clear HV1 hcp hcu hcd W7 W8 W9
      cases cp
      case false =>
        go_wp2_with (with_reducible refine (V7.out _).mono ?_; rintro e w1 ⟨rfl, hb1⟩)
        go_ret
        exact ⟨ret_bool (by rw [HV2.out]; simp), HB1.out.trans (hb1.mono Cb)⟩
      case true =>
        cases cu
        case false =>
          go_wp2_with (first | (with_reducible refine (V7.out _).mono ?_; rintro e w1 ⟨rfl, hb1⟩; have hz1 := hb1.size; have k1 := blk_below K1.out hb1 hsq; have u9 := blk_cell k1 9 rfl; have u10 := blk_cell k1 10 rfl; have u11 := blk_cell k1 11 rfl; have u12 := blk_cell k1 12 rfl; have u13 := blk_cell k1 13 rfl; clear k1) | (with_reducible refine (V8.out _).mono ?_; rintro e w2 ⟨rfl, hb2⟩; have hz2 := hb2.size))
          go_ret
          exact ⟨ret_bool (by rw [HV2.out]; simp), (HB1.out.trans (hb1.mono Cb)).trans (hb2.mono Cb)⟩
        case true =>
          cases cd
          case false =>
            go_wp2_with (first | (with_reducible refine (V7.out _).mono ?_; rintro e w1 ⟨rfl, hb1⟩; have hz1 := hb1.size; have k1 := blk_below K1.out hb1 hsq; have u9 := blk_cell k1 9 rfl; have u10 := blk_cell k1 10 rfl; have u11 := blk_cell k1 11 rfl; have u12 := blk_cell k1 12 rfl; have u13 := blk_cell k1 13 rfl; have KK1 := Lib.hid k1; clear k1) | (with_reducible refine (V8.out _).mono ?_; rintro e w2 ⟨rfl, hb2⟩; have hz2 := hb2.size; have k2 := blk_below KK1.out hb2 Cb; have d14 := blk_cell k2 14 rfl; have d15 := blk_cell k2 15 rfl; have d16 := blk_cell k2 16 rfl; have d17 := blk_cell k2 17 rfl; have d18 := blk_cell k2 18 rfl; clear k2) | (with_reducible refine (V9.out _).mono ?_; rintro e w3 ⟨rfl, hb3⟩; have hz3 := hb3.size))
            exact Eh
          case true =>
            go_wp2_with (first | (with_reducible refine (V7.out _).mono ?_; rintro e w1 ⟨rfl, hb1⟩; have hz1 := hb1.size; have k1 := blk_below K1.out hb1 hsq; have u9 := blk_cell k1 9 rfl; have u10 := blk_cell k1 10 rfl; have u11 := blk_cell k1 11 rfl; have u12 := blk_cell k1 12 rfl; have u13 := blk_cell k1 13 rfl; have KK1 := Lib.hid k1; clear k1) | (with_reducible refine (V8.out _).mono ?_; rintro e w2 ⟨rfl, hb2⟩; have hz2 := hb2.size; have k2 := blk_below KK1.out hb2 Cb; have d14 := blk_cell k2 14 rfl; have d15 := blk_cell k2 15 rfl; have d16 := blk_cell k2 16 rfl; have d17 := blk_cell k2 17 rfl; have d18 := blk_cell k2 18 rfl; have KK2 := Lib.hid k2; clear k2) | (with_reducible refine (V9.out _).mono ?_; rintro e w3 ⟨rfl, hb3⟩; have hz3 := hb3.size; have k3 := blk_below KK2.out hb3 Cb; have e13 := blk_cell k3 13 rfl; have e18 := blk_cell k3 18 rfl; clear k3))
            exact Eh
end
end Go.Proofs.YtdocdgcdldpagaaGreat
namespace Go.Proofs.YtdocdgcdldpagaaGreat
open Go.RowKit
set_option maxHeartbeats 8000000
set_option maxRecDepth 100000
set_option linter.unusedSimpArgs false
set_option linter.unusedVariables false
attribute [local go_sem ↓] Go.wp_at_zero Go.wp_at_succ
attribute [local go_sem high] run_mn run_mx
section
variable {w w' w0 : World}
theorem nvalid_any (r : Nt.Ru) (n m : Nat) (OA : Option Addr) (oc : Nat) (TA : Option Addr) (tc : Nat) (w : World) (hn : r.offs.length = n) (hm : r.rates.length = m) (ho : Ri w w.heap.size OA n r.offs) (ht : Ri w w.heap.size TA m r.rates) :
    Calls Tryz.prog 9 #[rval r OA n oc TA m tc] w fun e w' => e = .returned (.bool (Nt.vld r)) ∧ Below w.heap.size w w' := by
  by_cases h : Nt.vld0 r = true
  · have h' := of_decide_eq_true h
    have hmn : m = n := by have := h'.2.2.2.2; omega
    subst hmn
    exact nvalid_ok0 r m OA oc TA tc w h hn ho ht
  · have h0 : Nt.vld0 r = false := by simpa using h
    have := nvalid_no0 r OA oc TA tc w h0
    rw [hn, hm] at this
    refine this.mono ?_
    rintro e w' ⟨rfl, hb⟩
    exact ⟨by unfold Nt.vld; rw [h0]; simp, hb⟩
end
end Go.Proofs.YtdocdgcdldpagaaGreat

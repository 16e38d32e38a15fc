import Derived.Test.YtdocdgcdldpagaaGreatAp
import Derived.Test.YtdocdgcdldpagaaGreatAv39
import Derived.Test.YtdocdgcdldpagaaGreatAv02
import Derived.Deep.DrawnRows
import Derived.Deep.RegionHeld3
import Derived.RangeFuncBox
import Derived.RangeFuncCalls
import Derived.RangeFuncNested
import Derived.RangeFuncLeaves
import Derived.Shelf.Abstract
import Derived.OwnWalkIn
import Derived.TacticsInMore
import Derived.LoopNIn
import Derived.LoopIn
namespace Go.Proofs.YtdocdgcdldpagaaGreat
open Go.RowKit
set_option maxHeartbeats 8000000
set_option maxRecDepth 100000
set_option linter.unusedSimpArgs false
set_option linter.unusedVariables false
attribute [local go_sem ↓] Go.wp_at_zero Go.wp_at_succ
attribute [local go_sem high] run_mn run_mx
section
variable {w w' w0 : World}
theorem rnvalid_ok (r : Nt.Ru) (n : Nat) (OA : Option Addr) (oc : Nat) (TA : Option Addr) (tc : Nat) (w : World) (g1 : 1 ≤ r.n ∧ r.n ≤ 64) (g2 : 1 ≤ r.again ∧ r.again ≤ 60000) (g3 : 1 ≤ r.step ∧ r.step ≤ 1000) (g4 : 0 ≤ r.drift ∧ r.drift ≤ 100000) (g5 : Plt.ruOk r.lost r.ret r.desc r.late r.every = true)
    (h1 : Lnk.vld r.up = true) (h2 : Lnk.vld r.dn = true) (h3 : r.up.seed ≤ 1099511627776) (h4 : r.dn.seed ≤ 1099511627776) (hn : (n : Int) = r.n) (ho : Ri w w.heap.size OA n r.offs) (ht : Ri w w.heap.size TA n r.rates) :
    Calls Tryz.prog 10 #[rval r OA n oc TA n tc] w fun e w' => e = .returned (.bool (Nt.ones r n)) ∧ Below w.heap.size w w' := by
  have W1 := Lib.hid (fun W => rnto_yes r.n 1 64 W g1)
  have W2 := Lib.hid (fun W => rnto_yes r.again 1 60000 W g2)
  have W3 := Lib.hid (fun W => rnto_yes r.step 1 1000 W g3)
  have W4 := Lib.hid (fun W => rnto_yes r.drift 0 100000 W g4)
  have W5 := Lib.hid (fun W => g5 ▸ rpvalid_any r.lost r.ret r.desc r.late r.every W)
  have W6 := Lib.hid (show ∀ W, Calls Tryz.prog 36 #[.agg #[.int .i64 r.up.loss, .int .i64 r.up.twice, .int .i64 r.up.least, .int .i64 r.up.most, .int .i64 r.up.seed]] W fun e w' => e = .returned (.bool true) ∧ Below W.heap.size W w' from fun W => h1 ▸ rlvalid_any r.up W)
  have W7 := Lib.hid (show ∀ W, Calls Tryz.prog 36 #[.agg #[.int .i64 r.dn.loss, .int .i64 r.dn.twice, .int .i64 r.dn.least, .int .i64 r.dn.most, .int .i64 r.dn.seed]] W fun e w' => e = .returned (.bool true) ∧ Below W.heap.size W w' from fun W => h2 ▸ rlvalid_any r.dn W)
  have hn64 : n ≤ 64 := by omega
  have zd : IntKind.i64.wrap (-r.drift) = -r.drift := IntWalk.i64_in _ Cb
  have z7 : ((n : Int) != r.n) = false := by simp [hn]
  have k5 : ¬ 1099511627776 < r.up.seed := by omega
  have k6 : ¬ 1099511627776 < r.dn.seed := by omega
  have HO := Lib.hid ho
  have HT := Lib.hid ht
  have HNR := Lib.hid hn
  have ZD := Lib.hid zd
  clear g1 g2 g3 g4 g5 h1 h2 h3 h4 hn ho ht zd
  unfold rval
  (go_enter Tryz.func10, Tryz.ntmps10; go_upto_region 1 with fail; generalize hV : World.alloc _ _ = V; have k0 : V.heap[w.heap.size]? = some (.cells #[.int .i64 r.n, .int .i64 r.again, .int .i64 r.step, .int .i64 r.drift, .int .i64 r.lost, .int .i64 r.ret, .int .i64 r.desc, .int .i64 r.late, .int .i64 r.every, .int .i64 r.up.loss, .int .i64 r.up.twice, .int .i64 r.up.least, .int .i64 r.up.most, .int .i64 r.up.seed, .int .i64 r.dn.loss, .int .i64 r.dn.twice, .int .i64 r.dn.least, .int .i64 r.dn.most, .int .i64 r.dn.seed, .slice OA n oc, .slice TA n tc] 28 (0, 0)) := Bd; have HB := Lib.hid (show Below w.heap.size w V from by rw [← hV]; exact (Below.refl _ w).alloc (Nat.le_refl _) _); have hzV : w.heap.size < V.heap.size := lt_of_block k0; have K0 := Lib.hid k0; have q0 := blk_cell k0 0 rfl; have q1 := blk_cell k0 1 rfl; have q2 := blk_cell k0 2 rfl; have q3 := blk_cell k0 3 rfl; have q4 := blk_cell k0 4 rfl; have q5 := blk_cell k0 5 rfl; have q6 := blk_cell k0 6 rfl; have q7 := blk_cell k0 7 rfl; have q8 := blk_cell k0 8 rfl; clear hV k0)
  (go_upto_region 3 with (first | (go_at_call 34; first | (with_reducible refine (W1.out _).mono ?_; rintro e w' ⟨rfl, rfl⟩) | (with_reducible refine (W2.out _).mono ?_; rintro e w' ⟨rfl, rfl⟩) | (with_reducible refine (W3.out _).mono ?_; rintro e w' ⟨rfl, rfl⟩) | (with_reducible refine (W4.out _).mono ?_; rintro e w' ⟨rfl, rfl⟩)) | (go_at_call 35; refine (W5.out _).mono ?_; rintro e w1 ⟨rfl, hb1⟩)); have k1 := blk_below K0.out hb1 hzV; have K1 := Lib.hid k1; have HB1 := Lib.hid (HB.out.trans (hb1.mono HB.out.size)); have hs1 := lt_of_block k1; clear K0 hb1 hzV q0 q1 q2 q3 q4 q5 q6 q7 q8 W1 W2 W3 W4 W5 HB; have u9 := blk_cell k1 9 rfl; have u10 := blk_cell k1 10 rfl; have u11 := blk_cell k1 11 rfl; have u12 := blk_cell k1 12 rfl; have u13 := blk_cell k1 13 rfl; clear k1)
  go_upto_region 5 with (first | (go_at_call 36; have _g := HB2; refine (W7.out _).mono ?_; rintro e w3 ⟨rfl, hb3⟩; (have k1 := blk_below K2.out hb3 hs2; have K3 := Lib.hid k1; have e13 := blk_cell k1 13 rfl; have e18 := blk_cell k1 18 rfl; have e0 := blk_cell k1 0 rfl; have e19 := blk_cell k1 19 rfl; have e20 := blk_cell k1 20 rfl; have HB3 := Lib.hid (HB2.out.trans (hb3.mono HB2.out.size)); clear k1 hb3)) | (go_at_call 36; refine (W6.out _).mono ?_; rintro e w2 ⟨rfl, hb2⟩; (have k1 := blk_below K1.out hb2 hs1; have K2 := Lib.hid k1; have hs2 := lt_of_block k1; have d14 := blk_cell k1 14 rfl; have d15 := blk_cell k1 15 rfl; have d16 := blk_cell k1 16 rfl; have d17 := blk_cell k1 17 rfl; have d18 := blk_cell k1 18 rfl; have HB2 := Lib.hid (HB1.out.trans (hb2.mono HB1.out.size)); clear k1 hb2)))
  clear W6 W7 K1 K2 HB1 HB2 hs1 hs2 u9 u10 u11 u12 u13 d14 d15 d16 d17 d18 e13 e18 e0 e19 e20 z7 k5 k6
  have zd := ZD.out
  go_wp2_with fail
  go_loopw [3] (fun s3 wr => ∃ (j : Nat), s3 = .int .i64 j ∧ j ≤ n ∧ Hid (Below w.heap.size w wr ∧ wr.heap[w.heap.size]? = some (.cells #[.int .i64 r.n, .int .i64 r.again, .int .i64 r.step, .int .i64 r.drift, .int .i64 r.lost, .int .i64 r.ret, .int .i64 r.desc, .int .i64 r.late, .int .i64 r.every, .int .i64 r.up.loss, .int .i64 r.up.twice, .int .i64 r.up.least, .int .i64 r.up.most, .int .i64 r.up.seed, .int .i64 r.dn.loss, .int .i64 r.dn.twice, .int .i64 r.dn.least, .int .i64 r.dn.most, .int .i64 r.dn.seed, .slice OA n oc, .slice TA n tc] 28 (0, 0))) ∧ Nt.ones r j = true) (fun s3 _ => n - (intOf s3).toNat)
  case atStart => exact ⟨0, by go_num, by omega, Lib.hid ⟨HB3.out, K3.out⟩, rfl⟩
  case round =>
    obtain ⟨j, rfl, hj, HR, hon⟩ := hrel
    clear K3 HB3
    have y0 : wr.cell? ⟨w.heap.size, 0, none⟩ = some (.int .i64 (n : Int)) := by rw [HNR.out]; exact blk_cell HR.out.2 0 rfl
    by_cases hlt : j < n
    · have hji : (j : Int) < (n : Int) := by omega
      have q3 := blk_cell HR.out.2 3 rfl
      have q19 := blk_cell HR.out.2 19 rfl
      have q20 := blk_cell HR.out.2 20 rfl
      obtain ⟨b, o, rfl, hbl, hcl⟩ := (HO.out.below HR.out.1 (Nat.le_refl _)).2.2 Cb
      obtain ⟨b', o', rfl, hbl', hcl'⟩ := (HT.out.below HR.out.1 (Nat.le_refl _)).2.2 Cb
      have c1 := hcl j hlt
      have c2 := hcl' j hlt
      have NS := Lib.hid (show Nt.ones r (j + 1) = Nt.one r j by rw [Nt.ones, hon, Bool.true_and])
      have NO := Lib.hid (fun (e : Nt.one r j = false) => Nt.ones_no hlt e)
      have ED := Lib.hid (show Nt.one r j = decide ((-3600000 ≤ r.offs.getD j 0 ∧ r.offs.getD j 0 ≤ 3600000) ∧ (-r.drift ≤ r.rates.getD j 0 ∧ r.rates.getD j 0 ≤ r.drift)) from rfl)
      obtain ⟨x, hx⟩ : ∃ x, r.offs.getD j 0 = x := ⟨_, rfl⟩
      obtain ⟨y, hy⟩ : ∃ y, r.rates.getD j 0 = y := ⟨_, rfl⟩
      rw [hx] at c1
      rw [hy] at c2
      have ED' := Lib.hid (ED.out.trans (by rw [hx, hy]))
      clear ED hx hy hcl hcl' HO HT hon
      by_cases h5 : -3600000 ≤ x ∧ x ≤ 3600000
      · by_cases h6 : -r.drift ≤ y ∧ y ≤ r.drift
        · have W5 := Lib.hid (fun W => rnto_yes x (-3600000) 3600000 W h5)
          have W6 := Lib.hid (fun W => rnto_yes y (-r.drift) r.drift W h6)
          have E := Lib.hid (show Nt.ones r (j + 1) = true by rw [NS.out, ED'.out]; exact decide_eq_true ⟨h5, h6⟩)
          clear NS NO ED' h5 h6
          go_wp2_with fail
          go_quiet ((go_at_call 34; first | (with_reducible refine (show Calls Tryz.prog 34 #[.int .i64 x, .int .i64 (-3600000), .int .i64 3600000] _ _ from ?_); exact Calls.quiet_of_same ((W5.out _).mono fun e w' h => ⟨h.1, h.2.symm⟩)) | (exact Calls.quiet_of_same ((W6.out _).mono fun e w' h => ⟨h.1, h.2.symm⟩))))
          go_wp2_with fail
          go_roundw
          case rel => exact ⟨j + 1, by go_num, by omega, Lib.hid ⟨below_drewN HR.out.1 _, HR.out.2⟩, E.out⟩
          case measure => simp [intOf]; omega
        · have W5 := Lib.hid (fun W => rnto_yes x (-3600000) 3600000 W h5)
          have W6 := Lib.hid (fun W => rnto_no y (-r.drift) r.drift W h6)
          have E := Lib.hid (show Nt.ones r n = false from NO.out (by rw [ED'.out]; exact decide_eq_false (fun h => h6 h.2)))
          clear NS NO ED' h5 h6
          go_wp2_with fail
          go_quiet ((go_at_call 34; first | (with_reducible refine (show Calls Tryz.prog 34 #[.int .i64 x, .int .i64 (-3600000), .int .i64 3600000] _ _ from ?_); exact Calls.quiet_of_same ((W5.out _).mono fun e w' h => ⟨h.1, h.2.symm⟩)) | (exact Calls.quiet_of_same ((W6.out _).mono fun e w' h => ⟨h.1, h.2.symm⟩))))
          go_wp2_with fail
          go_ret
          exact ⟨ret_bool E.out.symm, below_drewN HR.out.1 _⟩
      · have W5 := Lib.hid (fun W => rnto_no x (-3600000) 3600000 W h5)
        have E := Lib.hid (show Nt.ones r n = false from NO.out (by rw [ED'.out]; exact decide_eq_false (fun h => h5 h.1)))
        clear NS NO ED' h5
        go_wp2_with fail
        go_quiet ((go_at_call 34; exact Calls.quiet_of_same ((W5.out _).mono fun e w' h => ⟨h.1, h.2.symm⟩)))
        go_wp2_with fail
        go_ret
        exact ⟨ret_bool E.out.symm, below_drewN HR.out.1 _⟩
    · obtain rfl : j = n := by omega
      have hji : ¬ (j : Int) < (j : Int) := by omega
      go_wp2_with fail
      go_ret
      exact ⟨rfl, HR.out.1⟩
theorem rnvalid_any (r : Nt.Ru) (n m : Nat) (OA : Option Addr) (oc : Nat) (TA : Option Addr) (tc : Nat) (w : World) (hn : r.offs.length = n) (hm : r.rates.length = m) (ho : Ri w w.heap.size OA n r.offs) (ht : Ri w w.heap.size TA m r.rates) :
    Calls Tryz.prog 10 #[rval r OA n oc TA m tc] w fun e w' => e = .returned (.bool (Nt.vld r)) ∧ Below w.heap.size w w' := by
  have no : ∀ P : Prop, ¬ P → (Nt.vld r = true → P) → Nt.vld r = false := fun P hp h => by
    cases hv : Nt.vld r
    · rfl
    · exact absurd (h hv) hp
  by_cases h1 : (1 ≤ r.n ∧ r.n ≤ 64) ∧ (1 ≤ r.again ∧ r.again ≤ 60000) ∧ (1 ≤ r.step ∧ r.step ≤ 1000) ∧ (0 ≤ r.drift ∧ r.drift ≤ 100000) ∧ Plt.ruOk r.lost r.ret r.desc r.late r.every = true
  · by_cases h2 : Lnk.vld r.up = true ∧ Lnk.vld r.dn = true ∧ r.up.seed ≤ 1099511627776 ∧ r.dn.seed ≤ 1099511627776 ∧ (n : Int) = r.n ∧ (m : Int) = r.n
    · obtain ⟨g1, g2, g3, g4, g5⟩ := h1
      obtain ⟨k1, k2, k3, k4, k5, k6⟩ := h2
      have hmn : m = n := by omega
      subst hmn
      have e : Nt.vld r = Nt.ones r m := by
        unfold Nt.vld
        have h0 : Nt.vld0 r = true := by unfold Nt.vld0; exact decide_eq_true ⟨g1, g2, g3, g4, by omega, by omega⟩
        rw [h0, g5, k1, k2, hn, decide_eq_true (by omega : max r.up.seed r.dn.seed ≤ 1099511627776)]
        simp
      rw [e]
      exact rnvalid_ok r m OA oc TA tc w g1 g2 g3 g4 g5 k1 k2 k3 k4 k5 ho ht
    · rw [no _ h2 (fun hv => by
        obtain ⟨a0, a1, a2, a3, a4, a5, a6⟩ := Nt.vld_says hv
        obtain ⟨_, _, _, _, b5, b6⟩ := of_decide_eq_true a0
        exact ⟨a3, a4, a5, a6, by omega, by omega⟩)]
      exact rnvalid_no2 r n m OA oc TA tc w h1.1 h1.2.1 h1.2.2.1 h1.2.2.2.1 h1.2.2.2.2 h2
  · rw [no _ h1 (fun hv => by
      obtain ⟨a0, a1, a2, a3, a4, a5, a6⟩ := Nt.vld_says hv
      obtain ⟨b1, b2, b3, b4, b5, b6⟩ := of_decide_eq_true a0
      exact ⟨b1, b2, b3, b4, a2⟩)]
    exact rnvalid_no1 r n m OA oc TA tc w h1
end
end Go.Proofs.YtdocdgcdldpagaaGreat
namespace Go.Proofs.YtdocdgcdldpagaaGreat
open Go.RowKit
set_option maxHeartbeats 8000000
set_option maxRecDepth 100000
set_option linter.unusedSimpArgs false
set_option linter.unusedVariables false
section
variable {P : Program}
theorem run_loadVar_at (w : World) (b off : Nat) (ty : TypeId) (l : List Value) (d : TypeDesc) (hg : ∀ j u, l[j]? = some u → w.cell? ⟨b, off + j, none⟩ = some u)
    (hu : P.underlying ty = some d) (hd : (match d with | .struct _ | .array _ _ => true | _ => false) = true) (hi : (P.info? ty).map (·.size) = some l.length) :
    (loadVar ty ⟨b, off, none⟩).run P w = .ok (.agg l.toArray) w := by
  have hl : (loadCells ⟨b, off, none⟩ l.length).run P w = .ok l.toArray w :=
    run_loadCells_list (P := P) w ⟨b, off, none⟩ l (fun j v hv => by rw [addr_add]; exact hg j v hv)
  cases hq : P.info? ty with
  | none => simp [hq] at hi
  | some i =>
    have hs : i.size = l.length := by simpa [hq] using hi
    have hagg : (isAgg ty).run P w = .ok true w := by
      unfold isAgg
      rw [Sem.run_bind, run_underlying hu w]
      cases d <;> simp_all
    simp [loadVar, Sem.run_bind, hagg, sizeOf, typeInfo, hq, hs, hl]
theorem yields_load_at {ops : Array Oper} {S : World → Prop} {o : Oper} {a : Act} (hw : Region.wanted o (yielded ops a.tmps) = true) (ty : TypeId) (x : Operand) (ho : o.op = .load ty x)
    (b off : Nat) (hx : a.eval x = .pointer (some ⟨b, off, none⟩)) (l : List Value) (d : TypeDesc) (hg : ∀ w, S w → ∀ j u, l[j]? = some u → w.cell? ⟨b, off + j, none⟩ = some u)
    (hu : P.underlying ty = some d) (hd : (match d with | .struct _ | .array _ _ => true | _ => false) = true) (hi : (P.info? ty).map (·.size) = some l.length) : YieldsIf P ops S o (.agg l.toArray) a :=
  Or.inl ⟨hw, fun w hS => by
    unfold execOp
    simp only [ho, hx, Instr.loadAt, Instr.sureAddr, Sem.run_bind, Sem.run_pure, Result.andThen_ok, run_loadVar_at w b off ty l d (hg w hS) hu hd hi]⟩
theorem yields_load_row {ops : Array Oper} {S : World → Prop} {o : Oper} {a : Act} (hw : Region.wanted o (yielded ops a.tmps) = true) (ty : TypeId) (x : Operand) (ho : o.op = .load ty x)
    (g : Nat) (hx : a.eval x = .pointer (some ⟨g, 0, none⟩)) (t : TypeId) (cs : Array Value) (fr : Nat × Nat) (d : TypeDesc) (hg : ∀ w, S w → w.heap[g]? = some (.cells cs t fr))
    (hu : P.underlying ty = some d) (hd : (match d with | .struct _ | .array _ _ => true | _ => false) = true) (hi : (P.info? ty).map (·.size) = some cs.size) : YieldsIf P ops S o (.agg cs) a :=
  Or.inl ⟨hw, fun w hS => by
    unfold execOp
    simp only [ho, hx, Instr.loadAt, Instr.sureAddr, Sem.run_bind, Sem.run_pure, Result.andThen_ok, run_loadVar_row w g t ty cs fr d (hg w hS) hu hd hi]⟩
theorem results_cs {fn : Func} {p : Tmp} {ty : TypeId} (h : fn.results = #[.cell p ty]) (tmps : Array Value) (w : World) (g : Nat) (t : TypeId) (cs : Array Value) (fr : Nat × Nat) (d : TypeDesc)
    (hp : tmps.getD p undef = .pointer (some ⟨g, 0, none⟩)) (hg : w.heap[g]? = some (.cells cs t fr))
    (hu : P.underlying ty = some d) (hd : (match d with | .struct _ | .array _ _ => true | _ => false) = true) (hi : (P.info? ty).map (·.size) = some cs.size) :
    (results fn tmps).run P w = .ok (.agg cs) w := by
  have hp' : tmps[p]?.getD undef = .pointer (some ⟨g, 0, none⟩) := by simpa using hp
  simp [results, h, hp', asAddr, run_loadVar_row w g t ty cs fr d hg hu hd hi]
end
theorem run_loadVar_one {P : Program} {w : World} {a : Addr} {t : TypeId} {v : Value} {d : TypeDesc} (hu : P.underlying t = some d) (hd : (match d with | .struct _ | .array _ _ => true | _ => false) = false) (hc : w.cell? a = some v) : (loadVar t a).run P w = .ok v w := by
  have h1 : (isAgg t).run P w = .ok false w := by
    unfold isAgg
    rw [Sem.run_bind, run_underlying hu w]
    cases d <;> simp_all
  unfold loadVar
  simp [h1, hc]
theorem results_c1 {P : Program} {fn : Func} {p : Tmp} {t1 : TypeId} (h : fn.results = #[.cell p t1]) (tmps : Array Value) (w : World) (g1 : Nat) (v1 : Value) (d1 : TypeDesc)
    (h1 : tmps.getD p undef = .pointer (some ⟨g1, 0, none⟩)) (c1 : w.cell? ⟨g1, 0, none⟩ = some v1) (hu1 : P.underlying t1 = some d1) (hd1 : (match d1 with | .struct _ | .array _ _ => true | _ => false) = false) :
    (results fn tmps).run P w = .ok v1 w := by
  have h1' : tmps[p]?.getD undef = .pointer (some ⟨g1, 0, none⟩) := by simpa using h1
  simp [results, h, h1', asAddr, run_loadVar_one hu1 hd1 c1]
end Go.Proofs.YtdocdgcdldpagaaGreat
namespace Go.Proofs.YtdocdgcdldpagaaGreat
open Go.RowKit Go.Shelf
set_option maxHeartbeats 4000000
set_option linter.unusedSimpArgs false
set_option linter.unusedVariables false
def SeqP {α : Type} (F : Fence) (n : Nat) (P : Program) (g : Nat) (lb : Array Value) (encs : α → Array Value) (Pr : List α → α → World → Prop) (Kp : World → World → Prop) (S Sp : List α → Prop) (N : Nat) (w : World) : Prop :=
  ∀ (l : Nat) (J Jx : List α → World → Prop) (W : World), Below w.heap.size w W → OwnFrom W.heap.size J → OwnFrom W.heap.size Jx →
    (∀ pre x W1, J pre W1 → Pr pre x W1 → pre.length < N → YieldAt F (n - 1) P l (encs x) W1 fun e W' => (e = .returned (.bool true) ∧ J (pre ++ [x]) W' ∧ Kp W1 W' ∧ KeepsFrom W.heap.size W1 W') ∨ (e = .returned (.bool false) ∧ Jx (pre ++ [x]) W' ∧ KeepsFrom W.heap.size W1 W')) →
    J [] W →
    CallsIn F n P g (#[.func (.yield l) #[] #[]] ++ lb) W fun e W' => (∃ v, e = .returned v) ∧ ((∃ xs, S xs ∧ J xs W') ∨ (∃ pre, Sp pre ∧ Jx pre W'))
theorem KeepsFrom.up {B B' : Nat} {W W' : World} (h : KeepsFrom B W W') (hB : B ≤ B') : KeepsFrom B' W W' := ⟨h.size, fun k o hk => h.same k o (Nat.le_trans hB hk)⟩
theorem keepsFrom_put {B l : Nat} {W : World} {o' : Obj} (hl : l < B) : KeepsFrom B W (W.putObj l o') := KeepsFrom.of_grownBy (grownBy_putObj' W l o') (fun j e => by cases e; exact hl)
theorem keepsFrom_below {B : Nat} {W W' : World} (hb : Below W.heap.size W W') : KeepsFrom B W W' := ⟨hb.size, fun k o _ hk _ => (hb.block k (Array.getElem?_eq_some_iff.1 hk).1).trans hk⟩
section
variable {F : Fence} {n : Nat} {P : Program} {α : Type}
def Books (w : World) (rec : LoopState → Option Code → Loop) (st : LoopState) (pe : Option Code) (W : World) : Prop :=
  W.heap[w.heap.size + 1]? = some (.loop (rec st pe)) ∧ W.heap[w.heap.size]? = some (.deferred (some []))
theorem Books.turn {w W : World} {rec : LoopState → Option Code → Loop} {st st' : LoopState} {pe pe' : Option Code} (h : Books w rec st pe W) : Books w rec st' pe' (W.putObj (w.heap.size + 1) (.loop (rec st' pe'))) :=
  ⟨World.putObj_heap_same (Array.getElem?_eq_some_iff.1 h.1).1, (World.putObj_heap_other Cb).trans h.2⟩
theorem Books.kept {w W W' : World} {rec : LoopState → Option Code → Loop} {st : LoopState} {pe : Option Code} (h : Books w rec st pe W) (k : KeepsFrom w.heap.size W W') : Books w rec st pe W' :=
  ⟨k.same _ _ Cb h.1 rfl, k.same _ _ (Nat.le_refl _) h.2 rfl⟩
theorem Books.own {β : Type} {w W1 : World} {rec : LoopState → Option Code → Loop} {st : LoopState} {pe : Option Code} (hz : w.heap.size + 2 ≤ W1.heap.size) : OwnFrom W1.heap.size (fun (_ : β) W => Books w rec st pe W) :=
  fun _ A B row hs hg hr => ⟨(hg.block _ (Array.getElem?_eq_some_iff.1 hs.1).1 (fun e => by have := (hr _ e.symm).1; omega)).trans hs.1, (hg.block _ (Array.getElem?_eq_some_iff.1 hs.2).1 (fun e => by have := (hr _ e.symm).1; omega)).trans hs.2⟩
theorem ownFrom_up {β : Type} {B B' : Nat} {I : β → World → Prop} (h : OwnFrom B I) (hB : B ≤ B') : OwnFrom B' I := fun s A C row hs hg hr => h s A C row hs hg (fun r e => ⟨Nat.le_trans hB (hr r e).1, (hr r e).2⟩)
def LeftSo (B : Nat) (Kp : World → World → Prop) (I : List α → World → Prop) (Ix : Code → List α → World → Prop) (xs : List α) (W : World) : Exit → Act → World → Prop
  | .normal, _, W' => KeepsFrom B W W' ∧ Kp W W' ∧ I xs W'
  | .ret, _, W' => KeepsFrom B W W' ∧ Ix .ret xs W'
  | .exit id, _, W' => KeepsFrom B W W' ∧ Ix (.exit id) xs W'
  | .goto t, _, W' => KeepsFrom B W W' ∧ Ix (.goto t) xs W'
  | .panic _, _, _ => False
  | .outgrown, _, _ => False
theorem range_own {g : Operand} {ps : Array Tmp} {assign body : Code} {Q : Exit → Act → World → Prop} {a : Act} {w : World}
    (hro : F.round = none) (h1 : 1 ≤ n) {gf : Nat} {lb : Array Value} (hg : a.eval g = .func (.func gf) #[] lb) (hFg : F.fn gf) (eg : ∀ args w, (callFunc gf args).run P w = .ok (.enter gf args) w)
    {encs : α → Array Value} {Pr : List α → α → World → Prop} {Kp : World → World → Prop} {S Sp : List α → Prop} {N : Nat} (hseq : SeqP F (n - 1) P gf lb encs Pr Kp S Sp N w)
    (hKt : ∀ {A B C : World}, Kp A B → Kp B C → Kp A C) (hKb : ∀ (W : World) (l : Nat) (o o' : Obj), w.heap.size ≤ l → W.heap[l]? = some o → o.isCells = false → Kp W (W.putObj l o')) (hps : ∀ x, (encs x).size = ps.size)
    (I : List α → World → Prop) (Ix : Code → List α → World → Prop) (Ax : α → Act → World → Prop) (hI : OwnFrom w.heap.size I) (hIx : ∀ c, OwnFrom w.heap.size (Ix c)) (hPr : ∀ pre, OwnFrom w.heap.size (Pr pre)) (hAx : ∀ a', OwnFrom w.heap.size (fun x W => Ax x a' W)) (h0 : I [] w)
    (hassign : ∀ (l : Nat) (pre : List α) (x : α) (W : World) (K : Act → World → Prop), I pre W → Pr pre x W → (∀ a' W', KeepsFrom w.heap.size W W' → Kp W W' → I pre W' → Pr pre x W' → Ax x a' W' → K a' W') →
      assign.wpIn (F.inRound l) (n - 1 - 1) P (Exit.then K (fun _ _ _ => False)) { tmps := (ps.zip (encs x)).foldl (fun t (p, v) => t.setIfInBounds p v) a.tmps, defers := [] } W)
    (hbody : ∀ (l : Nat) (pre : List α) (x : α) (a' : Act) (W : World), I pre W → Pr pre x W → Ax x a' W → pre.length < N → body.wpIn (F.inRound l) (n - 1 - 1) P (LeftSo w.heap.size Kp I Ix (pre ++ [x]) W) a' W)
    (hdone : ∀ (D : Nat) (xs : List α) (W : World), w.heap.size ≤ D → S xs → I xs W → W.heap[D]? = some (.deferred (some [])) → Q .normal { a with defers := { target := .collected D, args := #[] } :: a.defers } W)
    (hstop : ∀ (D : Nat) (c : Code) (pre : List α) (W : World), w.heap.size ≤ D → Sp pre → Ix c pre W → W.heap[D]? = some (.deferred (some [])) → c.wpIn F n P Q { a with defers := { target := .collected D, args := #[] } :: a.defers } W) :
    (Code.rangeFunc g ps assign body).wpIn F n P Q a w := by
  refine wpIn_rangeFunc fun fn hfn => ?_
  rw [hro]
  obtain ⟨rec, hrec⟩ : ∃ rec : LoopState → Option Code → Loop, rec = fun st pe => { state := st, pending := pe, fn, tmps := a.tmps, params := ps, assign, body, defers := w.heap.size } := ⟨_, rfl⟩
  obtain ⟨W1, hW1⟩ : ∃ W1, W1 = (w.alloc (.deferred (some []))).alloc (.loop (rec .ready none)) := ⟨_, rfl⟩
  have hz1 : W1.heap.size = w.heap.size + 2 := by rw [hW1]; simp
  have hbk : Books w rec .ready none W1 := by
    rw [hW1]
    exact ⟨heap_new' _ _ _ C9, blk_alloc (heap_new _ _) _⟩
  have hI1 : I [] W1 := by rw [hW1]; exact hI.alloc _ (hI.alloc _ h0)
  have hb1 : Below w.heap.size w W1 := by rw [hW1]; exact ((Below.refl _ w).alloc (Nat.le_refl _) _).alloc C9 _
  refine ⟨w.heap.size + 1, [{ target := .collected w.heap.size, args := #[] }], W1, { target := .fn (.func gf) lb, args := #[.func (.yield (w.heap.size + 1)) #[] #[]] }, W1, gf, #[.func (.yield (w.heap.size + 1)) #[] #[]] ++ lb, W1, ?_, ?_, ?_, ?_, fun _ => h1, ?_⟩
  · rw [hW1, hrec]; exact run_enterLoop_outer _ _ _ _ _
  · simp only [resolve, hg]; simp [go_sem]
  · intro f' hf'; simp [Target.leads] at hf'; subst hf'; exact hFg
  · simp [invoke, go_sem, eg]
  refine (hseq (w.heap.size + 1) (fun pre W => I pre W ∧ Books w rec .ready none W) (fun pre W => ∃ c, Ix c pre W ∧ Books w rec .done (some c) W) W1 hb1 ((ownFrom_up hI Cb).and (Books.own Cb)) ?_ ?_ ⟨hI1, hbk⟩).mono ?_
  · rintro s A B row ⟨c, hc, hb⟩ hgr hr
    exact ⟨c, ownFrom_up (hIx c) Cb s A B row hc hgr hr, Books.own (β := Unit) Cb () A B row hb hgr hr⟩
  · rintro pre x W ⟨hi, hb⟩ hp hlen
    have hy := run_yield (P := P) (args := encs x) hb.1 (by rw [hrec]; exact hps x)
    rw [hrec] at hy
    refine ⟨fn, _, assign, body, hy, roundIn_of_wpIn hfn (hassign _ pre x W _ hi hp ?_)⟩
    clear hy
    intro a' W2 hkf hkp hi2 hp2 hax
    have hb2 := hb.kept hkf
    refine ⟨_, run_beginRound hb2.1 (by rw [hrec]), ?_⟩
    have hb3 : Books w rec .busy none (W2.putObj (w.heap.size + 1) (.loop { rec .ready none with state := .busy })) := by
      have := hb2.turn (st' := .busy) (pe' := none)
      rw [hrec] at this ⊢
      exact this
    have hkr3 : KeepsFrom W1.heap.size W (W2.putObj (w.heap.size + 1) (.loop { rec .ready none with state := .busy })) := (KeepsFrom.up hkf Cb).trans (keepsFrom_put Cb)
    have hk3 : Kp W2 (W2.putObj (w.heap.size + 1) (.loop { rec .ready none with state := .busy })) := hKb _ _ _ _ Cb hb2.1 rfl
    refine wpIn_mono (hbody _ pre x a' _ (hI.putObj _ hi2 Cb hb2.1 rfl) ((hPr pre).putObj (s := x) _ hp2 Cb hb2.1 rfl) ((hAx a').putObj (s := x) _ hax Cb hb2.1 rfl) hlen) ?_
    generalize W2.putObj (w.heap.size + 1) (.loop { rec .ready none with state := .busy }) = W3 at hb3 hk3 hkr3 ⊢
    have fin : ∀ (jump : Option Code) (W4 : World), KeepsFrom w.heap.size W3 W4 → (Instr.endRound (w.heap.size + 1) jump).run P W4 = .ok (.bool jump.isNone) (W4.putObj (w.heap.size + 1) (.loop (rec (if jump.isNone then .ready else .done) jump))) ∧ Books w rec .busy none W4 := fun jump W4 hk => by
      have hb4 := hb3.kept hk
      have := run_endRound (P := P) jump hb4.1
      rw [hrec] at this ⊢
      rw [hrec] at hb4
      exact ⟨this, hb4⟩
    rintro e a4 W4 hp4
    cases e with
    | normal =>
      obtain ⟨hk4, hkp4, hi4⟩ := hp4
      obtain ⟨hr, hb4⟩ := fin none W4 hk4
      exact ⟨_, _, hr, .inl ⟨rfl, ⟨hI.putObj _ hi4 Cb hb4.1 rfl, hb4.turn⟩, hKt hkp (hKt hk3 (hKt hkp4 (hKb _ _ _ _ Cb hb4.1 rfl))), hkr3.trans ((KeepsFrom.up hk4 Cb).trans (keepsFrom_put Cb))⟩⟩
    | ret =>
      obtain ⟨hk4, hi4⟩ := hp4
      obtain ⟨hr, hb4⟩ := fin (some .ret) W4 hk4
      exact ⟨_, _, hr, .inr ⟨rfl, ⟨.ret, (hIx _).putObj _ hi4 Cb hb4.1 rfl, hb4.turn⟩, hkr3.trans ((KeepsFrom.up hk4 Cb).trans (keepsFrom_put Cb))⟩⟩
    | exit id =>
      obtain ⟨hk4, hi4⟩ := hp4
      obtain ⟨hr, hb4⟩ := fin (some (.exit id)) W4 hk4
      exact ⟨_, _, hr, .inr ⟨rfl, ⟨.exit id, (hIx _).putObj _ hi4 Cb hb4.1 rfl, hb4.turn⟩, hkr3.trans ((KeepsFrom.up hk4 Cb).trans (keepsFrom_put Cb))⟩⟩
    | goto t =>
      obtain ⟨hk4, hi4⟩ := hp4
      obtain ⟨hr, hb4⟩ := fin (some (.goto t)) W4 hk4
      exact ⟨_, _, hr, .inr ⟨rfl, ⟨.goto t, (hIx _).putObj _ hi4 Cb hb4.1 rfl, hb4.turn⟩, hkr3.trans ((KeepsFrom.up hk4 Cb).trans (keepsFrom_put Cb))⟩⟩
    | panic ch => exact hp4.elim
    | outgrown => exact hp4.elim
  · rintro e W2 ⟨⟨v, rfl⟩, (⟨xs, hS, hi, hb⟩ | ⟨pre, hSp, c, hi, hb⟩)⟩
    · have := run_endLoop (P := P) hb.1 (by rw [hrec]; simp)
      rw [hrec] at this
      exact ⟨none, _, this, hdone _ xs _ (Nat.le_refl _) hS (hI.putObj _ hi Cb hb.1 rfl) ((World.putObj_heap_other Cb).trans hb.2)⟩
    · have := run_endLoop (P := P) hb.1 (by rw [hrec]; simp)
      rw [hrec] at this
      exact ⟨some c, _, this, hstop _ c pre _ (Nat.le_refl _) hSp ((hIx c).putObj _ hi Cb hb.1 rfl) ((World.putObj_heap_other Cb).trans hb.2)⟩
end
section
variable {F : Fence} {n : Nat} {P : Program} {ops : Array Oper} {rest : List Oper} {o : Oper} {a : Act} {w : World} {Q : Exit → Act → World → Prop}
end
theorem own_grows {β : Type} {B : Nat} {J : β → World → Prop} (hJ : OwnFrom B J) {s : β} {W W' : World} (h : J s W) (hb : Below W.heap.size W W') : J s W' :=
  hJ s W W' none h ⟨hb.os, hb.tape, hb.output, hb.size, fun i hi _ => hb.block i hi⟩ (fun r e => by cases e)
end Go.Proofs.YtdocdgcdldpagaaGreat

/- The theorem of the stage holds for logs: 'skylanternlaw39.FlightlogHolds' returns true at every input. No conditions. -/
import Derived.Test.YtgmejplcdecmkaaLgMj
import Derived.BigQuiet
namespace Go.Proofs.Ytgmejplcdecmkaa.lawFlightlogHolds
open Go.ChangeShapes Go.WideShapes Go.ChangeAt Go.RowKit Go.Joins Go.Shelf
set_option linter.unusedVariables false
set_option linter.unusedSimpArgs false
attribute [local go_sem ↓] Go.wp_at_zero Go.wp_at_succ
attribute [local go_sem] Oper.semAt_some
set_option maxHeartbeats 8000000
set_option maxRecDepth 100000
theorem wp_nopanic {P : Program} {c : Code} {K : Act → World → Prop} {Q' : Exit → Act → World → Prop} {a : Act} {w : World} (h : Code.wp P c (Exit.then K (fun _ _ _ => False)) a w) : Code.wp P c (Exit.then K Q') a w :=
  Go.wp_mono h (fun e a w h => by cases e <;> first | exact h | exact h.elim)
theorem walk_no (a0 : Option Addr) (len0 cap0 : Nat) (l0 : List AV) (a1 : Int) (a2 : Int) (w : World) (w0 : Ra w w.heap.size a0 len0 l0) (r0 : Room a0 len0 cap0) (f0 : ∀ y ∈ l0, GaOk y.x) (w1 : (Lit.int .u8 a1).wf = true) (w2 : (Lit.int .u32 a2).wf = true) (hno : fewB l0 30 = false) :
    Calls Try.prog 10 #[.slice a0 len0 cap0, .int .u8 a1, .int .u32 a2] w fun e w' => e = .returned (.bool true) ∧ Below w.heap.size w w' := by
  have FW := Lib.hid (fun (W : World) (hW : Below w.heap.size w W) => hno ▸ few_all a0 len0 cap0 30 W.heap.size l0 W ((w0.below hW (Nat.le_refl _)).more hW.size) (room_len r0) (by omega))
  clear w0 r0 f0 hno w1 w2
  have B0 : Below w.heap.size w (w.alloc (.cells #[.bool false] 4 (0, 0))) := (Below.refl _ w).alloc (Nat.le_refl _) _
  have r0 := heap_new w (.cells #[.bool false] 4 (0, 0))
  go_enter Try.func10, Try.ntmps10
  go_wp2_with fail
  refine (FW.out _ B0).mono ?_
  rintro _ _ ⟨rfl, rfl⟩
  go_wp2_with fail
  refine (known_true _).mono ?_
  rintro _ w1 ⟨rfl, hb1⟩
  have r1 := blk_below r0 hb1 (lt_of_block r0)
  have B1 := B0.trans (hb1.mono B0.size)
  have c1 := blk_cell (l := [_]) r1 0 rfl
  have f1 := blk_free r1 0
  clear r0
  go_wp2_with fail
  exact bodyPost_ret (results_c1 rfl _ _ w.heap.size (.bool true) _ rfl (blk_cell (l := [_]) (blk_set r1 0 _) 0 rfl) Try.underlying4 rfl) rfl ⟨rfl, B1.setCell (p := ⟨w.heap.size, 0, none⟩) (Nat.le_refl _) _⟩
theorem walk_yes (a0 : Option Addr) (len0 cap0 : Nat) (l0 : List AV) (a1 : Int) (a2 : Int) (w : World) (w0 : Ra w w.heap.size a0 len0 l0) (r0 : Room a0 len0 cap0) (f0 : ∀ y ∈ l0, GaOk y.x) (w1 : (Lit.int .u8 a1).wf = true) (w2 : (Lit.int .u32 a2).wf = true) (hyes : fewB l0 30 = true) :
    Calls Try.prog 10 #[.slice a0 len0 cap0, .int .u8 a1, .int .u32 a2] w fun e w' => e = .returned (.bool true) ∧ Below w.heap.size w w' := by
  have FW := Lib.hid (fun (W : World) (hW : Below w.heap.size w W) => hyes ▸ few_all a0 len0 cap0 30 W.heap.size l0 W ((w0.below hW (Nat.le_refl _)).more hW.size) (room_len r0) (by omega))
  have hfe := few_yes hyes
  have HLL := Lib.hid w0.1
  have hn : len0 ≤ 30 := by rw [← HLL.out]; exact hfe.1
  have HD := Lib.hid (fun (i : Nat) (hi : i < len0) => hfe.2 (l0.getD i av0) (by rw [List.getD, List.getElem?_eq_getElem (by rw [HLL.out]; exact hi)]; exact List.getElem_mem _))
  have H := Lib.hid w0
  have NW := Lib.hid (fun W => new_any W)
  obtain ⟨j0, hj0, hya, hyb, hyc⟩ := info_parts info_rec
  have G1 := Lib.hid (u8_wf w1)
  clear w0 r0 f0 hyes hfe w1 w2
  refine (callsIn_wide (n := 5)).1 (callsIn_of_wp_marks Try.func10 rfl trivial ?_ rfl)
  simp only [Try.ntmps10, List.size_toArray, List.length_cons, List.length_nil, Nat.reduceAdd, Nat.reduceSub, Array.replicate_succ, Array.replicate_zero, List.push_toArray, List.append_toArray, List.nil_append, List.cons_append]
  refine wpIn_wide.2 ?_
  go_upto_region 1 with fail
  generalize hW0 : World.alloc _ _ = W0
  obtain ⟨r, hr⟩ : ∃ r, r = w.heap.size := ⟨_, rfl⟩
  have r0 : W0.heap[r]? = some (.cells #[.bool false] 4 (0, 0)) := by rw [← hW0, hr]; exact heap_new _ _
  have B0 : Below w.heap.size w W0 := by rw [← hW0]; exact (Below.refl _ w).alloc (Nat.le_refl _) _
  rw [← hr]
  clear hW0
  subst hr
  have hr0l := lt_of_block r0
  go_wp2_with fail
  refine (FW.out W0 B0).mono ?_
  rintro _ _ ⟨rfl, rfl⟩
  clear FW
  go_wp2_with fail
  refine (NW.out W0).mono ?_
  rintro _ W1 ⟨p, rfl, hlg, hb1⟩
  have r0 := blk_below r0 hb1 (lt_of_block r0)
  have B1 := B0.trans (hb1.mono B0.size)
  obtain ⟨B, hB⟩ : ∃ B, B = W0.heap.size := ⟨_, rfl⟩
  rw [← hB] at hlg hb1
  have hrB : w.heap.size < B := by rw [hB]; exact hr0l
  clear B0 NW
  go_upto_region 7 with fail
  generalize hW2 : World.alloc _ _ = W2
  obtain ⟨Q, hQ⟩ : ∃ Q, Q = W1.heap.size := ⟨_, rfl⟩
  have q0 : W2.heap[Q]? = some (.cells #[.slice none 0 0] 40 (0, 0)) := by rw [← hW2, hQ]; exact heap_new _ _
  have b2 : Below W1.heap.size W1 W2 := by rw [← hW2]; exact (Below.refl _ W1).alloc (Nat.le_refl _) _
  have r0 := blk_below r0 b2 (lt_of_block r0)
  have B2 := B1.trans (b2.mono B1.size)
  have LG := Lib.hid (hlg.below b2)
  have hBQ : B ≤ Q := by rw [hQ, hB]; exact hb1.size
  have hbs : B ≤ W2.heap.size := Nat.le_trans hBQ (Nat.le_of_lt (lt_of_block q0))
  rw [← hQ]
  clear hW2 hQ b2 B1 hlg hb1 hB hr0l
  go_wp2_with fail
  go_loopw [9] (fun s9 wr => ∃ (i : Nat) (A : Option Addr) (c : Nat) (vs : List Lg.RV) (X : Nat → Prop) (S : Option Addr) (m cs : Nat) (ss : List Lg.RV), s9 = .int .i64 i ∧ i ≤ len0 ∧ m ≤ i ∧ wr.heap[Q]? = some (.cells #[.slice S m cs] 40 (0, 0)) ∧ Hid (vs.length = m) ∧ Hid (Lg.IsLg wr B p A c vs X) ∧ Hid (Lg.Good (Lg.xs vs)) ∧ Hid (Lg.Sn wr B S m cs ss) ∧ Hid (Lg.xs ss = Lg.xs vs) ∧ Hid (∀ q, blkOf S = some q → ¬ Lg.Two p A q) ∧ wr.heap[w.heap.size]? = some (.cells #[.bool false] 4 (0, 0)) ∧ B ≤ wr.heap.size ∧ Hid (Below w.heap.size w wr)) (fun s9 _ => len0 - (intOf s9).toNat)
  case atStart => exact ⟨0, none, 0, [], _, none, 0, 0, [], by go_num, by omega, by omega, q0, Lib.hid rfl, LG, Lib.hid Lg.Good.nil, Lib.hid ⟨Row.nil _ _ _ _, fun y hy => (by cases hy)⟩, Lib.hid rfl, Lib.hid (fun q h => by cases h), r0, hbs, Lib.hid B2⟩
  case round =>
    clear q0 r0 hbs B2 LG
    obtain ⟨i, A, c, vs, X, S, m, cs, ss, rfl, hi, hmi, q0, HM, LG, GD, SN, XS, DS, r0, hbs, BB⟩ := hrel
    by_cases hlt : i < len0
    · have ik : (i : Int) < (len0 : Int) := by omega
      obtain ⟨b, o, rfl, hbl, hcl⟩ := (H.out.below BB.out (Nat.le_refl _)).2.1 (by omega)
      have hcl := hcl i hlt
      have hok := (H.out.below BB.out (Nat.le_refl _)).ok hlt
      have hdl := HD.out i hlt
      generalize l0.getD i av0 = v at hcl hok hdl
      have AC := Lib.hid (call_any LG.out hbs (by rw [HM.out]; omega) v (hok.more (by omega)) (by omega))
      have HC := Lib.hid hcl
      clear hcl hok hdl
      obtain ⟨C, hC⟩ : ∃ C : List Value, C = v.cells := ⟨_, rfl⟩
      have hCl : C.length = 12 := by rw [hC]; rfl
      have hval : v.val = .agg C.toArray := by rw [hC]; rfl
      rw [← hC] at HC
      rw [hval] at AC
      clear hC hval
      go_wp2_with (refine wpList_load_at rfl 83 (.tmp 40) rfl b (o + i * 12) rfl C _ HC.out Try.underlying83 rfl (by rw [hCl]; kernel_rfl) ?_)
      refine AC.out.mono ?_
      rintro _ w1 ⟨A', c', vs', rfl, hlg, hxs, hk, hA, hrr, hle⟩
      have q1 := blk_keep q0 hk (fun hi => LG.out.away ⟨_, q0⟩ (by decide) (by decide) hi)
      have r1 := blk_keep r0 hk (fun hi => LG.out.away ⟨_, r0⟩ (by decide) (by decide) hi)
      have SN1 := Lib.hid (SN.out.keep LG.out hk DS.out)
      have B1 := Lib.hid (BB.out.trans (hk.below (fun j _ hj => by have := (LG.out.two_lt hj).1; omega) BB.out.size))
      have hbs1 := Nat.le_trans hbs hk.size
      have DS1 := Lib.hid (show ∀ q, blkOf S = some q → ¬ Lg.Two p A' q from fun q hq hh => by
        have hl := (SN.out.row.lt hq).2
        rcases hh with rfl | hh
        · exact DS.out _ hq (.inl rfl)
        · rcases hA with rfl | ⟨g, e, hg⟩
          · exact DS.out q hq (.inr hh)
          · rw [e] at hh; injection hh with hh; omega)
      obtain ⟨n1, hn1⟩ : ∃ n1, n1 = vs'.length := ⟨_, rfl⟩
      have LN := Lib.hid (show ∀ W : World, Below w1.heap.size w1 W → Calls Try.prog 23 #[.pointer (some ⟨p, 0, none⟩)] W (fun e w' => e = .returned (.int .i64 n1) ∧ W = w') from fun W hW => by rw [hn1]; exact llen_any (hlg.below hW))
      have LG1 := Lib.hid hlg
      have GD1 := Lib.hid (show Lg.Good (Lg.xs vs') by rw [hxs]; exact Lg.good_add GD.out _)
      have XT := Lib.hid (show (Lg.xs vs').take m = Lg.xs ss by rw [hxs, XS.out]; have := Lg.add_take (Lg.xs vs) (Lg.recG v.x); rw [Lg.xs_len, HM.out] at this; exact this)
      have hnn : (Lg.addE (Lg.xs vs) (Lg.recG v.x) = 0 ∧ n1 = m + 1) ∨ (Lg.addE (Lg.xs vs) (Lg.recG v.x) ≠ 0 ∧ n1 = m) := by
        have hl : n1 = (Lg.add (Lg.xs vs) (Lg.recG v.x)).length := by rw [hn1, ← hxs, Lg.xs_len]
        by_cases he : Lg.addE (Lg.xs vs) (Lg.recG v.x) = 0
        · exact .inl ⟨he, by rw [hl, Lg.add_yes he, Lg.xs_len, HM.out]⟩
        · exact .inr ⟨he, by rw [hl, Lg.add_nope he, Lg.xs_len, HM.out]⟩
      have HN1 := Lib.hid hn1
      generalize Lg.addE (Lg.xs vs) (Lg.recG v.x) = e0 at *
      clear hlg hxs hk hA hrr hle AC HC q0 r0 hbs LG GD SN DS hn1 HM
      have dq := blk_cell (l := [_]) q1 0 rfl
      go_upto_region 11 with fail
      go_cut [70] from 43 to 70 (fun v70 wx => v70 = .bool false ∧ ∃ nq, wx = w1.drewN nq)
      case first =>
        rcases hnn with ⟨rfl, hn1⟩ | ⟨he, hn1⟩
        · have z1 : ((n1 : Int) == (m : Int)) = false := by rw [beq_eq_false_iff_ne]; omega
          have z2 : IntKind.i64.wrap ((m : Int) + 1) = (n1 : Int) := by rw [IntWalk.i64_in _ (by omega)]; omega
          have z3 : ((n1 : Int) != (m : Int)) = true := by rw [bne_iff_ne]; omega
          clear hn1
          go_quiet ((go_at_call 23; exact Calls.quiet_of_same ((LN.out _ (below_drewN (Below.refl _ w1) _)).mono fun e w' h => ⟨h.1, h.2.symm⟩)))
          go_wp2_with fail
          go_meet
          exact ⟨rfl, _, rfl⟩
        · have z1 : ((n1 : Int) == (m : Int)) = true := by rw [hn1]; simp
          have z3 : ((n1 : Int) != (m : Int)) = false := by rw [hn1]; simp
          have z4 : (e0 == 0) = false := by simp [he]
          clear hn1 he
          go_quiet ((go_at_call 23; exact Calls.quiet_of_same ((LN.out _ (below_drewN (Below.refl _ w1) _)).mono fun e w' h => ⟨h.1, h.2.symm⟩)))
          go_wp2_with fail
          go_meet
          exact ⟨rfl, _, rfl⟩
      case rest =>
        obtain ⟨rfl, nq, rfl⟩ := hcut
        have hnn' : m ≤ n1 ∧ n1 ≤ m + 1 := by omega
        have bq := below_drewN (Below.refl w1.heap.size w1) nq
        have q2 := blk_below q1 bq (lt_of_block q1)
        have r2 := blk_below r1 bq (lt_of_block r1)
        have SN2 := Lib.hid (SN1.out.below bq)
        have LG2 := Lib.hid (LG1.out.below bq)
        have B2 := Lib.hid (B1.out.trans (bq.mono B1.out.size))
        have hbs2 := Nat.le_trans hbs1 bq.size
        have hn31 : m ≤ 30 := by omega
        clear hnn bq q1 r1 SN1 LG1 B1 hbs1 LN dq
        generalize w1.drewN nq = w2 at *
        go_wp2_with fail
        go_loopw [11] (fun s11 wr => ∃ (k : Nat) (S' : Option Addr) (m' cs' : Nat) (ss' : List Lg.RV), s11 = .int .i64 k ∧ k ≤ n1 ∧ m ≤ m' ∧ m' ≤ m + 1 ∧ (k ≤ m → m' = m) ∧ (m < k → m' = k) ∧ wr.heap[Q]? = some (.cells #[.slice S' m' cs'] 40 (0, 0)) ∧ Hid (Lg.IsLg wr B p A' c' vs' (fun _ => True)) ∧ Hid (Lg.Sn wr B S' m' cs' ss') ∧ Hid (Lg.xs ss' = (Lg.xs vs').take m') ∧ Hid (∀ q, blkOf S' = some q → ¬ Lg.Two p A' q) ∧ wr.heap[w.heap.size]? = some (.cells #[.bool false] 4 (0, 0)) ∧ B ≤ wr.heap.size ∧ Hid (Below w.heap.size w wr)) (fun s11 _ => n1 - (intOf s11).toNat)
        case atStart => exact ⟨0, S, m, cs, ss, by go_num, by omega, by omega, by omega, fun _ => rfl, fun h => by omega, q2, Lib.hid (LG2.out.mono (fun i _ h => trivial)), SN2, Lib.hid XT.out.symm, DS1, r2, hbs2, B2⟩
        case round =>
          clear q2 r2 SN2 LG2 B2 hbs2
          obtain ⟨k, S', m', cs', ss', rfl, hk, hm1, hm2, hm3, hm4, q0, LG, SN, XS2, DS, r0, hbs, BB⟩ := hrel
          have LN := Lib.hid (HN1.out ▸ llen_any LG.out)
          by_cases hlk : k < n1
          · have kk : (k : Int) < (n1 : Int) := by omega
            have hkv : k < vs'.length := by rw [← HN1.out]; exact hlk
            have AT := Lib.hid (lat_yes LG.out k hkv (Lg.good_vs GD1.out) (Lg.good_rd GD1.out _ (by rw [List.getD, List.getElem?_eq_getElem hkv]; exact List.getElem_mem _)))
            have HKV := Lib.hid hkv
            clear hkv
            go_wp2_with fail
            refine LN.out.mono ?_
            rintro _ _ ⟨rfl, rfl⟩
            go_wp2_with fail
            refine AT.out.mono ?_
            rintro _ w3 ⟨A1, c1, rfl, o1, hb3⟩
            obtain ⟨x, hx⟩ : ∃ x : Lg.RV, x = ⟨(vs'.getD k Lg.rv0).x, A1, c1⟩ := ⟨_, rfl⟩
            have DX := Lib.hid (show Lg.Dt w3 (fun _ => True) x from by rw [hx]; exact Lg.Dt.of_own (x := (vs'.getD k Lg.rv0).x) o1 (fun _ _ => trivial))
            have XX := Lib.hid (show x.x = (vs'.getD k Lg.rv0).x by rw [hx])
            rw [← hx]
            obtain ⟨C, hval, hC, hCs⟩ := rv_opaque x
            have hC1 : C.all (·.oneCell') = true := by rw [← hC]; exact rv_ones x
            have HVAL := Lib.hid hval
            have HCe := Lib.hid hC
            rw [hval]
            have j2 := heap_new w3 (.cells #[.int .i64 0, .int .i64 0, .int .i64 0, .int .i64 0, .int .i64 0, .int .i64 0, .int .i64 0, .int .i64 0, .int .i64 0, .int .i64 0, .int .i64 0, .slice none 0 0, .int .u32 0] 32 (0, 0))
            have q3 := blk_below q0 hb3 (lt_of_block q0)
            have r3 := blk_below r0 hb3 (lt_of_block r0)
            have SN3 := SN.out.below hb3
            have LG3 := LG.out.below hb3
            have B3 := BB.out.trans (hb3.mono BB.out.size)
            have hbs3 := Nat.le_trans hbs hb3.size
            clear hx hval hC o1 hb3 AT LN q0 r0 SN LG BB hbs
            go_upto_region 17 with (refine wpList_store_row rfl 32 (.tmp 12) (.tmp 81) rfl w3.heap.size C rfl rfl 32 _ j2 (by rw [hCs]; kernel_rfl) hCs.symm hC1 ?_)
            generalize hW : World.setRow _ _ _ = W4
            obtain ⟨g, hg⟩ : ∃ g, g = w3.heap.size := ⟨_, rfl⟩
            have gx : W4.heap[g]? = some (.cells C 32 (0, 0)) := by rw [← hW, hg]; exact setRow_heap _ _ _ _ _ _ j2
            have bW : Below w3.heap.size w3 W4 := by rw [← hW]; exact below_setRow ((Below.refl _ w3).alloc (Nat.le_refl _) _) (Nat.le_refl _) _
            have q4 := blk_below q3 bW (lt_of_block q3)
            have r4 := blk_below r3 bW (lt_of_block r3)
            have SN4 := Lib.hid (SN3.below bW)
            have LG4 := Lib.hid (LG3.below bW)
            have B4 := Lib.hid (B3.trans (bW.mono B3.size))
            have hbs4 := Nat.le_trans hbs3 bW.size
            have DX4 := Lib.hid (DX.out.below bW)
            rw [← hg]
            clear hW hg bW j2 q3 r3 SN3 LG3 B3 hbs3 DX
            go_cut [99] from 83 to 99 (fun v99 wx => v99 = .bool false ∧ Below W4.heap.size W4 wx)
            case first =>
              refine wp_nopanic ?_
              by_cases hkm : k < m'
              · obtain ⟨b2, o2, rfl, hb2l, hcy, hoy⟩ := SN4.out.rr.at_ hkm
                obtain ⟨y, hy⟩ : ∃ y, y = ss'.getD k Lg.rv0 := ⟨_, rfl⟩
                rw [← hy] at hcy hoy
                have hxy : x.x = y.x := by rw [XX.out, hy, ← Lg.xs_at HKV.out, ← Lg.xs_at (by rw [SN4.out.rr.len]; exact hkm), XS2.out, List.getD, List.getD, List.getElem?_take, if_pos hkm]
                have HXY := Lib.hid hxy
                have OKY := Lib.hid hoy
                have HY := Lib.hid hcy
                have SM := Lib.hid (show ∀ W : World, Below W4.heap.size W4 W → Calls Try.prog 36 #[.agg C, .agg y.cells.toArray] W fun e w' => e = .returned (.bool true) ∧ Below W.heap.size W w' from fun W hW => by
                  have := rsameR_any x y W (DX4.out.ok.up hW) (OKY.out.up hW)
                  rw [HVAL.out, HXY.out, Lg.sameR_refl] at this
                  exact this)
                have km : (k : Int) < (m' : Int) := by omega
                clear hy hcy hoy hxy
                refine wp_region_held_drew (S := fun w' => w'.heap[Q]? = some (.cells #[.slice (some ⟨b2, o2, none⟩) m' cs'] 40 (0, 0)) ∧ w'.heap[g]? = some (.cells C 32 (0, 0)) ∧ (∀ (j : Nat) (u : Value), y.cells[j]? = some u → w'.cell? ⟨b2, o2 + k * 13 + j, none⟩ = some u)) (by kernel_rfl) ?_ (fun h0 => ?_)
                · exact ⟨q4, gx, HY.out⟩
                refine wpAnyH_take (i := 0) (v := ?_) rfl (by kernel_rfl) (by kernel_rfl) (by kernel_rfl) (fun _ _ _ h => h) (Or.inl ⟨by rfl, ?_⟩) h0 ?_
                rotate_left
                focus (intro w' hSw; skip; go_simp; (try with_reducible rfl))
                (try simp only [List.getElem_toArray, List.getElem_cons_succ, List.getElem_cons_zero, Act.put, List.setIfInBounds_toArray, List.set_cons_zero, List.set_cons_succ])
                refine wpAnyH_take (i := 1) (v := ?_) rfl (by kernel_rfl) (by kernel_rfl) (by kernel_rfl) (fun _ _ _ h => h) (Or.inl ⟨by rfl, ?_⟩) h0 ?_
                rotate_left
                focus (intro w' hSw; skip; go_simp; (try with_reducible rfl))
                (try simp only [List.getElem_toArray, List.getElem_cons_succ, List.getElem_cons_zero, Act.put, List.setIfInBounds_toArray, List.set_cons_zero, List.set_cons_succ])
                refine wpAnyH_take (i := 2) (v := ?_) rfl (by kernel_rfl) (by kernel_rfl) (by kernel_rfl) (fun _ _ _ h => h) (Or.inl ⟨by rfl, ?_⟩) h0 ?_
                rotate_left
                focus (intro w' hSw; skip; go_simp; (try with_reducible rfl))
                (try simp only [List.getElem_toArray, List.getElem_cons_succ, List.getElem_cons_zero, Act.put, List.setIfInBounds_toArray, List.set_cons_zero, List.set_cons_succ])
                refine wpAnyH_take (i := 3) (v := ?_) rfl (by kernel_rfl) (by kernel_rfl) (by kernel_rfl) (fun _ _ _ h => h) (Or.inl ⟨by rfl, ?_⟩) h0 ?_
                rotate_left
                focus (intro w' hSw; skip; go_simp; (try with_reducible rfl))
                (try simp only [List.getElem_toArray, List.getElem_cons_succ, List.getElem_cons_zero, Act.put, List.setIfInBounds_toArray, List.set_cons_zero, List.set_cons_succ])
                refine wpAnyH_take (i := 4) (v := ?_) rfl (by kernel_rfl) (by kernel_rfl) (by kernel_rfl) (fun _ _ _ h => h) (Or.inl ⟨by rfl, ?_⟩) h0 ?_
                rotate_left
                focus (intro w' hSw; have dq' : w'.cell? ⟨Q, 0, none⟩ = some (.slice (some ⟨b2, o2, none⟩) m' cs') := blk_cell (l := [_]) hSw.1 0 rfl; go_simp; (try with_reducible rfl))
                (try simp only [List.getElem_toArray, List.getElem_cons_succ, List.getElem_cons_zero, Act.put, List.setIfInBounds_toArray, List.set_cons_zero, List.set_cons_succ])
                refine wpAnyH_take (i := 5) (v := ?_) rfl (by kernel_rfl) (by kernel_rfl) (by kernel_rfl) (fun _ _ _ h => h) (Or.inl ⟨by rfl, ?_⟩) h0 ?_
                rotate_left
                focus (intro w' hSw; skip; go_simp; (try with_reducible rfl))
                (try simp only [List.getElem_toArray, List.getElem_cons_succ, List.getElem_cons_zero, Act.put, List.setIfInBounds_toArray, List.set_cons_zero, List.set_cons_succ])
                refine wpAnyH_take (i := 6) (v := ?_) rfl (by kernel_rfl) (by kernel_rfl) (by kernel_rfl) (fun _ _ _ h => h) (Or.inl ⟨by rfl, ?_⟩) h0 ?_
                rotate_left
                focus (intro w' hSw; skip; go_simp; (try with_reducible rfl))
                (try simp only [List.getElem_toArray, List.getElem_cons_succ, List.getElem_cons_zero, Act.put, List.setIfInBounds_toArray, List.set_cons_zero, List.set_cons_succ])
                refine wpAnyH_take (i := 7) (v := ?_) rfl (by kernel_rfl) (by kernel_rfl) (by kernel_rfl) (fun _ _ _ h => h) (Or.inl ⟨by rfl, ?_⟩) h0 ?_
                rotate_left
                focus (intro w' hSw; skip; go_simp; (try with_reducible rfl))
                (try simp only [List.getElem_toArray, List.getElem_cons_succ, List.getElem_cons_zero, Act.put, List.setIfInBounds_toArray, List.set_cons_zero, List.set_cons_succ])
                refine wpAnyH_take (i := 8) (v := .agg C) rfl (by kernel_rfl) (by kernel_rfl) (by kernel_rfl) (fun _ _ _ h => h) (yields_load_row (by rfl) 32 _ rfl g rfl 32 _ (0, 0) _ (fun w' hS => hS.2.1) Try.underlying32 rfl (by rw [hCs]; kernel_rfl)) h0 ?_
                (try simp only [List.getElem_toArray, List.getElem_cons_succ, List.getElem_cons_zero, Act.put, List.setIfInBounds_toArray, List.set_cons_zero, List.set_cons_succ])
                refine wpAnyH_take (i := 9) (v := ?_) rfl (by kernel_rfl) (by kernel_rfl) (by kernel_rfl) (fun _ _ _ h => h) (Or.inl ⟨by rfl, ?_⟩) h0 ?_
                rotate_left
                focus (intro w' hSw; have dq' : w'.cell? ⟨Q, 0, none⟩ = some (.slice (some ⟨b2, o2, none⟩) m' cs') := blk_cell (l := [_]) hSw.1 0 rfl; go_simp; (try with_reducible rfl))
                (try simp only [List.getElem_toArray, List.getElem_cons_succ, List.getElem_cons_zero, Act.put, List.setIfInBounds_toArray, List.set_cons_zero, List.set_cons_succ])
                refine wpAnyH_take (i := 10) (v := ?_) rfl (by kernel_rfl) (by kernel_rfl) (by kernel_rfl) (fun _ _ _ h => h) (Or.inl ⟨by rfl, ?_⟩) h0 ?_
                rotate_left
                focus (intro w' hSw; skip; go_simp; (try with_reducible rfl))
                (try simp only [List.getElem_toArray, List.getElem_cons_succ, List.getElem_cons_zero, Act.put, List.setIfInBounds_toArray, List.set_cons_zero, List.set_cons_succ])
                refine wpAnyH_take (i := 11) (v := ?_) rfl (by kernel_rfl) (by kernel_rfl) (by kernel_rfl) (fun _ _ _ h => h) (Or.inl ⟨by rfl, ?_⟩) h0 ?_
                rotate_left
                focus (intro w' hSw; skip; go_simp; (try with_reducible rfl))
                (try simp only [List.getElem_toArray, List.getElem_cons_succ, List.getElem_cons_zero, Act.put, List.setIfInBounds_toArray, List.set_cons_zero, List.set_cons_succ])
                refine wpAnyH_take (i := 12) (v := .agg y.cells.toArray) rfl (by kernel_rfl) (by kernel_rfl) (by kernel_rfl) (fun _ _ _ h => h) (yields_load_at (by rfl) 32 _ rfl b2 (o2 + k * 13) rfl _ _ (fun w' hS => hS.2.2) Try.underlying32 rfl (by rw [Lg.RV.len]; kernel_rfl)) h0 ?_
                (try simp only [List.getElem_toArray, List.getElem_cons_succ, List.getElem_cons_zero, Act.put, List.setIfInBounds_toArray, List.set_cons_zero, List.set_cons_succ])
                refine wpAnyH_ready (rs := [13]) (by kernel_rfl) (by simp) ?_
                refine AllReadyH.cons rfl (fun K hK => ?_) AllReadyH.nil
                go_simp
                refine (SM.out _ (Below.refl _ W4).drew).mono ?_
                rintro e w5 ⟨rfl, hb5⟩
                go_wp2_with fail
                refine hK.out _ _ ?_ (fun h1 => ?_)
                · exact ⟨(hb5.block Q (lt_of_block q4)).trans q4, (hb5.block g (lt_of_block gx)).trans gx, fun j u hj => (hb5.cell (p := ⟨b2, o2 + k * 13 + j, none⟩) hb2l).trans (HY.out j u hj)⟩
                clear hK K
                (try simp only [List.getElem_toArray, List.getElem_cons_succ, List.getElem_cons_zero, Act.put, List.setIfInBounds_toArray, List.set_cons_zero, List.set_cons_succ])
                refine wpAnyH_take (i := 14) (v := ?_) rfl (by kernel_rfl) (by kernel_rfl) (by kernel_rfl) (fun _ _ _ h => h) (Or.inl ⟨by rfl, ?_⟩) h1 ?_
                rotate_left
                focus (intro w' hSw; skip; go_simp; (try with_reducible rfl))
                (try simp only [List.getElem_toArray, List.getElem_cons_succ, List.getElem_cons_zero, Act.put, List.setIfInBounds_toArray, List.set_cons_zero, List.set_cons_succ])
                refine wpAnyH_take (i := 15) (v := ?_) rfl (by kernel_rfl) (by kernel_rfl) (by kernel_rfl) (fun _ _ _ h => h) (Or.inl ⟨by rfl, ?_⟩) h1 ?_
                rotate_left
                focus (intro w' hSw; skip; go_simp; (try with_reducible rfl))
                (try simp only [List.getElem_toArray, List.getElem_cons_succ, List.getElem_cons_zero, Act.put, List.setIfInBounds_toArray, List.set_cons_zero, List.set_cons_succ])
                refine wpAnyH_take (i := 16) (v := ?_) rfl (by kernel_rfl) (by kernel_rfl) (by kernel_rfl) (fun _ _ _ h => h) (Or.inl ⟨by rfl, ?_⟩) h1 ?_
                rotate_left
                focus (intro w' hSw; skip; go_simp; (try with_reducible rfl))
                (try simp only [List.getElem_toArray, List.getElem_cons_succ, List.getElem_cons_zero, Act.put, List.setIfInBounds_toArray, List.set_cons_zero, List.set_cons_succ])
                refine wpAnyH_done (by kernel_rfl) ?_ _
                go_wp2_with fail
                go_meet
                exact ⟨rfl, (Below.refl _ W4).drew.trans hb5⟩
              · have km : ¬ (k : Int) < (m' : Int) := by omega
                refine wp_region_held_drew (S := fun w' => w'.heap[Q]? = some (.cells #[.slice S' m' cs'] 40 (0, 0)) ∧ True) (by kernel_rfl) ?_ (fun h0 => ?_)
                · exact ⟨q4, trivial⟩
                refine wpAnyH_take (i := 0) (v := ?_) rfl (by kernel_rfl) (by kernel_rfl) (by kernel_rfl) (fun _ _ _ h => h) (Or.inl ⟨by rfl, ?_⟩) h0 ?_
                rotate_left
                focus (intro w' hSw; skip; go_simp; (try with_reducible rfl))
                (try simp only [List.getElem_toArray, List.getElem_cons_succ, List.getElem_cons_zero, Act.put, List.setIfInBounds_toArray, List.set_cons_zero, List.set_cons_succ])
                refine wpAnyH_take (i := 1) (v := ?_) rfl (by kernel_rfl) (by kernel_rfl) (by kernel_rfl) (fun _ _ _ h => h) (Or.inl ⟨by rfl, ?_⟩) h0 ?_
                rotate_left
                focus (intro w' hSw; skip; go_simp; (try with_reducible rfl))
                (try simp only [List.getElem_toArray, List.getElem_cons_succ, List.getElem_cons_zero, Act.put, List.setIfInBounds_toArray, List.set_cons_zero, List.set_cons_succ])
                refine wpAnyH_take (i := 2) (v := ?_) rfl (by kernel_rfl) (by kernel_rfl) (by kernel_rfl) (fun _ _ _ h => h) (Or.inl ⟨by rfl, ?_⟩) h0 ?_
                rotate_left
                focus (intro w' hSw; skip; go_simp; (try with_reducible rfl))
                (try simp only [List.getElem_toArray, List.getElem_cons_succ, List.getElem_cons_zero, Act.put, List.setIfInBounds_toArray, List.set_cons_zero, List.set_cons_succ])
                refine wpAnyH_take (i := 3) (v := ?_) rfl (by kernel_rfl) (by kernel_rfl) (by kernel_rfl) (fun _ _ _ h => h) (Or.inl ⟨by rfl, ?_⟩) h0 ?_
                rotate_left
                focus (intro w' hSw; skip; go_simp; (try with_reducible rfl))
                (try simp only [List.getElem_toArray, List.getElem_cons_succ, List.getElem_cons_zero, Act.put, List.setIfInBounds_toArray, List.set_cons_zero, List.set_cons_succ])
                refine wpAnyH_take (i := 4) (v := ?_) rfl (by kernel_rfl) (by kernel_rfl) (by kernel_rfl) (fun _ _ _ h => h) (Or.inl ⟨by rfl, ?_⟩) h0 ?_
                rotate_left
                focus (intro w' hSw; have dq' : w'.cell? ⟨Q, 0, none⟩ = some (.slice S' m' cs') := blk_cell (l := [_]) hSw.1 0 rfl; go_simp; (try with_reducible rfl))
                (try simp only [List.getElem_toArray, List.getElem_cons_succ, List.getElem_cons_zero, Act.put, List.setIfInBounds_toArray, List.set_cons_zero, List.set_cons_succ])
                refine wpAnyH_take (i := 5) (v := ?_) rfl (by kernel_rfl) (by kernel_rfl) (by kernel_rfl) (fun _ _ _ h => h) (Or.inl ⟨by rfl, ?_⟩) h0 ?_
                rotate_left
                focus (intro w' hSw; skip; go_simp; (try with_reducible rfl))
                (try simp only [List.getElem_toArray, List.getElem_cons_succ, List.getElem_cons_zero, Act.put, List.setIfInBounds_toArray, List.set_cons_zero, List.set_cons_succ])
                refine wpAnyH_take (i := 6) (v := ?_) rfl (by kernel_rfl) (by kernel_rfl) (by kernel_rfl) (fun _ _ _ h => h) (Or.inl ⟨by rfl, ?_⟩) h0 ?_
                rotate_left
                focus (intro w' hSw; skip; go_simp; (try with_reducible rfl))
                (try simp only [List.getElem_toArray, List.getElem_cons_succ, List.getElem_cons_zero, Act.put, List.setIfInBounds_toArray, List.set_cons_zero, List.set_cons_succ])
                refine wpAnyH_take (i := 7) (v := ?_) rfl (by kernel_rfl) (by kernel_rfl) (by kernel_rfl) (fun _ _ _ h => h) (Or.inl ⟨by rfl, ?_⟩) h0 ?_
                rotate_left
                focus (intro w' hSw; skip; go_simp; (try with_reducible rfl))
                (try simp only [List.getElem_toArray, List.getElem_cons_succ, List.getElem_cons_zero, Act.put, List.setIfInBounds_toArray, List.set_cons_zero, List.set_cons_succ])
                refine wpAnyH_take (i := 8) (v := undef) rfl (by kernel_rfl) (by kernel_rfl) (by kernel_rfl) (fun _ _ _ h => h) (Or.inr ⟨by rfl, rfl⟩) h0 ?_
                (try simp only [List.getElem_toArray, List.getElem_cons_succ, List.getElem_cons_zero, Act.put, List.setIfInBounds_toArray, List.set_cons_zero, List.set_cons_succ])
                refine wpAnyH_take (i := 9) (v := undef) rfl (by kernel_rfl) (by kernel_rfl) (by kernel_rfl) (fun _ _ _ h => h) (Or.inr ⟨by rfl, rfl⟩) h0 ?_
                (try simp only [List.getElem_toArray, List.getElem_cons_succ, List.getElem_cons_zero, Act.put, List.setIfInBounds_toArray, List.set_cons_zero, List.set_cons_succ])
                refine wpAnyH_take (i := 10) (v := undef) rfl (by kernel_rfl) (by kernel_rfl) (by kernel_rfl) (fun _ _ _ h => h) (Or.inr ⟨by rfl, rfl⟩) h0 ?_
                (try simp only [List.getElem_toArray, List.getElem_cons_succ, List.getElem_cons_zero, Act.put, List.setIfInBounds_toArray, List.set_cons_zero, List.set_cons_succ])
                refine wpAnyH_take (i := 11) (v := undef) rfl (by kernel_rfl) (by kernel_rfl) (by kernel_rfl) (fun _ _ _ h => h) (Or.inr ⟨by rfl, rfl⟩) h0 ?_
                (try simp only [List.getElem_toArray, List.getElem_cons_succ, List.getElem_cons_zero, Act.put, List.setIfInBounds_toArray, List.set_cons_zero, List.set_cons_succ])
                refine wpAnyH_take (i := 12) (v := undef) rfl (by kernel_rfl) (by kernel_rfl) (by kernel_rfl) (fun _ _ _ h => h) (Or.inr ⟨by rfl, rfl⟩) h0 ?_
                (try simp only [List.getElem_toArray, List.getElem_cons_succ, List.getElem_cons_zero, Act.put, List.setIfInBounds_toArray, List.set_cons_zero, List.set_cons_succ])
                refine wpAnyH_take (i := 13) (v := undef) rfl (by kernel_rfl) (by kernel_rfl) (by kernel_rfl) (fun _ _ _ h => h) (Or.inr ⟨by rfl, rfl⟩) h0 ?_
                (try simp only [List.getElem_toArray, List.getElem_cons_succ, List.getElem_cons_zero, Act.put, List.setIfInBounds_toArray, List.set_cons_zero, List.set_cons_succ])
                refine wpAnyH_take (i := 14) (v := undef) rfl (by kernel_rfl) (by kernel_rfl) (by kernel_rfl) (fun _ _ _ h => h) (Or.inr ⟨by rfl, rfl⟩) h0 ?_
                (try simp only [List.getElem_toArray, List.getElem_cons_succ, List.getElem_cons_zero, Act.put, List.setIfInBounds_toArray, List.set_cons_zero, List.set_cons_succ])
                refine wpAnyH_take (i := 15) (v := ?_) rfl (by kernel_rfl) (by kernel_rfl) (by kernel_rfl) (fun _ _ _ h => h) (Or.inl ⟨by rfl, ?_⟩) h0 ?_
                rotate_left
                focus (intro w' hSw; skip; go_simp; (try with_reducible rfl))
                (try simp only [List.getElem_toArray, List.getElem_cons_succ, List.getElem_cons_zero, Act.put, List.setIfInBounds_toArray, List.set_cons_zero, List.set_cons_succ])
                refine wpAnyH_take (i := 16) (v := ?_) rfl (by kernel_rfl) (by kernel_rfl) (by kernel_rfl) (fun _ _ _ h => h) (Or.inl ⟨by rfl, ?_⟩) h0 ?_
                rotate_left
                focus (intro w' hSw; skip; go_simp; (try with_reducible rfl))
                (try simp only [List.getElem_toArray, List.getElem_cons_succ, List.getElem_cons_zero, Act.put, List.setIfInBounds_toArray, List.set_cons_zero, List.set_cons_succ])
                refine wpAnyH_done (by kernel_rfl) ?_ _
                go_wp2_with fail
                go_meet
                exact ⟨rfl, (Below.refl _ W4).drew⟩
            case rest =>
              obtain ⟨rfl, hb5⟩ := hcut
              have q5 := blk_below q4 hb5 (lt_of_block q4)
              have r5 := blk_below r4 hb5 (lt_of_block r4)
              have gx5 := blk_below gx hb5 (lt_of_block gx)
              have SN5 := Lib.hid (SN4.out.below hb5)
              have LG5 := Lib.hid (LG4.out.below hb5)
              have B5 := Lib.hid (B4.out.trans (hb5.mono B4.out.size))
              have DX5 := Lib.hid (DX4.out.below hb5)
              have hbs5 := Nat.le_trans hbs4 hb5.size
              have dq5 := blk_cell (l := [_]) q5 0 rfl
              clear hb5 q4 r4 gx SN4 LG4 B4 DX4 hbs4
              by_cases hkm : k < m'
              · have km : (k : Int) < (m' : Int) := by omega
                have km2 : ¬ (m' : Int) ≤ (k : Int) := by omega
                have g1 : k + 1 ≤ m → m' = m := by omega
                have g2 : m < k + 1 → m' = k + 1 := by omega
                clear hm3 hm4
                go_wp2_with fail
                go_roundw
                case rel => exact ⟨k + 1, S', m', cs', ss', by go_num, by omega, hm1, hm2, g1, g2, q5, LG5, SN5, XS2, DS, r5, hbs5, B5⟩
                case measure => simp [intOf]; omega
              · have hkm2 : m' = k := by omega
                have hk1 : k = m := by omega
                have km2 : (m' : Int) ≤ (k : Int) := by omega
                have HKM := Lib.hid hkm2
                have HK1 := Lib.hid hk1
                obtain ⟨CL, hCL⟩ : ∃ CL : List Value, CL = x.cells := ⟨_, rfl⟩
                have hCa : C = CL.toArray := by rw [hCL]; exact HCe.out.symm
                have hCl : CL.length = 13 := by rw [hCL]; rfl
                have hC2 : ∀ u ∈ CL, u.oneCell' = true := by rw [hCL]; exact rv_oneL _
                have HCL := Lib.hid hCL
                rw [hCa] at gx5
                have hz5 := lt_of_block q5
                have hnQ : Ty wc Q 40 := ⟨_, q5⟩
                have HRa := Lib.hid (SN5.out.row.alloc (.cells (List.foldl (fun (cs : Array Value) (x : Value × Nat) => cs.setIfInBounds x.snd x.fst) (#[.int .i64 0, .int .i64 0, .int .i64 0, .int .i64 0, .int .i64 0, .int .i64 0, .int .i64 0, .int .i64 0, .int .i64 0, .int .i64 0, .int .i64 0, .slice none 0 0, .int .u32 0] : Array Value) CL.zipIdx) 32))
                have HFC := Lib.hid (fill_cell2 wc CL hCl)
                have aQ := blk_alloc q5 (.cells (List.foldl (fun (cs : Array Value) (x : Value × Nat) => cs.setIfInBounds x.snd x.fst) (#[.int .i64 0, .int .i64 0, .int .i64 0, .int .i64 0, .int .i64 0, .int .i64 0, .int .i64 0, .int .i64 0, .int .i64 0, .int .i64 0, .int .i64 0, .slice none 0 0, .int .u32 0] : Array Value) CL.zipIdx) 32)
                have HTQ := Lib.hid (show ∀ j, blkOf S' = some j → j ≠ Q ∧ Ty wc j 32 ∧ B ≤ j from fun j hj => ⟨(SN5.out.row.ty hj).ne hnQ (by decide), SN5.out.row.ty hj, (SN5.out.row.lt hj).1⟩)
                have hm30 : m' ≤ 31 := by omega
                clear hCL hkm2 hk1 hm3 hm4 hnQ hCa
                go_wp2_with (first | (refine wpList_load_row rfl 32 (.tmp 12) rfl g rfl 32 CL.toArray (0, 0) _ gx5 Try.underlying32 rfl (by rw [show CL.toArray.size = 13 from by simpa using hCl]; kernel_rfl) ?_) | (refine wpList_append_row2 rfl (.tmp 104) (.tmp 106) 40 rfl B 32 j0 _ 13 120 Try.underlying40 hj0 hya hyb hyc rfl S' m' cs' (Lg.cs ss') rfl HRa.out ⟨wc.heap.size, 0, none⟩ 1 1 CL rfl (by rw [hCl]) HFC.out hC2 (by omega) (by simp only [maxLen]; omega) (by omega) (by simp; omega) ?_; intro S2 c2 w6 hr6 hg6 hat6 _; have HR6 := Lib.hid hr6; have HG6 := Lib.hid hg6; have HT6 := Lib.hid hat6; clear hr6 hg6 hat6; have b6 := blk_only aQ HG6.out (fun e => (HTQ.out Q e.symm).1 rfl); have c6 := blk_cell (l := [_]) b6 0 rfl; have f6 := blk_free b6 0))
                have KK : Keeps (fun i => i = Q ∨ blkOf S' = some i) wc (w6.setCell ⟨Q, 0, none⟩ (.slice S2 (m' + 1) c2)) := ((((Keeps.refl _ wc).alloc _).trans (Keeps.of_grown (S := fun i => blkOf S' = some i) HG6.out (fun g e => e)) (fun _ _ h => .inr h))).setCell (p := ⟨Q, 0, none⟩) (.inl (.inl rfl)) _
                have hTQ : Ty wc Q 40 := ⟨_, q5⟩
                have u8K : ∀ i, Ty wc i 5 → ¬ (i = Q ∨ blkOf S' = some i) := fun i ht hs => by
                  rcases hs with rfl | hs
                  · exact ht.ne hTQ (by decide) rfl
                  · exact ht.ne (HTQ.out i hs).2.1 (by decide) rfl
                have hkm' := HKM.out
                have hk1' := HK1.out
                go_roundw
                case rel =>
                  refine ⟨k + 1, S2, m' + 1, c2, ss' ++ [x], by go_num, by omega, by omega, by omega, fun h => by omega, fun h => by omega, blk_set b6 0 _, Lib.hid (LG5.out.kept KK (fun i hi hs => ?_) (fun i _ ht hs => u8K i ht hs)), Lib.hid ⟨?_, fun y hy => ?_⟩, Lib.hid ?_, Lib.hid (fun q hq hh => ?_), blk_keep r5 KK (fun hs => ?_), Nat.le_trans hbs5 KK.size, Lib.hid (B5.out.trans (KK.below (fun i _ hs => ?_) B5.out.size))⟩
                  · rcases hs with rfl | hs
                    · exact LG5.out.away hTQ (by decide) (by decide) hi
                    · exact DS.out i hs hi
                  · rw [Lg.cs_app, Lg.cs_one, ← HCL.out]
                    have hT6 : Ty w6 Q 40 := ⟨_, b6⟩
                    exact HR6.out.kept ((Keeps.refl (fun i => i = Q) w6).setCell (p := ⟨Q, 0, none⟩) (.inl rfl) _) (fun j hj e => (HR6.out.ty hj).ne hT6 (by decide) e)
                  · rcases List.mem_append.1 hy with hy | hy
                    · exact (SN5.out.dat y hy).keep KK (fun i _ ht hs => u8K i ht hs)
                    · rw [List.mem_singleton.1 hy]
                      exact DX5.out.keep KK (fun i _ ht hs => u8K i ht hs)
                  · rw [Lg.xs_app1, XS2.out, XX.out, hkm', ← Lg.xs_at HKV.out, List.take_add_one, List.getElem?_eq_getElem (by rw [Lg.xs_len]; exact HKV.out), List.getD, List.getElem?_eq_getElem (by rw [Lg.xs_len]; exact HKV.out)]
                    rfl
                  · rcases HT6.out with e | e
                    · rw [e] at hq; exact DS.out q hq hh
                    · have hl := (LG5.out.two_lt hh).2
                      rw [e] at hq
                      injection hq with hq
                      simp at hq
                      omega
                  · rcases hs with hs | hs
                    · have hT : Ty wc w.heap.size 4 := ⟨_, r5⟩
                      exact hT.ne hTQ (by decide) hs
                    · have hT : Ty wc w.heap.size 4 := ⟨_, r5⟩
                      exact hT.ne (HTQ.out _ hs).2.1 (by decide) rfl
                  · rcases hs with rfl | hs
                    · omega
                    · have := (HTQ.out i hs).2.2; omega
                case measure => simp [intOf]; omega
          · have hkn : k = n1 := by omega
            have hmn : m' = n1 := by omega
            have hmi2 : m' ≤ i + 1 := by omega
            have HMN := Lib.hid hmn
            subst hkn
            have kk : ¬ ((k : Int) < (k : Int)) := by omega
            have XSF := Lib.hid (show Lg.xs ss' = Lg.xs vs' by rw [XS2.out, HMN.out, List.take_of_length_le (by rw [Lg.xs_len, HN1.out]; exact Nat.le_refl _)])
            have HLm := Lib.hid (show vs'.length = m' by rw [HMN.out, HN1.out])
            clear hmn hm3 hm4 hnn'
            go_wp2_with fail
            refine LN.out.mono ?_
            rintro _ _ ⟨rfl, rfl⟩
            go_wp2_with fail
            go_roundw
            case rel => exact ⟨i + 1, A', c', vs', _, S', m', cs', ss', by go_num, by omega, hmi2, q0, HLm, LG, GD1, SN, XSF, DS, r0, hbs, BB⟩
            case measure => simp [intOf]; omega
    · have hil : i = len0 := by omega
      subst hil
      have ik : ¬ ((i : Int) < (i : Int)) := by omega
      have hm30 : m ≤ 30 := by omega
      have dq := blk_cell (l := [_]) q0 0 rfl
      have LD := Lib.hid (show ∀ W : World, Below wr.heap.size wr W → Calls Try.prog 15 #[.slice S m cs] W (fun e w' => Below W.heap.size W w' ∧ ∃ p2 A2 c2 vs2 X2, e = .returned (.tuple #[.pointer (some ⟨p2, 0, none⟩), .int .i64 0, .int .i64 0]) ∧ Lg.IsLg w' W.heap.size p2 A2 c2 vs2 X2 ∧ Hid (Lg.xs vs2 = Lg.xs vs)) from fun W hW => by
        refine (lload_any S m cs ss W (by omega) ((SN.out.below hW).rr) (fun y hy => Lg.good_rd (vs := ss) (by rw [XS.out]; exact GD.out) y hy)).mono ?_
        rintro e w' ⟨hb, hp⟩
        rw [XS.out, Lg.ld_good GD.out] at hp
        rcases hp with ⟨h, _⟩ | ⟨_, p2, A2, c2, vs2, h1, h2, h3⟩
        · exact absurd rfl h
        · exact ⟨hb, p2, A2, c2, vs2, _, h1, h2, Lib.hid h3⟩)
      go_wp2_with fail
      refine (LD.out wr (Below.refl _ _)).mono ?_
      rintro _ w1 ⟨hb1, p2, A2, c2, vs2, X2, rfl, hl2, hx2⟩
      have q1 := blk_below q0 hb1 (lt_of_block q0)
      have r1 := blk_below r0 hb1 (lt_of_block r0)
      have LG1 := Lib.hid (LG.out.below hb1)
      have SN1 := Lib.hid (SN.out.below hb1)
      have B1 := Lib.hid (BB.out.trans (hb1.mono BB.out.size))
      have SM := Lib.hid (show Calls Try.prog 26 #[.pointer (some ⟨p2, 0, none⟩), .pointer (some ⟨p, 0, none⟩)] w1 (fun e w' => e = .returned (.bool true) ∧ Below w1.heap.size w1 w') by
        have := lsame_any hl2 LG1.out (Lg.good_vs (vs := vs2) (by rw [hx2.out]; exact GD.out)) (Lg.good_vs GD.out)
        rw [hx2.out, Lg.sameRs_iff.2 rfl] at this
        exact this)
      clear hb1 hl2 hx2 q0 r0 LG SN BB dq LD
      go_wp2_with fail
      refine SM.out.mono ?_
      rintro _ w2 ⟨rfl, hb2⟩
      have q2 := blk_below q1 hb2 (lt_of_block q1)
      have r2 := blk_below r1 hb2 (lt_of_block r1)
      have LG2 := Lib.hid (LG1.out.below hb2)
      have SN2 := Lib.hid (SN1.out.below hb2)
      have B2 := Lib.hid (B1.out.trans (hb2.mono B1.out.size))
      clear hb2 q1 r1 LG1 SN1 B1 SM
      go_upto_region 25 with fail
      generalize hW3 : World.alloc _ _ = W3
      obtain ⟨G, hG⟩ : ∃ G, G = w2.heap.size := ⟨_, rfl⟩
      have gG : W3.heap[G]? = some (.cells #[.int .i64 0] 3 (0, 0)) := by rw [← hW3, hG]; exact heap_new _ _
      have b3 : Below G w2 W3 := by rw [← hW3, hG]; exact (Below.refl _ w2).alloc (Nat.le_refl _) _
      have hz3 : W3.heap.size = G + 1 := by rw [← hW3, hG]; simp
      have hrG : w.heap.size ≤ G := by rw [hG]; exact B2.out.size
      have hrG' : w.heap.size < G := by rw [hG]; exact lt_of_block r2
      have QV := Lib.hid (fun (V : World) (hV : Below G w2 V) => blk_below q2 (hG ▸ hV) (lt_of_block q2))
      have RV := Lib.hid (fun (V : World) (hV : Below G w2 V) => blk_below r2 (hG ▸ hV) (lt_of_block r2))
      have LV := Lib.hid (fun (V : World) (hV : Below G w2 V) => LG2.out.below (hG ▸ hV))
      have SV := Lib.hid (fun (V : World) (hV : Below G w2 V) => SN2.out.below (hG ▸ hV))
      have RR := Lib.hid (fun (V : World) (hV : Below G w2 V) => (show Lg.Rr V G A vs.length vs from by rw [hG]; exact LG2.out.rr.below (hG ▸ hV) (Nat.le_refl _)))
      have hQG : Q < G := by rw [hG]; exact lt_of_block q2
      have hRG : ∀ q, blkOf S = some q → q < G := fun q hq => by rw [hG]; exact (SN2.out.row.lt hq).2
      have HRG := Lib.hid hRG
      have HVM := Lib.hid (show vs.length ≤ 30 by rw [HM.out]; exact hm30)
      have HFD := Lib.hid (Lg.good_rd (vs := vs) GD.out)
      have OF := Lib.hid (fun (a : Nat) (ha : a ≤ 64) (V : World) (hV : Below G w2 V) => of_any (LV.out V hV) (by have := HVM.out; omega) (a : Int) (by unfold Lg.ofE; rw [if_pos (by omega)]))
      rw [← hG]
      have HZ3 := Lib.hid hz3
      clear hW3 hG q2 r2 LG2 SN2 hRG hz3
      go_cut [17, 18] from 9 to 219 (fun v17 v18 wx => v17 = .pointer (some ⟨G, 0, none⟩) ∧ v18 = .pointer (some ⟨(G + 1), 0, none⟩) ∧ wx.heap[G]? = some (.cells #[.int .i64 0] 3 (0, 0)) ∧ wx.heap[G + 1]? = some (.cells #[.int .i64 0] 3 (0, 0)) ∧ Below G w2 wx)
      case first =>
        go_wp2_with fail
        go_meet
        have e := HZ3.out
        refine ⟨rfl, by rw [e], blk_alloc gG _, by rw [← e]; exact heap_new _ _, b3.alloc (by omega) _⟩
      case rest =>
        obtain ⟨rfl, rfl, gG0, gA0, bG0⟩ := hcut
        clear gG b3 HZ3
        go_wp2_with fail
        refine wp_loop (fun a' wr => ∃ (u19 u20 u21 u22 u130 u131 u132 u133 u134 u135 u136 u137 u138 u139 u140 u141 u142 u143 u144 u145 u146 u147 u148 u149 u150 u151 u152 u153 u154 u155 u156 u157 u158 u159 u160 u161 u162 u163 u164 u165 u166 u167 u168 u169 u170 u171 u172 u173 u174 : Value) (ds : List Deferred) (v18 : Value), (∃ (a bp : Nat), v18 = .pointer (some ⟨bp, 0, none⟩) ∧ a ≤ 65 ∧ G < bp ∧ wr.heap[bp]? = some (.cells #[.int .i64 a] 3 (0, 0)) ∧ wr.heap[G]? = some (.cells #[.int .i64 (Lg.many (Lg.xs vs) vs.length a : Nat)] 3 (0, 0)) ∧ Below G w2 wr ∧ Marks (G + 1) wr wr.heap.size ds) ∧ a' = { tmps := #[.slice a0 i cap0, .int .u8 a1, .int .u32 a2, undef, undef, undef, .pointer (some ⟨w.heap.size, 0, none⟩), .pointer (some ⟨p, 0, none⟩), .pointer (some ⟨Q, 0, none⟩), u9, u10, u11, u12, u13, u14, u15, u16, .pointer (some ⟨G, 0, none⟩), v18, u19, u20, u21, u22, u23, u24, u25, u26, u27, u28, u29, u30, u31, u32, u33, u34, u35, u36, u37, u38, u39, u40, u41, u42, u43, u44, u45, u46, u47, u48, u49, u50, u51, u52, u53, u54, u55, u56, u57, u58, u59, u60, u61, u62, u63, u64, u65, u66, u67, u68, u69, u70, u71, u72, u73, u74, u75, u76, u77, u78, u79, u80, u81, u82, u83, u84, u85, u86, u87, u88, u89, u90, u91, u92, u93, u94, u95, u96, u97, u98, u99, u100, u101, u102, u103, u104, u105, u106, u107, u108, u109, u110, u111, u112, u113, u114, u115, u116, u117, u118, u119, u120, u121, u122, u123, u124, u125, u126, u127, u128, u129, u130, u131, u132, u133, u134, u135, u136, u137, u138, u139, u140, u141, u142, u143, u144, u145, u146, u147, u148, u149, u150, u151, u152, u153, u154, u155, u156, u157, u158, u159, u160, u161, u162, u163, u164, u165, u166, u167, u168, u169, u170, u171, u172, u173, u174, u175, u176, u177, u178, u179, u180, u181, u182, u183, u184, u185, u186, u187, u188, u189, u190, u191, u192, u193, u194, u195, u196, u197, u198, u199, u200, u201, u202, u203, u204, u205, u206, u207, u208, u209, u210, u211, u212, u213, u214, u215, u216, u217, u218, u219], defers := ds }) (fun a' wr => 65 - boxInt wr (a'.tmps.getD 18 undef)) ?_ ?_
        · (repeat apply Exists.intro)
          refine ⟨?_, rfl⟩
          exact ⟨0, G + 1, rfl, by omega, by omega, gA0, gG0, bG0, trivial⟩
        · clear gG0 gA0 bG0
          intro _ wr hinv
          obtain ⟨u19, u20, u21, u22, u130, u131, u132, u133, u134, u135, u136, u137, u138, u139, u140, u141, u142, u143, u144, u145, u146, u147, u148, u149, u150, u151, u152, u153, u154, u155, u156, u157, u158, u159, u160, u161, u162, u163, u164, u165, u166, u167, u168, u169, u170, u171, u172, u173, u174, ds, v18, ⟨a, bp, rfl, ha, hbG, gA, gG, bG, MK⟩, hact⟩ := hinv
          subst hact
          have cA := blk_cell (l := [_]) gA 0 rfl
          have fA := blk_free gA 0
          have hzG := lt_of_block gG
          have hMZ := Lib.hid (Lg.many_lt (a := a) GD.out (by omega))
          rw [Lg.xs_len] at hMZ
          have hMY : (Lg.many (Lg.xs vs) vs.length a : Nat) ≤ 30 := Nat.le_trans hMZ.out HVM.out
          by_cases ha4 : a ≤ 64
          · have ka : (a : Int) ≤ 64 := by omega
            have OFa := Lib.hid (OF.out a ha4 wr bG)
            go_wp2_with fail
            refine OFa.out.mono ?_
            rintro _ w4 ⟨fB, f1, f2, rfl, yB, y1, y2, hB, hq1, hq2, b4⟩
            have hfn := fnil 66 #[.pointer (some ⟨f1, 0, none⟩), .pointer (some ⟨f2, 0, none⟩)]
            go_upto_region 31 with fail
            have gA4 := blk_below gA b4 (lt_of_block gA)
            have gG4 := blk_below gG b4 (lt_of_block gG)
            have bG4 := bG.trans (b4.mono (Nat.le_of_lt hzG))
            have MK4 := (MK.below b4).le b4.size
            clear hfn OFa gG bG MK b4 cA fA
            go_cut [146] from 130 to 174 (fun v146 wx => v146 = (.func (.func 66) #[] #[.pointer (some ⟨f1, 0, none⟩), .pointer (some ⟨f2, 0, none⟩)]) ∧ wx = w4)
            case first =>
              go_wp2_with fail
              go_meet
              exact ⟨rfl, rfl⟩
            case rest =>
              obtain ⟨rfl, rfl⟩ := hcut
              have hseq := of1_seq 4 G fB f1 f2 (a : Int) A vs.length vs.length vs wc (by omega) (by have := HVM.out; omega) (Nat.le_of_lt (lt_of_block gG4)) yB (RR.out wc bG4) HFD.out y1 y2
              have hGc := lt_of_block gG4
              have hGf : G < f2 := Nat.lt_of_lt_of_le hzG hq2
              have hmf2 := lt_of_block y2
              have hmbp := lt_of_block gA4
              go_wp2_with fail
              refine (wpIn_wide (n := 5)).1 ?_
              refine range_own (F := Fence.wide) rfl (by omega) (gf := 66) (lb := #[.pointer (some ⟨f1, 0, none⟩), .pointer (some ⟨f2, 0, none⟩)]) rfl trivial (enters_of Try.func66 (by kernel_rfl) rfl) hseq (fun h k => h.trans k)
                (fun V l' o o' hl h hc => Lg.KpQ.put2 (by omega) (by omega) h hc) (fun x => rfl)
                (fun pre V => Below G wc V ∧ (V.heap[f2]? = some (.cells #[.int .i64 a] 3 (0, 0)) ∧ (V.heap[G]? = some (.cells #[.int .i64 ((Lg.many (Lg.xs vs) vs.length a + pre.length : Nat) : Int)] 3 (0, 0)) ∧ (V.heap[bp]? = some (.cells #[.int .i64 a] 3 (0, 0)) ∧ Marks (G + 1) V wc.heap.size ds))))
                (fun c pre V => False)
                (fun x a' V => ∃ Bx, wc.heap.size ≤ Bx ∧ V.heap[Bx]? = some (.cells x.2.cells.toArray 32 (0, 0)) ∧ a' = { tmps := #[.slice a0 i cap0, .int .u8 a1, .int .u32 a2, undef, undef, undef, .pointer (some ⟨w.heap.size, 0, none⟩), .pointer (some ⟨p, 0, none⟩), .pointer (some ⟨Q, 0, none⟩), u9, u10, u11, u12, u13, u14, u15, u16, .pointer (some ⟨G, 0, none⟩), .pointer (some ⟨bp, 0, none⟩), (.func (.func 66) #[] #[.pointer (some ⟨f1, 0, none⟩), .pointer (some ⟨f2, 0, none⟩)]), .int .i64 0, .int .i64 x.1, .pointer (some ⟨Bx, 0, none⟩), u23, u24, u25, u26, u27, u28, u29, u30, u31, u32, u33, u34, u35, u36, u37, u38, u39, u40, u41, u42, u43, u44, u45, u46, u47, u48, u49, u50, u51, u52, u53, u54, u55, u56, u57, u58, u59, u60, u61, u62, u63, u64, u65, u66, u67, u68, u69, u70, u71, u72, u73, u74, u75, u76, u77, u78, u79, u80, u81, u82, u83, u84, u85, u86, u87, u88, u89, u90, u91, u92, u93, u94, u95, u96, u97, u98, u99, u100, u101, u102, u103, u104, u105, u106, u107, u108, u109, u110, u111, u112, u113, u114, u115, u116, u117, u118, u119, u120, u121, u122, u123, u124, u125, u126, u127, u128, u129, u130, u131, u132, u133, u134, u135, u136, u137, u138, u139, u140, u141, u142, u143, u144, u145, (.func (.func 66) #[] #[.pointer (some ⟨f1, 0, none⟩), .pointer (some ⟨f2, 0, none⟩)]), .int .i64 x.1, x.2.val, u149, u150, u151, u152, u153, u154, u155, u156, u157, u158, u159, u160, u161, u162, u163, u164, u165, u166, u167, u168, u169, u170, u171, u172, u173, u174, u175, u176, u177, u178, u179, u180, u181, u182, u183, u184, u185, u186, u187, u188, u189, u190, u191, u192, u193, u194, u195, u196, u197, u198, u199, u200, u201, u202, u203, u204, u205, u206, u207, u208, u209, u210, u211, u212, u213, u214, u215, u216, u217, u218, u219], defers := [] })
                ?hI ?hIx ?hPr ?hAx ?h0 ?assign ?body ?done ?stop
              case hI => exact OwnFrom.and (ownFrom_below (Nat.le_of_lt hGc) (Nat.le_of_lt hGc)) (OwnFrom.and (blk_own _ _ _ _) (OwnFrom.and (fun s X Y row hs hg hr => blk_own (β := Unit) _ G _ _ () X Y row hs hg hr) (OwnFrom.and (blk_own _ _ _ _) (marks_own (Nat.le_refl _)))))
              case hIx => exact fun c s X Y row hs _ _ => hs.elim
              case hPr => exact fun pre => Lg.PrO.own _ vs a vs.length pre
              case hAx =>
                rintro a' x X Y row ⟨Bx, e1, e2, e3⟩ hg hr
                exact ⟨Bx, e1, blk_own (β := Unit) _ Bx _ _ () X Y row e2 hg hr, e3⟩
              case h0 => exact ⟨Below.refl _ _, y2, gG4, gA4, MK4⟩
              case assign =>
                rintro l' pre x V K ⟨hBn, hy2, hg, hbp, hmk⟩ hpr hK
                have hzV := hBn.size
                have z1 : x.2.cells.toArray.size = 13 := rfl
                have HPR := Lib.hid hpr
                clear hpr
                simp only [Lg.encNR]
                gi_wp2_with (refine wpListIn_store_row rfl 32 _ _ rfl V.heap.size x.2.cells.toArray rfl rfl 32 _ (heap_new V (.cells #[.int .i64 0, .int .i64 0, .int .i64 0, .int .i64 0, .int .i64 0, .int .i64 0, .int .i64 0, .int .i64 0, .int .i64 0, .int .i64 0, .int .i64 0, .slice none 0 0, .int .u32 0] 32 (0, 0))) (by rw [z1]; kernel_rfl) z1.symm (rv_ones x.2) ?_)
                have kx := setRow_heap (V.alloc (.cells #[.int .i64 0, .int .i64 0, .int .i64 0, .int .i64 0, .int .i64 0, .int .i64 0, .int .i64 0, .int .i64 0, .int .i64 0, .int .i64 0, .int .i64 0, .slice none 0 0, .int .u32 0] 32 (0, 0))) V.heap.size #[.int .i64 0, .int .i64 0, .int .i64 0, .int .i64 0, .int .i64 0, .int .i64 0, .int .i64 0, .int .i64 0, .int .i64 0, .int .i64 0, .int .i64 0, .slice none 0 0, .int .u32 0] x.2.cells.toArray 32 (0, 0) (heap_new V (.cells #[.int .i64 0, .int .i64 0, .int .i64 0, .int .i64 0, .int .i64 0, .int .i64 0, .int .i64 0, .int .i64 0, .int .i64 0, .int .i64 0, .int .i64 0, .slice none 0 0, .int .u32 0] 32 (0, 0)))
                have bx : Below V.heap.size V ((V.alloc (.cells #[.int .i64 0, .int .i64 0, .int .i64 0, .int .i64 0, .int .i64 0, .int .i64 0, .int .i64 0, .int .i64 0, .int .i64 0, .int .i64 0, .int .i64 0, .slice none 0 0, .int .u32 0] 32 (0, 0))).setRow V.heap.size x.2.cells.toArray) := below_setRow ((Below.refl V.heap.size V).alloc (Nat.le_refl _) _) (Nat.le_refl _) _
                obtain ⟨p1, p2, p3, p4, p5⟩ := HPR.out
                exact hK _ _ (keepsFrom_below bx) (Lg.KpQ.of_below bx (by omega) (by omega)) ⟨hBn.trans (bx.mono (by omega)), blk_below hy2 bx (lt_of_block hy2), blk_below hg bx (lt_of_block hg), blk_below hbp bx (lt_of_block hbp), hmk.below bx⟩ ⟨p1, p2, p3, p4, p5.up bx⟩ ⟨V.heap.size, hzV, kx, rfl⟩
              case stop =>
                rintro D c' pre V hD _ hf hK
                exact hf.elim
              case body =>
                rintro l' pre x a' V ⟨hBn, hy2, hg, hbp, hmk⟩ ⟨p1, p2, p3, p4, p5⟩ ⟨Bx, hBx, hbx, rfl⟩ hlt
                have hzV := hBn.size
                have bV : Below G w2 V := bG4.trans hBn
                have qV := QV.out V bV
                have SNV := Lib.hid (SV.out V bV)
                have p2' : x.1 < m := by rw [← HM.out]; exact p2
                obtain ⟨k, hk⟩ : ∃ k, k = x.1 := ⟨_, rfl⟩
                rw [← hk] at p2' p3 p2
                obtain ⟨b2, o2, hS, hb2l, hcy, hoy⟩ := SNV.out.rr.at_ p2'
                obtain ⟨y, hy⟩ : ∃ y, y = ss.getD k Lg.rv0 := ⟨_, rfl⟩
                rw [← hy] at hcy hoy
                rw [hS] at qV
                have hxy : x.2.x = y.x := by rw [p3, hy, ← Lg.xs_at p2, ← Lg.xs_at (by rw [SNV.out.rr.len]; exact p2'), XS.out]
                have d1 : V.cell? ⟨Bx, 1, none⟩ = some (.int .i64 a) := by rw [← p4]; exact arr_cell hbx rfl
                obtain ⟨C, hval, hC, hCs⟩ := rv_opaque x.2
                have HVAL := Lib.hid hval
                have HXY := Lib.hid hxy
                have OKX := Lib.hid p5
                have OKY := Lib.hid hoy
                have HY := Lib.hid hcy
                have SM := Lib.hid (show ∀ W : World, Below V.heap.size V W → Calls Try.prog 36 #[.agg C, .agg y.cells.toArray] W fun e w' => e = .returned (.bool true) ∧ Below W.heap.size W w' from fun W hW => by
                  have := rsameR_any x.2 y W (OKX.out.up hW) (OKY.out.up hW)
                  rw [HVAL.out, HXY.out, Lg.sameR_refl] at this
                  exact this)
                have hz0 : (Lg.many (Lg.xs vs) vs.length a : Nat) + pre.length ≤ 100 := by
                  have h1 := Lg.ofL_le (Lg.xs vs) a vs.length
                  have h2 := HVM.out
                  omega
                rw [hval, ← hk]
                rw [hC] at hbx
                have HG := Lib.hid hg
                obtain ⟨z, hz⟩ : ∃ z : Int, z = (((Lg.many (Lg.xs vs) vs.length a : Nat) + pre.length : Nat) : Int) := ⟨_, rfl⟩
                have hzr : 0 ≤ z ∧ z ≤ 100 := by omega
                have wz : IntKind.i64.wrap (z + 1) = z + 1 := IntWalk.i64_in _ (by omega)
                rw [← hz] at hg
                have HZ := Lib.hid hz
                have k0 : ¬ (k : Int) < 0 := by omega
                have km2 : ¬ (m : Int) ≤ (k : Int) := by omega
                have km : (k : Int) < (m : Int) := by omega
                have km3 : ¬ m ≤ k := by omega
                have kk0 : (0 : Int) ≤ (k : Int) := by omega
                clear p1 p2 p3 p4 p5 hk hy hcy hoy hxy hval hC hS hz0 hz HG hlt
                gi_wp2
                (try refine wpIn_block ?_)
                refine region_round (S := fun w' => w'.heap[Q]? = some (.cells #[.slice (some ⟨b2, o2, none⟩) m cs] 40 (0, 0)) ∧ w'.heap[Bx]? = some (.cells C 32 (0, 0)) ∧ w'.heap[bp]? = some (.cells #[.int .i64 a] 3 (0, 0)) ∧ w'.cell? ⟨Bx, 1, none⟩ = some (.int .i64 a) ∧ (∀ (j : Nat) (u : Value), y.cells[j]? = some u → w'.cell? ⟨b2, o2 + k * 13 + j, none⟩ = some u)) (by kernel_rfl) (by kernel_rfl) (by rintro ⟨a, w, h⟩; exact h) ⟨qV, hbx, hbp, d1, HY.out⟩ ?_
                intro h0
                refine wpAnyH_take (i := 0) (v := ?_) rfl (by kernel_rfl) (by kernel_rfl) (by kernel_rfl) (fun _ _ _ h => h) (Or.inl ⟨by rfl, ?_⟩) h0 ?_
                rotate_left
                focus (intro w' hSw; skip; go_simp; (try with_reducible rfl))
                (try simp only [List.getElem_toArray, List.getElem_cons_succ, List.getElem_cons_zero, Act.put, List.setIfInBounds_toArray, List.set_cons_zero, List.set_cons_succ])
                refine wpAnyH_take (i := 1) (v := .bool false) rfl (by kernel_rfl) (by kernel_rfl) (by kernel_rfl) (fun _ _ _ h => h) (Or.inl ⟨by rfl, ?_⟩) h0 ?_
                focus (intro w' hSw; go_simp; (try simp only [decide_eq_false k0, decide_eq_false km3, Bool.not_true]); (try with_reducible rfl); (try simp); done)
                (try simp only [List.getElem_toArray, List.getElem_cons_succ, List.getElem_cons_zero, Act.put, List.setIfInBounds_toArray, List.set_cons_zero, List.set_cons_succ])
                refine wpAnyH_take (i := 2) (v := ?_) rfl (by kernel_rfl) (by kernel_rfl) (by kernel_rfl) (fun _ _ _ h => h) (Or.inl ⟨by rfl, ?_⟩) h0 ?_
                rotate_left
                focus (intro w' hSw; skip; go_simp; (try with_reducible rfl))
                (try simp only [List.getElem_toArray, List.getElem_cons_succ, List.getElem_cons_zero, Act.put, List.setIfInBounds_toArray, List.set_cons_zero, List.set_cons_succ])
                refine wpAnyH_take (i := 3) (v := ?_) rfl (by kernel_rfl) (by kernel_rfl) (by kernel_rfl) (fun _ _ _ h => h) (Or.inl ⟨by rfl, ?_⟩) h0 ?_
                rotate_left
                focus (intro w' hSw; skip; go_simp; (try with_reducible rfl))
                (try simp only [List.getElem_toArray, List.getElem_cons_succ, List.getElem_cons_zero, Act.put, List.setIfInBounds_toArray, List.set_cons_zero, List.set_cons_succ])
                refine wpAnyH_take (i := 4) (v := ?_) rfl (by kernel_rfl) (by kernel_rfl) (by kernel_rfl) (fun _ _ _ h => h) (Or.inl ⟨by rfl, ?_⟩) h0 ?_
                rotate_left
                focus (intro w' hSw; have dq' : w'.cell? ⟨Q, 0, none⟩ = some (.slice (some ⟨b2, o2, none⟩) m cs) := blk_cell (l := [_]) hSw.1 0 rfl; go_simp; (try with_reducible rfl))
                (try simp only [List.getElem_toArray, List.getElem_cons_succ, List.getElem_cons_zero, Act.put, List.setIfInBounds_toArray, List.set_cons_zero, List.set_cons_succ])
                refine wpAnyH_take (i := 5) (v := ?_) rfl (by kernel_rfl) (by kernel_rfl) (by kernel_rfl) (fun _ _ _ h => h) (Or.inl ⟨by rfl, ?_⟩) h0 ?_
                rotate_left
                focus (intro w' hSw; skip; go_simp; (try with_reducible rfl))
                (try simp only [List.getElem_toArray, List.getElem_cons_succ, List.getElem_cons_zero, Act.put, List.setIfInBounds_toArray, List.set_cons_zero, List.set_cons_succ])
                refine wpAnyH_take (i := 6) (v := .bool false) rfl (by kernel_rfl) (by kernel_rfl) (by kernel_rfl) (fun _ _ _ h => h) (Or.inl ⟨by rfl, ?_⟩) h0 ?_
                focus (intro w' hSw; go_simp; (try simp only [decide_eq_false k0, decide_eq_false km3, Bool.not_true]); (try with_reducible rfl); (try simp); done)
                (try simp only [List.getElem_toArray, List.getElem_cons_succ, List.getElem_cons_zero, Act.put, List.setIfInBounds_toArray, List.set_cons_zero, List.set_cons_succ])
                refine wpAnyH_take (i := 7) (v := ?_) rfl (by kernel_rfl) (by kernel_rfl) (by kernel_rfl) (fun _ _ _ h => h) (Or.inl ⟨by rfl, ?_⟩) h0 ?_
                rotate_left
                focus (intro w' hSw; skip; go_simp; (try with_reducible rfl))
                (try simp only [List.getElem_toArray, List.getElem_cons_succ, List.getElem_cons_zero, Act.put, List.setIfInBounds_toArray, List.set_cons_zero, List.set_cons_succ])
                refine wpAnyH_take (i := 8) (v := ?_) rfl (by kernel_rfl) (by kernel_rfl) (by kernel_rfl) (fun _ _ _ h => h) (Or.inl ⟨by rfl, ?_⟩) h0 ?_
                rotate_left
                focus (intro w' hSw; skip; go_simp; (try with_reducible rfl))
                (try simp only [List.getElem_toArray, List.getElem_cons_succ, List.getElem_cons_zero, Act.put, List.setIfInBounds_toArray, List.set_cons_zero, List.set_cons_succ])
                refine wpAnyH_take (i := 9) (v := ?_) rfl (by kernel_rfl) (by kernel_rfl) (by kernel_rfl) (fun _ _ _ h => h) (Or.inl ⟨by rfl, ?_⟩) h0 ?_
                rotate_left
                focus (intro w' hSw; skip; go_simp; (try with_reducible rfl))
                (try simp only [List.getElem_toArray, List.getElem_cons_succ, List.getElem_cons_zero, Act.put, List.setIfInBounds_toArray, List.set_cons_zero, List.set_cons_succ])
                refine wpAnyH_take (i := 10) (v := ?_) rfl (by kernel_rfl) (by kernel_rfl) (by kernel_rfl) (fun _ _ _ h => h) (Or.inl ⟨by rfl, ?_⟩) h0 ?_
                rotate_left
                focus (intro w' hSw; have dx' : w'.cell? ⟨Bx, 1, none⟩ = some (.int .i64 a) := hSw.2.2.2.1; go_simp; (try with_reducible rfl))
                (try simp only [List.getElem_toArray, List.getElem_cons_succ, List.getElem_cons_zero, Act.put, List.setIfInBounds_toArray, List.set_cons_zero, List.set_cons_succ])
                refine wpAnyH_take (i := 11) (v := ?_) rfl (by kernel_rfl) (by kernel_rfl) (by kernel_rfl) (fun _ _ _ h => h) (Or.inl ⟨by rfl, ?_⟩) h0 ?_
                rotate_left
                focus (intro w' hSw; have da' : w'.cell? ⟨bp, 0, none⟩ = some (.int .i64 a) := blk_cell (l := [_]) hSw.2.2.1 0 rfl; go_simp; (try with_reducible rfl))
                (try simp only [List.getElem_toArray, List.getElem_cons_succ, List.getElem_cons_zero, Act.put, List.setIfInBounds_toArray, List.set_cons_zero, List.set_cons_succ])
                refine wpAnyH_take (i := 12) (v := .bool false) rfl (by kernel_rfl) (by kernel_rfl) (by kernel_rfl) (fun _ _ _ h => h) (Or.inl ⟨by rfl, ?_⟩) h0 ?_
                focus (intro w' hSw; go_simp; (try simp only [decide_eq_false k0, decide_eq_false km3, Bool.not_true]); (try with_reducible rfl); (try simp); done)
                (try simp only [List.getElem_toArray, List.getElem_cons_succ, List.getElem_cons_zero, Act.put, List.setIfInBounds_toArray, List.set_cons_zero, List.set_cons_succ])
                refine wpAnyH_take (i := 13) (v := ?_) rfl (by kernel_rfl) (by kernel_rfl) (by kernel_rfl) (fun _ _ _ h => h) (Or.inl ⟨by rfl, ?_⟩) h0 ?_
                rotate_left
                focus (intro w' hSw; skip; go_simp; (try with_reducible rfl))
                (try simp only [List.getElem_toArray, List.getElem_cons_succ, List.getElem_cons_zero, Act.put, List.setIfInBounds_toArray, List.set_cons_zero, List.set_cons_succ])
                refine wpAnyH_take (i := 14) (v := ?_) rfl (by kernel_rfl) (by kernel_rfl) (by kernel_rfl) (fun _ _ _ h => h) (Or.inl ⟨by rfl, ?_⟩) h0 ?_
                rotate_left
                focus (intro w' hSw; skip; go_simp; (try with_reducible rfl))
                (try simp only [List.getElem_toArray, List.getElem_cons_succ, List.getElem_cons_zero, Act.put, List.setIfInBounds_toArray, List.set_cons_zero, List.set_cons_succ])
                refine wpAnyH_take (i := 15) (v := .agg C) rfl (by kernel_rfl) (by kernel_rfl) (by kernel_rfl) (fun _ _ _ h => h) (yields_load_row (by rfl) 32 _ rfl Bx rfl 32 _ (0, 0) _ (fun w' hS => hS.2.1) Try.underlying32 rfl (by rw [hCs]; kernel_rfl)) h0 ?_
                (try simp only [List.getElem_toArray, List.getElem_cons_succ, List.getElem_cons_zero, Act.put, List.setIfInBounds_toArray, List.set_cons_zero, List.set_cons_succ])
                refine wpAnyH_take (i := 16) (v := ?_) rfl (by kernel_rfl) (by kernel_rfl) (by kernel_rfl) (fun _ _ _ h => h) (Or.inl ⟨by rfl, ?_⟩) h0 ?_
                rotate_left
                focus (intro w' hSw; have dq' : w'.cell? ⟨Q, 0, none⟩ = some (.slice (some ⟨b2, o2, none⟩) m cs) := blk_cell (l := [_]) hSw.1 0 rfl; go_simp; (try with_reducible rfl))
                (try simp only [List.getElem_toArray, List.getElem_cons_succ, List.getElem_cons_zero, Act.put, List.setIfInBounds_toArray, List.set_cons_zero, List.set_cons_succ])
                refine wpAnyH_take (i := 17) (v := ?_) rfl (by kernel_rfl) (by kernel_rfl) (by kernel_rfl) (fun _ _ _ h => h) (Or.inl ⟨by rfl, ?_⟩) h0 ?_
                rotate_left
                focus (intro w' hSw; skip; go_simp; (try with_reducible rfl))
                (try simp only [List.getElem_toArray, List.getElem_cons_succ, List.getElem_cons_zero, Act.put, List.setIfInBounds_toArray, List.set_cons_zero, List.set_cons_succ])
                refine wpAnyH_take (i := 18) (v := ?_) rfl (by kernel_rfl) (by kernel_rfl) (by kernel_rfl) (fun _ _ _ h => h) (Or.inl ⟨by rfl, ?_⟩) h0 ?_
                rotate_left
                focus (intro w' hSw; skip; go_simp; (try with_reducible rfl))
                (try simp only [List.getElem_toArray, List.getElem_cons_succ, List.getElem_cons_zero, Act.put, List.setIfInBounds_toArray, List.set_cons_zero, List.set_cons_succ])
                refine wpAnyH_take (i := 19) (v := .agg y.cells.toArray) rfl (by kernel_rfl) (by kernel_rfl) (by kernel_rfl) (fun _ _ _ h => h) (yields_load_at (by rfl) 32 _ rfl b2 (o2 + k * 13) rfl _ _ (fun w' hS => hS.2.2.2.2) Try.underlying32 rfl (by rw [Lg.RV.len]; kernel_rfl)) h0 ?_
                (try simp only [List.getElem_toArray, List.getElem_cons_succ, List.getElem_cons_zero, Act.put, List.setIfInBounds_toArray, List.set_cons_zero, List.set_cons_succ])
                refine wpAnyH_ready (rs := [20]) (by kernel_rfl) (by simp) ?_
                refine AllReadyH.cons rfl (fun K hK => ?_) AllReadyH.nil
                go_simp
                refine (SM.out _ (Below.refl _ V).drew).mono ?_
                rintro e w5 ⟨rfl, hb5⟩
                go_wp2_with fail
                refine hK.out _ _ ?_ (fun h1 => ?_)
                · exact ⟨(hb5.block Q (lt_of_block qV)).trans qV, (hb5.block Bx (lt_of_block hbx)).trans hbx, (hb5.block bp (lt_of_block hbp)).trans hbp, (hb5.cell (p := ⟨Bx, 1, none⟩) (lt_of_block hbx)).trans d1, fun j u hj => (hb5.cell (p := ⟨b2, o2 + k * 13 + j, none⟩) hb2l).trans (HY.out j u hj)⟩
                clear hK K
                (try simp only [List.getElem_toArray, List.getElem_cons_succ, List.getElem_cons_zero, Act.put, List.setIfInBounds_toArray, List.set_cons_zero, List.set_cons_succ])
                refine wpAnyH_take (i := 21) (v := ?_) rfl (by kernel_rfl) (by kernel_rfl) (by kernel_rfl) (fun _ _ _ h => h) (Or.inl ⟨by rfl, ?_⟩) h1 ?_
                rotate_left
                focus (intro w' hSw; skip; go_simp; (try with_reducible rfl))
                (try simp only [List.getElem_toArray, List.getElem_cons_succ, List.getElem_cons_zero, Act.put, List.setIfInBounds_toArray, List.set_cons_zero, List.set_cons_succ])
                refine wpAnyH_take (i := 22) (v := ?_) rfl (by kernel_rfl) (by kernel_rfl) (by kernel_rfl) (fun _ _ _ h => h) (Or.inl ⟨by rfl, ?_⟩) h1 ?_
                rotate_left
                focus (intro w' hSw; skip; go_simp; (try with_reducible rfl))
                (try simp only [List.getElem_toArray, List.getElem_cons_succ, List.getElem_cons_zero, Act.put, List.setIfInBounds_toArray, List.set_cons_zero, List.set_cons_succ])
                refine wpAnyH_done (by kernel_rfl) ?_ _
                have bV5 : Below V.heap.size V w5 := (Below.refl _ V).drew.trans hb5
                have hg5 := blk_below hg bV5 (lt_of_block hg)
                have hf5 := blk_below hy2 bV5 (lt_of_block hy2)
                have ha5 := blk_below hbp bV5 (lt_of_block hbp)
                have hmk5 := hmk.below bV5
                have hB5 : Below G wc w5 := hBn.trans (bV5.mono (by omega))
                have cG5 := blk_cell (l := [_]) hg5 0 rfl
                have fG5 := blk_free hg5 0
                have HKF := Lib.hid (keepsFrom_below (B := wc.heap.size) bV5)
                have HKQ := Lib.hid (Lg.KpQ.of_below (n0 := G) (q := f2) bV5 (by omega) (by omega))
                clear hb5 h0 h1 qV hbx d1 hg
                gi_wp2
                have hTG : Ty w5 G 3 := ⟨_, hg5⟩
                have f2G : f2 ≠ G := by omega
                have bpG : bp ≠ G := by omega
                refine ⟨HKF.out.trans (kf_setCell (by show G < wc.heap.size; exact hGc)), HKQ.out.trans ⟨(Below.refl _ w5).setCell (p := ⟨G, 0, none⟩) (Nat.le_refl _) _, ?_, fun i cs' e => ?_⟩, hB5.setCell (p := ⟨G, 0, none⟩) (Nat.le_refl _) _, blk_far hf5 f2G _, ?_, blk_far ha5 bpG _, hmk5.setCell hg5 _ _⟩
                · exact (blk_far hf5 f2G _).trans hf5.symm
                · have ht : Ty w5 i 124 := ⟨_, e⟩
                  exact blk_far e (ht.ne hTG (by decide)) _
                · have hz' : z + 1 = (((Lg.many (Lg.xs vs) vs.length a : Nat) + (pre ++ [x]).length : Nat) : Int) := by rw [HZ.out, List.length_append, List.length_singleton]; omega
                  rw [← hz']
                  exact blk_set hg5 0 (.int .i64 (z + 1))
              case done =>
                rintro D ys V hD hys ⟨hBn, hy2, hg, hbp, hmk⟩ hDf
                have hzn : ((Lg.many (Lg.xs vs) vs.length a + ys.length : Nat) : Int) = (Lg.many (Lg.xs vs) vs.length (a + 1) : Nat) := by rw [hys, Lg.many]
                rw [hzn] at hg
                have HDf := Lib.hid hDf
                have wa : IntKind.i64.wrap ((a : Int) + 1) = (a : Int) + 1 := IntWalk.i64_in _ (by omega)
                have cB := blk_cell (l := [_]) hbp 0 rfl
                have hbV : Below G w2 V := bG4.trans hBn
                have hzV := hBn.size
                have MKn := Lib.hid (show Marks (G + 1) V V.heap.size ({ target := .collected D, args := #[] } :: ds) from ⟨D, rfl, by omega, (Array.getElem?_eq_some_iff.1 hDf).1, hDf, hmk.le hD⟩)
                clear hDf hys hzn hmk hseq y1 y2 yB MK4 gA4 gG4 hy2
                go_wp2_with fail
                have kA : Below V.heap.size V (V.alloc (.cells #[.int .i64 ((a : Int) + 1)] 3)) := (Below.refl _ V).alloc (Nat.le_refl _) _
                have gN := heap_new V (.cells #[.int .i64 ((a : Int) + 1)] 3)
                have ea : ((a : Int) + 1) = ((a + 1 : Nat) : Int) := by omega
                refine ⟨?_, ?measure⟩
                (repeat apply Exists.intro)
                refine ⟨?rel, rfl⟩
                case rel => exact ⟨a + 1, V.heap.size, rfl, by omega, by omega, by rw [← ea]; exact gN, blk_alloc hg _, hbV.trans (kA.mono (by omega)), (MKn.out.below kA).le kA.size⟩
                case measure =>
                  have c1 := blk_cell (l := [_]) gN 0 rfl
                  have b1 := boxInt_is c1
                  have c2 := blk_cell (l := [_]) gA 0 rfl
                  have b2 := boxInt_is c2
                  show 65 - boxInt _ (.pointer (some ⟨V.heap.size, 0, none⟩)) < 65 - boxInt _ (.pointer (some ⟨bp, 0, none⟩))
                  rw [b1, b2]
                  omega
          · obtain rfl : a = 65 := by omega
            have ka : ¬ ((65 : Nat) : Int) ≤ 64 := by omega
            have hm65 : Lg.many (Lg.xs vs) vs.length 65 = m := by
              have := Lg.good_many GD.out
              rw [Lg.xs_len] at this
              rw [this, HM.out]
            rw [hm65] at gG
            have qQ := QV.out wr bG
            have rR := RV.out wr bG
            have cG := blk_cell (l := [_]) gG 0 rfl
            have cQ := blk_cell (l := [_]) qQ 0 rfl
            have HMK := Lib.hid MK
            have hzr := lt_of_block rR
            have BR := Lib.hid (B2.out.trans (bG.mono hrG))
            clear OF hm65 hMZ hMY MK
            go_upto_region 41 with fail
            have hg1 := G1.out
            obtain ⟨k, rfl⟩ : ∃ k : Nat, a1 = (k : Int) := ⟨a1.toNat, by omega⟩
            have kw : IntKind.i64.wrap (k : Int) = (k : Int) := IntWalk.i64_in _ (by omega)
            have kk0 : (0 : Int) ≤ (k : Int) := by omega
            clear cA gA fA hg1
            by_cases hkm : k < m
            · have SNV := SV.out wr bG
              obtain ⟨g, o, cur, hS, hgb, hgs, hg, hnc, hcm, hoc, hcur, hcell, hfr⟩ := SNV.row.some_ (by omega)
              have hsl : ss.length = m := SNV.rr.len
              have CU := Lg.Cu.of_row (base := B) hg hsl hnc hoc hcur
              obtain ⟨y, hy⟩ : ∃ y, y = ss.getD k Lg.rv0 := ⟨_, rfl⟩
              obtain ⟨s, hs⟩ : ∃ s, s = y.x.sum := ⟨_, rfl⟩
              have c12 : wr.cell? ⟨g, o + k * 13 + 12, none⟩ = some (.int .u32 s) := CU.cell (i := k) (by omega) 12 _ (by rw [← hy, hs]; rfl)
              have f12 := hfr (o + k * 13 + 12)
              rw [hS] at cQ qQ
              have km : (k : Int) < (m : Int) := by omega
              have km2 : ¬ (m : Int) ≤ (k : Int) := by omega
              by_cases hse : s = a2
              · have hz := (show (s == a2) = true by simp [hse])
                clear hy hs hse hsl CU hcur hcell hfr hS hg hoc
                go_wp2_with fail
                refine (known_true _).mono ?_
                rintro _ w5 ⟨rfl, hb5⟩
                have r5 := blk_below rR hb5 (lt_of_block rR)
                have c5 := blk_cell (l := [_]) r5 0 rfl
                have f5 := blk_free r5 0
                have m5 := (HMK.out.below hb5).setCell r5 0 (.bool true)
                have B5 := (BR.out.trans (hb5.mono BR.out.size)).setCell (p := ⟨w.heap.size, 0, none⟩) (Nat.le_refl _) (.bool true)
                go_wp2_with fail
                exact leaves_marks ds _ _ m5 (fun V' hbV hc => ⟨_, results_c1 rfl _ _ w.heap.size (.bool true) _ rfl (blk_cell (l := [_]) (hc _ _ _ _ (blk_set r5 0 _)) 0 rfl) Try.underlying4 rfl, rfl, B5.trans (hbV.mono (by omega))⟩)
              · have hz := (show (s == a2) = false by simp [hse])
                obtain ⟨y', hy'⟩ : ∃ y' : Lg.RV, y' = ⟨{ y.x with sum := a2 }, y.A, y.cap⟩ := ⟨_, rfl⟩
                have CU2 := Lib.hid (CU.setc (i := k) (j := 12) (v := .int .u32 a2) (y := y') (by omega) (by omega) (by rw [← hy, hy']; rfl))
                have hym : y ∈ ss := by rw [hy, List.getD, List.getElem?_eq_getElem (by omega)]; exact List.getElem_mem _
                have hyx : y.x = (Lg.xs vs).getD k Lg.r0 := by rw [hy, ← Lg.xs_at (by omega), XS.out]
                have hkv : k < (Lg.xs vs).length := by rw [Lg.xs_len, HM.out]; exact hkm
                have HLD := Lib.hid (show (Lg.ld [] (Lg.xs (ss.set k y'))).2 = (k, 400) by
                  rw [Lg.xs_set, XS.out, hy']
                  show (Lg.ld [] ((Lg.xs vs).set k { y.x with sum := a2 })).2 = _
                  rw [hyx]
                  exact Lg.ld_set GD.out hkv (by rw [← hyx, ← hs]; exact hse))
                have hTQ : Ty wr Q 40 := ⟨_, qQ⟩
                have hTr : Ty wr w.heap.size 4 := ⟨_, rR⟩
                have hTg : Ty wr g 32 := ⟨_, hg⟩
                have W2q := blk_far (a := ⟨g, o + k * 13 + 12, none⟩) qQ (hTQ.ne hTg (by decide)) (.int .u32 a2)
                have W2r := blk_far (a := ⟨g, o + k * 13 + 12, none⟩) rR (hTr.ne hTg (by decide)) (.int .u32 a2)
                have W2m := Lib.hid (HMK.out.setCell hg (o + k * 13 + 12) (.int .u32 a2))
                have W2b := Lib.hid (BR.out.setCell (p := ⟨g, o + k * 13 + 12, none⟩) (by show w.heap.size ≤ g; omega) (.int .u32 a2))
                have KW := (Keeps.refl (fun i => i = g) wr).setCell (p := ⟨g, o + k * 13 + 12, none⟩) (.inl rfl) (.int .u32 a2)
                have DTm : ∀ z ∈ ss.set k y', Lg.Dt (wr.setCell ⟨g, o + k * 13 + 12, none⟩ (.int .u32 a2)) (fun _ => True) z := fun z hzm => by
                  have hd : ∀ z ∈ ss, Lg.Dt (wr.setCell ⟨g, o + k * 13 + 12, none⟩ (.int .u32 a2)) (fun _ => True) z := fun z hzm => (SNV.dat z hzm).keep KW (fun i _ ht hh => ht.ne hTg (by decide) hh)
                  rcases List.mem_or_eq_of_mem_set hzm with h | h
                  · exact hd z h
                  · rw [h, hy']
                    exact hd y hym
                have GDl : ∀ z ∈ ss.set k y', z.x.f.d.length ≤ 1000 := fun z hzm => by
                  have hd : ∀ z ∈ ss, z.x.f.d.length ≤ 1000 := fun z hzm => Lg.good_rd (vs := ss) (by rw [XS.out]; exact GD.out) z hzm
                  rcases List.mem_or_eq_of_mem_set hzm with h | h
                  · exact hd z h
                  · rw [h, hy']
                    exact hd y hym
                have hrow : Row (wr.setCell ⟨g, o + k * 13 + 12, none⟩ (.int .u32 a2)) B 32 13 (some ⟨g, o, none⟩) m cs (Lg.cs (ss.set k y')) := by
                  have h1 := CU2.out.row (base := B) (k := m) hgb hcm (by rw [List.length_set]; omega)
                  rwa [List.take_of_length_le (by rw [List.length_set]; omega)] at h1
                have LD := Lib.hid (show Calls Try.prog 15 #[.slice (some ⟨g, o, none⟩) m cs] (wr.setCell ⟨g, o + k * 13 + 12, none⟩ (.int .u32 a2)) (fun e w' => e = .returned (.tuple #[.pointer none, .int .i64 (k : Nat), .int .i64 400]) ∧ Below (wr.setCell ⟨g, o + k * 13 + 12, none⟩ (.int .u32 a2)).heap.size (wr.setCell ⟨g, o + k * 13 + 12, none⟩ (.int .u32 a2)) w') by
                  refine (lload_any (some ⟨g, o, none⟩) m cs (ss.set k y') _ (by omega) ⟨Rds.of_row hrow, fun z hzm => (DTm z hzm).ok⟩ GDl).mono ?_
                  rintro e w' ⟨hb, hp⟩
                  rw [HLD.out] at hp
                  rcases hp with ⟨_, h⟩ | ⟨h, _⟩
                  · exact ⟨h, hb⟩
                  · cases h)
                clear hy hs hse hsl CU hcur hcell hfr hS hg hoc hy' CU2 hym hyx hkv HLD KW DTm GDl hrow hTQ hTr hTg SNV
                go_upto_region 45 with fail
                generalize hW5 : World.setCell _ _ _ = W5 at *
                have cQ5 := blk_cell (l := [_]) W2q 0 rfl
                clear hW5 cQ qQ cG c12 f12
                go_wp2_with fail
                refine LD.out.mono ?_
                rintro _ w6 ⟨rfl, hb6⟩
                have r6 := blk_below W2r hb6 (lt_of_block W2r)
                have m6 := Lib.hid (W2m.out.below hb6)
                have B6 := Lib.hid (W2b.out.trans (hb6.mono W2b.out.size))
                have h400 : ((400 : Int) == 400) = true := rfl
                have hkk : ((k : Int) == (k : Int)) = true := by simp
                clear LD hb6 cQ5
                go_wp2_with fail
                refine (known_true _).mono ?_
                rintro _ w5 ⟨rfl, hb5⟩
                have r5 := blk_below r6 hb5 (lt_of_block r6)
                have c5 := blk_cell (l := [_]) r5 0 rfl
                have f5 := blk_free r5 0
                have m5 := (m6.out.below hb5).setCell r5 0 (.bool true)
                have B5 := (B6.out.trans (hb5.mono B6.out.size)).setCell (p := ⟨w.heap.size, 0, none⟩) (Nat.le_refl _) (.bool true)
                go_wp2_with fail
                exact leaves_marks ds _ _ m5 (fun V' hbV hc => ⟨_, results_c1 rfl _ _ w.heap.size (.bool true) _ rfl (blk_cell (l := [_]) (hc _ _ _ _ (blk_set r5 0 _)) 0 rfl) Try.underlying4 rfl, rfl, B5.trans (hbV.mono (by omega))⟩)
            · have km2 : (m : Int) ≤ (k : Int) := by omega
              go_wp2_with fail
              refine (known_true _).mono ?_
              rintro _ w5 ⟨rfl, hb5⟩
              have r5 := blk_below rR hb5 (lt_of_block rR)
              have c5 := blk_cell (l := [_]) r5 0 rfl
              have f5 := blk_free r5 0
              have m5 := (HMK.out.below hb5).setCell r5 0 (.bool true)
              have B5 := (BR.out.trans (hb5.mono BR.out.size)).setCell (p := ⟨w.heap.size, 0, none⟩) (Nat.le_refl _) (.bool true)
              go_wp2_with fail
              exact leaves_marks ds _ _ m5 (fun V' hbV hc => ⟨_, results_c1 rfl _ _ w.heap.size (.bool true) _ rfl (blk_cell (l := [_]) (hc _ _ _ _ (blk_set r5 0 _)) 0 rfl) Try.underlying4 rfl, rfl, B5.trans (hbV.mono (by omega))⟩)
theorem walk (a0 : Option Addr) (len0 cap0 : Nat) (l0 : List AV) (a1 : Int) (a2 : Int) (w : World) (w0 : Ra w w.heap.size a0 len0 l0) (r0 : Room a0 len0 cap0) (f0 : ∀ y ∈ l0, GaOk y.x) (w1 : (Lit.int .u8 a1).wf = true) (w2 : (Lit.int .u32 a2).wf = true) :
    Calls Try.prog 10 #[.slice a0 len0 cap0, .int .u8 a1, .int .u32 a2] w fun e w' => e = .returned (.bool true) ∧ Below w.heap.size w w' := by
  cases hc : fewB l0 30
  · exact walk_no a0 len0 cap0 l0 a1 a2 w w0 r0 f0 w1 w2 hc
  · exact walk_yes a0 len0 cap0 l0 a1 a2 w w0 r0 f0 w1 w2 hc
theorem own : ownKnob Try.prog.godebug = none := by kernel_rfl
theorem laidOut : laidOutB Try.prog = true := by kernel_rfl
set_option maxRecDepth 100000 in
theorem lifted (os : Os) (started : os.Started) (H : Type) (enc : TypeId × Value → H) :
    ReturnsInHanded {} Try.checked os 10 .any (Rows.flightlogHoldsSpec.pre6 enc Try.prog Try.f10 Rows.flightlogHoldsRow.domain false) (Rows.flightlogHoldsSpec.post enc Try.prog Try.f10 false true false false) := by
  refine returnsInHanded_of_change (C := Try.checked) own started (by kernel_rfl) Try.func10
    (ChangeSpec.witness6 (enc := enc) (C := Try.checked) false ⟨#[], #[.slice none 0 0, .int .u8 0, .int .u32 0], []⟩ 8 (by kernel_rfl) (by kernel_rfl) (by kernel_rfl) (by kernel_rfl)) ?_
  intro W base args ds gs before hval0 hW hcnd _
  have hval : ∀ (j : Nat) t v, Try.f10.params[j]? = some t → args[j]? = some v → Value.okWide Try.prog W .any base t v := hval0
  have hW' := hW
  obtain ⟨p, q, hA0, hV, rfl, hfz, hnd⟩ := hW
  have hA : DataW.TrodAll enc Try.prog W 0 (fun _ => true) true Try.f10.params.toList args.toList ds p := hA0
  rw [Try.params10] at hA hval
  obtain ⟨v0, vs0, d0, ds0, p0, q0, hargs, rfl, rfl, h0, r0⟩ := trodAll_cons hA
  obtain ⟨v1, vs1, d1, ds1, p1, q1, rfl, rfl, rfl, h1, r1⟩ := trodAll_cons r0
  obtain ⟨v2, vs2, d2, ds2, p2, q2, rfl, rfl, rfl, h2, r2⟩ := trodAll_cons r1
  obtain ⟨rfl, rfl, rfl⟩ := trodAll_nil r2
  obtain rfl : args = #[v0, v1, v2] := by cases args; simp_all
  obtain ⟨rfl, rfl⟩ := trodVars_none hV
  have k0 := h0
  have lt0 : ∀ x ∈ p0, x.block < W.heap.size := by obtain ⟨m, hm⟩ := k0; exact DataW.trod_lt m _ _ _ hm
  obtain ⟨a0, len0, cap0, rfl⟩ := okWide_slice Try.underlying78 (hval 0 78 v0 rfl rfl)
  obtain ⟨fuel0, hf0⟩ := h0
  obtain ⟨xa0, xlen0, xcap0, l0, xe0, ro0, wo0, fo0⟩ := gacts_of hf0
  obtain ⟨rfl, rfl, rfl⟩ : a0 = xa0 ∧ len0 = xlen0 ∧ cap0 = xcap0 := by injection xe0 with e1 e2 e3; exact ⟨e1, e2, e3⟩
  have k1 := h1
  have lt1 : ∀ x ∈ p1, x.block < W.heap.size := by obtain ⟨m, hm⟩ := k1; exact DataW.trod_lt m _ _ _ hm
  obtain ⟨a1, rfl, _, _, w1⟩ := open_int Try.underlying5 (hval 1 5 v1 rfl rfl) h1
  have k2 := h2
  have lt2 : ∀ x ∈ p2, x.block < W.heap.size := by obtain ⟨m, hm⟩ := k2; exact DataW.trod_lt m _ _ _ hm
  obtain ⟨a2, rfl, _, _, w2⟩ := open_int Try.underlying22 (hval 2 22 v2 rfl rfl) h2
  clear hA0 hval0
  refine (walk a0 len0 cap0 l0 a1 a2 W wo0 ro0 fo0 w1 w2).mono fun e W' ⟨he, bel⟩ => ?_
  subst he
  exact ⟨_, rfl, _, _, _, [], _, [], hW', trodAll_mk1 (shut_bool Try.underlying4 _), (trodAll_cons_mk (Below.trod laidOut (by kernel_rfl) (of_decide_eq_true (by kernel_rfl)) k0 bel lt0) (trodAll_cons_mk (Below.trod laidOut (by kernel_rfl) (of_decide_eq_true (by kernel_rfl)) k1 bel lt1) (trodAll_cons_mk (Below.trod laidOut (by kernel_rfl) (of_decide_eq_true (by kernel_rfl)) k2 bel lt2) trodAll_mk0))), rfl, bel.frame _, fun h => by cases h⟩
theorem over : Rows.flightlogHoldsRow.holds Try.pinned (OpenSpec.ofChange Rows.flightlogHoldsSpec) :=
  OpenClaim.holds_of_wide 10 Try.f10 rfl rfl rfl rfl rfl rfl rfl ⟨rfl, rfl, rfl, rfl, rfl⟩ rfl rfl rfl rfl rfl (by kernel_rfl) Try.func10 (by kernel_rfl)
    (of_decide_eq_true (by kernel_rfl)) (by unfold Func.isWrapper; first | (rw [if_pos (by decide +kernel)]; kernel_rfl) | (rw [if_neg (by decide +kernel)]; exact ⟨rfl, rfl⟩))
    (fun os started H enc _ => lifted os started H enc)
theorem proved : Rows.FlightlogHoldsSaid := over
end Go.Proofs.Ytgmejplcdecmkaa.lawFlightlogHolds

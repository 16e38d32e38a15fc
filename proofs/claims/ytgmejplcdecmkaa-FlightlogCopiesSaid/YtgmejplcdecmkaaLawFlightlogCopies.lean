/- The law of a log's copies holds: 'skylanternlaw39.FlightlogCopies' returns true at every input. No conditions. -/
import Derived.Test.YtgmejplcdecmkaaLgCo
namespace Go.Proofs.Ytgmejplcdecmkaa.lawFlightlogCopies
open Go.ChangeShapes Go.WideShapes Go.ChangeAt Go.RowKit Go.Joins
set_option linter.unusedVariables false
set_option linter.unusedSimpArgs false
attribute [local go_sem ↓] Go.wp_at_zero Go.wp_at_succ
set_option maxHeartbeats 8000000
set_option maxRecDepth 100000
theorem walk_no (a0 : Option Addr) (len0 cap0 : Nat) (l0 : List AV) (a1 : Option Addr) (len1 cap1 : Nat) (l1 : List AV) (a2 : Option Addr) (len2 cap2 : Nat) (l2 : List AV) (w : World) (w0 : Ra w w.heap.size a0 len0 l0) (r0 : Room a0 len0 cap0) (f0 : ∀ y ∈ l0, GaOk y.x) (w1 : Ra w w.heap.size a1 len1 l1) (r1 : Room a1 len1 cap1) (f1 : ∀ y ∈ l1, GaOk y.x) (w2 : Ra w w.heap.size a2 len2 l2) (r2 : Room a2 len2 cap2) (f2 : ∀ y ∈ l2, GaOk y.x) (hno : fewB l0 20 = false ∨ (fewB l0 20 = true ∧ (fewB l1 8 = false ∨ (fewB l1 8 = true ∧ fewB l2 8 = false)))) :
    Calls Try.prog 9 #[.slice a0 len0 cap0, .slice a1 len1 cap1, .slice a2 len2 cap2] w fun e w' => e = .returned (.bool true) ∧ Below w.heap.size w w' := by
  have F1 := Lib.hid (few_all a0 len0 cap0 20 w.heap.size l0 w w0 (room_len r0) (by omega))
  have F2 := Lib.hid (few_all a1 len1 cap1 8 w.heap.size l1 w w1 (room_len r1) (by omega))
  have F3 := Lib.hid (few_all a2 len2 cap2 8 w.heap.size l2 w w2 (room_len r2) (by omega))
  clear w0 r0 f0 w1 r1 f1 w2 r2 f2
  rcases hno with h | ⟨h, h' | ⟨h', h''⟩⟩
  · rw [h] at F1
    clear h
    go_enter Try.func9, Try.ntmps9
    go_wp2_with fail
    refine F1.out.mono ?_
    rintro _ _ ⟨rfl, rfl⟩
    go_wp2_with fail
    refine (known_true _).mono ?_
    rintro _ w1 ⟨rfl, hb1⟩
    go_wp2_with fail
    go_ret
    exact ⟨rfl, hb1⟩
  · rw [h] at F1
    rw [h'] at F2
    clear h h'
    go_enter Try.func9, Try.ntmps9
    go_wp2_with fail
    refine F1.out.mono ?_
    rintro _ _ ⟨rfl, rfl⟩
    go_wp2_with fail
    refine F2.out.mono ?_
    rintro _ _ ⟨rfl, rfl⟩
    go_wp2_with fail
    refine (known_true _).mono ?_
    rintro _ w1 ⟨rfl, hb1⟩
    go_wp2_with fail
    go_ret
    exact ⟨rfl, hb1⟩
  · rw [h] at F1
    rw [h'] at F2
    rw [h''] at F3
    clear h h' h''
    go_enter Try.func9, Try.ntmps9
    go_wp2_with fail
    refine F1.out.mono ?_
    rintro _ _ ⟨rfl, rfl⟩
    go_wp2_with fail
    refine F2.out.mono ?_
    rintro _ _ ⟨rfl, rfl⟩
    go_wp2_with fail
    refine F3.out.mono ?_
    rintro _ _ ⟨rfl, rfl⟩
    go_wp2_with fail
    refine (known_true _).mono ?_
    rintro _ w1 ⟨rfl, hb1⟩
    go_wp2_with fail
    go_ret
    exact ⟨rfl, hb1⟩
theorem walk_yes (a0 : Option Addr) (len0 cap0 : Nat) (l0 : List AV) (a1 : Option Addr) (len1 cap1 : Nat) (l1 : List AV) (a2 : Option Addr) (len2 cap2 : Nat) (l2 : List AV) (w : World) (w0 : Ra w w.heap.size a0 len0 l0) (r0 : Room a0 len0 cap0) (f0 : ∀ y ∈ l0, GaOk y.x) (w1 : Ra w w.heap.size a1 len1 l1) (r1 : Room a1 len1 cap1) (f1 : ∀ y ∈ l1, GaOk y.x) (w2 : Ra w w.heap.size a2 len2 l2) (r2 : Room a2 len2 cap2) (f2 : ∀ y ∈ l2, GaOk y.x) (hf0 : fewB l0 20 = true) (hf1 : fewB l1 8 = true) (hf2 : fewB l2 8 = true) :
    Calls Try.prog 9 #[.slice a0 len0 cap0, .slice a1 len1 cap1, .slice a2 len2 cap2] w fun e w' => e = .returned (.bool true) ∧ Below w.heap.size w w' := by
  have F1 := Lib.hid (few_all a0 len0 cap0 20 w.heap.size l0 w w0 (room_len r0) (by omega))
  have F2 := Lib.hid (few_all a1 len1 cap1 8 w.heap.size l1 w w1 (room_len r1) (by omega))
  have F3 := Lib.hid (few_all a2 len2 cap2 8 w.heap.size l2 w w2 (room_len r2) (by omega))
  rw [hf0] at F1
  rw [hf1] at F2
  rw [hf2] at F3
  have g0 := few_yes hf0
  have g1 := few_yes hf1
  have g2 := few_yes hf2
  have hn1 : len1 ≤ 8 := by rw [← w1.1]; exact g1.1
  have hn2 : len2 ≤ 8 := by rw [← w2.1]; exact g2.1
  have MD := Lib.hid (made_any a0 len0 cap0 l0 w w0 (by rw [← w0.1]; have := g0.1; omega) (fun y hy => by have := g0.2 y hy; omega))
  have HD1 := Lib.hid (fun (i : Nat) (hi : i < len1) => g1.2 (l1.getD i av0) (by rw [List.getD, List.getElem?_eq_getElem (by rw [w1.1]; exact hi)]; exact List.getElem_mem _))
  have HD2 := Lib.hid (fun (i : Nat) (hi : i < len2) => g2.2 (l2.getD i av0) (by rw [List.getD, List.getElem?_eq_getElem (by rw [w2.1]; exact hi)]; exact List.getElem_mem _))
  have H1 := Lib.hid w1
  have H2 := Lib.hid w2
  clear w0 r0 f0 w1 r1 f1 w2 r2 f2 hf0 hf1 hf2 g0 g1 g2
  go_enter Try.func9, Try.ntmps9
  go_wp2_with fail
  refine F1.out.mono ?_
  rintro _ _ ⟨rfl, rfl⟩
  go_wp2_with fail
  refine F2.out.mono ?_
  rintro _ _ ⟨rfl, rfl⟩
  go_wp2_with fail
  refine F3.out.mono ?_
  rintro _ _ ⟨rfl, rfl⟩
  clear F1 F2 F3
  go_wp2_with fail
  refine MD.out.mono ?_
  rintro _ wa ⟨p, A0, c0, vs0, X0, B2, b2, us0, XJ, rfl, hlj, _, hb1⟩
  clear MD
  have CP := Lib.hid (lcopy_any hlj.lg (Lg.good_vs hlj.good))
  have LJ := Lib.hid hlj
  clear hlj
  go_wp2_with fail
  refine CP.out.mono ?_
  rintro _ wb ⟨p', A', c', rfl, hlg, hb2⟩
  have HP := Lib.hid (Lg.Pr2.copy LJ.out hb1.size hb2 hlg)
  have HB2 := hb1.trans (hb2.mono hb1.size)
  have S1 := Lib.hid (show Calls Try.prog 26 #[.pointer (some ⟨p', 0, none⟩), .pointer (some ⟨p, 0, none⟩)] wb (fun e w' => e = .returned (.bool true) ∧ Below wb.heap.size wb w') by
    have := lsame_any HP.out.y.lg HP.out.x.lg (Lg.good_vs LJ.out.good) (Lg.good_vs LJ.out.good)
    rw [Lg.sameRs_iff.2 rfl] at this
    exact this)
  clear CP hlg hb1 hb2
  go_wp2_with fail
  refine S1.out.mono ?_
  rintro _ wd ⟨rfl, hb3⟩
  have HB3 := HB2.trans (hb3.mono HB2.size)
  have HP3 := Lib.hid (HP.out.below hb3)
  have S2 := Lib.hid (show Calls Try.prog 26 #[.pointer (some ⟨p, 0, none⟩), .pointer (some ⟨p', 0, none⟩)] wd (fun e w' => e = .returned (.bool true) ∧ Below wd.heap.size wd w') by
    have := lsame_any HP3.out.x.lg HP3.out.y.lg (Lg.good_vs LJ.out.good) (Lg.good_vs LJ.out.good)
    rw [Lg.sameRs_iff.2 rfl] at this
    exact this)
  clear S1 hb3 HP HB2
  go_wp2_with fail
  refine S2.out.mono ?_
  rintro _ we ⟨rfl, hb4⟩
  have HB4 := HB3.trans (hb4.mono HB3.size)
  have HP4 := Lib.hid (HP3.out.below hb4)
  clear S2 hb4 HP3 HB3 LJ
  obtain ⟨XJ0, hXJ0⟩ : ∃ XJ0 : Nat → Prop, XJ0 = fun i => XJ i ∧ i < wa.heap.size := ⟨_, rfl⟩
  have HP6 : Hid (Lg.Pr2 we w.heap.size p A0 c0 vs0 X0 B2 us0 XJ0 p' A' c' vs0 X0 B2 us0 XJ0) := by rw [hXJ0]; exact HP4
  clear HP4 hXJ0
  go_wp2_with fail
  go_loopw [8, 12] (fun s8 s12 wr => ∃ (i : Nat) (A : Option Addr) (c : Nat) (vs : List Lg.RV) (X : Nat → Prop) (A2 : Option Addr) (c2 : Nat) (us : List Lg.RV) (XJ XJ' : Nat → Prop), s8 = .slice A2 us.length c2 ∧ s12 = .int .i64 i ∧ i ≤ len1 ∧ Hid (Lg.Pr2 wr w.heap.size p A c vs X A2 us XJ p' A' c' vs0 X0 B2 us0 XJ') ∧ Below w.heap.size w wr) (fun _ s12 _ => len1 - (intOf s12).toNat)
  case atStart => exact ⟨0, A0, c0, vs0, X0, B2, b2, us0, XJ0, XJ0, rfl, by go_num, by omega, HP6, HB4⟩
  case round =>
      clear HP6 HB4
      obtain ⟨i, A, c, vs, X, A2, c2, us, XJ, XJ', rfl, rfl, hi, HP, hB⟩ := hrel
      have hzr := hB.size
      by_cases hlt : i < len1
      · have ik : (i : Int) < (len1 : Int) := by omega
        obtain ⟨b, o, rfl, hbl, hcl⟩ := (H1.out.below hB (Nat.le_refl _)).2.1 (by omega)
        have hcl := hcl i hlt
        have hok := (H1.out.below hB (Nat.le_refl _)).ok hlt
        have hdl := HD1.out i hlt
        generalize l1.getD i av0 = v at hcl hok hdl
        have AC := Lib.hid (act_any (c2 := c2) HP.out.x hzr v hok (by omega))
        have HC := Lib.hid hcl
        clear hcl hok hdl
        obtain ⟨C, hC⟩ : ∃ C : List Value, C = v.cells := ⟨_, rfl⟩
        have hCl : C.length = 12 := by rw [hC]; rfl
        have hval : v.val = .agg C.toArray := by rw [hC]; rfl
        rw [← hC] at HC
        rw [hval] at AC
        clear hC hval
        go_wp2_with (refine wpList_load_at rfl 83 (.tmp 68) rfl b (o + i * 12) rfl C _ HC.out Try.underlying83 rfl (by rw [hCl]; kernel_rfl) ?_)
        refine AC.out.mono ?_
        rintro _ w8 ⟨An, cn, vsn, Xn, A2n, c2n, usn, XJn, rfl, hlj, _, hk, hA, _, _, hJ⟩
        have HB8 : Below w.heap.size w w8 := hB.trans (hk.below (fun i _ hh => (HP.out.x.lg.two_lt hh).1) hzr)
        have HPn := Lib.hid (HP.out.step hlj hk hA hJ)
        clear hlj hk hA hJ AC HC
        go_wp2_with fail
        go_roundw
        case rel => exact ⟨i + 1, An, cn, vsn, Xn, A2n, c2n, usn, XJn, _, rfl, by go_num, by omega, HPn, HB8⟩
        case measure => simp [intOf]; omega
      · obtain rfl : i = len1 := by omega
        have ik : ¬ ((i : Int) < (i : Int)) := by omega
        obtain ⟨n1, hn1'⟩ : ∃ n1, n1 = us.length := ⟨_, rfl⟩
        have HN1 := Lib.hid hn1'
        rw [← hn1']
        clear hn1'
        go_wp2_with fail
        go_loopw [11, 15] (fun s11 s15 wr => ∃ (i : Nat) (A' : Option Addr) (c' : Nat) (vs' : List Lg.RV) (X' : Nat → Prop) (A2' : Option Addr) (c2' : Nat) (us' : List Lg.RV) (XJ XJ' : Nat → Prop), s11 = .slice A2' us'.length c2' ∧ s15 = .int .i64 i ∧ i ≤ len2 ∧ Hid (Lg.Pr2 wr w.heap.size p A c vs X A2 us XJ p' A' c' vs' X' A2' us' XJ') ∧ Below w.heap.size w wr) (fun _ s15 _ => len2 - (intOf s15).toNat)
        case atStart => exact ⟨0, A', c', vs0, X0, B2, b2, us0, XJ, XJ', rfl, by go_num, by omega, HP, hB⟩
        case round =>
          clear HP hB
          obtain ⟨i, A', c', vs', X', A2', c2', us', XJ, XJ', rfl, rfl, hi, HP, hB⟩ := hrel
          have hzr := hB.size
          by_cases hlt : i < len2
          · have ik : (i : Int) < (len2 : Int) := by omega
            obtain ⟨b, o, rfl, hbl, hcl⟩ := (H2.out.below hB (Nat.le_refl _)).2.1 (by omega)
            have hcl := hcl i hlt
            have hok := (H2.out.below hB (Nat.le_refl _)).ok hlt
            have hdl := HD2.out i hlt
            generalize l2.getD i av0 = v at hcl hok hdl
            have AC := Lib.hid (act_any (c2 := c2') HP.out.y hzr v hok (by omega))
            have HC := Lib.hid hcl
            clear hcl hok hdl
            obtain ⟨C, hC⟩ : ∃ C : List Value, C = v.cells := ⟨_, rfl⟩
            have hCl : C.length = 12 := by rw [hC]; rfl
            have hval : v.val = .agg C.toArray := by rw [hC]; rfl
            rw [← hC] at HC
            rw [hval] at AC
            clear hC hval
            go_wp2_with (refine wpList_load_at rfl 83 (.tmp 87) rfl b (o + i * 12) rfl C _ HC.out Try.underlying83 rfl (by rw [hCl]; kernel_rfl) ?_)
            refine AC.out.mono ?_
            rintro _ w8 ⟨An, cn, vsn, Xn, A2n, c2n, usn, XJn, rfl, hlj, _, hk, hA, _, _, hJ⟩
            have HB8 : Below w.heap.size w w8 := hB.trans (hk.below (fun i _ hh => (HP.out.y.lg.two_lt hh).1) hzr)
            have HPn := Lib.hid (HP.out.symm.step hlj hk hA hJ).symm
            clear hlj hk hA hJ AC HC
            go_wp2_with fail
            go_roundw
            case rel => exact ⟨i + 1, An, cn, vsn, Xn, A2n, c2n, usn, _, XJn, rfl, by go_num, by omega, HPn, HB8⟩
            case measure => simp [intOf]; omega
          · obtain rfl : i = len2 := by omega
            have ik : ¬ ((i : Int) < (i : Int)) := by omega
            obtain ⟨n2, hn2'⟩ : ∃ n2, n2 = us'.length := ⟨_, rfl⟩
            have HN2 := Lib.hid hn2'
            rw [← hn2']
            clear hn2'
            obtain ⟨S, hS⟩ : ∃ S, S = Lg.sameRs (Lg.xs vs) (Lg.xs vs') := ⟨_, rfl⟩
            have HS := Lib.hid hS
            clear hS
            have SX := Lib.hid (fun (c2 : Nat) (W : World) (hW : Below wr.heap.size wr W) => (HN1.out ▸ shows_yes (c2 := c2) (HP.out.below hW).x.lg (HP.out.below hW).x.j.rr HP.out.x.eq (Lg.good_vs HP.out.x.good) (Lg.good_rd HP.out.x.good) : Calls Try.prog 18 #[.pointer (some ⟨p, 0, none⟩), .slice A2 n1 c2] W fun e w' => e = .returned (.bool true) ∧ Below W.heap.size W w'))
            have SY := Lib.hid (fun (c2 : Nat) (W : World) (hW : Below wr.heap.size wr W) => (HN2.out ▸ shows_yes (c2 := c2) (HP.out.below hW).y.lg (HP.out.below hW).y.j.rr HP.out.y.eq (Lg.good_vs HP.out.y.good) (Lg.good_rd HP.out.y.good) : Calls Try.prog 18 #[.pointer (some ⟨p', 0, none⟩), .slice A2' n2 c2] W fun e w' => e = .returned (.bool true) ∧ Below W.heap.size W w'))
            have SM := Lib.hid (fun (W : World) (hW : Below wr.heap.size wr W) => (HS.out ▸ lsame_any (HP.out.below hW).x.lg (HP.out.below hW).y.lg (Lg.good_vs HP.out.x.good) (Lg.good_vs HP.out.y.good) : Calls Try.prog 26 #[.pointer (some ⟨p, 0, none⟩), .pointer (some ⟨p', 0, none⟩)] W fun e w' => e = .returned (.bool S) ∧ Below W.heap.size W w'))
            have SN := Lib.hid (show ∀ (W : World) (hW : Below wr.heap.size wr W), Calls Try.prog 26 #[.pointer (some ⟨p', 0, none⟩), .pointer (some ⟨p, 0, none⟩)] W (fun e w' => e = .returned (.bool S) ∧ Below W.heap.size W w') from fun W hW => by
              have := lsame_any (HP.out.below hW).y.lg (HP.out.below hW).x.lg (Lg.good_vs HP.out.y.good) (Lg.good_vs HP.out.x.good)
              rw [Lg.sameRs_comm, ← HS.out] at this
              exact this)
            have SR := Lib.hid (show ∀ (c2 c3 : Nat) (W : World) (hW : Below wr.heap.size wr W), Calls Try.prog 17 #[.slice A2 n1 c2, .slice A2' n2 c3] W (fun e w' => e = .returned (.bool S) ∧ Below W.heap.size W w') from fun c2 c3 W hW => by
              have := rsameall_any A2 A2' us.length us'.length c2 c3 us us' W (Lg.good_vs (vs := us) (by rw [HP.out.x.eq]; exact HP.out.x.good)) (Lg.good_vs (vs := us') (by rw [HP.out.y.eq]; exact HP.out.y.good)) (HP.out.below hW).x.j.rr (HP.out.below hW).y.j.rr
              rw [HP.out.x.eq, HP.out.y.eq, ← HS.out, ← HN1.out, ← HN2.out] at this
              exact this)
            go_wp2_with fail
            refine (SX.out _ _ (Below.refl _ _)).mono ?_
            rintro _ w9 ⟨rfl, hb9⟩
            go_wp2_with fail
            refine (SY.out _ _ hb9).mono ?_
            rintro _ w10 ⟨rfl, hb⟩
            have hb10 := hb9.trans (hb.mono hb9.size)
            clear hb hb9
            go_wp2_with fail
            refine (SM.out _ hb10).mono ?_
            rintro _ w11 ⟨rfl, hb⟩
            have hb11 := hb10.trans (hb.mono hb10.size)
            clear hb hb10
            go_wp2_with fail
            refine (SR.out _ _ _ hb11).mono ?_
            rintro _ w12 ⟨rfl, hb⟩
            have hb12 := hb11.trans (hb.mono hb11.size)
            clear hb hb11
            go_wp2_with fail
            refine (SN.out _ hb12).mono ?_
            rintro _ w13 ⟨rfl, hb⟩
            have hb13 := hb12.trans (hb.mono hb12.size)
            clear hb hb12
            go_wp2_with fail
            refine (SR.out _ _ _ hb13).mono ?_
            rintro _ w14 ⟨rfl, hb⟩
            have hb14 := hb13.trans (hb.mono hb13.size)
            clear hb hb13
            go_wp2_with fail
            refine (known_true _).mono ?_
            rintro _ w15 ⟨rfl, hb⟩
            have hb15 := hb14.trans (hb.mono hb14.size)
            have BZ := hB.trans (hb15.mono hzr)
            go_wp2_with fail
            go_ret
            exact ⟨rfl, BZ⟩
theorem walk (a0 : Option Addr) (len0 cap0 : Nat) (l0 : List AV) (a1 : Option Addr) (len1 cap1 : Nat) (l1 : List AV) (a2 : Option Addr) (len2 cap2 : Nat) (l2 : List AV) (w : World) (w0 : Ra w w.heap.size a0 len0 l0) (r0 : Room a0 len0 cap0) (f0 : ∀ y ∈ l0, GaOk y.x) (w1 : Ra w w.heap.size a1 len1 l1) (r1 : Room a1 len1 cap1) (f1 : ∀ y ∈ l1, GaOk y.x) (w2 : Ra w w.heap.size a2 len2 l2) (r2 : Room a2 len2 cap2) (f2 : ∀ y ∈ l2, GaOk y.x) :
    Calls Try.prog 9 #[.slice a0 len0 cap0, .slice a1 len1 cap1, .slice a2 len2 cap2] w fun e w' => e = .returned (.bool true) ∧ Below w.heap.size w w' := by
  cases h0 : fewB l0 20
  · exact walk_no a0 len0 cap0 l0 a1 len1 cap1 l1 a2 len2 cap2 l2 w w0 r0 f0 w1 r1 f1 w2 r2 f2 (.inl h0)
  · cases h1 : fewB l1 8
    · exact walk_no a0 len0 cap0 l0 a1 len1 cap1 l1 a2 len2 cap2 l2 w w0 r0 f0 w1 r1 f1 w2 r2 f2 (.inr ⟨h0, .inl h1⟩)
    · cases h2 : fewB l2 8
      · exact walk_no a0 len0 cap0 l0 a1 len1 cap1 l1 a2 len2 cap2 l2 w w0 r0 f0 w1 r1 f1 w2 r2 f2 (.inr ⟨h0, .inr ⟨h1, h2⟩⟩)
      · exact walk_yes a0 len0 cap0 l0 a1 len1 cap1 l1 a2 len2 cap2 l2 w w0 r0 f0 w1 r1 f1 w2 r2 f2 h0 h1 h2
theorem own : ownKnob Try.prog.godebug = none := by kernel_rfl
theorem laidOut : laidOutB Try.prog = true := by kernel_rfl
set_option maxRecDepth 100000 in
theorem lifted (os : Os) (started : os.Started) (H : Type) (enc : TypeId × Value → H) :
    ReturnsInHanded {} Try.checked os 9 .any (Rows.flightlogCopiesSpec.pre6 enc Try.prog Try.f9 Rows.flightlogCopiesRow.domain false) (Rows.flightlogCopiesSpec.post enc Try.prog Try.f9 false true false false) := by
  refine returnsInHanded_of_change (C := Try.checked) own started (by kernel_rfl) Try.func9
    (ChangeSpec.witness6 (enc := enc) (C := Try.checked) false ⟨#[], #[.slice none 0 0, .slice none 0 0, .slice none 0 0], []⟩ 8 (by kernel_rfl) (by kernel_rfl) (by kernel_rfl) (by kernel_rfl)) ?_
  intro W base args ds gs before hval0 hW hcnd _
  have hval : ∀ (j : Nat) t v, Try.f9.params[j]? = some t → args[j]? = some v → Value.okWide Try.prog W .any base t v := hval0
  have hW' := hW
  obtain ⟨p, q, hA0, hV, rfl, hfz, hnd⟩ := hW
  have hA : DataW.TrodAll enc Try.prog W 0 (fun _ => true) true Try.f9.params.toList args.toList ds p := hA0
  rw [Try.params9] at hA hval
  obtain ⟨v0, vs0, d0, ds0, p0, q0, hargs, rfl, rfl, h0, r0⟩ := trodAll_cons hA
  obtain ⟨v1, vs1, d1, ds1, p1, q1, rfl, rfl, rfl, h1, r1⟩ := trodAll_cons r0
  obtain ⟨v2, vs2, d2, ds2, p2, q2, rfl, rfl, rfl, h2, r2⟩ := trodAll_cons r1
  obtain ⟨rfl, rfl, rfl⟩ := trodAll_nil r2
  obtain rfl : args = #[v0, v1, v2] := by cases args; simp_all
  obtain ⟨rfl, rfl⟩ := trodVars_none hV
  have k0 := h0
  have lt0 : ∀ x ∈ p0, x.block < W.heap.size := by obtain ⟨m, hm⟩ := k0; exact DataW.trod_lt m _ _ _ hm
  obtain ⟨a0, len0, cap0, rfl⟩ := okWide_slice Try.underlying78 (hval 0 78 v0 rfl rfl)
  obtain ⟨fuel0, hf0⟩ := h0
  obtain ⟨xa0, xlen0, xcap0, l0, xe0, ro0, wo0, fo0⟩ := gacts_of hf0
  obtain ⟨rfl, rfl, rfl⟩ : a0 = xa0 ∧ len0 = xlen0 ∧ cap0 = xcap0 := by injection xe0 with e1 e2 e3; exact ⟨e1, e2, e3⟩
  have k1 := h1
  have lt1 : ∀ x ∈ p1, x.block < W.heap.size := by obtain ⟨m, hm⟩ := k1; exact DataW.trod_lt m _ _ _ hm
  obtain ⟨a1, len1, cap1, rfl⟩ := okWide_slice Try.underlying78 (hval 1 78 v1 rfl rfl)
  obtain ⟨fuel1, hf1⟩ := h1
  obtain ⟨xa1, xlen1, xcap1, l1, xe1, ro1, wo1, fo1⟩ := gacts_of hf1
  obtain ⟨rfl, rfl, rfl⟩ : a1 = xa1 ∧ len1 = xlen1 ∧ cap1 = xcap1 := by injection xe1 with e1 e2 e3; exact ⟨e1, e2, e3⟩
  have k2 := h2
  have lt2 : ∀ x ∈ p2, x.block < W.heap.size := by obtain ⟨m, hm⟩ := k2; exact DataW.trod_lt m _ _ _ hm
  obtain ⟨a2, len2, cap2, rfl⟩ := okWide_slice Try.underlying78 (hval 2 78 v2 rfl rfl)
  obtain ⟨fuel2, hf2⟩ := h2
  obtain ⟨xa2, xlen2, xcap2, l2, xe2, ro2, wo2, fo2⟩ := gacts_of hf2
  obtain ⟨rfl, rfl, rfl⟩ : a2 = xa2 ∧ len2 = xlen2 ∧ cap2 = xcap2 := by injection xe2 with e1 e2 e3; exact ⟨e1, e2, e3⟩
  clear hA0 hval0
  refine (walk a0 len0 cap0 l0 a1 len1 cap1 l1 a2 len2 cap2 l2 W wo0 ro0 fo0 wo1 ro1 fo1 wo2 ro2 fo2).mono fun e W' ⟨he, bel⟩ => ?_
  subst he
  exact ⟨_, rfl, _, _, _, [], _, [], hW', trodAll_mk1 (shut_bool Try.underlying4 _), (trodAll_cons_mk (Below.trod laidOut (by kernel_rfl) (of_decide_eq_true (by kernel_rfl)) k0 bel lt0) (trodAll_cons_mk (Below.trod laidOut (by kernel_rfl) (of_decide_eq_true (by kernel_rfl)) k1 bel lt1) (trodAll_cons_mk (Below.trod laidOut (by kernel_rfl) (of_decide_eq_true (by kernel_rfl)) k2 bel lt2) trodAll_mk0))), rfl, bel.frame _, fun h => by cases h⟩
theorem over : Rows.flightlogCopiesRow.holds Try.pinned (OpenSpec.ofChange Rows.flightlogCopiesSpec) :=
  OpenClaim.holds_of_wide 9 Try.f9 rfl rfl rfl rfl rfl rfl rfl ⟨rfl, rfl, rfl, rfl, rfl⟩ rfl rfl rfl rfl rfl (by kernel_rfl) Try.func9 (by kernel_rfl)
    (of_decide_eq_true (by kernel_rfl)) (by unfold Func.isWrapper; first | (rw [if_pos (by decide +kernel)]; kernel_rfl) | (rw [if_neg (by decide +kernel)]; exact ⟨rfl, rfl⟩))
    (fun os started H enc _ => lifted os started H enc)
theorem proved : Rows.FlightlogCopiesSaid := over
end Go.Proofs.Ytgmejplcdecmkaa.lawFlightlogCopies

/- The law of the links with very many messages holds: 'skylanternlaw35.LinkFulls' returns true at every input. No conditions. -/
import Derived.Test.YtgdpoiapkaahfaaLkE
import Derived.Test.YtgdpoiapkaahfaaLkM
import Derived.Test.YtgdpoiapkaahfaaLinkF2
import Derived.Test.YtgdpoiapkaahfaaArg
namespace Go.Proofs.Ytgdpoiapkaahfaa.lawLinkFulls
open Go.ChangeShapes Go.WideShapes Go.ChangeAt Go.RowKit Go.Joins
set_option linter.unusedVariables false
set_option linter.unusedSimpArgs false
attribute [local go_sem ↓] Go.wp_at_zero Go.wp_at_succ
set_option maxHeartbeats 8000000
set_option maxRecDepth 100000
theorem walk_no (a0 : Int) (a1 : Bool) (w : World) (h0 : ¬ 0 ≤ a0) :
    Calls Try.prog 5 #[.int .i64 a0, .bool a1] w fun e w' => e = .returned (.bool true) ∧ Below w.heap.size w w' := by
  have M := Lib.hid (fun W : World => made_no (Lnk.fRu a0 a1) W (Lnk.vld_fn a1 h0))
  simp only [rul, rlv, rll, Lnk.fRu, Lnk.fTw] at M
  clear h0
  cases a1
  all_goals
    simp only [if_true, if_false, Bool.false_eq_true] at M
    go_enter Try.func5, Try.ntmps5
    go_wp2_with fail
    refine (M.out _).mono ?_
    rintro e w4 ⟨rfl, hb4⟩
    have hz4 := hb4.size; try simp at hz4
    go_wp2_with fail
    refine (known_true _).mono ?_
    rintro e w3 ⟨rfl, hb3⟩
    have hz3 := hb3.size; try simp at hz3
    go_wp2_with fail
    go_ret
    exact ⟨rfl, (by repeat (first | (with_reducible exact Below.refl _ _) | (with_reducible refine Below.drew ?_) | (with_reducible refine below_drewN ?_ _) | ((with_reducible refine Below.alloc ?_ ?_ _); rotate_left; (first | omega | (simp <;> omega)); rotate_right) | ((with_reducible refine Below.setCell ?_ ?_ _); rotate_left; (first | omega | (simp <;> omega)); rotate_right) | (with_reducible assumption) | (refine Below.trans ?_ (Below.mono (by assumption) ?_); rotate_left; (first | omega | (simp <;> omega)); rotate_right)))⟩
theorem rd_one (w : World) (q : Nat) (hq : q = w.heap.size) (x : Int) (hx : 0 ≤ x ∧ x < 256) : Rd (w.alloc (.cells #[.int .u8 x] 5)) (w.alloc (.cells #[.int .u8 x] 5)).heap.size (some ⟨q, 0, none⟩) 1 [x] := by
  subst hq
  exact Rd.of_block (l := [x]) (heap_new _ _) (by simp) (by intro y hy; simp at hy; omega)
theorem walk_yes (a0 : Int) (a1 : Bool) (w : World) (h0 : 0 ≤ a0) (hse : a0 ≤ 9223372036854775807) :
    Calls Try.prog 5 #[.int .i64 a0, .bool a1] w fun e w' => e = .returned (.bool true) ∧ Below w.heap.size w w' := by
  obtain ⟨r, hr⟩ : ∃ r, r = Lnk.fRu a0 a1 := ⟨_, rfl⟩
  have M := Lib.hid (show ∀ W : World, Calls Try.prog 9 #[.agg #[.int .i64 0, .int .i64 (Lnk.fTw a1), .int .i64 10, .int .i64 10, .int .i64 a0]] W fun e w' => ∃ b, e = .returned (.tuple #[.pointer (some ⟨b, 0, none⟩), .agg #[.int .i64 0, .int .i64 (Lnk.fTw a1), .int .i64 10, .int .i64 10, .int .i64 a0, .int .u64 a0, .int .i64 0, .slice none 0 0, .int .i64 0, .int .i64 0, .int .i64 0], .bool true]) ∧ Hid (IsLk w' W.heap.size b none 0 r (Lnk.new r)) ∧ Below W.heap.size W w' from fun W => (made_yes (Lnk.fRu a0 a1) W (Lnk.vld_f a1 h0) hse).mono (fun e w' ⟨b, h1, h2, h3⟩ => ⟨b, h1, Lib.hid (by rw [hr]; exact h2), h3⟩))
  simp only [Lnk.fTw] at M
  have HV := Lib.hid (show Lnk.vld r = true by rw [hr]; exact Lnk.vld_f a1 h0)
  obtain ⟨N, hN⟩ : ∃ N, N = Lnk.wantN a1 := ⟨_, rfl⟩
  obtain ⟨P, hP⟩ : ∃ P, P = Lnk.FB a1 := ⟨_, rfl⟩
  obtain ⟨C, hC⟩ : ∃ C, C = Lnk.fCnt a1 (Lnk.wantN a1) := ⟨_, rfl⟩
  have HF0 := Lib.hid (show P 0 (Lnk.new r) by rw [hP, hr]; exact Lnk.fb_new a1 h0 hse)
  have HST := Lib.hid (show ∀ (k : Nat) (s : Lnk.St), P k s → k < N → ∀ b : List Int, b.length = 1 → By b → Lnk.sendE s ((k : Int) / 100) 1 = 0 ∧ P (k + 1) (Lnk.send r s ((k : Int) / 100) b) ∧ s.sent < 1000000000 from fun k s h hk b hb hB => by rw [hP] at h ⊢; rw [hN] at hk; rw [hr]; exact h.step a0 h0 hk b hb hB)
  have HFU := Lib.hid (show ∀ s, P N s → Lnk.sendE s ((N : Int) / 100) 1 = 7 ∧ Lnk.sendE s 9 1 = 7 ∧ s.u.length = C ∧ Lnk.recvE s 100 = 0 ∧ (Lnk.got s 100).length = C ∧ (Lnk.recv s 100).u = [] ∧ Lnk.sendE (Lnk.recv s 100) 100 1 = 0 ∧ Lnk.Inv (Lnk.recv s 100) ∧ (Lnk.recv s 100).sent < 1000000000 ∧ s.sent < 1000000000 from fun s h => by rw [hP, hN] at h; rw [hC, hN]; exact h.full)
  have HLE := Lib.hid (show ∀ k s, P k s → k ≤ N from fun k s h => by rw [hN]; rw [hP] at h; exact h.le)
  have HIN := Lib.hid (show ∀ k s, P k s → Lnk.Inv s from fun k s h => by rw [hP] at h; exact h.inv)
  have HU0 := Lib.hid (show (Lnk.new r).u.length = 0 from rfl)
  rw [Lnk.fCnt_want] at hC
  unfold Lnk.wantN at hN
  have hN9 : N ≤ 999 := by rw [hN]; split <;> omega
  clear hP hse hr h0
  generalize hs0 : Lnk.new r = s0 at *
  clear hs0
  cases a1
  all_goals
    simp only [if_true, if_false, Bool.false_eq_true] at M hN hC
    have HN := Lib.hid hN
    have HC := Lib.hid hC
    clear hN hC
    go_enter Try.func5, Try.ntmps5
    go_wp2_with fail
    refine (M.out _).mono ?_
    rintro e w4 ⟨b, rfl, hl4, hb4⟩
    have hz4 := hb4.size; try simp at hz4
    simp only [World.size_alloc] at hl4
    have k4 := blk_below (q := w.heap.size) (heap_new _ _) hb4 (by first | omega | (simp; done) | (simp; omega))
    have HB4 := Lib.hid (show Below w.heap.size w w4 from (by repeat (first | (with_reducible exact Below.refl _ _) | (with_reducible refine Below.drew ?_) | (with_reducible refine below_drewN ?_ _) | ((with_reducible refine Below.alloc ?_ ?_ _); rotate_left; (first | omega | (simp <;> omega)); rotate_right) | ((with_reducible refine Below.setCell ?_ ?_ _); rotate_left; (first | omega | (simp <;> omega)); rotate_right) | (with_reducible assumption) | (refine Below.trans ?_ (Below.mono (by assumption) ?_); rotate_left; (first | omega | (simp <;> omega)); rotate_right))))
    clear hb4
    go_wp2_with fail
    generalize hV : World.alloc _ _ = V
    have HK0 := Lib.hid (show V.heap[w.heap.size]? = w4.heap[w.heap.size]? by rw [← hV]; exact Below.heap_alloc _ _ _ (by omega))
    have kR := (congrArg (fun W : World => W.heap[w4.heap.size]?) hV).symm.trans (heap_new _ _)
    have hBV0 : Below w4.heap.size w4 V := by rw [← hV]; exact (Below.refl _ _).alloc (Nat.le_refl _) _
    clear hV
    have hlt := lt_of_block kR
    have hbl := hl4.out.two
    have HLV := Lib.hid (hl4.out.below hBV0 (Nat.le_refl _))
    have HBV := Lib.hid (show Below w.heap.size w V from HB4.out.trans (hBV0.mono (by omega)))
    have HBR := Lib.hid (show ∀ i, Two b none i → i ≠ w4.heap.size from fun i hi h => by have := hbl i hi; omega)
    have hR : w.heap.size + 1 ≤ w4.heap.size := by omega
    have hRV : w4.heap.size < V.heap.size := hlt
    obtain ⟨R, hReq⟩ : ∃ R, R = w4.heap.size := ⟨_, rfl⟩
    rw [← hReq] at kR hR HBR hRV ⊢
    have KR := Lib.hid kR
    have K4 := Lib.hid (HK0.out.trans k4)
    clear hBV0 hbl hReq hl4 HB4 hlt kR k4 HK0 hz4
    go_loopw [9, 10] (fun m i wr => ∃ (k : Nat) (s : Lnk.St) (A : Option Addr) (c : Nat), m = .int .i64 k ∧ i = .int .i64 k ∧ k ≤ N ∧ Hid (P k s) ∧ Hid (IsLk wr (w.heap.size + 1) b A c r s) ∧ Hid (Keeps (fun j => w.heap.size + 1 ≤ j ∧ j ≠ R) V wr) ∧ Hid (∀ j, Two b A j → j ≠ R)) (fun _ i _ => 1001 - (intOf i).toNat)
    case atStart =>
      exact ⟨0, s0, none, 0, by go_num, by go_num, by omega, HF0, HLV, Lib.hid (Keeps.refl _ _), HBR⟩
    case round =>
      obtain ⟨k, s, A, c, rfl, rfl, hk, HP, HL, HK, HTR⟩ := hrel
      have hzr := HK.out.size
      have hbl := HL.out.lt
      have hbg := HL.out.ge
      have hTG := Lib.hid HL.out.two_ge
      have hTL := Lib.hid HL.out.two
      clear HLV HBR HF0
      by_cases hkN : k < N
      · have SD := Lib.hid (show ∀ (W : World) (D : Option Addr) (cap : Nat) (d : List Int), Below wr.heap.size wr W → Rd W W.heap.size D 1 d → (∀ a, D = some a → wr.heap.size ≤ a.block) → Calls Try.prog 16 #[.pointer (some ⟨b, 0, none⟩), .int .i64 ((k : Int) / 100), .slice D 1 cap] W fun e w' => ∃ s' A1 c1, e = .returned (.int .i64 0) ∧ Hid (P (k + 1) s') ∧ Hid (IsLk w' (w.heap.size + 1) b A1 c1 r s') ∧ Hid (Keeps (Two b A) W w') ∧ Hid (blkOf A1 = blkOf A ∨ ∃ g, blkOf A1 = some g ∧ W.heap.size ≤ g) from fun W D cap d hW hd hD => by
          obtain ⟨q1, q2, q3⟩ := HST.out k s HP.out hkN d hd.1 hd.2.1
          have hz := hW.size
          refine (send_any (w.heap.size + 1) b c A r s ((k : Int) / 100) D 1 cap d W (HL.out.below hW (Nat.le_refl _)) HV.out (HIN.out k s HP.out) q3 (by omega) (by omega) hd (fun a ha ht => by have := hD a ha; have := hTL.out _ ht; omega)).mono ?_
          rintro e w' ⟨rfl, A1, c1, h1, h2, h3⟩
          rw [q1]
          exact ⟨_, A1, c1, rfl, Lib.hid q2, Lib.hid h1, Lib.hid h2, Lib.hid h3⟩)
        have hk1001 : (k : Int) < 1001 := by omega
        go_wp2_with fail
        refine (SD.out _ _ _ [_] ((Below.refl _ _).alloc (Nat.le_refl _) _) (rd_one wr _ rfl _ (by omega)) (fun a ha => by injection ha with ha; subst ha; exact Nat.le_refl _)).mono ?_
        rintro e w5 ⟨s', A1, c1, rfl, hp5, hl5, hk5, hat5⟩
        have HK5 := Lib.hid ((HK.out.alloc _).trans hk5.out (fun i hi h => ⟨hTG.out i h, HTR.out i h⟩))
        have HT5 := Lib.hid (show ∀ j, Two b A1 j → j ≠ R from fun j hj hjR => by
          refine HTR.out j (two_new (b := b) (n := wr.heap.size) ?_ j (by omega) hj) hjR
          exact hat5.out.imp id (fun ⟨g, h, hg⟩ => ⟨g, h, by simp at hg; omega⟩))
        clear hk5 hat5
        go_wp2_with fail
        go_roundw
        case rel => exact ⟨k + 1, s', A1, c1, by go_num, by go_num, by omega, hp5, hl5, HK5, HT5⟩
        case measure => simp [intOf]; omega
      · obtain rfl : k = N := by omega
        obtain ⟨f1, f2, f3, f4, f5, f6, f7, f8, f9, f10⟩ := HFU.out s HP.out
        have S7 := Lib.hid (show ∀ (W : World) (now : Int) (D : Option Addr) (cap : Nat) (d : List Int), Lnk.sendE s now 1 = 7 → Below wr.heap.size wr W → Rd W W.heap.size D 1 d → (∀ a, D = some a → wr.heap.size ≤ a.block) → Calls Try.prog 16 #[.pointer (some ⟨b, 0, none⟩), .int .i64 now, .slice D 1 cap] W fun e w' => e = .returned (.int .i64 7) ∧ W = w' from fun W now D cap d hE hW hd hD => by
          refine (send_no (w.heap.size + 1) b c A r s now D 1 cap W (HL.out.below hW (Nat.le_refl _)) (by omega) (by rw [hE]; omega)).mono ?_
          rintro e w' ⟨rfl, rfl⟩
          exact ⟨by rw [hE], rfl⟩)
        have F1 := Lib.hid f1
        have F2 := Lib.hid f2
        clear f1 f2
        obtain rfl := HN.out
        obtain rfl := HC.out
        have cR := blk_cell (blk_keep KR.out HK.out (fun h => h.2 rfl)) 6 rfl
        have hRr : R < wr.heap.size := by omega
        have hRn : R ≠ wr.heap.size := by omega
        have hRm : R ≠ wr.heap.size + 1 := by omega
        have WY := Lib.hid (show ∀ W : World, Below wr.heap.size wr W → Calls Try.prog 17 #[.pointer (some ⟨b, 0, none⟩)] W fun e w' => e = .returned (.int .i64 (s.u.length : Nat)) ∧ W = w' from fun W hW => lway_any (w.heap.size + 1) b c A r s W (HL.out.below hW (Nat.le_refl _)))
        rw [f3] at WY
        go_wp2_with fail
        refine (S7.out _ _ _ _ [_] (by simpa using F1.out) ((Below.refl _ _).alloc (Nat.le_refl _) _) (rd_one wr _ rfl _ (by omega)) (fun a ha => by injection ha with ha; subst ha; exact Nat.le_refl _)).mono ?_
        rintro e w5 ⟨rfl, rfl⟩
        go_wp2_with fail
        refine (S7.out _ _ _ _ [_] F2.out (((Below.refl _ _).alloc (Nat.le_refl _) _).alloc (by simp) _) (rd_one _ _ (by simp) _ (by omega)) (fun a ha => by injection ha with ha; subst ha; exact Nat.le_succ _)).mono ?_
        rintro e w5 ⟨rfl, rfl⟩
        go_wp2_with fail
        refine (WY.out _ (((Below.refl _ _).alloc (Nat.le_refl _) _).alloc (by simp) _)).mono ?_
        rintro e w5 ⟨rfl, rfl⟩
        go_wp2_with fail
        generalize hW6 : World.alloc _ _ = W6
        have hBW6 : Below wr.heap.size wr W6 := by rw [← hW6]; exact ((Below.refl _ _).alloc (Nat.le_refl _) _).alloc (by simp) _
        clear hW6
        have hz6 := hBW6.size
        refine (recv_yes (w.heap.size + 1) b c A r s 100 W6 (HL.out.below hBW6 (Nat.le_refl _)) (HIN.out _ s HP.out) (by omega) f4).mono ?_
        rintro e w7 ⟨oA, n, oc, rfl, hrb, A1, c1, hl7, hk7, hat7⟩
        have hn := hrb.len
        rw [List.length_map, f5] at hn
        subst hn
        have cT := blk_cell (blk_keep (blk_below (blk_keep K4.out HK.out (fun h => by omega)) hBW6 (by omega)) hk7 (fun h => by have := hTG.out _ h; omega)) 1 rfl
        have hz7 := hk7.size
        have F6 := Lib.hid f6
        have HL7 := Lib.hid hl7
        have HB7 := Lib.hid (show Below w.heap.size w w7 from (HBV.out.trans ((HK.out.below (B := w.heap.size) (fun i _ h => by omega) (by omega)).trans (hBW6.mono (by omega)))).trans (hk7.below (fun i _ h => by have := hTG.out _ h; omega) (by omega)))
        have HT7 := Lib.hid hl7.two
        have WY7 := Lib.hid (show Calls Try.prog 17 #[.pointer (some ⟨b, 0, none⟩)] w7 fun e w' => e = .returned (.int .i64 0) ∧ w7 = w' from by
          have h := lway_any (w.heap.size + 1) b c1 A1 r (Lnk.recv s 100) w7 hl7
          rw [f6] at h
          exact h)
        have SD7 := Lib.hid (show ∀ (W : World) (D : Option Addr) (cap : Nat) (d : List Int), Below w7.heap.size w7 W → Rd W W.heap.size D 1 d → (∀ a, D = some a → w7.heap.size ≤ a.block) → Calls Try.prog 16 #[.pointer (some ⟨b, 0, none⟩), .int .i64 100, .slice D 1 cap] W fun e w' => e = .returned (.int .i64 0) ∧ Below w.heap.size W w' from fun W D cap d hW hd hD => by
          have hz := hW.size
          refine (send_any (w.heap.size + 1) b c1 A1 r (Lnk.recv s 100) 100 D 1 cap d W (HL7.out.below hW (Nat.le_refl _)) HV.out f8 f9 (by omega) (by omega) hd (fun a ha ht => by have := hD a ha; have := HT7.out _ ht; omega)).mono ?_
          rintro e w' ⟨rfl, A2, c2, h1, h2, h3⟩
          rw [f7]
          exact ⟨rfl, h2.below (fun i _ h => by have := HL7.out.two_ge i h; omega) (by omega)⟩)
        have hwr : w.heap.size < w7.heap.size := by omega
        clear hrb hl7 hk7 hat7 f3 f4 f5 f6 f7 f8 f9 f10 hBW6 hz6 cR
        go_wp2_with fail
        refine WY7.out.mono ?_
        rintro e w8 ⟨rfl, rfl⟩
        go_wp2_with fail
        refine (SD7.out _ _ _ [_] ((Below.refl _ _).alloc (Nat.le_refl _) _) (rd_one w7 _ rfl _ (by omega)) (fun a ha => by injection ha with ha; subst ha; exact Nat.le_refl _)).mono ?_
        rintro e w8 ⟨rfl, hb8⟩
        go_wp2_with fail
        refine (known_true _).mono ?_
        rintro e w9 ⟨rfl, hb9⟩
        go_wp2_with fail
        go_ret
        have hz8 := hb8.size
        simp at hz8
        have HB := HB7.out
        exact ⟨rfl, (((HB.trans ((Below.refl _ _).alloc (by omega) _)).trans hb8)).trans (hb9.mono (by omega))⟩
theorem walk (a0 : Int) (a1 : Bool) (w : World) (w0 : (Lit.int .i64 a0).wf = true) :
    Calls Try.prog 5 #[.int .i64 a0, .bool a1] w fun e w' => e = .returned (.bool true) ∧ Below w.heap.size w w' := by
  by_cases h0 : 0 ≤ a0
  · exact walk_yes a0 a1 w h0 (i64_wf w0).2
  · exact walk_no a0 a1 w h0
theorem own : ownKnob Try.prog.godebug = none := by kernel_rfl
theorem laidOut : laidOutB Try.prog = true := by kernel_rfl
set_option maxRecDepth 100000 in
theorem lifted (os : Os) (started : os.Started) (H : Type) (enc : TypeId × Value → H) :
    ReturnsInHanded {} Try.checked os 5 .any (Rows.linkFullsSpec.pre6 enc Try.prog Try.f5 Rows.linkFullsRow.domain false) (Rows.linkFullsSpec.post enc Try.prog Try.f5 false true false false) := by
  refine returnsInHanded_of_change (C := Try.checked) own started (by kernel_rfl) Try.func5
    (ChangeSpec.witness6 (enc := enc) (C := Try.checked) false ⟨#[], #[.int .i64 0, .bool false], []⟩ 8 (by kernel_rfl) (by kernel_rfl) (by kernel_rfl) (by kernel_rfl)) ?_
  intro W base args ds gs before hval0 hW hcnd _
  have hval : ∀ (j : Nat) t v, Try.f5.params[j]? = some t → args[j]? = some v → Value.okWide Try.prog W .any base t v := hval0
  have hW' := hW
  obtain ⟨p, q, hA0, hV, rfl, hfz, hnd⟩ := hW
  have hA : DataW.TrodAll enc Try.prog W 0 (fun _ => true) true Try.f5.params.toList args.toList ds p := hA0
  rw [Try.params5] at hA hval
  obtain ⟨v0, vs0, d0, ds0, p0, q0, hargs, rfl, rfl, h0, r0⟩ := trodAll_cons hA
  obtain ⟨v1, vs1, d1, ds1, p1, q1, rfl, rfl, rfl, h1, r1⟩ := trodAll_cons r0
  obtain ⟨rfl, rfl, rfl⟩ := trodAll_nil r1
  obtain rfl : args = #[v0, v1] := by cases args; simp_all
  obtain ⟨rfl, rfl⟩ := trodVars_none hV
  have k0 := h0
  have lt0 : ∀ x ∈ p0, x.block < W.heap.size := by obtain ⟨m, hm⟩ := k0; exact DataW.trod_lt m _ _ _ hm
  obtain ⟨a0, rfl, _, _, w0⟩ := open_int Try.underlying3 (hval 0 3 v0 rfl rfl) h0
  have k1 := h1
  have lt1 : ∀ x ∈ p1, x.block < W.heap.size := by obtain ⟨m, hm⟩ := k1; exact DataW.trod_lt m _ _ _ hm
  obtain ⟨a1, rfl, _, _⟩ := open_bool Try.underlying4 (hval 1 4 v1 rfl rfl) h1
  clear hA0 hval0
  refine (walk a0 a1 W w0).mono fun e W' ⟨he, bel⟩ => ?_
  subst he
  exact ⟨_, rfl, _, _, _, [], _, [], hW', trodAll_mk1 (shut_bool Try.underlying4 _), (trodAll_cons_mk (Below.trod laidOut (by kernel_rfl) (of_decide_eq_true (by kernel_rfl)) k0 bel lt0) (trodAll_cons_mk (Below.trod laidOut (by kernel_rfl) (of_decide_eq_true (by kernel_rfl)) k1 bel lt1) trodAll_mk0)), rfl, bel.frame _, fun h => by cases h⟩
theorem over : Rows.linkFullsRow.holds Try.pinned (OpenSpec.ofChange Rows.linkFullsSpec) :=
  OpenClaim.holds_of_wide 5 Try.f5 rfl rfl rfl rfl rfl rfl rfl ⟨rfl, rfl, rfl, rfl, rfl⟩ rfl rfl rfl rfl rfl (by kernel_rfl) Try.func5 (by kernel_rfl)
    (of_decide_eq_true (by kernel_rfl)) (by unfold Func.isWrapper; first | (rw [if_pos (by decide +kernel)]; kernel_rfl) | (rw [if_neg (by decide +kernel)]; exact ⟨rfl, rfl⟩))
    (fun os started H enc _ => lifted os started H enc)
theorem proved : Rows.LinkFullsSaid := over
end Go.Proofs.Ytgdpoiapkaahfaa.lawLinkFulls

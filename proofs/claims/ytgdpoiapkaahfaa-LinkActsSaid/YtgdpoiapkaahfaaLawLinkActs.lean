/- The law of the links' calls holds: 'skylanternlaw35.LinkActs' returns true at every input. No conditions. -/
import Derived.Test.YtgdpoiapkaahfaaLkAf
import Derived.Test.YtgdpoiapkaahfaaLkKn
namespace Go.Proofs.Ytgdpoiapkaahfaa.lawLinkActs
open Go.ChangeShapes Go.WideShapes Go.ChangeAt Go.RowKit Go.Joins
set_option linter.unusedVariables false
set_option linter.unusedSimpArgs false
attribute [local go_sem ↓] Go.wp_at_zero Go.wp_at_succ
set_option maxHeartbeats 8000000
set_option maxRecDepth 100000
theorem few_big (A : Option Addr) (n cap : Nat) (l : List LAct) (w : World) (h : l.length = n) (hn : n ≤ 9223372036854775807) (hnm : 40 < n) :
    Calls Try.prog 13 #[.slice A n cap, .int .i64 40] w fun e w' => e = .returned (.bool (fewB l 40)) ∧ w = w' := by
  have E := Lib.hid (show fewB l 40 = false by unfold fewB; rw [decide_eq_false (by omega)]; rfl)
  clear h
  go_enter Try.func13, Try.ntmps13
  go_wp2_with fail
  go_ret
  exact ⟨ret_bool E.out.symm, rfl⟩
theorem walk (a00 a01 a02 a03 a04 : Int) (a1 : Option Addr) (len1 cap1 : Nat) (l1 : List LAct) (w : World) (w00 : (Lit.int .i64 a00).wf = true) (w01 : (Lit.int .i64 a01).wf = true) (w02 : (Lit.int .i64 a02).wf = true) (w03 : (Lit.int .i64 a03).wf = true) (w04 : (Lit.int .i64 a04).wf = true) (w1 : LRf w w.heap.size a1 len1 l1) (r1 : Room a1 len1 cap1) (f1 : ∀ y ∈ l1, LaOk y) :
    Calls Try.prog 4 #[.agg #[.int .i64 a00, .int .i64 a01, .int .i64 a02, .int .i64 a03, .int .i64 a04], .slice a1 len1 cap1] w fun e w' => e = .returned (.bool true) ∧ Below w.heap.size w w' := by
  have hse := (i64_wf w04).2
  have hlen := r1.2.1
  have hlc := r1.1
  have hll := w1.1
  have FW := Lib.hid (show ∀ W : World, LRf W w.heap.size a1 len1 l1 → Calls Try.prog 13 #[.slice a1 len1 cap1, .int .i64 40] W fun e w' => e = .returned (.bool (fewB l1 40)) ∧ W = w' from fun W hW => by
    rcases Nat.lt_or_ge 40 len1 with h | h
    · exact few_big a1 len1 cap1 l1 W hll (by unfold maxLen at *; omega) h
    · exact few_any a1 len1 cap1 40 w.heap.size l1 W hW (by omega) (by omega))
  clear hll
  have HW1 := Lib.hid w1
  have HLN := Lib.hid w1.1
  clear w00 w01 w02 w03 w04 w1 r1
  cases hfew : fewB l1 40
  · rw [hfew] at FW
    clear hlen hlc hse
    go_enter Try.func4, Try.ntmps4
    go_wp2_with fail
    refine (FW.out _ (HW1.out.below (B' := w.heap.size) (by repeat (first | (with_reducible exact Below.refl _ _) | (with_reducible refine Below.drew ?_) | (with_reducible refine below_drewN ?_ _) | ((with_reducible refine Below.alloc ?_ ?_ _); rotate_left; (first | omega | (simp <;> omega)); rotate_right) | ((with_reducible refine Below.setCell ?_ ?_ _); rotate_left; (first | omega | (simp <;> omega)); rotate_right) | (with_reducible assumption) | (refine Below.trans ?_ (Below.mono (by assumption) ?_); rotate_left; (first | omega | (simp <;> omega)); rotate_right))) (Nat.le_refl _))).mono ?_
    rintro e w2 ⟨rfl, rfl⟩
    go_wp2_with fail
    refine (known_true _).mono ?_
    rintro e w3 ⟨rfl, hb3⟩
    have hz3 := hb3.size; try simp at hz3
    go_wp2_with fail
    go_ret
    exact ⟨rfl, (by repeat (first | (with_reducible exact Below.refl _ _) | (with_reducible refine Below.drew ?_) | (with_reducible refine below_drewN ?_ _) | ((with_reducible refine Below.alloc ?_ ?_ _); rotate_left; (first | omega | (simp <;> omega)); rotate_right) | ((with_reducible refine Below.setCell ?_ ?_ _); rotate_left; (first | omega | (simp <;> omega)); rotate_right) | (with_reducible assumption) | (refine Below.trans ?_ (Below.mono (by assumption) ?_); rotate_left; (first | omega | (simp <;> omega)); rotate_right)))⟩
  · rw [hfew] at FW
    have hl40 : len1 ≤ 40 := by
      have h := hfew
      unfold fewB at h
      simp only [Bool.and_eq_true, decide_eq_true_eq] at h
      rw [← HLN.out]; exact h.1
    have HAL := Lib.hid (show ∀ y ∈ l1, okA y = true from by
      have h := hfew
      unfold fewB at h
      simp only [Bool.and_eq_true, List.all_eq_true] at h
      exact h.2)
    clear hlen hlc hfew
    cases hv : Lnk.vld ⟨a00, a01, a02, a03, a04⟩
    · have M := Lib.hid (fun W : World => made_no ⟨a00, a01, a02, a03, a04⟩ W hv)
      simp only [rul, rlv, rll] at M
      clear hv
      go_enter Try.func4, Try.ntmps4
      go_wp2_with fail
      refine (FW.out _ (HW1.out.below (B' := w.heap.size) (by repeat (first | (with_reducible exact Below.refl _ _) | (with_reducible refine Below.drew ?_) | (with_reducible refine below_drewN ?_ _) | ((with_reducible refine Below.alloc ?_ ?_ _); rotate_left; (first | omega | (simp <;> omega)); rotate_right) | ((with_reducible refine Below.setCell ?_ ?_ _); rotate_left; (first | omega | (simp <;> omega)); rotate_right) | (with_reducible assumption) | (refine Below.trans ?_ (Below.mono (by assumption) ?_); rotate_left; (first | omega | (simp <;> omega)); rotate_right))) (Nat.le_refl _))).mono ?_
      rintro e w2 ⟨rfl, rfl⟩
      go_wp2_with fail
      refine (M.out _).mono ?_
      rintro e w4 ⟨rfl, hb4⟩
      have hz4 := hb4.size; try simp at hz4
      go_wp2_with fail
      refine (known_true _).mono ?_
      rintro e w3 ⟨rfl, hb3⟩
      have hz3 := hb3.size; try simp at hz3
      go_wp2_with fail
      go_ret
      exact ⟨rfl, (by repeat (first | (with_reducible exact Below.refl _ _) | (with_reducible refine Below.drew ?_) | (with_reducible refine below_drewN ?_ _) | ((with_reducible refine Below.alloc ?_ ?_ _); rotate_left; (first | omega | (simp <;> omega)); rotate_right) | ((with_reducible refine Below.setCell ?_ ?_ _); rotate_left; (first | omega | (simp <;> omega)); rotate_right) | (with_reducible assumption) | (refine Below.trans ?_ (Below.mono (by assumption) ?_); rotate_left; (first | omega | (simp <;> omega)); rotate_right)))⟩
    · have M := Lib.hid (fun W : World => made_yes ⟨a00, a01, a02, a03, a04⟩ W hv hse)
      simp only [rul] at M
      go_enter Try.func4, Try.ntmps4
      go_wp2_with fail
      refine (FW.out _ (HW1.out.below (B' := w.heap.size) (by repeat (first | (with_reducible exact Below.refl _ _) | (with_reducible refine Below.drew ?_) | (with_reducible refine below_drewN ?_ _) | ((with_reducible refine Below.alloc ?_ ?_ _); rotate_left; (first | omega | (simp <;> omega)); rotate_right) | ((with_reducible refine Below.setCell ?_ ?_ _); rotate_left; (first | omega | (simp <;> omega)); rotate_right) | (with_reducible assumption) | (refine Below.trans ?_ (Below.mono (by assumption) ?_); rotate_left; (first | omega | (simp <;> omega)); rotate_right))) (Nat.le_refl _))).mono ?_
      rintro e w2 ⟨rfl, rfl⟩
      go_wp2_with fail
      refine (M.out _).mono ?_
      rintro e w4 ⟨b, rfl, hl4, hb4⟩
      have hz4 := hb4.size; try simp at hz4
      have HL4 := Lib.hid hl4
      have HB4 := (show Below w.heap.size w w4 from (by repeat (first | (with_reducible exact Below.refl _ _) | (with_reducible refine Below.drew ?_) | (with_reducible refine below_drewN ?_ _) | ((with_reducible refine Below.alloc ?_ ?_ _); rotate_left; (first | omega | (simp <;> omega)); rotate_right) | ((with_reducible refine Below.setCell ?_ ?_ _); rotate_left; (first | omega | (simp <;> omega)); rotate_right) | (with_reducible assumption) | (refine Below.trans ?_ (Below.mono (by assumption) ?_); rotate_left; (first | omega | (simp <;> omega)); rotate_right))))
      clear hb4 hl4
      have HI0 := Lib.hid (Lnk.inv_new hv hse)
      have HU0 := Lib.hid (show (Lnk.new ⟨a00, a01, a02, a03, a04⟩).u = [] from rfl)
      have HSE0 := Lib.hid (show (Lnk.new ⟨a00, a01, a02, a03, a04⟩).sent = 0 from rfl)
      have HV := Lib.hid hv
      have HL4' := Lib.hid (show IsLk w4 (w.heap.size + 1) b none 0 ⟨a00, a01, a02, a03, a04⟩ (Lnk.new ⟨a00, a01, a02, a03, a04⟩) by simpa using HL4.out)
      clear hv hse M HL4 FW
      generalize Lnk.new ⟨a00, a01, a02, a03, a04⟩ = s0 at *
      simp only [rlv, rll] at *
      have HBx := Lib.hid HB4
      clear HB4
      go_wp2_with fail
      generalize hV : World.alloc _ _ = V
      have k0 : V.heap[w4.heap.size]? = some (.cells #[.int .i64 a00, .int .i64 a01, .int .i64 a02, .int .i64 a03, .int .i64 a04, .int .u64 s0.x, .int .i64 s0.now, .slice none 0 0, .int .i64 s0.sent, .int .i64 s0.lost, .int .i64 s0.dbl] 28 (0, 0)) := by rw [← hV]; exact heap_new _ _
      have hBV0 : Below w4.heap.size w4 V := by rw [← hV]; exact (Below.refl _ _).alloc (Nat.le_refl _) _
      clear hV
      have hlt := lt_of_block k0
      have hbl := HL4'.out.two
      have HLV := Lib.hid (HL4'.out.below hBV0 (Nat.le_refl _))
      have HBV := Lib.hid (show Below w.heap.size w V from HBx.out.trans (hBV0.mono (by omega)))
      have hbR : ∀ i, Two b none i → i ≠ w4.heap.size := fun i hi h => by have := hbl i hi; omega
      have HBR := Lib.hid hbR
      have hR : w.heap.size + 1 ≤ w4.heap.size := by omega
      obtain ⟨R, hReq⟩ : ∃ R, R = w4.heap.size := ⟨_, rfl⟩
      rw [← hReq] at k0 hR HBR ⊢
      have K0 := Lib.hid k0
      clear hBV0 hbl hbR hReq HBx HL4' hlt k0 hz4
      go_loopw [8] (fun sl wr => ∃ (i : Nat) (s : Lnk.St) (A : Option Addr) (c : Nat) (A' : Option Addr) (c' : Nat), sl = .int .i64 i ∧ i ≤ len1 ∧ Hid (IsLk wr (w.heap.size + 1) b A c ⟨a00, a01, a02, a03, a04⟩ s) ∧ Hid (Lnk.Inv s) ∧ Hid (s.sent ≤ (i : Int)) ∧ s.u.length ≤ c' ∧
        Hid (wr.heap[R]? = some (.cells #[.int .i64 a00, .int .i64 a01, .int .i64 a02, .int .i64 a03, .int .i64 a04, .int .u64 s.x, .int .i64 s.now, .slice A' s.u.length c', .int .i64 s.sent, .int .i64 s.lost, .int .i64 s.dbl] 28 (0, 0))) ∧
        Hid (RWay wr (fun j => w.heap.size + 1 ≤ j ∧ j ≠ R ∧ ¬ Two b A j) A' s.u.length s.u) ∧ Hid (∀ j, Two b A j → j ≠ R) ∧ Hid (Below w.heap.size w wr)) (fun sl _ => len1 - (intOf sl).toNat)
      case atStart =>
        refine ⟨0, s0, none, 0, none, 0, by go_num, by omega, HLV, HI0, Lib.hid (by have := HSE0.out; omega), by rw [HU0.out]; simp, Lib.hid (by rw [HU0.out]; exact K0.out), Lib.hid (by rw [HU0.out]; exact RWay.nil _ _ _), HBR, HBV⟩
      case round =>
        obtain ⟨i, s, A, c, A', c', rfl, hi, HL, HI, HS, hc', HK, HWY, HTR, HB⟩ := hrel
        clear HLV HI0 HU0 HSE0 HBR HBV K0
        by_cases hlt : i < len1
        · obtain ⟨bb, oo, rfl, hbb, hcc⟩ := (HW1.out.below HB.out (Nat.le_refl _)).2 (by omega)
          obtain ⟨D, cd, E', ce, c0, c1, c2, c3, c4, c5, c6, c7, hrd, hrm, hrd2, hrm2⟩ := hcc i hlt
          obtain ⟨x, hx⟩ : ∃ x, x = l1.getD i la0 := ⟨_, rfl⟩
          rw [← hx] at c0 c1 c2 c3 c4 c5 c6 c7 hrd hrm hrd2 hrm2
          have hok : okA x = true := HAL.out x (by rw [hx]; simp [List.getD, List.getElem?_eq_getElem (show i < l1.length by rw [HLN.out]; exact hlt)])
          unfold okA at hok
          simp only [Bool.and_eq_true, decide_eq_true_eq] at hok
          obtain ⟨s', hs'⟩ : ∃ s', s' = actS ⟨a00, a01, a02, a03, a04⟩ s x := ⟨_, rfl⟩
          have hse9 : s.sent < 1000000000 := by have := HS.out; omega
          have hszw := HB.out.size
          have AC := Lib.hid (show ∀ W : World, Below wr.heap.size wr W → Calls Try.prog 14 #[.pointer (some ⟨b, 0, none⟩), rlv ⟨a00, a01, a02, a03, a04⟩ s A' s.u.length c', .agg #[.int .i64 x.kind, .int .i64 x.now, .slice D x.d.length cd, .int .i64 x.f.k, .int .i64 x.f.f, .int .i64 x.f.t, .int .i64 x.f.s, .slice E' x.f.d.length ce]] W (ActPost (w.heap.size + 1) b A (fun j => (w.heap.size + 1 ≤ j ∧ j ≠ R ∧ ¬ Two b A j) ∧ j < wr.heap.size) ⟨a00, a01, a02, a03, a04⟩ s' W) from fun W hW => by
            have hz := hW.size
            have hb' := HL.out.lt
            have hge := HL.out.ge
            rw [hs']
            exact act_any (w.heap.size + 1) b c A ⟨a00, a01, a02, a03, a04⟩ s A' s.u.length c' x D E' cd ce W (HL.out.below hW (Nat.le_refl _)) HV.out HI.out hse9 rfl hc' (by omega) _ (HWY.out.bound.below hW (fun j hj => hj.2)) (fun j hj => hj.1.2.2) hok.1 hok.2 ((hrd.below hW (by omega)).more (by omega)) ((hrd2.below hW (by omega)).more (by omega)))
          have HI' := Lib.hid (show Lnk.Inv s' by rw [hs']; exact inv_actS HV.out HI.out hrd.2.1 hrd2.2.1 hse9)
          have HS' := Lib.hid (show s'.sent ≤ ((i + 1 : Nat) : Int) by
            have h1 := sent_actS ⟨a00, a01, a02, a03, a04⟩ s x
            have h2 := HS.out
            rw [hs']; omega)
          have HTW := Lib.hid HL.out.two
          have HTG := Lib.hid HL.out.two_ge
          clear hs' hx hrd hrm hrd2 hrm2 hok hse9 HI HS HAL hcc
          simp only [rlv, rll] at AC
          have hk := HK.out
          have hRlt := lt_of_block hk
          have ca_0 := blk_cell hk 0 rfl; have fa_0 := blk_free hk 0; have ca_1 := blk_cell hk 1 rfl; have fa_1 := blk_free hk 1; have ca_2 := blk_cell hk 2 rfl; have fa_2 := blk_free hk 2; have ca_3 := blk_cell hk 3 rfl; have fa_3 := blk_free hk 3; have ca_4 := blk_cell hk 4 rfl; have fa_4 := blk_free hk 4; have ca_5 := blk_cell hk 5 rfl; have fa_5 := blk_free hk 5; have ca_6 := blk_cell hk 6 rfl; have fa_6 := blk_free hk 6; have ca_7 := blk_cell hk 7 rfl; have fa_7 := blk_free hk 7; have ca_8 := blk_cell hk 8 rfl; have fa_8 := blk_free hk 8; have ca_9 := blk_cell hk 9 rfl; have fa_9 := blk_free hk 9; have ca_10 := blk_cell hk 10 rfl; have fa_10 := blk_free hk 10; have la := lt_of_block hk
          have hin : (i : Int) < (len1 : Int) := by omega
          go_upto_region 11 with fail
          have hbw : bb < wr.heap.size := by omega
          have hbN : bb ≠ wr.heap.size := by omega
          have hRN : R ≠ wr.heap.size := by omega
          clear hbb hszw HWY
          go_region_with (first | (go_at_call 14; refine (AC.out _ (by repeat (first | (with_reducible exact Below.refl _ _) | (with_reducible refine Below.drew ?_) | (with_reducible refine below_drewN ?_ _) | ((with_reducible refine Below.alloc ?_ ?_ _); rotate_left; (first | omega | (simp <;> omega)); rotate_right) | ((with_reducible refine Below.setCell ?_ ?_ _); rotate_left; (first | omega | (simp <;> omega)); rotate_right) | (with_reducible assumption) | (refine Below.trans ?_ (Below.mono (by assumption) ?_); rotate_left; (first | omega | (simp <;> omega)); rotate_right)))).mono ?_; rintro e w1 ⟨A1, c1, A2, c2, rfl, hw1, hc2, hl1, hk1, hat⟩; have hz1 := hk1.size; (try simp at hz1); have k1 := blk_keep (q := R) (by repeat (first | (with_reducible assumption) | ((with_reducible apply blk_far); rotate_left; (first | omega | (simp <;> omega)); rotate_right) | (with_reducible apply blk_drew) | (with_reducible apply blk_drewN) | (with_reducible exact heap_new _ _) | ((with_reducible apply heap_new'); (first | rfl | (simp <;> fail))) | (with_reducible apply blk_alloc))) hk1 (fun h => HTR.out _ h rfl); have HW2 := Lib.hid hw1; have HL1 := Lib.hid hl1; have HK1 := Lib.hid hk1; have HAT := Lib.hid hat; (try (have z1 : w1.heap[wr.heap.size]? = some (.cells #[.int .i64 0, .int .i64 0, .int .i64 0, .int .i64 0, .int .i64 0, .int .u64 0, .int .i64 0, .slice none 0 0, .int .i64 0, .int .i64 0, .int .i64 0] 28 (0, 0)) := blk_keep (by first | ((with_reducible apply heap_new'); (first | rfl | (simp <;> fail))) | ((with_reducible apply blk_drew); ((with_reducible apply heap_new'); (first | rfl | (simp <;> fail)))) | ((with_reducible apply blk_drewN); ((with_reducible apply heap_new'); (first | rfl | (simp <;> fail))))) hk1 (fun h => by have := HTW.out _ h; omega); have cz_0 := blk_cell z1 0 rfl; have fz_0 := blk_free z1 0; have cz_1 := blk_cell z1 1 rfl; have fz_1 := blk_free z1 1; have cz_2 := blk_cell z1 2 rfl; have fz_2 := blk_free z1 2; have cz_3 := blk_cell z1 3 rfl; have fz_3 := blk_free z1 3; have cz_4 := blk_cell z1 4 rfl; have fz_4 := blk_free z1 4; have cz_5 := blk_cell z1 5 rfl; have fz_5 := blk_free z1 5; have cz_6 := blk_cell z1 6 rfl; have fz_6 := blk_free z1 6; have cz_7 := blk_cell z1 7 rfl; have fz_7 := blk_free z1 7; have cz_8 := blk_cell z1 8 rfl; have fz_8 := blk_free z1 8; have cz_9 := blk_cell z1 9 rfl; have fz_9 := blk_free z1 9; have cz_10 := blk_cell z1 10 rfl; have fz_10 := blk_free z1 10; have lz := lt_of_block z1)); clear hw1 hl1 hk1 hat; (try simp only [rlv, rll])))
          all_goals
            have hTA : ∀ j, Two b A1 j → j < wr.heap.size → Two b A j := fun j hj hl => by
              refine two_new (b := b) (n := wr.heap.size) ?_ j hl hj
              exact HAT.out.imp id (fun ⟨g, h, hg⟩ => ⟨g, h, by (try simp at hg); omega⟩)
            have hTl := HL1.out.two
            have hszw := HB.out.size
            first
            | (have _g := z1
               generalize hWx : World.setCell _ _ _ = Wx
               have kN : Wx.heap[wr.heap.size]? = some (.cells #[.int .i64 a00, .int .i64 a01, .int .i64 a02, .int .i64 a03, .int .i64 a04, .int .u64 s'.x, .int .i64 s'.now, .slice A2 s'.u.length c2, .int .i64 s'.sent, .int .i64 s'.lost, .int .i64 s'.dbl] 28 (0, 0)) := by rw [← hWx]; exact (by apply Eq.trans; (repeat (first | (with_reducible assumption) | (with_reducible apply blk_set) | ((with_reducible apply blk_far); rotate_left; (first | omega | (simp <;> omega)); rotate_right) | (with_reducible apply blk_drew) | (with_reducible apply blk_drewN) | ((with_reducible apply heap_new'); (first | rfl | (simp <;> fail))) | (with_reducible apply blk_alloc))); (first | with_reducible rfl | (simp <;> fail) | rfl))
               have kR : Wx.heap[R]? = some (.cells #[.int .i64 a00, .int .i64 a01, .int .i64 a02, .int .i64 a03, .int .i64 a04, .int .u64 s.x, .int .i64 s.now, .slice A' s.u.length c', .int .i64 s.sent, .int .i64 s.lost, .int .i64 s.dbl] 28 (0, 0)) := by rw [← hWx]; exact (by repeat (first | (with_reducible assumption) | ((with_reducible apply blk_far); rotate_left; (first | omega | (simp <;> omega)); rotate_right) | (with_reducible apply blk_drew) | (with_reducible apply blk_drewN) | (with_reducible exact heap_new _ _) | ((with_reducible apply heap_new'); (first | rfl | (simp <;> fail))) | (with_reducible apply blk_alloc)))
               have hKx : Keeps (fun j => j = wr.heap.size ∨ j = wr.heap.size) w1 Wx := by
                 rw [← hWx]
                 repeat (first | with_reducible exact Keeps.refl _ _ | (with_reducible refine Keeps.setCell ?_ (.inl (.inl rfl)) _) | (with_reducible refine Keeps.drew ?_) | (with_reducible refine Keeps.drewN ?_ _) | (with_reducible refine Keeps.alloc ?_ _))
               have hT1 : ∀ j, Two b A1 j → j ≠ R ∧ j ≠ wr.heap.size := fun j hj => by
                 rcases Nat.lt_or_ge j wr.heap.size with h | h
                 · exact ⟨HTR.out j (hTA j hj h), by omega⟩
                 · refine ⟨by omega, ?_⟩
                   rintro rfl
                   rcases hj with hj | hj
                   · have := HTW.out b (.inl rfl); omega
                   · rcases HAT.out with h2 | ⟨g, h2, hg⟩
                     · have := HTW.out wr.heap.size (.inr (by rw [← h2]; exact hj)); omega
                     · rw [h2] at hj; injection hj with hj; simp at hg; omega
               have HWx := Lib.hid ((HW2.out.mono (Y := fun i => ((w.heap.size + 1 ≤ i ∧ i ≠ R) ∧ ¬ Two b A1 i) ∧ i ≠ wr.heap.size) (fun i hi => by
                 have h1 := hi.1
                 simp at h1
                 exact ⟨⟨by omega, hi.2⟩, by omega⟩)).keep hKx (fun i hi h => hi.2 (h.elim id id)))
               have hB2 := HK1.out.below (B := w.heap.size) (fun i _ h => by have := HTG.out i h; omega) (by (try simp); omega)
               have HBx := Lib.hid (show Below w.heap.size w Wx from by
                 refine Below.trans ?_ (Below.trans hB2 (hKx.below (fun i _ h => by omega) (by omega)))
                 have hB := HB.out
                 exact (by repeat (first | (with_reducible exact Below.refl _ _) | (with_reducible refine Below.drew ?_) | (with_reducible refine below_drewN ?_ _) | ((with_reducible refine Below.alloc ?_ ?_ _); rotate_left; (first | omega | (simp <;> omega)); rotate_right) | ((with_reducible refine Below.setCell ?_ ?_ _); rotate_left; (first | omega | (simp <;> omega)); rotate_right) | (with_reducible assumption) | (refine Below.trans ?_ (Below.mono (by assumption) ?_); rotate_left; (first | omega | (simp <;> omega)); rotate_right))))
               have HLx := Lib.hid (HL1.out.kept hKx (fun j hj h => (hT1 j hj).2 (h.elim id id)))
               have HT1 := Lib.hid hT1
               have hNs : wr.heap.size ≠ R ∧ w.heap.size + 1 ≤ wr.heap.size := by omega
               clear hWx hKx hB2 hT1 hTA hTl z1 HW2 HK1 HL1 HAT cz_0 fz_0 cz_1 fz_1 cz_2 fz_2 cz_3 fz_3 cz_4 fz_4 cz_5 fz_5 cz_6 fz_6 cz_7 fz_7 cz_8 fz_8 cz_9 fz_9 cz_10 fz_10
               generalize wr.heap.size = N at *
               have cn_0 := blk_cell kN 0 rfl; have fn_0 := blk_free kN 0; have cn_1 := blk_cell kN 1 rfl; have fn_1 := blk_free kN 1; have cn_2 := blk_cell kN 2 rfl; have fn_2 := blk_free kN 2; have cn_3 := blk_cell kN 3 rfl; have fn_3 := blk_free kN 3; have cn_4 := blk_cell kN 4 rfl; have fn_4 := blk_free kN 4; have cn_5 := blk_cell kN 5 rfl; have fn_5 := blk_free kN 5; have cn_6 := blk_cell kN 6 rfl; have fn_6 := blk_free kN 6; have cn_7 := blk_cell kN 7 rfl; have fn_7 := blk_free kN 7; have cn_8 := blk_cell kN 8 rfl; have fn_8 := blk_free kN 8; have cn_9 := blk_cell kN 9 rfl; have fn_9 := blk_free kN 9; have cn_10 := blk_cell kN 10 rfl; have fn_10 := blk_free kN 10; have ln := lt_of_block kN
               have cm_0 := blk_cell kR 0 rfl; have fm_0 := blk_free kR 0; have cm_1 := blk_cell kR 1 rfl; have fm_1 := blk_free kR 1; have cm_2 := blk_cell kR 2 rfl; have fm_2 := blk_free kR 2; have cm_3 := blk_cell kR 3 rfl; have fm_3 := blk_free kR 3; have cm_4 := blk_cell kR 4 rfl; have fm_4 := blk_free kR 4; have cm_5 := blk_cell kR 5 rfl; have fm_5 := blk_free kR 5; have cm_6 := blk_cell kR 6 rfl; have fm_6 := blk_free kR 6; have cm_7 := blk_cell kR 7 rfl; have fm_7 := blk_free kR 7; have cm_8 := blk_cell kR 8 rfl; have fm_8 := blk_free kR 8; have cm_9 := blk_cell kR 9 rfl; have fm_9 := blk_free kR 9; have cm_10 := blk_cell kR 10 rfl; have fm_10 := blk_free kR 10; have lm := lt_of_block kR
               have HKR := Lib.hid kR
               clear kN kR
               go_upto_region 13 with fail
               generalize hWy : World.setCell _ _ _ = Wy
               have kS : Wy.heap[R]? = some (.cells #[.int .i64 a00, .int .i64 a01, .int .i64 a02, .int .i64 a03, .int .i64 a04, .int .u64 s'.x, .int .i64 s'.now, .slice A2 s'.u.length c2, .int .i64 s'.sent, .int .i64 s'.lost, .int .i64 s'.dbl] 28 (0, 0)) := by rw [← hWy]; have kR := HKR.out; exact (by apply Eq.trans; (repeat (first | (with_reducible assumption) | (with_reducible apply blk_set) | ((with_reducible apply blk_far); rotate_left; (first | omega | (simp <;> omega)); rotate_right) | (with_reducible apply blk_drew) | (with_reducible apply blk_drewN) | ((with_reducible apply heap_new'); (first | rfl | (simp <;> fail))) | (with_reducible apply blk_alloc))); (first | with_reducible rfl | (simp <;> fail) | rfl))
               have hKy : Keeps (fun j => j = R ∨ j = R) Wx Wy := by
                 rw [← hWy]
                 repeat (first | with_reducible exact Keeps.refl _ _ | (with_reducible refine Keeps.setCell ?_ (.inl (.inl rfl)) _) | (with_reducible refine Keeps.drew ?_) | (with_reducible refine Keeps.drewN ?_ _))
               have HWy := Lib.hid ((HWx.out.keep hKy (fun i hi h => hi.1.1.2 (h.elim id id))).mono (Y := fun i => w.heap.size + 1 ≤ i ∧ i ≠ R ∧ ¬ Two b A1 i) (fun i hi => ⟨hi.1.1.1, hi.1.1.2, hi.1.2⟩))
               have HLy := Lib.hid (HLx.out.kept hKy (fun j hj h => (HT1.out j hj).1 (h.elim id id)))
               have HBy := Lib.hid (HBx.out.trans (hKy.below (fun i _ h => by omega) HBx.out.size))
               have SH := Lib.hid (shows_yes (w.heap.size + 1) b c1 A1 ⟨a00, a01, a02, a03, a04⟩ s' A2 s'.u.length c2 Wy HLy.out HI'.out rfl _ HWy.out)
               have HKS := Lib.hid kS
               clear hWy hKy kS HKR cn_0 fn_0 cn_1 fn_1 cn_2 fn_2 cn_3 fn_3 cn_4 fn_4 cn_5 fn_5 cn_6 fn_6 cn_7 fn_7 cn_8 fn_8 cn_9 fn_9 cn_10 fn_10 cm_0 fm_0 cm_1 fm_1 cm_2 fm_2 cm_3 fm_3 cm_4 fm_4 cm_5 fm_5 cm_6 fm_6 cm_7 fm_7 cm_8 fm_8 cm_9 fm_9 cm_10 fm_10 HLx HWx HBx
               have kS := HKS.out
               have cz_0 := blk_cell kS 0 rfl; have fz_0 := blk_free kS 0; have cz_1 := blk_cell kS 1 rfl; have fz_1 := blk_free kS 1; have cz_2 := blk_cell kS 2 rfl; have fz_2 := blk_free kS 2; have cz_3 := blk_cell kS 3 rfl; have fz_3 := blk_free kS 3; have cz_4 := blk_cell kS 4 rfl; have fz_4 := blk_free kS 4; have cz_5 := blk_cell kS 5 rfl; have fz_5 := blk_free kS 5; have cz_6 := blk_cell kS 6 rfl; have fz_6 := blk_free kS 6; have cz_7 := blk_cell kS 7 rfl; have fz_7 := blk_free kS 7; have cz_8 := blk_cell kS 8 rfl; have fz_8 := blk_free kS 8; have cz_9 := blk_cell kS 9 rfl; have fz_9 := blk_free kS 9; have cz_10 := blk_cell kS 10 rfl; have fz_10 := blk_free kS 10; have lz := lt_of_block kS
               simp only [rlv, rll] at SH
               go_wp2_with (refine SH.out.mono ?_; rintro e w5 ⟨rfl, hb5⟩)
               have hy := HBy.out.size
               go_roundw
               case rel => exact ⟨i + 1, s', A1, c1, A2, c2, by go_num, by omega, Lib.hid (HLy.out.below hb5 (Nat.le_refl _)), HI', HS', hc2, Lib.hid (blk_below HKS.out hb5 (lt_of_block HKS.out)), Lib.hid ((HWy.out.bound.below hb5 (fun i hi => hi.2)).mono (fun i hi => hi.1)), Lib.hid (fun j hj => (HT1.out j hj).1), Lib.hid (HBy.out.trans (hb5.mono hy))⟩
               case measure => simp [intOf]; omega)
            | (fail_if_success (have _g := z1)
               generalize hWx : World.alloc _ _ = Wx
               have kN : Wx.heap[w1.heap.size]? = some (.cells #[.int .i64 a00, .int .i64 a01, .int .i64 a02, .int .i64 a03, .int .i64 a04, .int .u64 s'.x, .int .i64 s'.now, .slice A2 s'.u.length c2, .int .i64 s'.sent, .int .i64 s'.lost, .int .i64 s'.dbl] 28 (0, 0)) := by rw [← hWx]; exact (heap_new _ _)
               have kR : Wx.heap[R]? = some (.cells #[.int .i64 a00, .int .i64 a01, .int .i64 a02, .int .i64 a03, .int .i64 a04, .int .u64 s.x, .int .i64 s.now, .slice A' s.u.length c', .int .i64 s.sent, .int .i64 s.lost, .int .i64 s.dbl] 28 (0, 0)) := by rw [← hWx]; exact (by repeat (first | (with_reducible assumption) | ((with_reducible apply blk_far); rotate_left; (first | omega | (simp <;> omega)); rotate_right) | (with_reducible apply blk_drew) | (with_reducible apply blk_drewN) | (with_reducible exact heap_new _ _) | ((with_reducible apply heap_new'); (first | rfl | (simp <;> fail))) | (with_reducible apply blk_alloc)))
               have hKx : Keeps (fun _ => False) w1 Wx := by
                 rw [← hWx]
                 repeat (first | with_reducible exact Keeps.refl _ _ | (with_reducible refine Keeps.drew ?_) | (with_reducible refine Keeps.drewN ?_ _) | (with_reducible refine Keeps.alloc ?_ _))
               have hT1 : ∀ j, Two b A1 j → j ≠ R ∧ j ≠ w1.heap.size := fun j hj => by
                 have h1 := hTl j hj
                 rcases Nat.lt_or_ge j wr.heap.size with h | h
                 · exact ⟨HTR.out j (hTA j hj h), by omega⟩
                 · exact ⟨by omega, by omega⟩
               have HWx := Lib.hid ((HW2.out.bound.mono (Y := fun i => ((w.heap.size + 1 ≤ i ∧ i ≠ R) ∧ ¬ Two b A1 i) ∧ i ≠ w1.heap.size) (fun i hi => by
                 have h1 := hi.1.1
                 (try simp at h1)
                 have h2 := hi.2
                 exact ⟨⟨by omega, hi.1.2⟩, by omega⟩)).keep hKx (fun i hi h => h))
               have hB2 := HK1.out.below (B := w.heap.size) (fun i _ h => by have := HTG.out i h; omega) (by (try simp); omega)
               have HBx := Lib.hid (show Below w.heap.size w Wx from by
                 refine Below.trans ?_ (Below.trans hB2 (hKx.below (fun i _ h => h.elim) (by omega)))
                 have hB := HB.out
                 exact (by repeat (first | (with_reducible exact Below.refl _ _) | (with_reducible refine Below.drew ?_) | (with_reducible refine below_drewN ?_ _) | ((with_reducible refine Below.alloc ?_ ?_ _); rotate_left; (first | omega | (simp <;> omega)); rotate_right) | ((with_reducible refine Below.setCell ?_ ?_ _); rotate_left; (first | omega | (simp <;> omega)); rotate_right) | (with_reducible assumption) | (refine Below.trans ?_ (Below.mono (by assumption) ?_); rotate_left; (first | omega | (simp <;> omega)); rotate_right))))
               have HLx := Lib.hid (HL1.out.kept hKx (fun j hj h => h))
               have HT1 := Lib.hid hT1
               have hNs : w1.heap.size ≠ R ∧ w.heap.size + 1 ≤ w1.heap.size := by omega
               clear hWx hKx hB2 hT1 hTA hTl HW2 HK1 HL1 HAT
               generalize w1.heap.size = N at *
               have cn_0 := blk_cell kN 0 rfl; have fn_0 := blk_free kN 0; have cn_1 := blk_cell kN 1 rfl; have fn_1 := blk_free kN 1; have cn_2 := blk_cell kN 2 rfl; have fn_2 := blk_free kN 2; have cn_3 := blk_cell kN 3 rfl; have fn_3 := blk_free kN 3; have cn_4 := blk_cell kN 4 rfl; have fn_4 := blk_free kN 4; have cn_5 := blk_cell kN 5 rfl; have fn_5 := blk_free kN 5; have cn_6 := blk_cell kN 6 rfl; have fn_6 := blk_free kN 6; have cn_7 := blk_cell kN 7 rfl; have fn_7 := blk_free kN 7; have cn_8 := blk_cell kN 8 rfl; have fn_8 := blk_free kN 8; have cn_9 := blk_cell kN 9 rfl; have fn_9 := blk_free kN 9; have cn_10 := blk_cell kN 10 rfl; have fn_10 := blk_free kN 10; have ln := lt_of_block kN
               have cm_0 := blk_cell kR 0 rfl; have fm_0 := blk_free kR 0; have cm_1 := blk_cell kR 1 rfl; have fm_1 := blk_free kR 1; have cm_2 := blk_cell kR 2 rfl; have fm_2 := blk_free kR 2; have cm_3 := blk_cell kR 3 rfl; have fm_3 := blk_free kR 3; have cm_4 := blk_cell kR 4 rfl; have fm_4 := blk_free kR 4; have cm_5 := blk_cell kR 5 rfl; have fm_5 := blk_free kR 5; have cm_6 := blk_cell kR 6 rfl; have fm_6 := blk_free kR 6; have cm_7 := blk_cell kR 7 rfl; have fm_7 := blk_free kR 7; have cm_8 := blk_cell kR 8 rfl; have fm_8 := blk_free kR 8; have cm_9 := blk_cell kR 9 rfl; have fm_9 := blk_free kR 9; have cm_10 := blk_cell kR 10 rfl; have fm_10 := blk_free kR 10; have lm := lt_of_block kR
               have HKR := Lib.hid kR
               clear kN kR
               go_upto_region 13 with fail
               generalize hWy : World.setCell _ _ _ = Wy
               have kS : Wy.heap[R]? = some (.cells #[.int .i64 a00, .int .i64 a01, .int .i64 a02, .int .i64 a03, .int .i64 a04, .int .u64 s'.x, .int .i64 s'.now, .slice A2 s'.u.length c2, .int .i64 s'.sent, .int .i64 s'.lost, .int .i64 s'.dbl] 28 (0, 0)) := by rw [← hWy]; have kR := HKR.out; exact (by apply Eq.trans; (repeat (first | (with_reducible assumption) | (with_reducible apply blk_set) | ((with_reducible apply blk_far); rotate_left; (first | omega | (simp <;> omega)); rotate_right) | (with_reducible apply blk_drew) | (with_reducible apply blk_drewN) | ((with_reducible apply heap_new'); (first | rfl | (simp <;> fail))) | (with_reducible apply blk_alloc))); (first | with_reducible rfl | (simp <;> fail) | rfl))
               have hKy : Keeps (fun j => j = R ∨ j = R) Wx Wy := by
                 rw [← hWy]
                 repeat (first | with_reducible exact Keeps.refl _ _ | (with_reducible refine Keeps.setCell ?_ (.inl (.inl rfl)) _) | (with_reducible refine Keeps.drew ?_) | (with_reducible refine Keeps.drewN ?_ _))
               have HWy := Lib.hid ((HWx.out.keep hKy (fun i hi h => hi.1.1.2 (h.elim id id))).mono (Y := fun i => w.heap.size + 1 ≤ i ∧ i ≠ R ∧ ¬ Two b A1 i) (fun i hi => ⟨hi.1.1.1, hi.1.1.2, hi.1.2⟩))
               have HLy := Lib.hid (HLx.out.kept hKy (fun j hj h => (HT1.out j hj).1 (h.elim id id)))
               have HBy := Lib.hid (HBx.out.trans (hKy.below (fun i _ h => by omega) HBx.out.size))
               have SH := Lib.hid (shows_yes (w.heap.size + 1) b c1 A1 ⟨a00, a01, a02, a03, a04⟩ s' A2 s'.u.length c2 Wy HLy.out HI'.out rfl _ HWy.out)
               have HKS := Lib.hid kS
               clear hWy hKy kS HKR cn_0 fn_0 cn_1 fn_1 cn_2 fn_2 cn_3 fn_3 cn_4 fn_4 cn_5 fn_5 cn_6 fn_6 cn_7 fn_7 cn_8 fn_8 cn_9 fn_9 cn_10 fn_10 cm_0 fm_0 cm_1 fm_1 cm_2 fm_2 cm_3 fm_3 cm_4 fm_4 cm_5 fm_5 cm_6 fm_6 cm_7 fm_7 cm_8 fm_8 cm_9 fm_9 cm_10 fm_10 HLx HWx HBx
               have kS := HKS.out
               have cz_0 := blk_cell kS 0 rfl; have fz_0 := blk_free kS 0; have cz_1 := blk_cell kS 1 rfl; have fz_1 := blk_free kS 1; have cz_2 := blk_cell kS 2 rfl; have fz_2 := blk_free kS 2; have cz_3 := blk_cell kS 3 rfl; have fz_3 := blk_free kS 3; have cz_4 := blk_cell kS 4 rfl; have fz_4 := blk_free kS 4; have cz_5 := blk_cell kS 5 rfl; have fz_5 := blk_free kS 5; have cz_6 := blk_cell kS 6 rfl; have fz_6 := blk_free kS 6; have cz_7 := blk_cell kS 7 rfl; have fz_7 := blk_free kS 7; have cz_8 := blk_cell kS 8 rfl; have fz_8 := blk_free kS 8; have cz_9 := blk_cell kS 9 rfl; have fz_9 := blk_free kS 9; have cz_10 := blk_cell kS 10 rfl; have fz_10 := blk_free kS 10; have lz := lt_of_block kS
               simp only [rlv, rll] at SH
               go_wp2_with (refine SH.out.mono ?_; rintro e w5 ⟨rfl, hb5⟩)
               have hy := HBy.out.size
               go_roundw
               case rel => exact ⟨i + 1, s', A1, c1, A2, c2, by go_num, by omega, Lib.hid (HLy.out.below hb5 (Nat.le_refl _)), HI', HS', hc2, Lib.hid (blk_below HKS.out hb5 (lt_of_block HKS.out)), Lib.hid ((HWy.out.bound.below hb5 (fun i hi => hi.2)).mono (fun i hi => hi.1)), Lib.hid (fun j hj => (HT1.out j hj).1), Lib.hid (HBy.out.trans (hb5.mono hy))⟩
               case measure => simp [intOf]; omega)
        · obtain rfl : i = len1 := by omega
          have hB' := HB.out
          go_wp2_with fail
          refine (known_true _).mono ?_
          rintro e w3 ⟨rfl, hb3⟩
          go_wp2_with fail
          go_ret
          exact ⟨rfl, hB'.trans (hb3.mono hB'.size)⟩
theorem own : ownKnob Try.prog.godebug = none := by kernel_rfl
theorem laidOut : laidOutB Try.prog = true := by kernel_rfl
theorem cells23 : Try.prog.cellsOf 23 = 5 := by kernel_rfl
set_option maxRecDepth 100000 in
theorem lifted (os : Os) (started : os.Started) (H : Type) (enc : TypeId × Value → H) :
    ReturnsInHanded {} Try.checked os 4 .any (Rows.linkActsSpec.pre6 enc Try.prog Try.f4 Rows.linkActsRow.domain false) (Rows.linkActsSpec.post enc Try.prog Try.f4 false true false false) := by
  refine returnsInHanded_of_change (C := Try.checked) own started (by kernel_rfl) Try.func4
    (ChangeSpec.witness6 (enc := enc) (C := Try.checked) false ⟨#[], #[.agg #[.int .i64 0, .int .i64 0, .int .i64 0, .int .i64 0, .int .i64 0], .slice none 0 0], []⟩ 8 (by kernel_rfl) (by kernel_rfl) (by kernel_rfl) (by kernel_rfl)) ?_
  intro W base args ds gs before hval0 hW hcnd _
  have hval : ∀ (j : Nat) t v, Try.f4.params[j]? = some t → args[j]? = some v → Value.okWide Try.prog W .any base t v := hval0
  have hW' := hW
  obtain ⟨p, q, hA0, hV, rfl, hfz, hnd⟩ := hW
  have hA : DataW.TrodAll enc Try.prog W 0 (fun _ => true) true Try.f4.params.toList args.toList ds p := hA0
  rw [Try.params4] at hA hval
  obtain ⟨v0, vs0, d0, ds0, p0, q0, hargs, rfl, rfl, h0, r0⟩ := trodAll_cons hA
  obtain ⟨v1, vs1, d1, ds1, p1, q1, rfl, rfl, rfl, h1, r1⟩ := trodAll_cons r0
  obtain ⟨rfl, rfl, rfl⟩ := trodAll_nil r1
  obtain rfl : args = #[v0, v1] := by cases args; simp_all
  obtain ⟨rfl, rfl⟩ := trodVars_none hV
  have k0 := h0
  have lt0 : ∀ x ∈ p0, x.block < W.heap.size := by obtain ⟨m, hm⟩ := k0; exact DataW.trod_lt m _ _ _ hm
  obtain ⟨c00, c01, c02, c03, c04, y00, y01, y02, y03, y04, m0, rfl, _, _, hy00, hy01, hy02, hy03, hy04⟩ := open_agg5 Try.underlying23 (by kernel_rfl) cells23 (hval 0 23 v0 rfl rfl) h0
  obtain ⟨a00, e00, _, w00⟩ := DataW.trod_int Try.underlying3 hy00; simp at e00; subst e00
  obtain ⟨a01, e01, _, w01⟩ := DataW.trod_int Try.underlying3 hy01; simp at e01; subst e01
  obtain ⟨a02, e02, _, w02⟩ := DataW.trod_int Try.underlying3 hy02; simp at e02; subst e02
  obtain ⟨a03, e03, _, w03⟩ := DataW.trod_int Try.underlying3 hy03; simp at e03; subst e03
  obtain ⟨a04, e04, _, w04⟩ := DataW.trod_int Try.underlying3 hy04; simp at e04; subst e04
  have k1 := h1
  have lt1 : ∀ x ∈ p1, x.block < W.heap.size := by obtain ⟨m, hm⟩ := k1; exact DataW.trod_lt m _ _ _ hm
  obtain ⟨a1, len1, cap1, rfl⟩ := okWide_slice Try.underlying33 (hval 1 33 v1 rfl rfl)
  obtain ⟨fuel1, hf1⟩ := h1
  obtain ⟨xa1, xlen1, xcap1, l1, xe1, ro1, wo1, fo1⟩ := lacts_of hf1
  obtain ⟨rfl, rfl, rfl⟩ : a1 = xa1 ∧ len1 = xlen1 ∧ cap1 = xcap1 := by injection xe1 with e1 e2 e3; exact ⟨e1, e2, e3⟩
  clear hA0 hval0
  refine (walk a00 a01 a02 a03 a04 a1 len1 cap1 l1 W w00 w01 w02 w03 w04 wo1 ro1 fo1).mono fun e W' ⟨he, bel⟩ => ?_
  subst he
  exact ⟨_, rfl, _, _, _, [], _, [], hW', trodAll_mk1 (shut_bool Try.underlying4 _), (trodAll_cons_mk (Below.trod laidOut (by kernel_rfl) (of_decide_eq_true (by kernel_rfl)) k0 bel lt0) (trodAll_cons_mk (Below.trod laidOut (by kernel_rfl) (of_decide_eq_true (by kernel_rfl)) k1 bel lt1) trodAll_mk0)), rfl, bel.frame _, fun h => by cases h⟩
theorem over : Rows.linkActsRow.holds Try.pinned (OpenSpec.ofChange Rows.linkActsSpec) :=
  OpenClaim.holds_of_wide 4 Try.f4 rfl rfl rfl rfl rfl rfl rfl ⟨rfl, rfl, rfl, rfl, rfl⟩ rfl rfl rfl rfl rfl (by kernel_rfl) Try.func4 (by kernel_rfl)
    (of_decide_eq_true (by kernel_rfl)) (by unfold Func.isWrapper; first | (rw [if_pos (by decide +kernel)]; kernel_rfl) | (rw [if_neg (by decide +kernel)]; exact ⟨rfl, rfl⟩))
    (fun os started H enc _ => lifted os started H enc)
theorem proved : Rows.LinkActsSaid := over
end Go.Proofs.Ytgdpoiapkaahfaa.lawLinkActs

/- The theorem of the links holds: 'skylanternlaw35.LinkHolds' returns true at every input. No conditions. -/
import Derived.Test.YtgdpoiapkaahfaaLkH
import Derived.Test.YtgdpoiapkaahfaaLkKn
import Derived.Test.YtgdpoiapkaahfaaSameR
import Derived.Test.YtgdpoiapkaahfaaRLkA
import Derived.Test.YtgdpoiapkaahfaaArg
namespace Go.Proofs.Ytgdpoiapkaahfaa.lawLinkHolds
open Go.ChangeShapes Go.WideShapes Go.ChangeAt Go.RowKit Go.Joins
set_option linter.unusedVariables false
set_option linter.unusedSimpArgs false
attribute [local go_sem ↓] Go.wp_at_zero Go.wp_at_succ
set_option maxHeartbeats 8000000
set_option maxRecDepth 100000
def mx (x y : Int) : Int := if x < y then y else x
theorem run_mx {P : Program} {w : World} (ts : Array TypeId) (t : TypeId) (k k' : IntKind) (x y : Int) : (Builtin.max_ ts t #[.int k x, .int k' y]).run P w = .ok (.int k (mx x y)) w := by
  simp [Builtin.max_, Builtin.max2, mx]
attribute [local go_sem high] run_mx
theorem mx_le (x y : Int) : x ≤ mx x y ∧ y ≤ mx x y := by unfold mx; split <;> omega
theorem mx_ub {x y z : Int} (h1 : x ≤ z) (h2 : y ≤ z) : mx x y ≤ z := by unfold mx; split <;> omega
/-- what is still on its way, in memory -/
def LRel (B b1 b2 : Nat) (r : Lnk.Ru) (ws : List Int) (w5 : World) (O : Option Addr) (oc n : Nat) (tot : Int) (g : Nat) (v10 v15 v16 v17 : Value) (wr : World) : Prop :=
  ∃ (s : Lnk.St) (A1 : Option Addr) (c1 : Nat) (A2 : Option Addr) (c2 : Nat) (now last before arr : Int), g = s.u.length ∧ v10 = .int .i64 now ∧ v15 = .int .i64 arr ∧ v16 = .int .i64 last ∧ v17 = .int .i64 before ∧ 0 ≤ arr ∧
    Hid (Lnk.HR r ws s now before last) ∧ Hid (Lnk.Inv s) ∧ Hid (H2 B b1 b2 r wr A1 c1 A2 c2 O oc n (ats ws n) s s) ∧ Hid (Below B w5 wr) ∧ Hid (arr + (s.u.length : Int) = tot)
/-- a guard fails -/
theorem walk_no (a00 a01 a02 a03 a04 : Int) (a1 : Option Addr) (len1 cap1 : Nat) (l1 : List Int) (w : World) (w00 : (Lit.int .i64 a00).wf = true) (w01 : (Lit.int .i64 a01).wf = true) (w02 : (Lit.int .i64 a02).wf = true) (w03 : (Lit.int .i64 a03).wf = true) (w04 : (Lit.int .i64 a04).wf = true) (w1 : Rd w w.heap.size a1 len1 l1) (r1 : Room a1 len1 cap1) (hno : 40 < len1 ∨ ¬ 40 < len1 ∧ Lnk.vld ⟨a00, a01, a02, a03, a04⟩ = false) :
    Calls Try.prog 8 #[.agg #[.int .i64 a00, .int .i64 a01, .int .i64 a02, .int .i64 a03, .int .i64 a04], .slice a1 len1 cap1] w fun e w' => e = .returned (.bool true) ∧ Below w.heap.size w w' := by
  have RV := Lib.hid (fun W : World => rlvalid_any ⟨a00, a01, a02, a03, a04⟩ W)
  simp only [rul] at RV
  have hl := r1.2.1
  have hl2 := r1.1
  unfold maxLen at hl
  clear w1 r1 w00 w01 w02 w03 w04
  rcases hno with h1 | ⟨h1, h2⟩
  · go_enter Try.func8, Try.ntmps8
    go_wp2_with fail
    refine (known_true _).mono ?_
    rintro e w4 ⟨rfl, hb4⟩
    have hz4 := hb4.size
    (try simp at hz4)
    go_wp2_with fail
    go_ret
    exact ⟨rfl, (by repeat (first | (with_reducible exact Below.refl _ _) | (with_reducible refine Below.drew ?_) | (with_reducible refine below_drewN ?_ _) | ((with_reducible refine Below.alloc ?_ ?_ _); rotate_left; (first | omega | (simp <;> omega)); rotate_right) | ((with_reducible refine Below.setCell ?_ ?_ _); rotate_left; (first | omega | (simp <;> omega)); rotate_right) | (with_reducible assumption) | (refine Below.trans ?_ (Below.mono (by assumption) ?_); rotate_left; (first | omega | (simp <;> omega)); rotate_right)))⟩
  · rw [h2] at RV
    clear h2
    go_enter Try.func8, Try.ntmps8
    go_wp2_with fail
    refine (RV.out _).mono ?_
    rintro e w3 ⟨rfl, hb3⟩
    have hz3 := hb3.size
    (try simp at hz3)
    go_wp2_with fail
    refine (known_true _).mono ?_
    rintro e w4 ⟨rfl, hb4⟩
    have hz4 := hb4.size
    (try simp at hz4)
    go_wp2_with fail
    go_ret
    exact ⟨rfl, (by repeat (first | (with_reducible exact Below.refl _ _) | (with_reducible refine Below.drew ?_) | (with_reducible refine below_drewN ?_ _) | ((with_reducible refine Below.alloc ?_ ?_ _); rotate_left; (first | omega | (simp <;> omega)); rotate_right) | ((with_reducible refine Below.setCell ?_ ?_ _); rotate_left; (first | omega | (simp <;> omega)); rotate_right) | (with_reducible assumption) | (refine Below.trans ?_ (Below.mono (by assumption) ?_); rotate_left; (first | omega | (simp <;> omega)); rotate_right)))⟩
theorem rd_one (w : World) (q : Nat) (hq : q = w.heap.size) (x : Int) (hx : 0 ≤ x ∧ x < 256) : Rd (w.alloc (.cells #[.int .u8 x] 5)) (w.alloc (.cells #[.int .u8 x] 5)).heap.size (some ⟨q, 0, none⟩) 1 [x] := by
  subst hq
  exact Rd.of_block (l := [x]) (heap_new _ _) (by simp) (by intro y hy; simp at hy; omega)
theorem walk_yes (a00 a01 a02 a03 a04 : Int) (a1 : Option Addr) (len1 cap1 : Nat) (l1 : List Int) (w : World) (w00 : (Lit.int .i64 a00).wf = true) (w01 : (Lit.int .i64 a01).wf = true) (w02 : (Lit.int .i64 a02).wf = true) (w03 : (Lit.int .i64 a03).wf = true) (w04 : (Lit.int .i64 a04).wf = true) (w1 : Rd w w.heap.size a1 len1 l1) (r1 : Room a1 len1 cap1) (h1 : ¬ 40 < len1) (h2 : Lnk.vld ⟨a00, a01, a02, a03, a04⟩ = true) :
    Calls Try.prog 8 #[.agg #[.int .i64 a00, .int .i64 a01, .int .i64 a02, .int .i64 a03, .int .i64 a04], .slice a1 len1 cap1] w fun e w' => e = .returned (.bool true) ∧ Below w.heap.size w w' := by
  obtain ⟨i0, hi0, hz0, hz1, hz2⟩ := info_parts info_int
  have RV := Lib.hid (fun W : World => rlvalid_any ⟨a00, a01, a02, a03, a04⟩ W)
  rw [h2] at RV
  have NW := Lib.hid (fun W : World => lnew_yes ⟨a00, a01, a02, a03, a04⟩ W h2 (i64_wf w04).2)
  simp only [rul] at RV NW
  have HV := Lib.hid h2
  have hv2 := h2
  rw [Lnk.vld_iff] at hv2
  simp only at hv2
  have HW := Lib.hid w1
  have HLN := Lib.hid w1.1
  have HBY := Lib.hid w1.2.1
  have HI0 := Lib.hid (Lnk.hi_new ⟨a00, a01, a02, a03, a04⟩ l1)
  have HIN0 := Lib.hid (Lnk.inv_new h2 (i64_wf w04).2)
  generalize hs0 : Lnk.new ⟨a00, a01, a02, a03, a04⟩ = s0 at *
  have HS0 := Lib.hid hs0
  have hlen40 : len1 ≤ 40 := by omega
  clear w1 r1 w00 w01 w02 w03 w04 h2 hs0
  go_enter Try.func8, Try.ntmps8
  go_wp2_with fail
  refine (RV.out _).mono ?_
  rintro e w3 ⟨rfl, hb3⟩
  have hz3 := hb3.size
  (try simp at hz3)
  have k3 := blk_below (q := w.heap.size) (heap_new _ _) hb3 (by first | omega | (simp; done) | (simp; omega))
  have HB3 := (show Below w.heap.size w w3 from (by repeat (first | (with_reducible exact Below.refl _ _) | (with_reducible refine Below.drew ?_) | (with_reducible refine below_drewN ?_ _) | ((with_reducible refine Below.alloc ?_ ?_ _); rotate_left; (first | omega | (simp <;> omega)); rotate_right) | ((with_reducible refine Below.setCell ?_ ?_ _); rotate_left; (first | omega | (simp <;> omega)); rotate_right) | (with_reducible assumption) | (refine Below.trans ?_ (Below.mono (by assumption) ?_); rotate_left; (first | omega | (simp <;> omega)); rotate_right))))
  clear hb3
  have ca_0 := blk_cell k3 0 rfl; have fa_0 := blk_free k3 0; have ca_1 := blk_cell k3 1 rfl; have fa_1 := blk_free k3 1; have ca_2 := blk_cell k3 2 rfl; have fa_2 := blk_free k3 2; have ca_3 := blk_cell k3 3 rfl; have fa_3 := blk_free k3 3; have ca_4 := blk_cell k3 4 rfl; have fa_4 := blk_free k3 4; have la := lt_of_block k3
  go_wp2_with fail
  refine (NW.out _).mono ?_
  rintro e w4 ⟨b1, rfl, hl4, hb4⟩
  have hz4 := hb4.size
  have k4 := blk_below k3 hb4 (by first | omega | (simp; done) | (simp; omega))
  have HB4 := (show Below w.heap.size w w4 from (by repeat (first | (with_reducible exact Below.refl _ _) | (with_reducible refine Below.drew ?_) | (with_reducible refine below_drewN ?_ _) | ((with_reducible refine Below.alloc ?_ ?_ _); rotate_left; (first | omega | (simp <;> omega)); rotate_right) | ((with_reducible refine Below.setCell ?_ ?_ _); rotate_left; (first | omega | (simp <;> omega)); rotate_right) | (with_reducible assumption) | (refine Below.trans ?_ (Below.mono (by assumption) ?_); rotate_left; (first | omega | (simp <;> omega)); rotate_right))))
  clear ca_0 fa_0 ca_1 fa_1 ca_2 fa_2 ca_3 fa_3 ca_4 fa_4 la k3 HB3 hb4
  have ca_0 := blk_cell k4 0 rfl; have fa_0 := blk_free k4 0; have ca_1 := blk_cell k4 1 rfl; have fa_1 := blk_free k4 1; have ca_2 := blk_cell k4 2 rfl; have fa_2 := blk_free k4 2; have ca_3 := blk_cell k4 3 rfl; have fa_3 := blk_free k4 3; have ca_4 := blk_cell k4 4 rfl; have fa_4 := blk_free k4 4; have la := lt_of_block k4
  go_wp2_with fail
  refine (NW.out _).mono ?_
  rintro e w5 ⟨b2, rfl, hl5, hb5⟩
  have hz5 := hb5.size
  have k5 := blk_below k4 hb5 (by first | omega | (simp; done) | (simp; omega))
  have HB5 := Lib.hid (show Below w.heap.size w w5 from (by repeat (first | (with_reducible exact Below.refl _ _) | (with_reducible refine Below.drew ?_) | (with_reducible refine below_drewN ?_ _) | ((with_reducible refine Below.alloc ?_ ?_ _); rotate_left; (first | omega | (simp <;> omega)); rotate_right) | ((with_reducible refine Below.setCell ?_ ?_ _); rotate_left; (first | omega | (simp <;> omega)); rotate_right) | (with_reducible assumption) | (refine Below.trans ?_ (Below.mono (by assumption) ?_); rotate_left; (first | omega | (simp <;> omega)); rotate_right))))
  clear ca_0 fa_0 ca_1 fa_1 ca_2 fa_2 ca_3 fa_3 ca_4 fa_4 la k4 HB4
  have HH0 : H2 (w.heap.size + 1) b1 b2 ⟨a00, a01, a02, a03, a04⟩ w5 none 0 none 0 none 0 0 (ats l1 0) s0 s0 := by
    rw [HS0.out] at hl4 hl5
    have t1 := hl4.two
    have g2 := hl5.two_ge
    exact ⟨(hl4.below hb5 (Nat.le_refl _)).low (by omega), hl5.low (by omega), Row.nil _ _ _ _, fun j h1 h2 => by have := t1 j h1; have := g2 j h2; omega, fun g hg => by cases hg⟩
  have HA0 := Lib.hid HH0
  have K5 := Lib.hid k5
  have HB05 : w.heap.size + 1 ≤ w5.heap.size := by omega
  clear HH0 hl4 hl5 hb5 NW RV k5 hz4 hz3
  go_wp2_with fail
  go_loopw [9, 10, 11] (fun v9 v10 v11 wr => ∃ (i : Nat) (s : Lnk.St) (A1 : Option Addr) (c1 : Nat) (A2 : Option Addr) (c2 : Nat) (O : Option Addr) (oc : Nat), v9 = .slice O i oc ∧ v10 = .int .i64 (Lnk.sumT l1 i) ∧ v11 = .int .i64 i ∧ i ≤ len1 ∧ Hid (Lnk.HI ⟨a00, a01, a02, a03, a04⟩ l1 s i) ∧ Hid (Lnk.Inv s) ∧ Hid (H2 (w.heap.size + 1) b1 b2 ⟨a00, a01, a02, a03, a04⟩ wr A1 c1 A2 c2 O oc i (ats l1 i) s s) ∧ Hid (Below (w.heap.size + 1) w5 wr)) (fun _ _ v _ => len1 - (intOf v).toNat)
  case atStart => exact ⟨0, s0, none, 0, none, 0, none, 0, by go_num, by rw [Lnk.sumT_zero], by go_num, by omega, HI0, HIN0, HA0, Lib.hid (Below.refl _ _)⟩
  case round =>
    obtain ⟨i, s, A1, c1, A2, c2, O, oc, rfl, rfl, rfl, hi, HI, HIN, HH, HB⟩ := hrel
    clear HA0 HI0 HIN0
    have hzr := HB.out.size
    have HBw := Lib.hid (show Below w.heap.size w wr from HB5.out.trans (HB.out.mono (by omega)))
    by_cases hlt : i < len1
    · obtain ⟨bb, oo, rfl, hbb, hcc⟩ := HW.out.2.2 (by omega)
      have cw := (HBw.out.cell (p := ⟨bb, oo + i, none⟩) hbb).trans (hcc i hlt)
      have HSU := Lib.hid (Lnk.sumT_succ l1 i (by rw [HLN.out]; exact hlt))
      have hx := Lnk.sumT_bd l1 HBY.out i
      have hy := HBY.out.at_ i
      have HST := Lib.hid (HI.out.step HV.out HBY.out (i := i) (by omega))
      have HOK := Lib.hid (HI.out.ok HBY.out (i := i) (by omega))
      have HATS := Lib.hid (ats_succ l1 i)
      rw [HSU.out] at HST HOK HATS
      have HLE := Lib.hid (HI.out.small (by omega))
      have hsent : s.sent < 1000000000 := by have := HI.out.sent; omega
      obtain ⟨x, hxx⟩ : ∃ x, x = Lnk.sumT l1 i := ⟨_, rfl⟩
      obtain ⟨y, hyy⟩ : ∃ y, y = l1.getD i 0 := ⟨_, rfl⟩
      rw [← hxx] at hx HSU HST HOK HATS ⊢
      rw [← hyy] at hy cw HSU HST HOK HATS
      have hin : (i : Int) < (len1 : Int) := by omega
      have hbw : bb < wr.heap.size := by omega
      clear hxx hyy hcc
      go_wp2_with (at_builtin; refine wpList_append_row rfl (.tmp 71) (.tmp 73) _ rfl (w.heap.size + 1) 3 i0 _ 1 8 Try.underlying63 hi0 hz0 hz1 hz2 rfl O i oc ((ats l1 i).map (Value.int .i64)) rfl (HH.out.own.alloc _) ⟨wr.heap.size, 0, none⟩ 1 1 [.int .i64 (x + y)] rfl rfl (fun j u hu => by rw [addr_add, Nat.zero_add]; exact blk_cell (heap_new _ _) j hu) (by intro u hu; simp at hu; subst hu; rfl) (by omega) (by unfold maxLen; omega) (by omega) (by simp; omega) ?_; intro O' oc' w6 hown6 hg6 hat6; (have hz6 := hg6.size; try simp at hz6); have HOW := Lib.hid hown6; have HG6 := Lib.hid hg6; have HAT6 := Lib.hid hat6; clear hown6 hg6 hat6)
      have HH6 := Lib.hid (HH.out.app (((Below.refl _ _).alloc (Nat.le_refl _) _)) HOW.out HG6.out HAT6.out)
      rw [← HATS.out] at HH6
      have HB6 := Lib.hid (show Below (w.heap.size + 1) w5 w6 from Below.grown (HB.out.alloc (by omega) _) HG6.out (by simp; omega) (fun g hg => (HH.out.own.lt (g := g) hg).1))
      clear HOW HG6 HAT6 HH cw
      refine (send_any (w.heap.size + 1) b1 c1 A1 ⟨a00, a01, a02, a03, a04⟩ s (x + y) _ 1 1 [(i : Int)] _ (HH6.out.l1.alloc _) HV.out HIN.out hsent (by simp; omega) (by omega) (rd_one w6 _ rfl _ (by omega)) (fun a ha ht => by injection ha with ha; subst ha; have := HH6.out.l1.two _ ht; simp at this)).mono ?_
      rintro e w7 ⟨rfl, hto7⟩
      obtain ⟨A1', c1', hh7, hk7⟩ := (HH6.out.below ((Below.refl _ _).alloc (Nat.le_refl _) (.cells #[.int .u8 (i : Int)] 5))).to1 hto7
      have hz7 := hk7.size
      (try simp at hz7)
      have HH7 := Lib.hid hh7
      have HB7 := Lib.hid (show Below (w.heap.size + 1) w5 w7 from (HB6.out.alloc (by omega) _).trans (hk7.below (fun j _ hj => HH6.out.l1.two_ge j hj) (by simp; omega)))
      rw [HOK.out]
      clear hto7 hh7 hk7
      go_wp2_with fail
      refine (send_any (w.heap.size + 1) b2 c2 A2 ⟨a00, a01, a02, a03, a04⟩ s (x + y) _ 1 1 [(i : Int)] _ (HH7.out.l2.alloc _) HV.out HIN.out hsent (by simp; omega) (by omega) (rd_one w7 _ rfl _ (by omega)) (fun a ha ht => by injection ha with ha; subst ha; have := HH7.out.l2.two _ ht; simp at this)).mono ?_
      rintro e w8 ⟨rfl, hto8⟩
      obtain ⟨A2', c2', hh8, hk8⟩ := (HH7.out.below ((Below.refl _ _).alloc (Nat.le_refl _) (.cells #[.int .u8 (i : Int)] 5))).to2 hto8
      have HH8 := Lib.hid hh8
      have HB8 := Lib.hid (show Below (w.heap.size + 1) w5 w8 from (HB7.out.alloc (by omega) _).trans (hk8.below (fun j _ hj => HH7.out.l2.two_ge j hj) (by simp; omega)))
      rw [HOK.out]
      have HIN8 := Lib.hid (Lnk.inv_send HV.out HIN.out (b := [(i : Int)]) (now := x + y) (by intro z hz; simp at hz; omega) hsent)
      clear hto8 hh8 hk8
      go_wp2_with fail
      go_roundw
      case rel => exact ⟨i + 1, _, A1', c1', A2', c2', O', oc', by go_num, by rw [HSU.out], by go_num, by omega, HST, HIN8, HH8, HB8⟩
      case measure => simp [intOf]; omega
    · obtain rfl : i = len1 := by omega
      clear hlt
      obtain ⟨L, hL⟩ : ∃ L, L = s.lost := ⟨_, rfl⟩
      obtain ⟨D, hD⟩ : ∃ D, D = s.dbl := ⟨_, rfl⟩
      have hL1 := HI.out.lost
      have hD1 := HI.out.dbl
      have hSn := HI.out.sent
      have hUn := HI.out.len
      have hl0 := HI.out.l0
      have hl1 := HI.out.l1
      have ht0 := HI.out.t0
      have ht1 := HI.out.t1
      rw [← hL] at hL1 hD1 hUn hl0 hl1 ht1
      rw [← hD] at hD1 hUn ht0 ht1
      rw [hSn] at hL1 hD1 hUn hl1 ht1
      have CN := Lib.hid (show Calls Try.prog 25 #[.pointer (some ⟨b1, 0, none⟩)] wr fun e w' => e = .returned (.tuple #[.int .i64 i, .int .i64 L, .int .i64 D]) ∧ ∃ q, w' = wr.drewN q from by
        have h := lcounts_any (w.heap.size + 1) b1 c1 A1 ⟨a00, a01, a02, a03, a04⟩ s wr HH.out.l1
        rw [hSn, ← hL, ← hD] at h
        exact h)
      have WY := Lib.hid (show ∀ W : World, Below wr.heap.size wr W → Calls Try.prog 17 #[.pointer (some ⟨b1, 0, none⟩)] W fun e w' => e = .returned (.int .i64 ((i : Int) - L + D)) ∧ W = w' from fun W hW => by
        have h := lway_any (w.heap.size + 1) b1 c1 A1 ⟨a00, a01, a02, a03, a04⟩ s W (HH.out.l1.below hW (Nat.le_refl _))
        rw [hUn] at h
        exact h)
      have HL0 := Lib.hid hl0
      have HL1 := Lib.hid hl1
      have HT0 := Lib.hid ht0
      have HT1 := Lib.hid ht1
      have HUN := Lib.hid hUn
      have htot : (i : Int) - L + D ≤ 80 := by omega
      have HR0 := Lib.hid (show Lnk.HR ⟨a00, a01, a02, a03, a04⟩ l1 s (Lnk.sumT l1 i) (-1) (-1) from by
        have h := HI.out
        rw [← HLN.out] at h ⊢
        exact h.hr HV.out HBY.out (by rw [HLN.out]; exact hlen40))
      clear hL hD hSn hUn hl0 hl1 ht0 ht1
      generalize Lnk.sumT l1 i = x0 at HR0 ⊢
      go_wp2_with fail
      refine CN.out.mono ?_
      rintro e w6 ⟨rfl, q, rfl⟩
      go_wp2_with fail
      refine (WY.out _ (below_drewN (Below.refl _ _) _)).mono ?_
      rintro e w6 ⟨rfl, rfl⟩
      go_wp2_with fail
      have HH2 := Lib.hid (HH.out.drewN q)
      have HB2 := Lib.hid (show Below (w.heap.size + 1) w5 (wr.drewN q) from below_drewN HB.out _)
      obtain ⟨V2, hV2⟩ : ∃ V2, V2 = wr.drewN q := ⟨_, rfl⟩
      rw [← hV2] at HH2 HB2 ⊢
      clear hV2 HH HB HBw CN WY hzr
      obtain ⟨O, hO⟩ : ∃ O', O' = O := ⟨_, rfl⟩
      rw [← hO] at HH2 ⊢
      clear hO
      go_loopg [10, 15, 16, 17] s.u.length (fun g v10 v15 v16 v17 wr => LRel (w.heap.size + 1) b1 b2 ⟨a00, a01, a02, a03, a04⟩ l1 w5 O oc i ((i : Int) - L + D) g v10 v15 v16 v17 wr)
      case atStart => exact ⟨s, A1, c1, A2, c2, x0, -1, -1, 0, rfl, rfl, by go_num, rfl, rfl, by omega, HR0, HIN, HH2, HB2, Lib.hid (by rw [HUN.out]; omega)⟩
      case round =>
        obtain ⟨s, A1, c1, A2, c2, now, last, before, arr, hgk, rfl, rfl, rfl, rfl, harr, HR, HIN, HH, HB, HSUM⟩ := hrel
        have HGK := Lib.hid hgk
        clear hgk HH2 HB2 HR0
        have hzr := HB.out.size
        have kk := blk_below K5.out HB.out (by omega)
        have hwl := lt_of_block kk
        have ca_0 := blk_cell kk 0 rfl; have fa_0 := blk_free kk 0; have ca_1 := blk_cell kk 1 rfl; have fa_1 := blk_free kk 1; have ca_2 := blk_cell kk 2 rfl; have fa_2 := blk_free kk 2; have ca_3 := blk_cell kk 3 rfl; have fa_3 := blk_free kk 3; have ca_4 := blk_cell kk 4 rfl; have fa_4 := blk_free kk 4; have la := lt_of_block kk
        have WY := Lib.hid (lway_any (w.heap.size + 1) b1 c1 A1 ⟨a00, a01, a02, a03, a04⟩ s wr HH.out.l1)
        by_cases hu : 0 < s.u.length
        · have hnx := HR.out.next HV.out HBY.out (by rw [HLN.out]; exact hlen40) hu
          have hhi := HR.out.high
          have hlo : 0 ≤ now := by have := HR.out.snow; omega
          have RR := Lib.hid (HR.out.round HV.out HBY.out hu (mx_le now (Lnk.nextN s)).1 (mx_le now (Lnk.nextN s)).2 (mx_ub hhi hnx.2.2))
          have NX := Lib.hid (show Calls Try.prog 26 #[.pointer (some ⟨b1, 0, none⟩)] wr fun e w' => e = .returned (.tuple #[.int .i64 (Lnk.nextN s), .int .i64 0]) ∧ wr = w' from by
            have h := lnext_any (w.heap.size + 1) b1 c1 A1 ⟨a00, a01, a02, a03, a04⟩ s wr HH.out.l1 HIN.out.2.2.1
            rw [show Lnk.nextE s = 0 by unfold Lnk.nextE; rw [if_neg (by omega)]] at h
            exact h)
          obtain ⟨N, hN⟩ : ∃ N, N = Lnk.nextN s := ⟨_, rfl⟩
          rw [← hN] at hnx RR NX
          have hmx := mx_le now N
          have hmu := mx_ub hhi hnx.2.2
          obtain ⟨M, hM⟩ : ∃ M, M = mx now N := ⟨_, rfl⟩
          have HM := Lib.hid hM
          rw [← hM] at RR hmx hmu
          clear hN hM
          simp only at hnx
          go_wp2_with fail
          refine WY.out.mono ?_
          rintro e w6 ⟨rfl, rfl⟩
          go_wp2_with fail
          refine NX.out.mono ?_
          rintro e w6 ⟨rfl, rfl⟩
          go_wp2_with fail
          rw [← HM.out]
          obtain ⟨hE, hpos, hlen, HGOT, hHR⟩ := RR.out
          refine (recv_yes (w.heap.size + 1) b1 c1 A1 ⟨a00, a01, a02, a03, a04⟩ s M wr HH.out.l1 HIN.out (by omega) hE).mono ?_
          rintro e w6 ⟨oA, n1, oc1, rfl, hrb1, hto1⟩
          obtain ⟨A1', c1', hh6, hk6⟩ := HH.out.to1 hto1
          have HB6 := Lib.hid (HB.out.trans (HH.out.bel1 hk6 (by omega)))
          have HH6 := Lib.hid hh6
          have hz6 := hk6.size
          have hT2 := HH.out.l2.two
          clear hto1 hh6 hk6 ca_0 fa_0 ca_1 fa_1 ca_2 fa_2 ca_3 fa_3 ca_4 fa_4 kk
          have HRB1 := Lib.hid hrb1
          clear hrb1
          go_wp2_with fail
          refine (recv_yes (w.heap.size + 1) b2 c2 A2 ⟨a00, a01, a02, a03, a04⟩ s M w6 HH6.out.l2 HIN.out (by omega) hE).mono ?_
          rintro e w7 ⟨oA2, n2, oc2, rfl, hrb2, hto2⟩
          obtain ⟨A2', c2', hh7, hk7⟩ := HH6.out.to2 hto2
          have hz7 := hk7.size
          have HB7 := Lib.hid (HB6.out.trans (HH6.out.bel2 hk7 (by omega)))
          have HH7 := Lib.hid hh7
          have hrb1 := HRB1.out.keep hk7 (Nat.le_refl _) (fun j hj hT => by have := hT2 j hT; omega)
          have hn1 := hrb1.len
          have hn2 := hrb2.len
          rw [List.length_map] at hn1 hn2
          obtain rfl : n2 = n1 := by omega
          have SA := Lib.hid (show Calls Try.prog 27 #[.slice oA n2 oc1, .slice oA2 n2 oc2] w7 fun e w' => e = .returned (.bool true) ∧ ∃ q, w' = w7.drewN q from by
            have hb := HIN.out.2.2.1
            refine (samer_any oA oA2 n2 n2 oc1 oc2 _ _ _ _ _ _ w7 (by omega) (by omega) hrb1 hrb2).mono ?_
            rintro e w' ⟨rfl, h⟩
            exact ⟨by simp, h⟩)
          have HRB := Lib.hid hrb1
          obtain ⟨G, hG⟩ : ∃ G, G = (Lnk.got s M).map (·.2) := ⟨_, rfl⟩
          rw [hn1] at hpos hlen HGOT hHR
          rw [← hG] at HGOT hHR HRB
          obtain ⟨s9, hs9⟩ : ∃ s9, s9 = Lnk.recv s M := ⟨_, rfl⟩
          rw [← hs9] at hHR HH7 hlen
          have HGOT' := Lib.hid HGOT
          have HR9 := Lib.hid hHR
          have HIN9 := Lib.hid (show Lnk.Inv s9 by rw [hs9]; exact Lnk.inv_recv HIN.out)
          have HSUM9 := Lib.hid (show (arr + (n2 : Int)) + (s9.u.length : Int) = (i : Int) - L + D by have := HSUM.out; omega)
          have hn0 : ((n2 : Int) == 0) = false := by rw [beq_eq_false_iff_ne]; omega
          have hmeas : s9.u.length < s.u.length := by omega
          have harr80 : arr + (n2 : Int) ≤ 80 := by have := HSUM9.out; omega
          have hn80 : n2 ≤ 80 := by omega
          clear hto2 hh7 hk7 hrb1 hrb2 HRB1 hn1 hn2 hG hs9 HGOT hHR hE RR HH6 HB6 HH hlen
          go_wp2_with fail
          refine SA.out.mono ?_
          rintro e w8 ⟨rfl, q, rfl⟩
          go_wp2_with fail
          have HH8 := Lib.hid (HH7.out.drewN q)
          have HB8 := Lib.hid (show Below (w.heap.size + 1) w5 (w7.drewN q) from below_drewN HB7.out _)
          have HRB8 := Lib.hid (show Rb (w7.drewN q) wr.heap.size w6.heap.size oA n2 G from HRB.out)
          have hz8 : w6.heap.size ≤ (w7.drewN q).heap.size := hz7
          obtain ⟨W8, hW8⟩ : ∃ W8, W8 = w7.drewN q := ⟨_, rfl⟩
          rw [← hW8] at HH8 HB8 HRB8 hz8 ⊢
          clear hW8 HH7 HB7 HRB SA hz7
          obtain ⟨wo, rfl⟩ : ∃ wo : World, wo = wr := ⟨_, rfl⟩
          go_loopw [16, 23] (fun v16 v23 wr => ∃ (j q : Nat), v16 = .int .i64 (Lnk.lastK last G j) ∧ v23 = .int .i64 j ∧ j ≤ n2 ∧ wr = W8.drewN q) (fun _ v _ => n2 - (intOf v).toNat)
          case atStart => exact ⟨0, 0, rfl, by go_num, by omega, rfl⟩
          case round =>
            obtain ⟨j, q, rfl, rfl, hj, rfl⟩ := hrel
            by_cases hjn : j < n2
            · obtain ⟨bb, oo, A', c', rfl, hbb, hc1, hrd, _, _, _, _⟩ := HRB8.out.at_ hjn
              obtain ⟨k, gd, gl, g1, g2, g3⟩ := HGOT'.out j hjn
              rw [gd] at hc1 hrd
              obtain ⟨b', o', rfl, hb', hc2⟩ := hrd.2.2 (by simp)
              have cb := hc2 0 (by simp)
              simp only [List.length_cons, List.length_nil, List.getD, List.getElem?_cons_zero, Option.getD_some, Nat.add_zero, Nat.zero_add] at hc1 cb
              rw [HLN.out] at gl
              obtain ⟨go, oo', cur, hO, _, hgo, _, _, _, _, _, hat, _⟩ := HH8.out.own.some_ (by omega)
              have cat := hat k (.int .i64 (Lnk.sumT l1 (k + 1))) (by rw [List.getElem?_map, ats_at l1 gl]; rfl)
              have HLK := Lib.hid (show Lnk.lastK last G (j + 1) = (k : Int) by show (G.getD j []).getD 0 0 = _; rw [gd]; rfl)
              have hbd := Lnk.sumT_bd l1 HBY.out (k + 1)
              obtain ⟨y, hy⟩ : ∃ y, y = Lnk.sumT l1 (k + 1) := ⟨_, rfl⟩
              obtain ⟨z, hz⟩ : ∃ z, z = Lnk.lastK last G j := ⟨_, rfl⟩
              rw [← hy] at cat hbd g1 g2
              rw [← hz] at g3 ⊢
              subst hO
              have kk := blk_below K5.out HB8.out (by omega)
              have c2r := blk_cell kk 2 rfl
              have c3r := blk_cell kk 3 rfl
              have hjI : (j : Int) < (n2 : Int) := by omega
              have hkI : (k : Int) < (i : Int) := by omega
              have hki : k < i := gl
              simp only at g1 g2 g3
              have hk40 : k < 256 := by omega
              clear hy hz hat hc2 gd hrd kk
              have d1 : ¬ (M < y + a02) := by omega
              have d2 : ¬ (y + a03 ≤ before) := by omega
              have hy1 : -9223372036854775808 ≤ y + a02 ∧ y + a02 ≤ 9223372036854775807 := by omega
              have hy2 : -9223372036854775808 ≤ y + a03 ∧ y + a03 ≤ 9223372036854775807 := by omega
              by_cases he : a02 = a03
              · have hb0 : ((k : Int) < z) = False := by simp; exact g3 he
                have he0 : (a02 == a03) = true := by simpa using he
                have G3 := g3 he
                have d3 : ¬ ((k : Int) < z) := by omega
                clear g3
                subst he
                go_upto_region 35 with fail
                have D1 : decide (M < y + a02) = false := decide_eq_false d1
                have D2 : decide (y + a02 ≤ before) = false := decide_eq_false d2
                have D3 : decide ((k : Int) < z) = false := decide_eq_false d3
                have W1 : IntKind.i64.wrap (y + a02) = y + a02 := IntWalk.i64_in _ hy1
                go_quiet (fail)
                clear W1 D1 D2 D3
                go_wp2_with fail
                go_roundw
                case rel => exact ⟨j + 1, q + nq, by rw [HLK.out], by go_num, by omega, rfl⟩
                case measure => simp [intOf]; omega
              · have he0 : (a02 == a03) = false := by simpa using he
                clear g3 he
                go_upto_region 35 with fail
                have D1 : decide (M < y + a02) = false := decide_eq_false d1
                have D2 : decide (y + a03 ≤ before) = false := decide_eq_false d2
                have W1 : IntKind.i64.wrap (y + a02) = y + a02 := IntWalk.i64_in _ hy1
                have W2 : IntKind.i64.wrap (y + a03) = y + a03 := IntWalk.i64_in _ hy2
                go_quiet (fail)
                clear W1 W2 D1 D2
                go_wp2_with fail
                go_roundw
                case rel => exact ⟨j + 1, q + nq, by rw [HLK.out], by go_num, by omega, rfl⟩
                case measure => simp [intOf]; omega
            · obtain rfl : j = n2 := by omega
              have HH9 := Lib.hid (HH8.out.drewN q)
              have HB9 := Lib.hid (show Below (w.heap.size + 1) w5 (W8.drewN q) from below_drewN HB8.out _)
              go_wp2_with fail
              go_roundg s9.u.length
              case rel => exact ⟨s9, A1', c1', A2', c2', M, _, M, arr + (j : Int), rfl, rfl, rfl, rfl, rfl, by omega, HR9, HIN9, HH9, HB9, HSUM9⟩
              case measure => have := HGK.out; omega
        · have hs0 : s.u.length = 0 := by omega
          obtain rfl : arr = (i : Int) - L + D := by have := HSUM.out; omega
          rw [hs0] at WY
          have hl0 := HL0.out
          have hl1 := HL1.out
          have ht0 := HT0.out
          have ht1 := HT1.out
          have hA0 : a00 = 0 → L ≤ 0 := fun h => by have := hl0 h; omega
          have hA1 : a00 = 1000 → (i : Int) ≤ L := fun h => by have := hl1 h; omega
          have hB0 : a01 = 0 → D ≤ 0 := fun h => by have := ht0 h; omega
          have hB1 : a01 = 1000 → (i : Int) - L ≤ D := fun h => by have := ht1 h; omega
          have HBF := Lib.hid (HB5.out.trans (HB.out.mono (by omega)))
          clear hl0 hl1 ht0 ht1 hs0 hu HR HIN HH HB HSUM HGK
          go_wp2_with fail
          refine WY.out.mono ?_
          rintro e w6 ⟨rfl, rfl⟩
          go_wp2_with fail
          all_goals
            refine (known_true _).mono ?_
            rintro e w9 ⟨rfl, hb9⟩
            go_wp2_with fail
            go_ret
            have hBF := HBF.out
            exact ⟨rfl, hBF.trans (hb9.mono hBF.size)⟩
theorem walk (a00 a01 a02 a03 a04 : Int) (a1 : Option Addr) (len1 cap1 : Nat) (l1 : List Int) (w : World) (w00 : (Lit.int .i64 a00).wf = true) (w01 : (Lit.int .i64 a01).wf = true) (w02 : (Lit.int .i64 a02).wf = true) (w03 : (Lit.int .i64 a03).wf = true) (w04 : (Lit.int .i64 a04).wf = true) (w1 : Rd w w.heap.size a1 len1 l1) (r1 : Room a1 len1 cap1) :
    Calls Try.prog 8 #[.agg #[.int .i64 a00, .int .i64 a01, .int .i64 a02, .int .i64 a03, .int .i64 a04], .slice a1 len1 cap1] w fun e w' => e = .returned (.bool true) ∧ Below w.heap.size w w' := by
  by_cases h1 : 40 < len1
  · exact walk_no a00 a01 a02 a03 a04 a1 len1 cap1 l1 w w00 w01 w02 w03 w04 w1 r1 (.inl h1)
  · cases h2 : Lnk.vld ⟨a00, a01, a02, a03, a04⟩
    · exact walk_no a00 a01 a02 a03 a04 a1 len1 cap1 l1 w w00 w01 w02 w03 w04 w1 r1 (.inr ⟨h1, h2⟩)
    · exact walk_yes a00 a01 a02 a03 a04 a1 len1 cap1 l1 w w00 w01 w02 w03 w04 w1 r1 h1 h2
theorem own : ownKnob Try.prog.godebug = none := by kernel_rfl
theorem laidOut : laidOutB Try.prog = true := by kernel_rfl
theorem cells23 : Try.prog.cellsOf 23 = 5 := by kernel_rfl
set_option maxRecDepth 100000 in
theorem lifted (os : Os) (started : os.Started) (H : Type) (enc : TypeId × Value → H) :
    ReturnsInHanded {} Try.checked os 8 .any (Rows.linkHoldsSpec.pre6 enc Try.prog Try.f8 Rows.linkHoldsRow.domain false) (Rows.linkHoldsSpec.post enc Try.prog Try.f8 false true false false) := by
  refine returnsInHanded_of_change (C := Try.checked) own started (by kernel_rfl) Try.func8
    (ChangeSpec.witness6 (enc := enc) (C := Try.checked) false ⟨#[], #[.agg #[.int .i64 0, .int .i64 0, .int .i64 0, .int .i64 0, .int .i64 0], .slice none 0 0], []⟩ 8 (by kernel_rfl) (by kernel_rfl) (by kernel_rfl) (by kernel_rfl)) ?_
  intro W base args ds gs before hval0 hW hcnd _
  have hval : ∀ (j : Nat) t v, Try.f8.params[j]? = some t → args[j]? = some v → Value.okWide Try.prog W .any base t v := hval0
  have hW' := hW
  obtain ⟨p, q, hA0, hV, rfl, hfz, hnd⟩ := hW
  have hA : DataW.TrodAll enc Try.prog W 0 (fun _ => true) true Try.f8.params.toList args.toList ds p := hA0
  rw [Try.params8] at hA hval
  obtain ⟨v0, vs0, d0, ds0, p0, q0, hargs, rfl, rfl, h0, r0⟩ := trodAll_cons hA
  obtain ⟨v1, vs1, d1, ds1, p1, q1, rfl, rfl, rfl, h1, r1⟩ := trodAll_cons r0
  obtain ⟨rfl, rfl, rfl⟩ := trodAll_nil r1
  obtain rfl : args = #[v0, v1] := by cases args; simp_all
  obtain ⟨rfl, rfl⟩ := trodVars_none hV
  have k0 := h0
  have lt0 : ∀ x ∈ p0, x.block < W.heap.size := by obtain ⟨m, hm⟩ := k0; exact DataW.trod_lt m _ _ _ hm
  obtain ⟨c00, c01, c02, c03, c04, y00, y01, y02, y03, y04, m0, rfl, _, _, hy00, hy01, hy02, hy03, hy04⟩ := open_agg5 Try.underlying23 (by kernel_rfl) cells23 (hval 0 23 v0 rfl rfl) h0
  obtain ⟨a00, e00, _, w00⟩ := DataW.trod_int Try.underlying3 hy00; simp at e00; subst e00
  obtain ⟨a01, e01, _, w01⟩ := DataW.trod_int Try.underlying3 hy01; simp at e01; subst e01
  obtain ⟨a02, e02, _, w02⟩ := DataW.trod_int Try.underlying3 hy02; simp at e02; subst e02
  obtain ⟨a03, e03, _, w03⟩ := DataW.trod_int Try.underlying3 hy03; simp at e03; subst e03
  obtain ⟨a04, e04, _, w04⟩ := DataW.trod_int Try.underlying3 hy04; simp at e04; subst e04
  have k1 := h1
  have lt1 : ∀ x ∈ p1, x.block < W.heap.size := by obtain ⟨m, hm⟩ := k1; exact DataW.trod_lt m _ _ _ hm
  obtain ⟨a1, len1, cap1, rfl⟩ := okWide_slice Try.underlying37 (hval 1 37 v1 rfl rfl)
  obtain ⟨fuel1, hf1⟩ := h1
  obtain ⟨xa1, xlen1, xcap1, l1, xe1, ro1, wo1⟩ := bytes_of hf1
  obtain ⟨rfl, rfl, rfl⟩ : a1 = xa1 ∧ len1 = xlen1 ∧ cap1 = xcap1 := by injection xe1 with e1 e2 e3; exact ⟨e1, e2, e3⟩
  clear hA0 hval0
  refine (walk a00 a01 a02 a03 a04 a1 len1 cap1 l1 W w00 w01 w02 w03 w04 wo1 ro1).mono fun e W' ⟨he, bel⟩ => ?_
  subst he
  exact ⟨_, rfl, _, _, _, [], _, [], hW', trodAll_mk1 (shut_bool Try.underlying4 _), (trodAll_cons_mk (Below.trod laidOut (by kernel_rfl) (of_decide_eq_true (by kernel_rfl)) k0 bel lt0) (trodAll_cons_mk (Below.trod laidOut (by kernel_rfl) (of_decide_eq_true (by kernel_rfl)) k1 bel lt1) trodAll_mk0)), rfl, bel.frame _, fun h => by cases h⟩
theorem over : Rows.linkHoldsRow.holds Try.pinned (OpenSpec.ofChange Rows.linkHoldsSpec) :=
  OpenClaim.holds_of_wide 8 Try.f8 rfl rfl rfl rfl rfl rfl rfl ⟨rfl, rfl, rfl, rfl, rfl⟩ rfl rfl rfl rfl rfl (by kernel_rfl) Try.func8 (by kernel_rfl)
    (of_decide_eq_true (by kernel_rfl)) (by unfold Func.isWrapper; first | (rw [if_pos (by decide +kernel)]; kernel_rfl) | (rw [if_neg (by decide +kernel)]; exact ⟨rfl, rfl⟩))
    (fun os started H enc _ => lifted os started H enc)
theorem proved : Rows.LinkHoldsSaid := over
end Go.Proofs.Ytgdpoiapkaahfaa.lawLinkHolds

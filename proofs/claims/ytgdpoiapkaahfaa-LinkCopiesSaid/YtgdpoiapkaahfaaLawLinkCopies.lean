/- The law of the links' copies holds: 'skylanternlaw35.LinkCopies' returns true at every input. No conditions. -/
import Derived.Test.YtgdpoiapkaahfaaLkCp
import Derived.Test.YtgdpoiapkaahfaaLkKn
namespace Go.Proofs.Ytgdpoiapkaahfaa.lawLinkCopies
open Go.ChangeShapes Go.WideShapes Go.ChangeAt Go.RowKit Go.Joins
set_option linter.unusedVariables false
set_option linter.unusedSimpArgs false
attribute [local go_sem ↓] Go.wp_at_zero Go.wp_at_succ
set_option maxHeartbeats 8000000
set_option maxRecDepth 100000
theorem few_all (A : Option Addr) (n cap most : Nat) (l : List LAct) (B : Nat) (w : World) (h : LRf w B A n l) (hn : n ≤ maxLen) (hm : most ≤ 1000) :
    Calls Try.prog 13 #[.slice A n cap, .int .i64 most] w fun e w' => e = .returned (.bool (fewB l most)) ∧ w = w' := by
  unfold maxLen at hn
  by_cases hnm : most < n
  · have E := Lib.hid (show fewB l most = false by have := h.1; unfold fewB; rw [decide_eq_false (by omega)]; rfl)
    clear h
    go_enter Try.func13, Try.ntmps13
    go_wp2_with fail
    go_ret
    exact ⟨ret_bool E.out.symm, rfl⟩
  · exact few_any A n cap most B l w h (by omega) hm
theorem few_len {l : List LAct} {most : Nat} (h : fewB l most = true) : l.length ≤ most ∧ ∀ y ∈ l, okA y = true := by
  unfold fewB at h
  simp only [Bool.and_eq_true, decide_eq_true_eq, List.all_eq_true] at h
  exact h
/-- a guard fails -/
theorem walk_no (a00 a01 a02 a03 a04 : Int) (a1 : Option Addr) (len1 cap1 : Nat) (l1 : List LAct) (a2 : Option Addr) (len2 cap2 : Nat) (l2 : List LAct) (a3 : Option Addr) (len3 cap3 : Nat) (l3 : List LAct) (w : World) (w00 : (Lit.int .i64 a00).wf = true) (w01 : (Lit.int .i64 a01).wf = true) (w02 : (Lit.int .i64 a02).wf = true) (w03 : (Lit.int .i64 a03).wf = true) (w04 : (Lit.int .i64 a04).wf = true) (w1 : LRf w w.heap.size a1 len1 l1) (r1 : Room a1 len1 cap1) (f1 : ∀ y ∈ l1, LaOk y) (w2 : LRf w w.heap.size a2 len2 l2) (r2 : Room a2 len2 cap2) (f2 : ∀ y ∈ l2, LaOk y) (w3 : LRf w w.heap.size a3 len3 l3) (r3 : Room a3 len3 cap3) (f3 : ∀ y ∈ l3, LaOk y) (hno : fewB l1 20 = false ∨ fewB l1 20 = true ∧ (fewB l2 10 = false ∨ fewB l2 10 = true ∧ (fewB l3 10 = false ∨ fewB l3 10 = true ∧ Lnk.vld ⟨a00, a01, a02, a03, a04⟩ = false))) :
    Calls Try.prog 6 #[.agg #[.int .i64 a00, .int .i64 a01, .int .i64 a02, .int .i64 a03, .int .i64 a04], .slice a1 len1 cap1, .slice a2 len2 cap2, .slice a3 len3 cap3] w fun e w' => e = .returned (.bool true) ∧ Below w.heap.size w w' := by
  have F1 := Lib.hid (show ∀ W : World, LRf W w.heap.size a1 len1 l1 → Calls Try.prog 13 #[.slice a1 len1 cap1, .int .i64 20] W fun e w' => e = .returned (.bool (fewB l1 20)) ∧ W = w' from fun W hW => few_all a1 len1 cap1 20 l1 _ W hW (by have := r1.2.1; have := r1.1; omega) (by omega))
  have F2 := Lib.hid (show ∀ W : World, LRf W w.heap.size a2 len2 l2 → Calls Try.prog 13 #[.slice a2 len2 cap2, .int .i64 10] W fun e w' => e = .returned (.bool (fewB l2 10)) ∧ W = w' from fun W hW => few_all a2 len2 cap2 10 l2 _ W hW (by have := r2.2.1; have := r2.1; omega) (by omega))
  have F3 := Lib.hid (show ∀ W : World, LRf W w.heap.size a3 len3 l3 → Calls Try.prog 13 #[.slice a3 len3 cap3, .int .i64 10] W fun e w' => e = .returned (.bool (fewB l3 10)) ∧ W = w' from fun W hW => few_all a3 len3 cap3 10 l3 _ W hW (by have := r3.2.1; have := r3.1; omega) (by omega))
  have RV := Lib.hid (fun W : World => rlvalid_any ⟨a00, a01, a02, a03, a04⟩ W)
  simp only [rul] at RV
  have HW1 := Lib.hid w1
  have HW2 := Lib.hid w2
  have HW3 := Lib.hid w3
  clear w1 w2 w3 r1 r2 r3 w00 w01 w02 w03 w04 f1 f2 f3
  rcases hno with h1 | ⟨h1, h2 | ⟨h2, h3 | ⟨h3, h4⟩⟩⟩
  all_goals
    (try rw [h1] at F1)
    (try rw [h2] at F2)
    (try rw [h3] at F3)
    (try rw [h4] at RV)
    (try clear h1)
    (try clear h2)
    (try clear h3)
    (try clear h4)
    go_enter Try.func6, Try.ntmps6
    go_wp2_with fail
    refine (F1.out _ (HW1.out.below (B' := w.heap.size) (by repeat (first | (with_reducible exact Below.refl _ _) | (with_reducible refine Below.drew ?_) | (with_reducible refine below_drewN ?_ _) | ((with_reducible refine Below.alloc ?_ ?_ _); rotate_left; (first | omega | (simp <;> omega)); rotate_right) | ((with_reducible refine Below.setCell ?_ ?_ _); rotate_left; (first | omega | (simp <;> omega)); rotate_right) | (with_reducible assumption) | (refine Below.trans ?_ (Below.mono (by assumption) ?_); rotate_left; (first | omega | (simp <;> omega)); rotate_right))) (Nat.le_refl _))).mono ?_
    rintro e w2 ⟨rfl, rfl⟩
    go_wp2_with fail
    (try ((refine (F2.out _ (HW2.out.below (B' := w.heap.size) (by repeat (first | (with_reducible exact Below.refl _ _) | (with_reducible refine Below.drew ?_) | (with_reducible refine below_drewN ?_ _) | ((with_reducible refine Below.alloc ?_ ?_ _); rotate_left; (first | omega | (simp <;> omega)); rotate_right) | ((with_reducible refine Below.setCell ?_ ?_ _); rotate_left; (first | omega | (simp <;> omega)); rotate_right) | (with_reducible assumption) | (refine Below.trans ?_ (Below.mono (by assumption) ?_); rotate_left; (first | omega | (simp <;> omega)); rotate_right))) (Nat.le_refl _))).mono ?_); rintro e w3 ⟨rfl, rfl⟩; go_wp2_with fail))
    (try ((refine (F3.out _ (HW3.out.below (B' := w.heap.size) (by repeat (first | (with_reducible exact Below.refl _ _) | (with_reducible refine Below.drew ?_) | (with_reducible refine below_drewN ?_ _) | ((with_reducible refine Below.alloc ?_ ?_ _); rotate_left; (first | omega | (simp <;> omega)); rotate_right) | ((with_reducible refine Below.setCell ?_ ?_ _); rotate_left; (first | omega | (simp <;> omega)); rotate_right) | (with_reducible assumption) | (refine Below.trans ?_ (Below.mono (by assumption) ?_); rotate_left; (first | omega | (simp <;> omega)); rotate_right))) (Nat.le_refl _))).mono ?_); rintro e w3 ⟨rfl, rfl⟩; go_wp2_with fail))
    (try ((refine (RV.out _).mono ?_); rintro e w3 ⟨rfl, hb3⟩; have hz3 := hb3.size; (try simp at hz3); go_wp2_with fail))
    refine (known_true _).mono ?_
    rintro e w4 ⟨rfl, hb4⟩
    have hz4 := hb4.size
    (try simp at hz4)
    go_wp2_with fail
    go_ret
    exact ⟨rfl, (by repeat (first | (with_reducible exact Below.refl _ _) | (with_reducible refine Below.drew ?_) | (with_reducible refine below_drewN ?_ _) | ((with_reducible refine Below.alloc ?_ ?_ _); rotate_left; (first | omega | (simp <;> omega)); rotate_right) | ((with_reducible refine Below.setCell ?_ ?_ _); rotate_left; (first | omega | (simp <;> omega)); rotate_right) | (with_reducible assumption) | (refine Below.trans ?_ (Below.mono (by assumption) ?_); rotate_left; (first | omega | (simp <;> omega)); rotate_right)))⟩
theorem walk_yes (a00 a01 a02 a03 a04 : Int) (a1 : Option Addr) (len1 cap1 : Nat) (l1 : List LAct) (a2 : Option Addr) (len2 cap2 : Nat) (l2 : List LAct) (a3 : Option Addr) (len3 cap3 : Nat) (l3 : List LAct) (w : World) (w00 : (Lit.int .i64 a00).wf = true) (w01 : (Lit.int .i64 a01).wf = true) (w02 : (Lit.int .i64 a02).wf = true) (w03 : (Lit.int .i64 a03).wf = true) (w04 : (Lit.int .i64 a04).wf = true) (w1 : LRf w w.heap.size a1 len1 l1) (r1 : Room a1 len1 cap1) (f1 : ∀ y ∈ l1, LaOk y) (w2 : LRf w w.heap.size a2 len2 l2) (r2 : Room a2 len2 cap2) (f2 : ∀ y ∈ l2, LaOk y) (w3 : LRf w w.heap.size a3 len3 l3) (r3 : Room a3 len3 cap3) (f3 : ∀ y ∈ l3, LaOk y) (h1 : fewB l1 20 = true) (h2 : fewB l2 10 = true) (h3 : fewB l3 10 = true) (h4 : Lnk.vld ⟨a00, a01, a02, a03, a04⟩ = true) :
    Calls Try.prog 6 #[.agg #[.int .i64 a00, .int .i64 a01, .int .i64 a02, .int .i64 a03, .int .i64 a04], .slice a1 len1 cap1, .slice a2 len2 cap2, .slice a3 len3 cap3] w fun e w' => e = .returned (.bool true) ∧ Below w.heap.size w w' := by
  have F1 := Lib.hid (show ∀ W : World, LRf W w.heap.size a1 len1 l1 → Calls Try.prog 13 #[.slice a1 len1 cap1, .int .i64 20] W fun e w' => e = .returned (.bool (fewB l1 20)) ∧ W = w' from fun W hW => few_all a1 len1 cap1 20 l1 _ W hW (by have := r1.2.1; have := r1.1; omega) (by omega))
  have F2 := Lib.hid (show ∀ W : World, LRf W w.heap.size a2 len2 l2 → Calls Try.prog 13 #[.slice a2 len2 cap2, .int .i64 10] W fun e w' => e = .returned (.bool (fewB l2 10)) ∧ W = w' from fun W hW => few_all a2 len2 cap2 10 l2 _ W hW (by have := r2.2.1; have := r2.1; omega) (by omega))
  have F3 := Lib.hid (show ∀ W : World, LRf W w.heap.size a3 len3 l3 → Calls Try.prog 13 #[.slice a3 len3 cap3, .int .i64 10] W fun e w' => e = .returned (.bool (fewB l3 10)) ∧ W = w' from fun W hW => few_all a3 len3 cap3 10 l3 _ W hW (by have := r3.2.1; have := r3.1; omega) (by omega))
  have RV := Lib.hid (fun W : World => rlvalid_any ⟨a00, a01, a02, a03, a04⟩ W)
  simp only [rul] at RV
  have HW1 := Lib.hid w1
  have HW2 := Lib.hid w2
  have HW3 := Lib.hid w3
  obtain ⟨hl1, hal1⟩ := few_len h1
  obtain ⟨hl2, hal2⟩ := few_len h2
  obtain ⟨hl3, hal3⟩ := few_len h3
  rw [w1.1] at hl1
  rw [w2.1] at hl2
  rw [w3.1] at hl3
  have AL1 := Lib.hid hal1
  have AL2 := Lib.hid hal2
  have AL3 := Lib.hid hal3
  rw [h1] at F1
  rw [h2] at F2
  rw [h3] at F3
  rw [h4] at RV
  have M := Lib.hid (fun W : World => made_yes ⟨a00, a01, a02, a03, a04⟩ W h4 (i64_wf w04).2)
  have HI0 := Lib.hid (Lnk.inv_new h4 (i64_wf w04).2)
  have HU0 := Lib.hid (show (Lnk.new ⟨a00, a01, a02, a03, a04⟩).u = [] from rfl)
  have HSE0 := Lib.hid (show (Lnk.new ⟨a00, a01, a02, a03, a04⟩).sent = 0 from rfl)
  have HV := Lib.hid h4
  simp only [rul] at M
  clear w1 w2 w3 r1 r2 r3 w00 w01 w02 w03 w04 f1 f2 f3 h1 h2 h3 h4 hal1 hal2 hal3
  go_enter Try.func6, Try.ntmps6
  go_wp2_with fail
  refine (F1.out _ (HW1.out.below (B' := w.heap.size) (by repeat (first | (with_reducible exact Below.refl _ _) | (with_reducible refine Below.drew ?_) | (with_reducible refine below_drewN ?_ _) | ((with_reducible refine Below.alloc ?_ ?_ _); rotate_left; (first | omega | (simp <;> omega)); rotate_right) | ((with_reducible refine Below.setCell ?_ ?_ _); rotate_left; (first | omega | (simp <;> omega)); rotate_right) | (with_reducible assumption) | (refine Below.trans ?_ (Below.mono (by assumption) ?_); rotate_left; (first | omega | (simp <;> omega)); rotate_right))) (Nat.le_refl _))).mono ?_
  rintro e w2 ⟨rfl, rfl⟩
  go_wp2_with fail
  refine (F2.out _ (HW2.out.below (B' := w.heap.size) (by repeat (first | (with_reducible exact Below.refl _ _) | (with_reducible refine Below.drew ?_) | (with_reducible refine below_drewN ?_ _) | ((with_reducible refine Below.alloc ?_ ?_ _); rotate_left; (first | omega | (simp <;> omega)); rotate_right) | ((with_reducible refine Below.setCell ?_ ?_ _); rotate_left; (first | omega | (simp <;> omega)); rotate_right) | (with_reducible assumption) | (refine Below.trans ?_ (Below.mono (by assumption) ?_); rotate_left; (first | omega | (simp <;> omega)); rotate_right))) (Nat.le_refl _))).mono ?_
  rintro e w2 ⟨rfl, rfl⟩
  go_wp2_with fail
  refine (F3.out _ (HW3.out.below (B' := w.heap.size) (by repeat (first | (with_reducible exact Below.refl _ _) | (with_reducible refine Below.drew ?_) | (with_reducible refine below_drewN ?_ _) | ((with_reducible refine Below.alloc ?_ ?_ _); rotate_left; (first | omega | (simp <;> omega)); rotate_right) | ((with_reducible refine Below.setCell ?_ ?_ _); rotate_left; (first | omega | (simp <;> omega)); rotate_right) | (with_reducible assumption) | (refine Below.trans ?_ (Below.mono (by assumption) ?_); rotate_left; (first | omega | (simp <;> omega)); rotate_right))) (Nat.le_refl _))).mono ?_
  rintro e w2 ⟨rfl, rfl⟩
  go_wp2_with fail
  refine (RV.out _).mono ?_
  rintro e w3 ⟨rfl, hb3⟩
  have hz3 := hb3.size
  (try simp at hz3)
  have k3 := blk_below (q := w.heap.size) (heap_new _ _) hb3 (by first | omega | (simp; done) | (simp; omega))
  have HB3 := (show Below w.heap.size w w3 from (by repeat (first | (with_reducible exact Below.refl _ _) | (with_reducible refine Below.drew ?_) | (with_reducible refine below_drewN ?_ _) | ((with_reducible refine Below.alloc ?_ ?_ _); rotate_left; (first | omega | (simp <;> omega)); rotate_right) | ((with_reducible refine Below.setCell ?_ ?_ _); rotate_left; (first | omega | (simp <;> omega)); rotate_right) | (with_reducible assumption) | (refine Below.trans ?_ (Below.mono (by assumption) ?_); rotate_left; (first | omega | (simp <;> omega)); rotate_right))))
  clear hb3
  have ca_0 := blk_cell k3 0 rfl; have fa_0 := blk_free k3 0; have ca_1 := blk_cell k3 1 rfl; have fa_1 := blk_free k3 1; have ca_2 := blk_cell k3 2 rfl; have fa_2 := blk_free k3 2; have ca_3 := blk_cell k3 3 rfl; have fa_3 := blk_free k3 3; have ca_4 := blk_cell k3 4 rfl; have fa_4 := blk_free k3 4; have la := lt_of_block k3
  go_wp2_with fail
  refine (M.out _).mono ?_
  rintro e w4 ⟨b, rfl, hl4, hb4⟩
  have hz4 := hb4.size
  (try simp at hz4)
  have HB4 := (show Below w.heap.size w w4 from (by repeat (first | (with_reducible exact Below.refl _ _) | (with_reducible refine Below.drew ?_) | (with_reducible refine below_drewN ?_ _) | ((with_reducible refine Below.alloc ?_ ?_ _); rotate_left; (first | omega | (simp <;> omega)); rotate_right) | ((with_reducible refine Below.setCell ?_ ?_ _); rotate_left; (first | omega | (simp <;> omega)); rotate_right) | (with_reducible assumption) | (refine Below.trans ?_ (Below.mono (by assumption) ?_); rotate_left; (first | omega | (simp <;> omega)); rotate_right))))
  have HL4 := Lib.hid hl4
  clear hb4 hl4 HB3 k3 ca_0 fa_0 ca_1 fa_1 ca_2 fa_2 ca_3 fa_3 ca_4 fa_4 la
  generalize Lnk.new ⟨a00, a01, a02, a03, a04⟩ = s0 at *
  simp only [rlv, rll] at *
  have HBx := Lib.hid HB4
  clear HB4
  go_wp2_with fail
  generalize hV : World.alloc _ _ = V
  have k0 : V.heap[w4.heap.size]? = some (.cells #[.int .i64 a00, .int .i64 a01, .int .i64 a02, .int .i64 a03, .int .i64 a04, .int .u64 s0.x, .int .i64 s0.now, .slice none 0 0, .int .i64 s0.sent, .int .i64 s0.lost, .int .i64 s0.dbl] 28 (0, 0)) := by rw [← hV]; exact heap_new _ _
  have hBV0 : Below w4.heap.size w4 V := by rw [← hV]; exact (Below.refl _ _).alloc (Nat.le_refl _) _
  clear hV
  have hRV := lt_of_block k0
  have hbl := HL4.out.two
  have HLV := Lib.hid (HL4.out.below hBV0 (Nat.le_refl _))
  have HBV := Lib.hid (show Below w.heap.size w V from HBx.out.trans (hBV0.mono (by omega)))
  have hbR : ∀ i, Two b none i → i ≠ w4.heap.size := fun i hi h => by have := hbl i hi; omega
  have HBR := Lib.hid hbR
  have hR : w3.heap.size ≤ w4.heap.size := by omega
  have hR3 : w.heap.size + 1 ≤ w3.heap.size := by omega
  obtain ⟨R, hReq⟩ : ∃ R, R = w4.heap.size := ⟨_, rfl⟩
  obtain ⟨B0, hB0⟩ : ∃ B0, B0 = w3.heap.size := ⟨_, rfl⟩
  rw [← hReq] at k0 hR HBR hRV ⊢
  rw [← hB0] at HLV hR3 hR
  have K0 := Lib.hid k0
  clear hBV0 hbl hbR hReq HBx HL4 k0 hz4 hz3 hB0
  have HZ := Lib.hid (show AZ B0 R (fun j => j = R) (Two b none) V from ⟨rfl, fun j hj => by omega, fun j hj => HBR.out j hj⟩)
  have HA0 := Lib.hid (show AS B0 b R (fun j => j = R) (Two b none) ⟨a00, a01, a02, a03, a04⟩ V V none 0 none 0 s0 from AS.start (by simpa using HLV.out) HI0.out (by rw [HU0.out]; exact Nat.le_refl _) (by simp only [rll]; rw [HU0.out]; exact K0.out) (by rw [HU0.out]; exact RWay.nil _ _ _))
  clear HLV HI0 HU0 K0 HBR
  go_loopw [12] (fun sl wr => ∃ (i : Nat) (s : Lnk.St) (A : Option Addr) (c : Nat) (A' : Option Addr) (c' : Nat), sl = .int .i64 i ∧ i ≤ len1 ∧ Hid (AS B0 b R (fun j => j = R) (Two b none) ⟨a00, a01, a02, a03, a04⟩ V wr A c A' c' s) ∧ Hid (s.sent ≤ (i : Int))) (fun sl _ => len1 - (intOf sl).toNat)
  case atStart => exact ⟨0, s0, none, 0, none, 0, by go_num, by omega, HA0, Lib.hid (by have := HSE0.out; omega)⟩
  case round =>
    obtain ⟨i, s, A, c, A', c', rfl, hi, HA, HS⟩ := hrel
    clear HA0 HSE0
    have hzr := HA.out.keep.size
    have HTG := Lib.hid HA.out.lk.two_ge
    have HB := Lib.hid (show Below w.heap.size w wr from HBV.out.trans (HA.out.keep.below (fun j _ hj => by
      rcases hj with hj | hj
      · rcases hj with hj | hj
        · have := HA.out.lk.ge; omega
        · cases hj
      · omega) (by omega)))
    by_cases hlt : i < len1
    · skip
      obtain ⟨bb, oo, rfl, hbb, hcc⟩ := (HW1.out.below HB.out (Nat.le_refl _)).2 (by omega)
      obtain ⟨D, cd, E', ce, c0, c1, c2, c3, c4, c5, c6, c7, hrd, hrm, hrd2, hrm2⟩ := hcc i hlt
      obtain ⟨x, hx⟩ : ∃ x, x = l1.getD i la0 := ⟨_, rfl⟩
      rw [← hx] at c0 c1 c2 c3 c4 c5 c6 c7 hrd hrm hrd2 hrm2
      have hok : okA x = true := AL1.out x (by rw [hx]; simp [List.getD, List.getElem?_eq_getElem (show i < l1.length by rw [HW1.out.1]; exact hlt)])
      unfold okA at hok
      simp only [Bool.and_eq_true, decide_eq_true_eq] at hok
      obtain ⟨s', hs'⟩ : ∃ s', s' = actS ⟨a00, a01, a02, a03, a04⟩ s x := ⟨_, rfl⟩
      have hse9 : s.sent < 1000000000 := by have := HS.out; omega
      have hszw := HB.out.size
      have HS' := Lib.hid (show s'.sent ≤ ((i + 1 : Nat) : Int) by
        have h1 := sent_actS ⟨a00, a01, a02, a03, a04⟩ s x
        have h2 := HS.out
        rw [hs']; omega)
      have AC := Lib.hid (show ∀ W : World, Below wr.heap.size wr W → Calls Try.prog 14 #[.pointer (some ⟨b, 0, none⟩), rlv ⟨a00, a01, a02, a03, a04⟩ s A' s.u.length c', .agg #[.int .i64 x.kind, .int .i64 x.now, .slice D x.d.length cd, .int .i64 x.f.k, .int .i64 x.f.f, .int .i64 x.f.t, .int .i64 x.f.s, .slice E' x.f.d.length ce]] W (ACall B0 b R (fun j => j = R) (Two b none) ⟨a00, a01, a02, a03, a04⟩ V A wr.heap.size s' W) from fun W hW => by
        have hz := hW.size
        rw [hs']
        exact as_call HA.out HZ.out HV.out hse9 (by have := HA.out.rl; omega) x D E' cd ce hW hok.1 hok.2 ((hrd.below hW (by omega)).more (by omega)) ((hrd2.below hW (by omega)).more (by omega)))
      have hbw : bb < wr.heap.size := by omega
      have hbR : bb ≠ R := by omega
      have HNR := Lib.hid (HA.out.nz HZ.out)
      have hk := HA.out.box
      clear hs' hx hrd hrm hrd2 hrm2 hok hse9 hcc
      simp only [rlv, rll] at AC hk
      have hRlt := lt_of_block hk
      have ca_0 := blk_cell hk 0 rfl; have fa_0 := blk_free hk 0; have ca_1 := blk_cell hk 1 rfl; have fa_1 := blk_free hk 1; have ca_2 := blk_cell hk 2 rfl; have fa_2 := blk_free hk 2; have ca_3 := blk_cell hk 3 rfl; have fa_3 := blk_free hk 3; have ca_4 := blk_cell hk 4 rfl; have fa_4 := blk_free hk 4; have ca_5 := blk_cell hk 5 rfl; have fa_5 := blk_free hk 5; have ca_6 := blk_cell hk 6 rfl; have fa_6 := blk_free hk 6; have ca_7 := blk_cell hk 7 rfl; have fa_7 := blk_free hk 7; have ca_8 := blk_cell hk 8 rfl; have fa_8 := blk_free hk 8; have ca_9 := blk_cell hk 9 rfl; have fa_9 := blk_free hk 9; have ca_10 := blk_cell hk 10 rfl; have fa_10 := blk_free hk 10; have la := lt_of_block hk
      have hin : (i : Int) < (len1 : Int) := by omega
      go_upto_region 9 with fail
      go_region_with (first | (go_at_call 14; refine (AC.out _ (by repeat (first | (with_reducible exact Below.refl _ _) | (with_reducible refine Below.drew ?_) | (with_reducible refine below_drewN ?_ _) | ((with_reducible refine Below.alloc ?_ ?_ _); rotate_left; (first | omega | (simp <;> omega)); rotate_right) | ((with_reducible refine Below.setCell ?_ ?_ _); rotate_left; (first | omega | (simp <;> omega)); rotate_right) | (with_reducible assumption) | (refine Below.trans ?_ (Below.mono (by assumption) ?_); rotate_left; (first | omega | (simp <;> omega)); rotate_right)))).mono ?_; rintro e w1 ⟨A1, c1, A2, c2, H1, rfl, hH1, hH2, HM, HK1⟩; (try simp at hH1); have k1 := blk_keep (q := R) (by repeat (first | (with_reducible assumption) | ((with_reducible apply blk_far); rotate_left; (first | omega | (simp <;> omega)); rotate_right) | (with_reducible apply blk_drew) | (with_reducible apply blk_drewN) | (with_reducible exact heap_new _ _) | ((with_reducible apply heap_new'); (first | rfl | (simp <;> fail))) | (with_reducible apply blk_alloc))) HK1.out (fun h => HNR.out _ h rfl); have cz_0 := blk_cell k1 0 rfl; have fz_0 := blk_free k1 0; have cz_1 := blk_cell k1 1 rfl; have fz_1 := blk_free k1 1; have cz_2 := blk_cell k1 2 rfl; have fz_2 := blk_free k1 2; have cz_3 := blk_cell k1 3 rfl; have fz_3 := blk_free k1 3; have cz_4 := blk_cell k1 4 rfl; have fz_4 := blk_free k1 4; have cz_5 := blk_cell k1 5 rfl; have fz_5 := blk_free k1 5; have cz_6 := blk_cell k1 6 rfl; have fz_6 := blk_free k1 6; have cz_7 := blk_cell k1 7 rfl; have fz_7 := blk_free k1 7; have cz_8 := blk_cell k1 8 rfl; have fz_8 := blk_free k1 8; have cz_9 := blk_cell k1 9 rfl; have fz_9 := blk_free k1 9; have cz_10 := blk_cell k1 10 rfl; have fz_10 := blk_free k1 10; have lz := lt_of_block k1; (try simp only [rlv, rll])))
      all_goals
        go_wp2_with fail
        generalize hWy : World.setCell _ _ _ = Wy
        have kS : Wy.heap[R]? = some (.cells #[.int .i64 a00, .int .i64 a01, .int .i64 a02, .int .i64 a03, .int .i64 a04, .int .u64 s'.x, .int .i64 s'.now, .slice A2 s'.u.length c2, .int .i64 s'.sent, .int .i64 s'.lost, .int .i64 s'.dbl] 28 (0, 0)) := by rw [← hWy]; exact (by apply Eq.trans; (repeat (first | (with_reducible assumption) | (with_reducible apply blk_set) | ((with_reducible apply blk_far); rotate_left; (first | omega | (simp <;> omega)); rotate_right) | (with_reducible apply blk_drew) | (with_reducible apply blk_drewN) | ((with_reducible apply heap_new'); (first | rfl | (simp <;> fail))) | (with_reducible apply blk_alloc))); (first | with_reducible rfl | (simp <;> fail) | rfl))
        have hKy : Keeps (fun j => j = R ∨ (wr.heap.size ≤ j ∧ j < H1)) w1 Wy := by
          rw [← hWy]
          repeat (first | with_reducible exact Keeps.refl _ _ | (with_reducible refine Keeps.setCell ?_ (.inl (.inl rfl)) _) | (with_reducible refine Keeps.drew ?_) | (with_reducible refine Keeps.drewN ?_ _))
        have HX := Lib.hid (HM.out.store HZ.out hKy kS)
        clear hWy hKy kS
        go_roundw
        case rel => exact ⟨i + 1, s', A1, c1, A2, c2, by go_num, by omega, HX, HS'⟩
        case measure => simp [intOf]; omega
    · obtain rfl : i = len1 := by omega
      clear hlt
      go_upto_region 10 with fail
      have hk := HA.out.box
      have hRlt := lt_of_block hk
      have hRN : R ≠ wr.heap.size := by omega
      simp only [rll] at hk
      have ca_0 := blk_cell hk 0 rfl; have fa_0 := blk_free hk 0; have ca_1 := blk_cell hk 1 rfl; have fa_1 := blk_free hk 1; have ca_2 := blk_cell hk 2 rfl; have fa_2 := blk_free hk 2; have ca_3 := blk_cell hk 3 rfl; have fa_3 := blk_free hk 3; have ca_4 := blk_cell hk 4 rfl; have fa_4 := blk_free hk 4; have ca_5 := blk_cell hk 5 rfl; have fa_5 := blk_free hk 5; have ca_6 := blk_cell hk 6 rfl; have fa_6 := blk_free hk 6; have ca_7 := blk_cell hk 7 rfl; have fa_7 := blk_free hk 7; have ca_8 := blk_cell hk 8 rfl; have fa_8 := blk_free hk 8; have ca_9 := blk_cell hk 9 rfl; have fa_9 := blk_free hk 9; have ca_10 := blk_cell hk 10 rfl; have fa_10 := blk_free hk 10; have la := lt_of_block hk
      have CP := Lib.hid (fun (W : World) (hW : Below wr.heap.size wr W) => lcopy_any B0 b c A ⟨a00, a01, a02, a03, a04⟩ s W (HA.out.lk.below hW (Nat.le_refl _)) HA.out.inv.2.2.1)
      go_cut [13, 14] from 68 to 70 (fun v13 v14 wx => CpCut ⟨a00, a01, a02, a03, a04⟩ s wr A' c' v13 v14 wx)
      case first =>
        go_region_with (first | (go_at_call 19; refine (CP.out _ (by repeat (first | (with_reducible exact Below.refl _ _) | (with_reducible refine Below.drew ?_) | (with_reducible refine below_drewN ?_ _) | ((with_reducible refine Below.alloc ?_ ?_ _); rotate_left; (first | omega | (simp <;> omega)); rotate_right) | ((with_reducible refine Below.setCell ?_ ?_ _); rotate_left; (first | omega | (simp <;> omega)); rotate_right) | (with_reducible assumption) | (refine Below.trans ?_ (Below.mono (by assumption) ?_); rotate_left; (first | omega | (simp <;> omega)); rotate_right)))).mono ?_; rintro e w5 ⟨b2, A2, c2, rfl, hl5, hb5⟩; have hz5 := hb5.size; (try simp at hz5); have k5 := blk_below (q := R) (by repeat (first | (with_reducible assumption) | ((with_reducible apply blk_far); rotate_left; (first | omega | (simp <;> omega)); rotate_right) | (with_reducible apply blk_drew) | (with_reducible apply blk_drewN) | (with_reducible exact heap_new _ _) | ((with_reducible apply heap_new'); (first | rfl | (simp <;> fail))) | (with_reducible apply blk_alloc))) hb5 (by first | omega | (simp; done) | (simp; omega)); have cz_0 := blk_cell k5 0 rfl; have fz_0 := blk_free k5 0; have cz_1 := blk_cell k5 1 rfl; have fz_1 := blk_free k5 1; have cz_2 := blk_cell k5 2 rfl; have fz_2 := blk_free k5 2; have cz_3 := blk_cell k5 3 rfl; have fz_3 := blk_free k5 3; have cz_4 := blk_cell k5 4 rfl; have fz_4 := blk_free k5 4; have cz_5 := blk_cell k5 5 rfl; have fz_5 := blk_free k5 5; have cz_6 := blk_cell k5 6 rfl; have fz_6 := blk_free k5 6; have cz_7 := blk_cell k5 7 rfl; have fz_7 := blk_free k5 7; have cz_8 := blk_cell k5 8 rfl; have fz_8 := blk_free k5 8; have cz_9 := blk_cell k5 9 rfl; have fz_9 := blk_free k5 9; have cz_10 := blk_cell k5 10 rfl; have fz_10 := blk_free k5 10; have lz := lt_of_block k5; have HL5 := Lib.hid hl5; have HB5 := Lib.hid hb5; (try (have z1 : w5.heap[wr.heap.size]? = some (.cells #[.int .i64 0, .int .i64 0, .int .i64 0, .int .i64 0, .int .i64 0, .int .u64 0, .int .i64 0, .slice none 0 0, .int .i64 0, .int .i64 0, .int .i64 0] 28 (0, 0)) := blk_below (by first | ((with_reducible apply heap_new'); (first | rfl | (simp <;> fail))) | ((with_reducible apply blk_drew); ((with_reducible apply heap_new'); (first | rfl | (simp <;> fail)))) | ((with_reducible apply blk_drewN); ((with_reducible apply heap_new'); (first | rfl | (simp <;> fail))))) hb5 (by first | omega | (simp; done) | (simp; omega)); have cy_0 := blk_cell z1 0 rfl; have fy_0 := blk_free z1 0; have cy_1 := blk_cell z1 1 rfl; have fy_1 := blk_free z1 1; have cy_2 := blk_cell z1 2 rfl; have fy_2 := blk_free z1 2; have cy_3 := blk_cell z1 3 rfl; have fy_3 := blk_free z1 3; have cy_4 := blk_cell z1 4 rfl; have fy_4 := blk_free z1 4; have cy_5 := blk_cell z1 5 rfl; have fy_5 := blk_free z1 5; have cy_6 := blk_cell z1 6 rfl; have fy_6 := blk_free z1 6; have cy_7 := blk_cell z1 7 rfl; have fy_7 := blk_free z1 7; have cy_8 := blk_cell z1 8 rfl; have fy_8 := blk_free z1 8; have cy_9 := blk_cell z1 9 rfl; have fy_9 := blk_free z1 9; have cy_10 := blk_cell z1 10 rfl; have fy_10 := blk_free z1 10; have ly := lt_of_block z1)); clear hl5 hb5))
        all_goals
          first
          | (have _g := z1
             go_wp2_with fail
             generalize hWx : World.setCell _ _ _ = Wx
             have kN : Wx.heap[wr.heap.size]? = some (.cells #[.int .i64 a00, .int .i64 a01, .int .i64 a02, .int .i64 a03, .int .i64 a04, .int .u64 s.x, .int .i64 s.now, .slice A' s.u.length c', .int .i64 s.sent, .int .i64 s.lost, .int .i64 s.dbl] 28 (0, 0)) := by rw [← hWx]; exact (by apply Eq.trans; (repeat (first | (with_reducible assumption) | (with_reducible apply blk_set) | ((with_reducible apply blk_far); rotate_left; (first | omega | (simp <;> omega)); rotate_right) | (with_reducible apply blk_drew) | (with_reducible apply blk_drewN) | ((with_reducible apply heap_new'); (first | rfl | (simp <;> fail))) | (with_reducible apply blk_alloc))); (first | with_reducible rfl | (simp <;> fail) | rfl))
             have hKx : Keeps (fun j => j = wr.heap.size ∨ j = wr.heap.size) w5 Wx := by
               rw [← hWx]
               repeat (first | with_reducible exact Keeps.refl _ _ | (with_reducible refine Keeps.setCell ?_ (.inl (.inl rfl)) _) | (with_reducible refine Keeps.drew ?_) | (with_reducible refine Keeps.drewN ?_ _) | (with_reducible refine Keeps.alloc ?_ _))
             have hge : ∀ j, Two b2 A2 j → j ≠ wr.heap.size := fun j hj => by have := HL5.out.two_ge j hj; (try simp at this); omega
             have hBx : Below wr.heap.size wr Wx := by
               refine Below.trans ?_ ((HB5.out.mono (by (try simp))).trans (hKx.below (fun i _ h => by omega) (by omega)))
               exact (by repeat (first | (with_reducible exact Below.refl _ _) | (with_reducible refine Below.drew ?_) | (with_reducible refine below_drewN ?_ _) | ((with_reducible refine Below.alloc ?_ ?_ _); rotate_left; (first | omega | (simp <;> omega)); rotate_right) | ((with_reducible refine Below.setCell ?_ ?_ _); rotate_left; (first | omega | (simp <;> omega)); rotate_right) | (with_reducible assumption) | (refine Below.trans ?_ (Below.mono (by assumption) ?_); rotate_left; (first | omega | (simp <;> omega)); rotate_right)))
             clear hWx
             go_meet
             exact ⟨b2, A2, c2, wr.heap.size, rfl, rfl, Nat.le_refl _, (HL5.out.kept hKx (fun j hj h => hge j hj (h.elim id id))).lower (by (try simp)), kN, hge, hBx⟩)
          | (fail_if_success (have _g := z1)
             go_wp2_with fail
             generalize hWx : World.alloc _ _ = Wx
             have kN : Wx.heap[w5.heap.size]? = some (.cells #[.int .i64 a00, .int .i64 a01, .int .i64 a02, .int .i64 a03, .int .i64 a04, .int .u64 s.x, .int .i64 s.now, .slice A' s.u.length c', .int .i64 s.sent, .int .i64 s.lost, .int .i64 s.dbl] 28 (0, 0)) := by rw [← hWx]; exact (heap_new _ _)
             have hKx : Keeps (fun _ => False) w5 Wx := by
               rw [← hWx]
               repeat (first | with_reducible exact Keeps.refl _ _ | (with_reducible refine Keeps.setCell ?_ (.inl (.inl rfl)) _) | (with_reducible refine Keeps.drew ?_) | (with_reducible refine Keeps.drewN ?_ _) | (with_reducible refine Keeps.alloc ?_ _))
             have hge : ∀ j, Two b2 A2 j → j ≠ w5.heap.size := fun j hj => by have := HL5.out.two j hj; omega
             have hBx : Below wr.heap.size wr Wx := by
               refine Below.trans ?_ ((HB5.out.mono (by (try simp))).trans (hKx.below (fun i _ h => h.elim) (by omega)))
               exact (by repeat (first | (with_reducible exact Below.refl _ _) | (with_reducible refine Below.drew ?_) | (with_reducible refine below_drewN ?_ _) | ((with_reducible refine Below.alloc ?_ ?_ _); rotate_left; (first | omega | (simp <;> omega)); rotate_right) | ((with_reducible refine Below.setCell ?_ ?_ _); rotate_left; (first | omega | (simp <;> omega)); rotate_right) | (with_reducible assumption) | (refine Below.trans ?_ (Below.mono (by assumption) ?_); rotate_left; (first | omega | (simp <;> omega)); rotate_right)))
             clear hWx
             go_meet
             exact ⟨b2, A2, c2, w5.heap.size, rfl, rfl, by omega, (HL5.out.kept hKx (fun j hj h => h)).lower (by (try simp)), kN, hge, hBx⟩)
      case rest =>
        obtain ⟨b2, A2, c2, R2, rfl, rfl, hR2, hl2, hk2, hn2, hBc⟩ := hcut
        have SH := Lib.hid (shows_yes wr.heap.size b2 c2 A2 ⟨a00, a01, a02, a03, a04⟩ s A' s.u.length c' wc hl2 HA.out.inv rfl _ (HA.out.below hBc).way)
        have HL2 := Lib.hid hl2
        have HK2 := Lib.hid hk2
        have HBc := Lib.hid hBc
        simp only [rlv, rll] at SH hk2
        clear hl2 hBc hk ca_0 fa_0 ca_1 fa_1 ca_2 fa_2 ca_3 fa_3 ca_4 fa_4 ca_5 fa_5 ca_6 fa_6 ca_7 fa_7 ca_8 fa_8 ca_9 fa_9 ca_10 fa_10
        have ca_0 := blk_cell hk2 0 rfl; have fa_0 := blk_free hk2 0; have ca_1 := blk_cell hk2 1 rfl; have fa_1 := blk_free hk2 1; have ca_2 := blk_cell hk2 2 rfl; have fa_2 := blk_free hk2 2; have ca_3 := blk_cell hk2 3 rfl; have fa_3 := blk_free hk2 3; have ca_4 := blk_cell hk2 4 rfl; have fa_4 := blk_free hk2 4; have ca_5 := blk_cell hk2 5 rfl; have fa_5 := blk_free hk2 5; have ca_6 := blk_cell hk2 6 rfl; have fa_6 := blk_free hk2 6; have ca_7 := blk_cell hk2 7 rfl; have fa_7 := blk_free hk2 7; have ca_8 := blk_cell hk2 8 rfl; have fa_8 := blk_free hk2 8; have ca_9 := blk_cell hk2 9 rfl; have fa_9 := blk_free hk2 9; have ca_10 := blk_cell hk2 10 rfl; have fa_10 := blk_free hk2 10; have la := lt_of_block hk2
        go_wp2_with (refine SH.out.mono ?_; rintro e w6 ⟨rfl, hb6⟩)
        have hz6 := hb6.size
        have hzc := HBc.out.size
        have hR2c := lt_of_block hk2
        have HA6 := Lib.hid ((HA.out.below HBc.out).below hb6)
        have hYlt := HA.out.lk.two
        have h2ge := HL2.out.two_ge
        have h2lt := HL2.out.two
        have PL := Lib.hid ((HL2.out.below hb6 (Nat.le_refl _)).lower (base' := B0) (by omega))
        have PK := Lib.hid (blk_below HK2.out hb6 hR2c)
        have PW0 := Lib.hid ((((HA.out.way.bound.below HBc.out (fun j hj => hj.2)).below hb6 (fun j hj => by have := hj.2; omega))).mono (Y := fun j => (B0 ≤ j ∧ j ≠ R ∧ ¬ Two b A j) ∧ j < wr.heap.size) (fun j hj => ⟨⟨hj.1.1, hj.1.2.1, hj.1.2.2⟩, hj.2⟩))
        have HNZ := Lib.hid (HA.out.nz HZ.out)
        have HBV6 := Lib.hid ((HB.out.trans (HBc.out.mono (by have := HB.out.size; omega))).trans (hb6.mono (by have := HB.out.size; omega)))
        have PI := Lib.hid HA.out.inv
        have Pc := Lib.hid HA.out.le
        have PS := Lib.hid (show s.sent ≤ 20 by have := HS.out; omega)
        have HZ2 : AZ B0 R (fun j => j = R ∨ j = R2 ∨ Two b2 A2 j) (Two b A) w6 := ⟨.inl rfl, fun j hj => by
          rcases hj with hj | hj | hj
          · omega
          · omega
          · have := h2lt j hj; omega, fun j hj hZ => by
          have h1 := hYlt j hj
          rcases hZ with hZ | hZ | hZ
          · exact HNZ.out j hj hZ
          · omega
          · have := h2ge j hZ; omega⟩
        have HA7 : AS B0 b R (fun j => j = R ∨ j = R2 ∨ Two b2 A2 j) (Two b A) ⟨a00, a01, a02, a03, a04⟩ w6 w6 A c A' c' s := AS.start HA6.out.lk HA6.out.inv HA6.out.le HA6.out.box (PW0.out.mono (fun j hj => ⟨hj.1.1, fun hZ => by
          rcases hZ with hZ | hZ | hZ
          · exact hj.1.2.1 hZ
          · have := hj.2; omega
          · have := h2ge j hZ; have := hj.2; omega, hj.1.2.2⟩))
        have PD := Lib.hid (show ∀ j, (Two b2 A2 j ∨ j = R2) → ¬ (Two b A j ∨ j = R) ∧ j < w6.heap.size from fun j hj => by
          rcases hj with hj | hj
          · have h1 := h2ge j hj
            have h2 := h2lt j hj
            exact ⟨fun h => by rcases h with h | h; (· have := hYlt j h; omega); (· omega), by omega⟩
          · exact ⟨fun h => by rcases h with h | h; (· have := hYlt j h; omega); (· omega), by omega⟩)
        have PW := Lib.hid (PW0.out.mono (Y := fun j => (B0 ≤ j ∧ ¬ (Two b A j ∨ j = R) ∧ ¬ (Two b2 A2 j ∨ j = R2)) ∧ j < w6.heap.size) (fun j hj => ⟨⟨hj.1.1, fun h => h.elim hj.1.2.2 hj.1.2.1, fun h => by
          have := hj.2
          rcases h with h | h
          · have := h2ge j h; omega
          · omega⟩, by have := hj.2; omega⟩))
        have HYG0 := Lib.hid (show ∀ j, (Two b A j ∨ j = R) → w.heap.size ≤ j from fun j hj => by
          rcases hj with hj | hj
          · have := HA.out.lk.two_ge j hj; omega
          · omega)
        have HZR := Lib.hid (show ∀ j, ¬ (j = R ∨ j = R2 ∨ Two b2 A2 j) → ¬ (Two b2 A2 j ∨ j = R2) ∧ j ≠ R from fun j hj => ⟨fun h => hj (.inr (h.elim .inr .inl)), fun h => hj (.inl h)⟩)
        have hRV6 : R < w6.heap.size := by omega
        have hwB : w.heap.size + 1 ≤ B0 := hR3
        have hn2' : Hid (∀ j, Two b2 A2 j → j ≠ R2) := Lib.hid hn2
        have hB06 : B0 ≤ w6.heap.size := by omega
        have hR2B : B0 ≤ R2 := by omega
        obtain ⟨Y, hY⟩ : ∃ Y, Y = Two b A := ⟨_, rfl⟩
        obtain ⟨Z, hZ⟩ : ∃ Z, Z = (fun j => j = R ∨ j = R2 ∨ Two b2 A2 j) := ⟨_, rfl⟩
        rw [← hY, ← hZ] at HZ2 HA7
        rw [← hY] at PD PW HYG0
        have HZR' := Lib.hid (show ∀ j, ¬ Z j → ¬ (Two b2 A2 j ∨ j = R2) ∧ j ≠ R from fun j hj => HZR.out j (by rw [hZ] at hj; exact hj))
        obtain ⟨t, ht⟩ : ∃ t, t = s := ⟨_, rfl⟩
        obtain ⟨T, hT⟩ : ∃ T, T = A' := ⟨_, rfl⟩
        obtain ⟨d, hd⟩ : ∃ d, d = c' := ⟨_, rfl⟩
        rw [← ht] at PL PI
        rw [← ht, ← hd] at Pc
        rw [← ht] at PS
        rw [← ht, ← hT, ← hd] at PK
        rw [← ht, ← hT] at PW
        have HBV1 := HBV
        clear HBV HZ
        have HBV := HBV6
        have HZ := Lib.hid HZ2
        have HYG := HYG0
        have HA8 := Lib.hid HA7
        have HS8 := HS
        clear hY hZ ht hT hd HZ2 HA7 HZR HBV6 HYG0 HBV1 HNZ PW0 hYlt h2ge h2lt HA6 HBc HL2 HK2 hk2 hn2 SH hb6 hzc CP HB HA HS HTG ca_0 fa_0 ca_1 fa_1 ca_2 fa_2 ca_3 fa_3 ca_4 fa_4 ca_5 fa_5 ca_6 fa_6 ca_7 fa_7 ca_8 fa_8 ca_9 fa_9 ca_10 fa_10
        have HRV := Lib.hid hRV6
        go_loopw [15] (fun sl wr => ∃ (i : Nat) (s : Lnk.St) (A : Option Addr) (c : Nat) (A' : Option Addr) (c' : Nat), sl = .int .i64 i ∧ i ≤ len2 ∧ Hid (AS B0 b R Z Y ⟨a00, a01, a02, a03, a04⟩ w6 wr A c A' c' s) ∧ Hid (s.sent ≤ ((20 + i : Nat) : Int))) (fun sl _ => len2 - (intOf sl).toNat)
        case atStart => exact ⟨0, s, A, c, A', c', by go_num, by omega, HA8, Lib.hid (by have := HS8.out; omega)⟩
        case round =>
          obtain ⟨i, s, A, c, A', c', rfl, hi, HA, HS⟩ := hrel
          have hzr := HA.out.keep.size
          have HB := Lib.hid (show Below w.heap.size w wr from HBV.out.trans (HA.out.keep.below (fun j _ hj => HYG.out j hj) (by omega)))
          by_cases hlt : i < len2
          · obtain ⟨bb, oo, rfl, hbb, hcc⟩ := (HW2.out.below HB.out (Nat.le_refl _)).2 (by omega)
            obtain ⟨D, cd, E', ce, c0, c1, c2, c3, c4, c5, c6, c7, hrd, hrm, hrd2, hrm2⟩ := hcc i hlt
            obtain ⟨x, hx⟩ : ∃ x, x = l2.getD i la0 := ⟨_, rfl⟩
            rw [← hx] at c0 c1 c2 c3 c4 c5 c6 c7 hrd hrm hrd2 hrm2
            have hok : okA x = true := AL2.out x (by rw [hx]; simp [List.getD, List.getElem?_eq_getElem (show i < l2.length by rw [HW2.out.1]; exact hlt)])
            unfold okA at hok
            simp only [Bool.and_eq_true, decide_eq_true_eq] at hok
            obtain ⟨s', hs'⟩ : ∃ s', s' = actS ⟨a00, a01, a02, a03, a04⟩ s x := ⟨_, rfl⟩
            have hse9 : s.sent < 1000000000 := by have := HS.out; omega
            have hszw := HB.out.size
            have HS' := Lib.hid (show s'.sent ≤ ((20 + (i + 1) : Nat) : Int) by
              have h1 := sent_actS ⟨a00, a01, a02, a03, a04⟩ s x
              have h2 := HS.out
              rw [hs']; omega)
            have AC := Lib.hid (show ∀ W : World, Below wr.heap.size wr W → Calls Try.prog 14 #[.pointer (some ⟨b, 0, none⟩), rlv ⟨a00, a01, a02, a03, a04⟩ s A' s.u.length c', .agg #[.int .i64 x.kind, .int .i64 x.now, .slice D x.d.length cd, .int .i64 x.f.k, .int .i64 x.f.f, .int .i64 x.f.t, .int .i64 x.f.s, .slice E' x.f.d.length ce]] W (ACall B0 b R Z Y ⟨a00, a01, a02, a03, a04⟩ w6 A wr.heap.size s' W) from fun W hW => by
              have hz := hW.size
              rw [hs']
              exact as_call HA.out HZ.out HV.out hse9 (by omega) x D E' cd ce hW hok.1 hok.2 ((hrd.below hW (by omega)).more (by omega)) ((hrd2.below hW (by omega)).more (by omega)))
            have hbw : bb < wr.heap.size := by omega
            have hbR : bb ≠ R := by omega
            have hbN : bb ≠ wr.heap.size := by omega
            have hRl := HA.out.rl
            have hRN : R ≠ wr.heap.size := by omega
            have HNR := Lib.hid (HA.out.nz HZ.out)
            have HTW := Lib.hid HA.out.lk.two
            have hk := HA.out.box
            clear hs' hx hrd hrm hrd2 hrm2 hok hse9 hcc
            simp only [rlv, rll] at AC hk
            have ca_0 := blk_cell hk 0 rfl; have fa_0 := blk_free hk 0; have ca_1 := blk_cell hk 1 rfl; have fa_1 := blk_free hk 1; have ca_2 := blk_cell hk 2 rfl; have fa_2 := blk_free hk 2; have ca_3 := blk_cell hk 3 rfl; have fa_3 := blk_free hk 3; have ca_4 := blk_cell hk 4 rfl; have fa_4 := blk_free hk 4; have ca_5 := blk_cell hk 5 rfl; have fa_5 := blk_free hk 5; have ca_6 := blk_cell hk 6 rfl; have fa_6 := blk_free hk 6; have ca_7 := blk_cell hk 7 rfl; have fa_7 := blk_free hk 7; have ca_8 := blk_cell hk 8 rfl; have fa_8 := blk_free hk 8; have ca_9 := blk_cell hk 9 rfl; have fa_9 := blk_free hk 9; have ca_10 := blk_cell hk 10 rfl; have fa_10 := blk_free hk 10; have la := lt_of_block hk
            have hin : (i : Int) < (len2 : Int) := by omega
            go_upto_region 16 with fail
            go_cut [16, 17] from 79 to 97 (fun v1 v2 wx => MCut B0 b R Z Y ⟨a00, a01, a02, a03, a04⟩ w6 s A' c' s' v1 v2 wx)
            case first =>
              go_region_with (first | (go_at_call 14; refine (AC.out _ (by repeat (first | (with_reducible exact Below.refl _ _) | (with_reducible refine Below.drew ?_) | (with_reducible refine below_drewN ?_ _) | ((with_reducible refine Below.alloc ?_ ?_ _); rotate_left; (first | omega | (simp <;> omega)); rotate_right) | ((with_reducible refine Below.setCell ?_ ?_ _); rotate_left; (first | omega | (simp <;> omega)); rotate_right) | (with_reducible assumption) | (refine Below.trans ?_ (Below.mono (by assumption) ?_); rotate_left; (first | omega | (simp <;> omega)); rotate_right)))).mono ?_; rintro e w1 ⟨A1, c1, A2, c2, H1, rfl, hH1, hH2, HM, HK1⟩; (try simp at hH1); have k1 := blk_keep (q := R) (by repeat (first | (with_reducible assumption) | ((with_reducible apply blk_far); rotate_left; (first | omega | (simp <;> omega)); rotate_right) | (with_reducible apply blk_drew) | (with_reducible apply blk_drewN) | (with_reducible exact heap_new _ _) | ((with_reducible apply heap_new'); (first | rfl | (simp <;> fail))) | (with_reducible apply blk_alloc))) HK1.out (fun h => HNR.out _ h HZ.out.zR); (try (have z1 : w1.heap[wr.heap.size]? = some (.cells #[.int .i64 0, .int .i64 0, .int .i64 0, .int .i64 0, .int .i64 0, .int .u64 0, .int .i64 0, .slice none 0 0, .int .i64 0, .int .i64 0, .int .i64 0] 28 (0, 0)) := blk_keep (by first | ((with_reducible apply heap_new'); (first | rfl | (simp <;> fail))) | ((with_reducible apply blk_drew); ((with_reducible apply heap_new'); (first | rfl | (simp <;> fail)))) | ((with_reducible apply blk_drewN); ((with_reducible apply heap_new'); (first | rfl | (simp <;> fail))))) HK1.out (fun h => by have := HTW.out _ h; omega); have cz_0 := blk_cell z1 0 rfl; have fz_0 := blk_free z1 0; have cz_1 := blk_cell z1 1 rfl; have fz_1 := blk_free z1 1; have cz_2 := blk_cell z1 2 rfl; have fz_2 := blk_free z1 2; have cz_3 := blk_cell z1 3 rfl; have fz_3 := blk_free z1 3; have cz_4 := blk_cell z1 4 rfl; have fz_4 := blk_free z1 4; have cz_5 := blk_cell z1 5 rfl; have fz_5 := blk_free z1 5; have cz_6 := blk_cell z1 6 rfl; have fz_6 := blk_free z1 6; have cz_7 := blk_cell z1 7 rfl; have fz_7 := blk_free z1 7; have cz_8 := blk_cell z1 8 rfl; have fz_8 := blk_free z1 8; have cz_9 := blk_cell z1 9 rfl; have fz_9 := blk_free z1 9; have cz_10 := blk_cell z1 10 rfl; have fz_10 := blk_free z1 10; have lz := lt_of_block z1)); (try simp only [rlv, rll])))
              all_goals
                first
                | (have _g := z1
                   go_wp2_with fail
                   generalize hWx : World.setCell _ _ _ = Wx
                   have kN : Wx.heap[wr.heap.size]? = some (.cells #[.int .i64 a00, .int .i64 a01, .int .i64 a02, .int .i64 a03, .int .i64 a04, .int .u64 s'.x, .int .i64 s'.now, .slice A2 s'.u.length c2, .int .i64 s'.sent, .int .i64 s'.lost, .int .i64 s'.dbl] 28 (0, 0)) := by rw [← hWx]; exact (by apply Eq.trans; (repeat (first | (with_reducible assumption) | (with_reducible apply blk_set) | ((with_reducible apply blk_far); rotate_left; (first | omega | (simp <;> omega)); rotate_right) | (with_reducible apply blk_drew) | (with_reducible apply blk_drewN) | ((with_reducible apply heap_new'); (first | rfl | (simp <;> fail))) | (with_reducible apply blk_alloc))); (first | with_reducible rfl | (simp <;> fail) | rfl))
                   have kR : Wx.heap[R]? = some (.cells #[.int .i64 a00, .int .i64 a01, .int .i64 a02, .int .i64 a03, .int .i64 a04, .int .u64 s.x, .int .i64 s.now, .slice A' s.u.length c', .int .i64 s.sent, .int .i64 s.lost, .int .i64 s.dbl] 28 (0, 0)) := by rw [← hWx]; exact (by repeat (first | (with_reducible assumption) | ((with_reducible apply blk_far); rotate_left; (first | omega | (simp <;> omega)); rotate_right) | (with_reducible apply blk_drew) | (with_reducible apply blk_drewN) | (with_reducible exact heap_new _ _) | ((with_reducible apply heap_new'); (first | rfl | (simp <;> fail))) | (with_reducible apply blk_alloc)))
                   have hKx : Keeps (fun j => j = wr.heap.size ∨ j = wr.heap.size) w1 Wx := by
                     rw [← hWx]
                     repeat (first | with_reducible exact Keeps.refl _ _ | (with_reducible refine Keeps.setCell ?_ (.inl (.inl rfl)) _) | (with_reducible refine Keeps.drew ?_) | (with_reducible refine Keeps.drewN ?_ _) | (with_reducible refine Keeps.alloc ?_ _))
                   clear hWx
                   go_meet
                   exact ⟨wr.heap.size, A1, c1, A2, c2, rfl, rfl, hzr, kN, kR, HM.out.box wr.heap.size (.inl ⟨Nat.le_refl _, by omega⟩) (hKx.mono (fun j _ hj => by omega))⟩)
                | (fail_if_success (have _g := z1)
                   go_wp2_with fail
                   generalize hWx : World.alloc _ _ = Wx
                   have kN : Wx.heap[w1.heap.size]? = some (.cells #[.int .i64 a00, .int .i64 a01, .int .i64 a02, .int .i64 a03, .int .i64 a04, .int .u64 s'.x, .int .i64 s'.now, .slice A2 s'.u.length c2, .int .i64 s'.sent, .int .i64 s'.lost, .int .i64 s'.dbl] 28 (0, 0)) := by rw [← hWx]; exact (heap_new _ _)
                   have kR : Wx.heap[R]? = some (.cells #[.int .i64 a00, .int .i64 a01, .int .i64 a02, .int .i64 a03, .int .i64 a04, .int .u64 s.x, .int .i64 s.now, .slice A' s.u.length c', .int .i64 s.sent, .int .i64 s.lost, .int .i64 s.dbl] 28 (0, 0)) := by rw [← hWx]; exact (by repeat (first | (with_reducible assumption) | ((with_reducible apply blk_far); rotate_left; (first | omega | (simp <;> omega)); rotate_right) | (with_reducible apply blk_drew) | (with_reducible apply blk_drewN) | (with_reducible exact heap_new _ _) | ((with_reducible apply heap_new'); (first | rfl | (simp <;> fail))) | (with_reducible apply blk_alloc)))
                   have hKx : Keeps (fun j => wr.heap.size ≤ j ∧ j < H1) w1 Wx := by
                     rw [← hWx]
                     repeat (first | with_reducible exact Keeps.refl _ _ | (with_reducible refine Keeps.setCell ?_ (.inl (.inl rfl)) _) | (with_reducible refine Keeps.drew ?_) | (with_reducible refine Keeps.drewN ?_ _) | (with_reducible refine Keeps.alloc ?_ _))
                   clear hWx
                   go_meet
                   exact ⟨w1.heap.size, A1, c1, A2, c2, rfl, rfl, by omega, kN, kR, HM.out.box w1.heap.size (.inr (Nat.le_refl _)) hKx⟩)
            case rest =>
              obtain ⟨N, A1, c1, A2, c2, rfl, rfl, hVN, kN, kR, hM⟩ := hcut
              have HM := Lib.hid hM
              have hRv := HRV.out
              have hNR : N ≠ R := by omega
              simp only [rll] at kN kR
              have HKR := Lib.hid kR
              clear hM ca_0 fa_0 ca_1 fa_1 ca_2 fa_2 ca_3 fa_3 ca_4 fa_4 ca_5 fa_5 ca_6 fa_6 ca_7 fa_7 ca_8 fa_8 ca_9 fa_9 ca_10 fa_10 hk c0 c7 c6 c5 c4 c3
              have cn_0 := blk_cell kN 0 rfl; have fn_0 := blk_free kN 0; have cn_1 := blk_cell kN 1 rfl; have fn_1 := blk_free kN 1; have cn_2 := blk_cell kN 2 rfl; have fn_2 := blk_free kN 2; have cn_3 := blk_cell kN 3 rfl; have fn_3 := blk_free kN 3; have cn_4 := blk_cell kN 4 rfl; have fn_4 := blk_free kN 4; have cn_5 := blk_cell kN 5 rfl; have fn_5 := blk_free kN 5; have cn_6 := blk_cell kN 6 rfl; have fn_6 := blk_free kN 6; have cn_7 := blk_cell kN 7 rfl; have fn_7 := blk_free kN 7; have cn_8 := blk_cell kN 8 rfl; have fn_8 := blk_free kN 8; have cn_9 := blk_cell kN 9 rfl; have fn_9 := blk_free kN 9; have cn_10 := blk_cell kN 10 rfl; have fn_10 := blk_free kN 10; have ln := lt_of_block kN
              have cm_0 := blk_cell kR 0 rfl; have fm_0 := blk_free kR 0; have cm_1 := blk_cell kR 1 rfl; have fm_1 := blk_free kR 1; have cm_2 := blk_cell kR 2 rfl; have fm_2 := blk_free kR 2; have cm_3 := blk_cell kR 3 rfl; have fm_3 := blk_free kR 3; have cm_4 := blk_cell kR 4 rfl; have fm_4 := blk_free kR 4; have cm_5 := blk_cell kR 5 rfl; have fm_5 := blk_free kR 5; have cm_6 := blk_cell kR 6 rfl; have fm_6 := blk_free kR 6; have cm_7 := blk_cell kR 7 rfl; have fm_7 := blk_free kR 7; have cm_8 := blk_cell kR 8 rfl; have fm_8 := blk_free kR 8; have cm_9 := blk_cell kR 9 rfl; have fm_9 := blk_free kR 9; have cm_10 := blk_cell kR 10 rfl; have fm_10 := blk_free kR 10; have lm := lt_of_block kR
              clear kN kR
              go_upto_region 18 with fail
              generalize hWy : World.setCell _ _ _ = Wy
              have kS : Wy.heap[R]? = some (.cells #[.int .i64 a00, .int .i64 a01, .int .i64 a02, .int .i64 a03, .int .i64 a04, .int .u64 s'.x, .int .i64 s'.now, .slice A2 s'.u.length c2, .int .i64 s'.sent, .int .i64 s'.lost, .int .i64 s'.dbl] 28 (0, 0)) := by rw [← hWy]; have kR := HKR.out; exact (by apply Eq.trans; (repeat (first | (with_reducible assumption) | (with_reducible apply blk_set) | ((with_reducible apply blk_far); rotate_left; (first | omega | (simp <;> omega)); rotate_right) | (with_reducible apply blk_drew) | (with_reducible apply blk_drewN) | ((with_reducible apply heap_new'); (first | rfl | (simp <;> fail))) | (with_reducible apply blk_alloc))); (first | with_reducible rfl | (simp <;> fail) | rfl))
              have hKy : Keeps (fun j => j = R ∨ (N ≤ j ∧ j < N + 1)) wc Wy := by
                rw [← hWy]
                repeat (first | with_reducible exact Keeps.refl _ _ | (with_reducible refine Keeps.setCell ?_ (.inl (.inl rfl)) _) | (with_reducible refine Keeps.drew ?_) | (with_reducible refine Keeps.drewN ?_ _) | (with_reducible refine Keeps.alloc ?_ _))
              have HX := Lib.hid (HM.out.store HZ.out hKy kS)
              clear hWy hKy kS HKR HM cn_0 fn_0 cn_1 fn_1 cn_2 fn_2 cn_3 fn_3 cn_4 fn_4 cn_5 fn_5 cn_6 fn_6 cn_7 fn_7 cn_8 fn_8 cn_9 fn_9 cn_10 fn_10 cm_0 fm_0 cm_1 fm_1 cm_2 fm_2 cm_3 fm_3 cm_4 fm_4 cm_5 fm_5 cm_6 fm_6 cm_7 fm_7 cm_8 fm_8 cm_9 fm_9 cm_10 fm_10
              go_wp2_with fail
              go_roundw
              case rel => exact ⟨i + 1, s', A1, c1, A2, c2, by go_num, by omega, HX, HS'⟩
              case measure => simp [intOf]; omega
          · obtain rfl : i = len2 := by omega
            clear hlt HA8 HS8
            obtain ⟨wo, rfl⟩ : ∃ wo : World, wo = wr := ⟨_, rfl⟩
            have hYn := HA.out.two
            have HNZ := Lib.hid (HA.out.nz HZ.out)
            have PL3 := PL.out.kept HA.out.keep (fun j hj => (PD.out j (.inl hj)).1)
            have PK3 := blk_keep PK.out HA.out.keep (PD.out R2 (.inr rfl)).1
            have PW3 := PW.out.keep HA.out.keep (fun j hj => hj.1.2.1)
            have hN2 : ∀ j, Two b2 A2 j → ¬ Two b A j := fun j hj h => by
              have h1 := PD.out j (.inl hj)
              rcases hYn j h with h2 | h2
              · exact h1.1 (.inl h2)
              · omega
            have hRR : R ≠ R2 := fun h => (PD.out R2 (.inr rfl)).1 (.inr h.symm)
            have hRl := HA.out.rl
            have HZ3 : AZ B0 R2 (fun j => j = R ∨ j = R2 ∨ Two b A j) (Two b2 A2) wo := ⟨.inr (.inl rfl), fun j hj => by
              rcases hj with hj | hj | hj
              · omega
              · omega
              · exact HA.out.lk.two j hj, fun j hj hZ => by
              rcases hZ with hZ | hZ | hZ
              · exact (PD.out j (.inl hj)).1 (.inr hZ)
              · exact hn2'.out j hj hZ
              · exact hN2 j hj hZ⟩
            have HA9 : AS B0 b2 R2 (fun j => j = R ∨ j = R2 ∨ Two b A j) (Two b2 A2) ⟨a00, a01, a02, a03, a04⟩ wo wo A2 c2 T d t := AS.start PL3 PI.out Pc.out PK3 (PW3.mono (fun j hj => ⟨hj.1.1, fun hZ => by
              rcases hZ with hZ | hZ | hZ
              · exact hj.1.2.1 (.inr hZ)
              · exact hj.1.2.2 (.inr hZ)
              · rcases hYn j hZ with h2 | h2
                · exact hj.1.2.1 (.inl h2)
                · have := hj.2; omega, fun h => hj.1.2.2 (.inl h)⟩))
            have QD := Lib.hid (show ∀ j, (Two b A j ∨ j = R) → ¬ (Two b2 A2 j ∨ j = R2) from fun j hj h => by
              rcases hj with hj | hj
              · exact (HZR'.out j (HNZ.out j hj)).1 h
              · rcases h with h | h
                · exact (PD.out j (.inl h)).1 (.inr hj)
                · exact hRR (hj.symm.trans h))
            have QL := Lib.hid HA.out.lk
            have QK := Lib.hid HA.out.box
            have QS := Lib.hid (fun (W : World) (X : Nat → Prop) (h1 : IsLk W B0 b A c ⟨a00, a01, a02, a03, a04⟩ s) (h2 : RWay W X A' s.u.length s.u) => shows_yes B0 b c A ⟨a00, a01, a02, a03, a04⟩ s A' s.u.length c' W h1 HA.out.inv rfl X h2)
            have QW := Lib.hid (HA.out.way.mono (Y := fun j => ¬ (Two b2 A2 j ∨ j = R2)) (fun j hj => (HZR'.out j hj.2.1).1))
            have HYG3 := Lib.hid (show ∀ j, (Two b2 A2 j ∨ j = R2) → w.heap.size ≤ j from fun j hj => by
              rcases hj with hj | hj
              · have := PL.out.two_ge j hj; omega
              · omega)
            obtain ⟨Y3, hY3⟩ : ∃ Y3, Y3 = Two b2 A2 := ⟨_, rfl⟩
            obtain ⟨Z3, hZ3⟩ : ∃ Z3, Z3 = (fun j => j = R ∨ j = R2 ∨ Two b A j) := ⟨_, rfl⟩
            rw [← hY3, ← hZ3] at HZ3 HA9
            rw [← hY3] at QD QW HYG3
            have hB6 := HB
            clear hY3 hZ3 HBV HZ HYG HRV
            have HBV := hB6
            have HZ := Lib.hid HZ3
            have HYG := HYG3
            have HA8 := Lib.hid HA9
            have HRV := Lib.hid (show R2 < wo.heap.size by omega)
            have hB06' : B0 ≤ wo.heap.size := by omega
            have PS8 := PS
            clear HZ3 HYG3 HA9 hB6 PL3 PK3 PW3 hYn HNZ hN2 PL PK PW PI Pc PD HA HS HB hzr HZR'
            go_wp2_with fail
            go_loopw [18] (fun sl wr => ∃ (i : Nat) (s : Lnk.St) (A : Option Addr) (c : Nat) (A' : Option Addr) (c' : Nat), sl = .int .i64 i ∧ i ≤ len3 ∧ Hid (AS B0 b2 R2 Z3 Y3 ⟨a00, a01, a02, a03, a04⟩ wo wr A c A' c' s) ∧ Hid (s.sent ≤ ((20 + i : Nat) : Int))) (fun sl _ => len3 - (intOf sl).toNat)
            case atStart => exact ⟨0, t, A2, c2, T, d, by go_num, by omega, HA8, Lib.hid (by have := PS8.out; omega)⟩
            case round =>
              obtain ⟨i, s, A, c, A', c', rfl, hi, HA, HS⟩ := hrel
              have hzr := HA.out.keep.size
              have HB := Lib.hid (show Below w.heap.size w wr from HBV.out.trans (HA.out.keep.below (fun j _ hj => HYG.out j hj) (by omega)))
              by_cases hlt : i < len3
              · obtain ⟨bb, oo, rfl, hbb, hcc⟩ := (HW3.out.below HB.out (Nat.le_refl _)).2 (by omega)
                obtain ⟨D, cd, E', ce, c0, c1, c2, c3, c4, c5, c6, c7, hrd, hrm, hrd2, hrm2⟩ := hcc i hlt
                obtain ⟨x, hx⟩ : ∃ x, x = l3.getD i la0 := ⟨_, rfl⟩
                rw [← hx] at c0 c1 c2 c3 c4 c5 c6 c7 hrd hrm hrd2 hrm2
                have hok : okA x = true := AL3.out x (by rw [hx]; simp [List.getD, List.getElem?_eq_getElem (show i < l3.length by rw [HW3.out.1]; exact hlt)])
                unfold okA at hok
                simp only [Bool.and_eq_true, decide_eq_true_eq] at hok
                obtain ⟨s', hs'⟩ : ∃ s', s' = actS ⟨a00, a01, a02, a03, a04⟩ s x := ⟨_, rfl⟩
                have hse9 : s.sent < 1000000000 := by have := HS.out; omega
                have hszw := HB.out.size
                have HS' := Lib.hid (show s'.sent ≤ ((20 + (i + 1) : Nat) : Int) by
                  have h1 := sent_actS ⟨a00, a01, a02, a03, a04⟩ s x
                  have h2 := HS.out
                  rw [hs']; omega)
                have AC := Lib.hid (show ∀ W : World, Below wr.heap.size wr W → Calls Try.prog 14 #[.pointer (some ⟨b2, 0, none⟩), rlv ⟨a00, a01, a02, a03, a04⟩ s A' s.u.length c', .agg #[.int .i64 x.kind, .int .i64 x.now, .slice D x.d.length cd, .int .i64 x.f.k, .int .i64 x.f.f, .int .i64 x.f.t, .int .i64 x.f.s, .slice E' x.f.d.length ce]] W (ACall B0 b2 R2 Z3 Y3 ⟨a00, a01, a02, a03, a04⟩ wo A wr.heap.size s' W) from fun W hW => by
                  have hz := hW.size
                  rw [hs']
                  exact as_call HA.out HZ.out HV.out hse9 (by omega) x D E' cd ce hW hok.1 hok.2 ((hrd.below hW (by omega)).more (by omega)) ((hrd2.below hW (by omega)).more (by omega)))
                have hbw : bb < wr.heap.size := by omega
                have hbR : bb ≠ R2 := by omega
                have hbN : bb ≠ wr.heap.size := by omega
                have hRl := HA.out.rl
                have hRN : R2 ≠ wr.heap.size := by omega
                have HNR := Lib.hid (HA.out.nz HZ.out)
                have HTW := Lib.hid HA.out.lk.two
                have hk := HA.out.box
                clear hs' hx hrd hrm hrd2 hrm2 hok hse9 hcc
                simp only [rlv, rll] at AC hk
                have ca_0 := blk_cell hk 0 rfl; have fa_0 := blk_free hk 0; have ca_1 := blk_cell hk 1 rfl; have fa_1 := blk_free hk 1; have ca_2 := blk_cell hk 2 rfl; have fa_2 := blk_free hk 2; have ca_3 := blk_cell hk 3 rfl; have fa_3 := blk_free hk 3; have ca_4 := blk_cell hk 4 rfl; have fa_4 := blk_free hk 4; have ca_5 := blk_cell hk 5 rfl; have fa_5 := blk_free hk 5; have ca_6 := blk_cell hk 6 rfl; have fa_6 := blk_free hk 6; have ca_7 := blk_cell hk 7 rfl; have fa_7 := blk_free hk 7; have ca_8 := blk_cell hk 8 rfl; have fa_8 := blk_free hk 8; have ca_9 := blk_cell hk 9 rfl; have fa_9 := blk_free hk 9; have ca_10 := blk_cell hk 10 rfl; have fa_10 := blk_free hk 10; have la := lt_of_block hk
                have hin : (i : Int) < (len3 : Int) := by omega
                go_upto_region 23 with fail
                go_cut [19, 20] from 98 to 116 (fun v1 v2 wx => MCut B0 b2 R2 Z3 Y3 ⟨a00, a01, a02, a03, a04⟩ wo s A' c' s' v1 v2 wx)
                case first =>
                  go_region_with (first | (go_at_call 14; refine (AC.out _ (by repeat (first | (with_reducible exact Below.refl _ _) | (with_reducible refine Below.drew ?_) | (with_reducible refine below_drewN ?_ _) | ((with_reducible refine Below.alloc ?_ ?_ _); rotate_left; (first | omega | (simp <;> omega)); rotate_right) | ((with_reducible refine Below.setCell ?_ ?_ _); rotate_left; (first | omega | (simp <;> omega)); rotate_right) | (with_reducible assumption) | (refine Below.trans ?_ (Below.mono (by assumption) ?_); rotate_left; (first | omega | (simp <;> omega)); rotate_right)))).mono ?_; rintro e w1 ⟨A1, c1, A2, c2, H1, rfl, hH1, hH2, HM, HK1⟩; (try simp at hH1); have k1 := blk_keep (q := R2) (by repeat (first | (with_reducible assumption) | ((with_reducible apply blk_far); rotate_left; (first | omega | (simp <;> omega)); rotate_right) | (with_reducible apply blk_drew) | (with_reducible apply blk_drewN) | (with_reducible exact heap_new _ _) | ((with_reducible apply heap_new'); (first | rfl | (simp <;> fail))) | (with_reducible apply blk_alloc))) HK1.out (fun h => HNR.out _ h HZ.out.zR); (try (have z1 : w1.heap[wr.heap.size]? = some (.cells #[.int .i64 0, .int .i64 0, .int .i64 0, .int .i64 0, .int .i64 0, .int .u64 0, .int .i64 0, .slice none 0 0, .int .i64 0, .int .i64 0, .int .i64 0] 28 (0, 0)) := blk_keep (by first | ((with_reducible apply heap_new'); (first | rfl | (simp <;> fail))) | ((with_reducible apply blk_drew); ((with_reducible apply heap_new'); (first | rfl | (simp <;> fail)))) | ((with_reducible apply blk_drewN); ((with_reducible apply heap_new'); (first | rfl | (simp <;> fail))))) HK1.out (fun h => by have := HTW.out _ h; omega); have cz_0 := blk_cell z1 0 rfl; have fz_0 := blk_free z1 0; have cz_1 := blk_cell z1 1 rfl; have fz_1 := blk_free z1 1; have cz_2 := blk_cell z1 2 rfl; have fz_2 := blk_free z1 2; have cz_3 := blk_cell z1 3 rfl; have fz_3 := blk_free z1 3; have cz_4 := blk_cell z1 4 rfl; have fz_4 := blk_free z1 4; have cz_5 := blk_cell z1 5 rfl; have fz_5 := blk_free z1 5; have cz_6 := blk_cell z1 6 rfl; have fz_6 := blk_free z1 6; have cz_7 := blk_cell z1 7 rfl; have fz_7 := blk_free z1 7; have cz_8 := blk_cell z1 8 rfl; have fz_8 := blk_free z1 8; have cz_9 := blk_cell z1 9 rfl; have fz_9 := blk_free z1 9; have cz_10 := blk_cell z1 10 rfl; have fz_10 := blk_free z1 10; have lz := lt_of_block z1)); (try simp only [rlv, rll])))
                  all_goals
                    first
                    | (have _g := z1
                       go_wp2_with fail
                       generalize hWx : World.setCell _ _ _ = Wx
                       have kN : Wx.heap[wr.heap.size]? = some (.cells #[.int .i64 a00, .int .i64 a01, .int .i64 a02, .int .i64 a03, .int .i64 a04, .int .u64 s'.x, .int .i64 s'.now, .slice A2 s'.u.length c2, .int .i64 s'.sent, .int .i64 s'.lost, .int .i64 s'.dbl] 28 (0, 0)) := by rw [← hWx]; exact (by apply Eq.trans; (repeat (first | (with_reducible assumption) | (with_reducible apply blk_set) | ((with_reducible apply blk_far); rotate_left; (first | omega | (simp <;> omega)); rotate_right) | (with_reducible apply blk_drew) | (with_reducible apply blk_drewN) | ((with_reducible apply heap_new'); (first | rfl | (simp <;> fail))) | (with_reducible apply blk_alloc))); (first | with_reducible rfl | (simp <;> fail) | rfl))
                       have kR : Wx.heap[R2]? = some (.cells #[.int .i64 a00, .int .i64 a01, .int .i64 a02, .int .i64 a03, .int .i64 a04, .int .u64 s.x, .int .i64 s.now, .slice A' s.u.length c', .int .i64 s.sent, .int .i64 s.lost, .int .i64 s.dbl] 28 (0, 0)) := by rw [← hWx]; exact (by repeat (first | (with_reducible assumption) | ((with_reducible apply blk_far); rotate_left; (first | omega | (simp <;> omega)); rotate_right) | (with_reducible apply blk_drew) | (with_reducible apply blk_drewN) | (with_reducible exact heap_new _ _) | ((with_reducible apply heap_new'); (first | rfl | (simp <;> fail))) | (with_reducible apply blk_alloc)))
                       have hKx : Keeps (fun j => j = wr.heap.size ∨ j = wr.heap.size) w1 Wx := by
                         rw [← hWx]
                         repeat (first | with_reducible exact Keeps.refl _ _ | (with_reducible refine Keeps.setCell ?_ (.inl (.inl rfl)) _) | (with_reducible refine Keeps.drew ?_) | (with_reducible refine Keeps.drewN ?_ _) | (with_reducible refine Keeps.alloc ?_ _))
                       clear hWx
                       go_meet
                       exact ⟨wr.heap.size, A1, c1, A2, c2, rfl, rfl, hzr, kN, kR, HM.out.box wr.heap.size (.inl ⟨Nat.le_refl _, by omega⟩) (hKx.mono (fun j _ hj => by omega))⟩)
                    | (fail_if_success (have _g := z1)
                       go_wp2_with fail
                       generalize hWx : World.alloc _ _ = Wx
                       have kN : Wx.heap[w1.heap.size]? = some (.cells #[.int .i64 a00, .int .i64 a01, .int .i64 a02, .int .i64 a03, .int .i64 a04, .int .u64 s'.x, .int .i64 s'.now, .slice A2 s'.u.length c2, .int .i64 s'.sent, .int .i64 s'.lost, .int .i64 s'.dbl] 28 (0, 0)) := by rw [← hWx]; exact (heap_new _ _)
                       have kR : Wx.heap[R2]? = some (.cells #[.int .i64 a00, .int .i64 a01, .int .i64 a02, .int .i64 a03, .int .i64 a04, .int .u64 s.x, .int .i64 s.now, .slice A' s.u.length c', .int .i64 s.sent, .int .i64 s.lost, .int .i64 s.dbl] 28 (0, 0)) := by rw [← hWx]; exact (by repeat (first | (with_reducible assumption) | ((with_reducible apply blk_far); rotate_left; (first | omega | (simp <;> omega)); rotate_right) | (with_reducible apply blk_drew) | (with_reducible apply blk_drewN) | (with_reducible exact heap_new _ _) | ((with_reducible apply heap_new'); (first | rfl | (simp <;> fail))) | (with_reducible apply blk_alloc)))
                       have hKx : Keeps (fun j => wr.heap.size ≤ j ∧ j < H1) w1 Wx := by
                         rw [← hWx]
                         repeat (first | with_reducible exact Keeps.refl _ _ | (with_reducible refine Keeps.setCell ?_ (.inl (.inl rfl)) _) | (with_reducible refine Keeps.drew ?_) | (with_reducible refine Keeps.drewN ?_ _) | (with_reducible refine Keeps.alloc ?_ _))
                       clear hWx
                       go_meet
                       exact ⟨w1.heap.size, A1, c1, A2, c2, rfl, rfl, by omega, kN, kR, HM.out.box w1.heap.size (.inr (Nat.le_refl _)) hKx⟩)
                case rest =>
                  obtain ⟨N, A1, c1, A2, c2, rfl, rfl, hVN, kN, kR, hM⟩ := hcut
                  have HM := Lib.hid hM
                  have hRv := HRV.out
                  have hNR : N ≠ R2 := by omega
                  simp only [rll] at kN kR
                  have HKR := Lib.hid kR
                  clear hM ca_0 fa_0 ca_1 fa_1 ca_2 fa_2 ca_3 fa_3 ca_4 fa_4 ca_5 fa_5 ca_6 fa_6 ca_7 fa_7 ca_8 fa_8 ca_9 fa_9 ca_10 fa_10 hk c0 c7 c6 c5 c4 c3
                  have cn_0 := blk_cell kN 0 rfl; have fn_0 := blk_free kN 0; have cn_1 := blk_cell kN 1 rfl; have fn_1 := blk_free kN 1; have cn_2 := blk_cell kN 2 rfl; have fn_2 := blk_free kN 2; have cn_3 := blk_cell kN 3 rfl; have fn_3 := blk_free kN 3; have cn_4 := blk_cell kN 4 rfl; have fn_4 := blk_free kN 4; have cn_5 := blk_cell kN 5 rfl; have fn_5 := blk_free kN 5; have cn_6 := blk_cell kN 6 rfl; have fn_6 := blk_free kN 6; have cn_7 := blk_cell kN 7 rfl; have fn_7 := blk_free kN 7; have cn_8 := blk_cell kN 8 rfl; have fn_8 := blk_free kN 8; have cn_9 := blk_cell kN 9 rfl; have fn_9 := blk_free kN 9; have cn_10 := blk_cell kN 10 rfl; have fn_10 := blk_free kN 10; have ln := lt_of_block kN
                  have cm_0 := blk_cell kR 0 rfl; have fm_0 := blk_free kR 0; have cm_1 := blk_cell kR 1 rfl; have fm_1 := blk_free kR 1; have cm_2 := blk_cell kR 2 rfl; have fm_2 := blk_free kR 2; have cm_3 := blk_cell kR 3 rfl; have fm_3 := blk_free kR 3; have cm_4 := blk_cell kR 4 rfl; have fm_4 := blk_free kR 4; have cm_5 := blk_cell kR 5 rfl; have fm_5 := blk_free kR 5; have cm_6 := blk_cell kR 6 rfl; have fm_6 := blk_free kR 6; have cm_7 := blk_cell kR 7 rfl; have fm_7 := blk_free kR 7; have cm_8 := blk_cell kR 8 rfl; have fm_8 := blk_free kR 8; have cm_9 := blk_cell kR 9 rfl; have fm_9 := blk_free kR 9; have cm_10 := blk_cell kR 10 rfl; have fm_10 := blk_free kR 10; have lm := lt_of_block kR
                  clear kN kR
                  go_upto_region 25 with fail
                  generalize hWy : World.setCell _ _ _ = Wy
                  have kS : Wy.heap[R2]? = some (.cells #[.int .i64 a00, .int .i64 a01, .int .i64 a02, .int .i64 a03, .int .i64 a04, .int .u64 s'.x, .int .i64 s'.now, .slice A2 s'.u.length c2, .int .i64 s'.sent, .int .i64 s'.lost, .int .i64 s'.dbl] 28 (0, 0)) := by rw [← hWy]; have kR := HKR.out; exact (by apply Eq.trans; (repeat (first | (with_reducible assumption) | (with_reducible apply blk_set) | ((with_reducible apply blk_far); rotate_left; (first | omega | (simp <;> omega)); rotate_right) | (with_reducible apply blk_drew) | (with_reducible apply blk_drewN) | ((with_reducible apply heap_new'); (first | rfl | (simp <;> fail))) | (with_reducible apply blk_alloc))); (first | with_reducible rfl | (simp <;> fail) | rfl))
                  have hKy : Keeps (fun j => j = R2 ∨ (N ≤ j ∧ j < N + 1)) wc Wy := by
                    rw [← hWy]
                    repeat (first | with_reducible exact Keeps.refl _ _ | (with_reducible refine Keeps.setCell ?_ (.inl (.inl rfl)) _) | (with_reducible refine Keeps.drew ?_) | (with_reducible refine Keeps.drewN ?_ _) | (with_reducible refine Keeps.alloc ?_ _))
                  have HX := Lib.hid (HM.out.store HZ.out hKy kS)
                  clear hWy hKy kS HKR HM cn_0 fn_0 cn_1 fn_1 cn_2 fn_2 cn_3 fn_3 cn_4 fn_4 cn_5 fn_5 cn_6 fn_6 cn_7 fn_7 cn_8 fn_8 cn_9 fn_9 cn_10 fn_10 cm_0 fm_0 cm_1 fm_1 cm_2 fm_2 cm_3 fm_3 cm_4 fm_4 cm_5 fm_5 cm_6 fm_6 cm_7 fm_7 cm_8 fm_8 cm_9 fm_9 cm_10 fm_10
                  go_wp2_with fail
                  go_roundw
                  case rel => exact ⟨i + 1, s', A1, c1, A2, c2, by go_num, by omega, HX, HS'⟩
                  case measure => simp [intOf]; omega
              · obtain rfl : i = len3 := by omega
                clear hlt HA8
                have QLr := QL.out.kept HA.out.keep (fun j hj => QD.out j (.inl hj))
                have QKr := blk_keep QK.out HA.out.keep (QD.out R (.inr rfl))
                have QWr := QW.out.keep HA.out.keep (fun j hj => hj)
                have SH1 := Lib.hid (QS.out wr _ QLr QWr)
                have SH2 := Lib.hid (fun (W : World) (hW : Below wr.heap.size wr W) => (HA.out.below hW).shows)
                simp only [rlv, rll] at SH1 SH2 QKr
                clear QLr QWr
                have ca_0 := blk_cell QKr 0 rfl; have fa_0 := blk_free QKr 0; have ca_1 := blk_cell QKr 1 rfl; have fa_1 := blk_free QKr 1; have ca_2 := blk_cell QKr 2 rfl; have fa_2 := blk_free QKr 2; have ca_3 := blk_cell QKr 3 rfl; have fa_3 := blk_free QKr 3; have ca_4 := blk_cell QKr 4 rfl; have fa_4 := blk_free QKr 4; have ca_5 := blk_cell QKr 5 rfl; have fa_5 := blk_free QKr 5; have ca_6 := blk_cell QKr 6 rfl; have fa_6 := blk_free QKr 6; have ca_7 := blk_cell QKr 7 rfl; have fa_7 := blk_free QKr 7; have ca_8 := blk_cell QKr 8 rfl; have fa_8 := blk_free QKr 8; have ca_9 := blk_cell QKr 9 rfl; have fa_9 := blk_free QKr 9; have ca_10 := blk_cell QKr 10 rfl; have fa_10 := blk_free QKr 10; have la := lt_of_block QKr
                go_wp2_with fail
                refine SH1.out.mono ?_
                rintro e w7 ⟨rfl, hb7⟩
                have hz7 := hb7.size
                have k7 := blk_below HA.out.box hb7 HA.out.rl
                simp only [rll] at k7
                have cy_0 := blk_cell k7 0 rfl; have fy_0 := blk_free k7 0; have cy_1 := blk_cell k7 1 rfl; have fy_1 := blk_free k7 1; have cy_2 := blk_cell k7 2 rfl; have fy_2 := blk_free k7 2; have cy_3 := blk_cell k7 3 rfl; have fy_3 := blk_free k7 3; have cy_4 := blk_cell k7 4 rfl; have fy_4 := blk_free k7 4; have cy_5 := blk_cell k7 5 rfl; have fy_5 := blk_free k7 5; have cy_6 := blk_cell k7 6 rfl; have fy_6 := blk_free k7 6; have cy_7 := blk_cell k7 7 rfl; have fy_7 := blk_free k7 7; have cy_8 := blk_cell k7 8 rfl; have fy_8 := blk_free k7 8; have cy_9 := blk_cell k7 9 rfl; have fy_9 := blk_free k7 9; have cy_10 := blk_cell k7 10 rfl; have fy_10 := blk_free k7 10; have ly := lt_of_block k7
                go_wp2_with fail
                refine (SH2.out _ hb7).mono ?_
                rintro e w8 ⟨rfl, hb8⟩
                have hz8 := hb8.size
                go_wp2_with fail
                refine (known_true _).mono ?_
                rintro e w9 ⟨rfl, hb9⟩
                go_wp2_with fail
                go_ret
                have hB9 := HB.out
                have hBz := hB9.size
                exact ⟨rfl, ((hB9.trans (hb7.mono (by omega))).trans (hb8.mono (by omega))).trans (hb9.mono (by omega))⟩
theorem walk (a00 a01 a02 a03 a04 : Int) (a1 : Option Addr) (len1 cap1 : Nat) (l1 : List LAct) (a2 : Option Addr) (len2 cap2 : Nat) (l2 : List LAct) (a3 : Option Addr) (len3 cap3 : Nat) (l3 : List LAct) (w : World) (w00 : (Lit.int .i64 a00).wf = true) (w01 : (Lit.int .i64 a01).wf = true) (w02 : (Lit.int .i64 a02).wf = true) (w03 : (Lit.int .i64 a03).wf = true) (w04 : (Lit.int .i64 a04).wf = true) (w1 : LRf w w.heap.size a1 len1 l1) (r1 : Room a1 len1 cap1) (f1 : ∀ y ∈ l1, LaOk y) (w2 : LRf w w.heap.size a2 len2 l2) (r2 : Room a2 len2 cap2) (f2 : ∀ y ∈ l2, LaOk y) (w3 : LRf w w.heap.size a3 len3 l3) (r3 : Room a3 len3 cap3) (f3 : ∀ y ∈ l3, LaOk y) :
    Calls Try.prog 6 #[.agg #[.int .i64 a00, .int .i64 a01, .int .i64 a02, .int .i64 a03, .int .i64 a04], .slice a1 len1 cap1, .slice a2 len2 cap2, .slice a3 len3 cap3] w fun e w' => e = .returned (.bool true) ∧ Below w.heap.size w w' := by
  by_cases h : fewB l1 20 = false ∨ fewB l1 20 = true ∧ (fewB l2 10 = false ∨ fewB l2 10 = true ∧ (fewB l3 10 = false ∨ fewB l3 10 = true ∧ Lnk.vld ⟨a00, a01, a02, a03, a04⟩ = false))
  · exact walk_no a00 a01 a02 a03 a04 a1 len1 cap1 l1 a2 len2 cap2 l2 a3 len3 cap3 l3 w w00 w01 w02 w03 w04 w1 r1 f1 w2 r2 f2 w3 r3 f3 h
  · have h' : fewB l1 20 = true ∧ fewB l2 10 = true ∧ fewB l3 10 = true ∧ Lnk.vld ⟨a00, a01, a02, a03, a04⟩ = true := by
      cases e1 : fewB l1 20 <;> cases e2 : fewB l2 10 <;> cases e3 : fewB l3 10 <;> cases e4 : Lnk.vld ⟨a00, a01, a02, a03, a04⟩ <;> simp [e1, e2, e3, e4] at h ⊢
    exact walk_yes a00 a01 a02 a03 a04 a1 len1 cap1 l1 a2 len2 cap2 l2 a3 len3 cap3 l3 w w00 w01 w02 w03 w04 w1 r1 f1 w2 r2 f2 w3 r3 f3 h'.1 h'.2.1 h'.2.2.1 h'.2.2.2
theorem own : ownKnob Try.prog.godebug = none := by kernel_rfl
theorem laidOut : laidOutB Try.prog = true := by kernel_rfl
theorem cells23 : Try.prog.cellsOf 23 = 5 := by kernel_rfl
set_option maxRecDepth 100000 in
theorem lifted (os : Os) (started : os.Started) (H : Type) (enc : TypeId × Value → H) :
    ReturnsInHanded {} Try.checked os 6 .any (Rows.linkCopiesSpec.pre6 enc Try.prog Try.f6 Rows.linkCopiesRow.domain false) (Rows.linkCopiesSpec.post enc Try.prog Try.f6 false true false false) := by
  refine returnsInHanded_of_change (C := Try.checked) own started (by kernel_rfl) Try.func6
    (ChangeSpec.witness6 (enc := enc) (C := Try.checked) false ⟨#[], #[.agg #[.int .i64 0, .int .i64 0, .int .i64 0, .int .i64 0, .int .i64 0], .slice none 0 0, .slice none 0 0, .slice none 0 0], []⟩ 8 (by kernel_rfl) (by kernel_rfl) (by kernel_rfl) (by kernel_rfl)) ?_
  intro W base args ds gs before hval0 hW hcnd _
  have hval : ∀ (j : Nat) t v, Try.f6.params[j]? = some t → args[j]? = some v → Value.okWide Try.prog W .any base t v := hval0
  have hW' := hW
  obtain ⟨p, q, hA0, hV, rfl, hfz, hnd⟩ := hW
  have hA : DataW.TrodAll enc Try.prog W 0 (fun _ => true) true Try.f6.params.toList args.toList ds p := hA0
  rw [Try.params6] at hA hval
  obtain ⟨v0, vs0, d0, ds0, p0, q0, hargs, rfl, rfl, h0, r0⟩ := trodAll_cons hA
  obtain ⟨v1, vs1, d1, ds1, p1, q1, rfl, rfl, rfl, h1, r1⟩ := trodAll_cons r0
  obtain ⟨v2, vs2, d2, ds2, p2, q2, rfl, rfl, rfl, h2, r2⟩ := trodAll_cons r1
  obtain ⟨v3, vs3, d3, ds3, p3, q3, rfl, rfl, rfl, h3, r3⟩ := trodAll_cons r2
  obtain ⟨rfl, rfl, rfl⟩ := trodAll_nil r3
  obtain rfl : args = #[v0, v1, v2, v3] := by cases args; simp_all
  obtain ⟨rfl, rfl⟩ := trodVars_none hV
  have k0 := h0
  have lt0 : ∀ x ∈ p0, x.block < W.heap.size := by obtain ⟨m, hm⟩ := k0; exact DataW.trod_lt m _ _ _ hm
  obtain ⟨c00, c01, c02, c03, c04, y00, y01, y02, y03, y04, m0, rfl, _, _, hy00, hy01, hy02, hy03, hy04⟩ := open_agg5 Try.underlying23 (by kernel_rfl) cells23 (hval 0 23 v0 rfl rfl) h0
  obtain ⟨a00, e00, _, w00⟩ := DataW.trod_int Try.underlying3 hy00; simp at e00; subst e00
  obtain ⟨a01, e01, _, w01⟩ := DataW.trod_int Try.underlying3 hy01; simp at e01; subst e01
  obtain ⟨a02, e02, _, w02⟩ := DataW.trod_int Try.underlying3 hy02; simp at e02; subst e02
  obtain ⟨a03, e03, _, w03⟩ := DataW.trod_int Try.underlying3 hy03; simp at e03; subst e03
  obtain ⟨a04, e04, _, w04⟩ := DataW.trod_int Try.underlying3 hy04; simp at e04; subst e04
  have k1 := h1
  have lt1 : ∀ x ∈ p1, x.block < W.heap.size := by obtain ⟨m, hm⟩ := k1; exact DataW.trod_lt m _ _ _ hm
  obtain ⟨a1, len1, cap1, rfl⟩ := okWide_slice Try.underlying33 (hval 1 33 v1 rfl rfl)
  obtain ⟨fuel1, hf1⟩ := h1
  obtain ⟨xa1, xlen1, xcap1, l1, xe1, ro1, wo1, fo1⟩ := lacts_of hf1
  obtain ⟨rfl, rfl, rfl⟩ : a1 = xa1 ∧ len1 = xlen1 ∧ cap1 = xcap1 := by injection xe1 with e1 e2 e3; exact ⟨e1, e2, e3⟩
  have k2 := h2
  have lt2 : ∀ x ∈ p2, x.block < W.heap.size := by obtain ⟨m, hm⟩ := k2; exact DataW.trod_lt m _ _ _ hm
  obtain ⟨a2, len2, cap2, rfl⟩ := okWide_slice Try.underlying33 (hval 2 33 v2 rfl rfl)
  obtain ⟨fuel2, hf2⟩ := h2
  obtain ⟨xa2, xlen2, xcap2, l2, xe2, ro2, wo2, fo2⟩ := lacts_of hf2
  obtain ⟨rfl, rfl, rfl⟩ : a2 = xa2 ∧ len2 = xlen2 ∧ cap2 = xcap2 := by injection xe2 with e1 e2 e3; exact ⟨e1, e2, e3⟩
  have k3 := h3
  have lt3 : ∀ x ∈ p3, x.block < W.heap.size := by obtain ⟨m, hm⟩ := k3; exact DataW.trod_lt m _ _ _ hm
  obtain ⟨a3, len3, cap3, rfl⟩ := okWide_slice Try.underlying33 (hval 3 33 v3 rfl rfl)
  obtain ⟨fuel3, hf3⟩ := h3
  obtain ⟨xa3, xlen3, xcap3, l3, xe3, ro3, wo3, fo3⟩ := lacts_of hf3
  obtain ⟨rfl, rfl, rfl⟩ : a3 = xa3 ∧ len3 = xlen3 ∧ cap3 = xcap3 := by injection xe3 with e1 e2 e3; exact ⟨e1, e2, e3⟩
  clear hA0 hval0
  refine (walk a00 a01 a02 a03 a04 a1 len1 cap1 l1 a2 len2 cap2 l2 a3 len3 cap3 l3 W w00 w01 w02 w03 w04 wo1 ro1 fo1 wo2 ro2 fo2 wo3 ro3 fo3).mono fun e W' ⟨he, bel⟩ => ?_
  subst he
  exact ⟨_, rfl, _, _, _, [], _, [], hW', trodAll_mk1 (shut_bool Try.underlying4 _), (trodAll_cons_mk (Below.trod laidOut (by kernel_rfl) (of_decide_eq_true (by kernel_rfl)) k0 bel lt0) (trodAll_cons_mk (Below.trod laidOut (by kernel_rfl) (of_decide_eq_true (by kernel_rfl)) k1 bel lt1) (trodAll_cons_mk (Below.trod laidOut (by kernel_rfl) (of_decide_eq_true (by kernel_rfl)) k2 bel lt2) (trodAll_cons_mk (Below.trod laidOut (by kernel_rfl) (of_decide_eq_true (by kernel_rfl)) k3 bel lt3) trodAll_mk0)))), rfl, bel.frame _, fun h => by cases h⟩
theorem over : Rows.linkCopiesRow.holds Try.pinned (OpenSpec.ofChange Rows.linkCopiesSpec) :=
  OpenClaim.holds_of_wide 6 Try.f6 rfl rfl rfl rfl rfl rfl rfl ⟨rfl, rfl, rfl, rfl, rfl⟩ rfl rfl rfl rfl rfl (by kernel_rfl) Try.func6 (by kernel_rfl)
    (of_decide_eq_true (by kernel_rfl)) (by unfold Func.isWrapper; first | (rw [if_pos (by decide +kernel)]; kernel_rfl) | (rw [if_neg (by decide +kernel)]; exact ⟨rfl, rfl⟩))
    (fun os started H enc _ => lifted os started H enc)
theorem proved : Rows.LinkCopiesSaid := over
end Go.Proofs.Ytgdpoiapkaahfaa.lawLinkCopies

/- The law of the frames on their way holds: 'skylanternlaw35.LinkFrames' returns true at every input. No conditions. -/
import Derived.Test.YtgdpoiapkaahfaaLinkFr
import Derived.Test.YtgdpoiapkaahfaaLkE
import Derived.Test.YtgdpoiapkaahfaaLkM
import Derived.Test.YtgdpoiapkaahfaaSame
import Derived.Test.YtgdpoiapkaahfaaArg
namespace Go.Proofs.Ytgdpoiapkaahfaa.lawLinkFrames
open Go.ChangeShapes Go.WideShapes Go.ChangeAt Go.RowKit Go.Joins
set_option linter.unusedVariables false
set_option linter.unusedSimpArgs false
attribute [local go_sem ↓] Go.wp_at_zero Go.wp_at_succ
set_option maxHeartbeats 8000000
set_option maxRecDepth 100000
theorem info_frame : (Try.prog.info? 40).map (fun i => (i.zero, i.size, i.bytes)) = some (some (.agg #[.int .i64 0, .int .i64 0, .int .i64 0, .int .i64 0, .slice none 0 0]), 5, 56) := by kernel_rfl
/-- a frame in the slice of those that were sent -/
structure WFr where
  y : Fr
  A : Option Addr
  c : Nat
def wcell (m : WFr) : List Value := [.int .i64 m.y.k, .int .i64 m.y.f, .int .i64 m.y.t, .int .i64 m.y.s, .slice m.A m.y.d.length m.c]
def wcells (l : List WFr) : List Value := l.flatMap wcell
theorem wcells_append (l k : List WFr) : wcells (l ++ k) = wcells l ++ wcells k := List.flatMap_append
theorem wcells_one (l : List WFr) : ∀ v ∈ wcells l, v.oneCell' = true := by
  intro v hv
  simp only [wcells, List.mem_flatMap] at hv
  obtain ⟨m, _, hm⟩ := hv
  simp [wcell] at hm
  rcases hm with rfl | rfl | rfl | rfl | rfl <;> rfl
theorem wcells_at : ∀ {l : List WFr} {j : Nat} {m : WFr}, l[j]? = some m → (wcells l)[j * 5]? = some (.int .i64 m.y.k) ∧ (wcells l)[j * 5 + 1]? = some (.int .i64 m.y.f) ∧ (wcells l)[j * 5 + 2]? = some (.int .i64 m.y.t) ∧ (wcells l)[j * 5 + 3]? = some (.int .i64 m.y.s) ∧ (wcells l)[j * 5 + 4]? = some (.slice m.A m.y.d.length m.c)
  | [], j, m, h => by simp at h
  | a :: l, 0, m, h => by
    simp at h
    subst h
    exact ⟨rfl, rfl, rfl, rfl, rfl⟩
  | a :: l, j + 1, m, h => by
    have := wcells_at (l := l) (j := j) (m := m) (by simpa using h)
    rw [show (j + 1) * 5 = j * 5 + 1 + 1 + 1 + 1 + 1 by omega]
    simpa [wcells, List.flatMap_cons, wcell] using this
/-- a guard fails -/
theorem walk_no (a0 : Int) (a1 : Int) (a2 : Option Addr) (len2 cap2 : Nat) (l2 : List Fr) (w : World) (w0 : (Lit.int .i64 a0).wf = true) (w1 : (Lit.int .i64 a1).wf = true) (w2 : Rf w w.heap.size a2 len2 l2) (r2 : Room a2 len2 cap2) (f2 : ∀ y ∈ l2, FrOk y) (hno : 20 < len2 ∨ ¬ 20 < len2 ∧ Lnk.vld (Lnk.frRu a0 a1) = false) :
    Calls Try.prog 7 #[.int .i64 a0, .int .i64 a1, .slice a2 len2 cap2] w fun e w' => e = .returned (.bool true) ∧ Below w.heap.size w w' := by
  have RV := Lib.hid (fun W : World => rlvalid_any (Lnk.frRu a0 a1) W)
  simp only [rul, Lnk.frRu] at RV
  have hl := r2.2.1
  have hl2 := r2.1
  unfold maxLen at hl
  clear w2 r2 w0 w1 f2
  rcases hno with h1 | ⟨h1, h2⟩
  · go_enter Try.func7, Try.ntmps7
    go_wp2_with fail
    refine (known_true _).mono ?_
    rintro e w4 ⟨rfl, hb4⟩
    have hz4 := hb4.size
    (try simp at hz4)
    go_wp2_with fail
    go_ret
    exact ⟨rfl, (by repeat (first | (with_reducible exact Below.refl _ _) | (with_reducible refine Below.drew ?_) | (with_reducible refine below_drewN ?_ _) | ((with_reducible refine Below.alloc ?_ ?_ _); rotate_left; (first | omega | (simp <;> omega)); rotate_right) | ((with_reducible refine Below.setCell ?_ ?_ _); rotate_left; (first | omega | (simp <;> omega)); rotate_right) | (with_reducible assumption) | (refine Below.trans ?_ (Below.mono (by assumption) ?_); rotate_left; (first | omega | (simp <;> omega)); rotate_right)))⟩
  · simp only [Lnk.frRu] at h2
    rw [h2] at RV
    clear h2
    go_enter Try.func7, Try.ntmps7
    go_wp2_with fail
    refine (RV.out _).mono ?_
    rintro e w3 ⟨rfl, hb3⟩
    have hz3 := hb3.size
    (try simp at hz3)
    go_wp2_with fail
    refine (known_true _).mono ?_
    rintro e w4 ⟨rfl, hb4⟩
    have hz4 := hb4.size
    (try simp at hz4)
    go_wp2_with fail
    go_ret
    exact ⟨rfl, (by repeat (first | (with_reducible exact Below.refl _ _) | (with_reducible refine Below.drew ?_) | (with_reducible refine below_drewN ?_ _) | ((with_reducible refine Below.alloc ?_ ?_ _); rotate_left; (first | omega | (simp <;> omega)); rotate_right) | ((with_reducible refine Below.setCell ?_ ?_ _); rotate_left; (first | omega | (simp <;> omega)); rotate_right) | (with_reducible assumption) | (refine Below.trans ?_ (Below.mono (by assumption) ?_); rotate_left; (first | omega | (simp <;> omega)); rotate_right)))⟩
theorem walk_yes (a0 : Int) (a1 : Int) (a2 : Option Addr) (len2 cap2 : Nat) (l2 : List Fr) (w : World) (w0 : (Lit.int .i64 a0).wf = true) (w1 : (Lit.int .i64 a1).wf = true) (w2 : Rf w w.heap.size a2 len2 l2) (r2 : Room a2 len2 cap2) (f2 : ∀ y ∈ l2, FrOk y) (h1 : ¬ 20 < len2) (h2 : Lnk.vld (Lnk.frRu a0 a1) = true) :
    Calls Try.prog 7 #[.int .i64 a0, .int .i64 a1, .slice a2 len2 cap2] w fun e w' => e = .returned (.bool true) ∧ Below w.heap.size w w' := by
  obtain ⟨i0, hi0, hz0, hz1, hz2⟩ := info_parts info_frame
  obtain ⟨r, hr⟩ : ∃ r, r = Lnk.frRu a0 a1 := ⟨_, rfl⟩
  have RV := Lib.hid (show ∀ W : World, Calls Try.prog 11 #[.agg #[.int .i64 0, .int .i64 0, .int .i64 a1, .int .i64 a1, .int .i64 a0]] W fun e w' => e = .returned (.bool true) ∧ Below W.heap.size W w' from fun W => by
    have h := rlvalid_any (Lnk.frRu a0 a1) W
    rw [h2] at h
    exact h)
  have M := Lib.hid (show ∀ W : World, Calls Try.prog 9 #[.agg #[.int .i64 0, .int .i64 0, .int .i64 a1, .int .i64 a1, .int .i64 a0]] W fun e w' => ∃ b, e = .returned (.tuple #[.pointer (some ⟨b, 0, none⟩), .agg #[.int .i64 0, .int .i64 0, .int .i64 a1, .int .i64 a1, .int .i64 a0, .int .u64 a0, .int .i64 0, .slice none 0 0, .int .i64 0, .int .i64 0, .int .i64 0], .bool true]) ∧ Hid (IsLk w' W.heap.size b none 0 r (Lnk.new r)) ∧ Below W.heap.size W w' from fun W => (made_yes (Lnk.frRu a0 a1) W h2 (i64_wf w0).2).mono (fun e w' ⟨b, h1, h2, h3⟩ => ⟨b, h1, Lib.hid (by rw [hr]; exact h2), h3⟩))
  have HV := Lib.hid (show Lnk.vld r = true by rw [hr]; exact h2)
  have hv2 := h2
  rw [Lnk.vld_iff] at hv2
  simp only [Lnk.frRu] at hv2
  have hdl : 0 ≤ a1 ∧ a1 ≤ 60000 := by omega
  have HW := Lib.hid w2
  have HLN := Lib.hid w2.1
  have HFI0 := Lib.hid (show Lnk.FrI a1 l2 (Lnk.new r) 0 by rw [hr]; exact Lnk.fri_new a0 a1 l2)
  have HIN0 := Lib.hid (show Lnk.Inv (Lnk.new r) by rw [hr]; exact Lnk.inv_new h2 (i64_wf w0).2)
  have HYES := Lib.hid (show ∀ (s : Lnk.St) (i : Nat), Lnk.FrI a1 l2 s i → i < l2.length → i < 20 → Lnk.okB (l2.getD i fr0) = true → Lnk.sendE s (i : Int) (Frq.encF (l2.getD i fr0)).length = 0 ∧ Lnk.FrI a1 l2 (Lnk.send r s (i : Int) (Frq.encF (l2.getD i fr0))) (i + 1) from fun s i h hi hi2 ho => by rw [hr]; exact h.yes a0 hdl.1 hi hi2 ho)
  generalize Lnk.new r = s0 at *
  have hlen20 : len2 ≤ 20 := by omega
  have hv3 : 0 ≤ a0 := by omega
  clear w2 r2 w0 w1 f2 hr h2 hv2
  go_enter Try.func7, Try.ntmps7
  go_wp2_with fail
  refine (RV.out _).mono ?_
  rintro e w3 ⟨rfl, hb3⟩
  have hz3 := hb3.size
  (try simp at hz3)
  have k3 := blk_below (q := w.heap.size) (heap_new _ _) hb3 (by first | omega | (simp; done) | (simp; omega))
  have HB3 := (show Below w.heap.size w w3 from (by repeat (first | (with_reducible exact Below.refl _ _) | (with_reducible refine Below.drew ?_) | (with_reducible refine below_drewN ?_ _) | ((with_reducible refine Below.alloc ?_ ?_ _); rotate_left; (first | omega | (simp <;> omega)); rotate_right) | ((with_reducible refine Below.setCell ?_ ?_ _); rotate_left; (first | omega | (simp <;> omega)); rotate_right) | (with_reducible assumption) | (refine Below.trans ?_ (Below.mono (by assumption) ?_); rotate_left; (first | omega | (simp <;> omega)); rotate_right))))
  clear hb3
  have ca_0 := blk_cell k3 0 rfl; have fa_0 := blk_free k3 0; have ca_1 := blk_cell k3 1 rfl; have fa_1 := blk_free k3 1; have ca_2 := blk_cell k3 2 rfl; have fa_2 := blk_free k3 2; have ca_3 := blk_cell k3 3 rfl; have fa_3 := blk_free k3 3; have ca_4 := blk_cell k3 4 rfl; have fa_4 := blk_free k3 4; have la := lt_of_block k3
  go_wp2_with fail
  refine (M.out _).mono ?_
  rintro e w4 ⟨b, rfl, hl4, hb4⟩
  have hz4 := hb4.size
  have HB4 := Lib.hid (show Below w.heap.size w w4 from (by repeat (first | (with_reducible exact Below.refl _ _) | (with_reducible refine Below.drew ?_) | (with_reducible refine below_drewN ?_ _) | ((with_reducible refine Below.alloc ?_ ?_ _); rotate_left; (first | omega | (simp <;> omega)); rotate_right) | ((with_reducible refine Below.setCell ?_ ?_ _); rotate_left; (first | omega | (simp <;> omega)); rotate_right) | (with_reducible assumption) | (refine Below.trans ?_ (Below.mono (by assumption) ?_); rotate_left; (first | omega | (simp <;> omega)); rotate_right))))
  clear ca_0 fa_0 ca_1 fa_1 ca_2 fa_2 ca_3 fa_3 ca_4 fa_4 la k3 HB3 hb4
  go_wp2_with fail
  generalize hV : World.alloc _ _ = V
  have hBV0 : Below w4.heap.size w4 V := by rw [← hV]; exact (Below.refl _ _).alloc (Nat.le_refl _) _
  clear hV
  have HL0 := Lib.hid ((hl4.out.below hBV0 (Nat.le_refl _)))
  have HBV := Lib.hid (show Below w.heap.size w V from HB4.out.trans (hBV0.mono (by omega)))
  have hVs := hBV0.size
  obtain ⟨B, hB⟩ : ∃ B, B = w3.heap.size := ⟨_, rfl⟩
  rw [← hB] at HL0
  have hBw : w.heap.size + 1 ≤ B := by omega
  have hBV : B ≤ V.heap.size := by omega
  clear hB hl4 hBV0 HB4 M RV hz3 hz4
  go_loopw [11, 12] (fun v11 v12 wr => ∃ (i : Nat) (s : Lnk.St) (A : Option Addr) (c : Nat) (O : Option Addr) (oc : Nat) (wl : List WFr), v11 = .slice O wl.length oc ∧ v12 = .int .i64 i ∧ i ≤ len2 ∧ wl.length ≤ i ∧ Hid (Lnk.FrI a1 l2 s i) ∧ Hid (Lnk.Inv s) ∧ Hid (IsLk wr B b A c r s) ∧ Hid (Row wr B 40 5 O wl.length oc (wcells wl)) ∧ Hid (wl.map (·.y) = Lnk.wantF l2 i) ∧ Hid (∀ m ∈ wl, Rd w w.heap.size m.A m.y.d.length m.y.d) ∧ Hid (∀ g, blkOf O = some g → ¬ Two b A g) ∧ Hid (Below B V wr)) (fun _ v _ => len2 - (intOf v).toNat)
  case atStart => exact ⟨0, s0, none, 0, none, 0, [], by go_num, by go_num, by omega, by simp, HFI0, HIN0, HL0, Lib.hid (Row.nil _ _ _ _), Lib.hid (by simp [Lnk.wantF]), Lib.hid (fun m hm => by cases hm), Lib.hid (fun g hg => by cases hg), Lib.hid (Below.refl _ _)⟩
  case round =>
    obtain ⟨i, s, A, c, O, oc, wl, rfl, rfl, hi, hwl, HFI, HIN, HL, HRW, HWL, HRD, HOD, HB⟩ := hrel
    clear HFI0 HIN0 HL0
    have hzr := HB.out.size
    have HBw := Lib.hid (show Below w.heap.size w wr from HBV.out.trans (HB.out.mono (by omega)))
    by_cases hlt : i < len2
    · obtain ⟨bb, oo, rfl, hbb, hcc⟩ := HW.out.2 (by omega)
      obtain ⟨D, cd, e0, e1, e2, e3, e4, hrd, hno, hcd, hcm⟩ := hcc i hlt
      have HNO := Lib.hid hno
      have HYE := Lib.hid (fun h => HYES.out s i HFI.out (by rw [HLN.out]; exact hlt) (by omega) h)
      have HNN := Lib.hid (fun h => HFI.out.no (i := i) (by rw [HLN.out]; exact hlt) h)
      have HWN := Lib.hid (fun h => Lnk.wantF_no (l := l2) (i := i) (by rw [HLN.out]; exact hlt) h)
      have HWY := Lib.hid (fun h => Lnk.wantF_yes (l := l2) (i := i) (by rw [HLN.out]; exact hlt) h)
      obtain ⟨y, hy⟩ : ∃ y, y = l2.getD i fr0 := ⟨_, rfl⟩
      rw [← hy] at e0 e1 e2 e3 e4 hrd hcd HYE HNN HWN HWY
      have HRDy := Lib.hid hrd
      have E0 := Lib.hid e0
      have E1 := Lib.hid e1
      have E2 := Lib.hid e2
      have E3 := Lib.hid e3
      have E4 := Lib.hid e4
      have hin : (i : Int) < (len2 : Int) := by omega
      have d4 := (HBw.out.cell (p := ⟨bb, oo + i * 5 + 4, none⟩) hbb).trans e4
      unfold maxLen at hcm
      clear hy hcc hno hrd e0 e1 e2 e3 e4 HYES
      by_cases h64 : 64 < y.d.length
      · go_wp2_with fail
        refine (known_true _).mono ?_
        rintro e w5 ⟨rfl, hb5⟩
        go_wp2_with fail
        go_ret
        have hBx := HBw.out
        exact ⟨rfl, hBx.trans (hb5.mono hBx.size)⟩
      · have d0 := (HBw.out.cell (p := ⟨bb, oo + i * 5, none⟩) hbb).trans E0.out
        have d1 := (HBw.out.cell (p := ⟨bb, oo + i * 5 + 1, none⟩) hbb).trans E1.out
        have d2 := (HBw.out.cell (p := ⟨bb, oo + i * 5 + 2, none⟩) hbb).trans E2.out
        have d3 := (HBw.out.cell (p := ⟨bb, oo + i * 5 + 3, none⟩) hbb).trans E3.out
        have RV := Lib.hid (fun W : World => rvalid_any y.k y.f y.t y.s D y.d.length cd W (by omega))
        have hsent : s.sent < 1000000000 := by have := HFI.out.sent; omega
        have SF := Lib.hid (show ∀ W : World, Below wr.heap.size wr W → Calls Try.prog 21 #[.pointer (some ⟨b, 0, none⟩), .int .i64 i, .agg #[.int .i64 y.k, .int .i64 y.f, .int .i64 y.t, .int .i64 y.s, .slice D y.d.length cd]] W (SendPost B b A r (sfS r s i y.k y.f y.t y.s y.d) (sfE s i y.k y.f y.t y.s y.d.length) W) from fun W hW => by
          have hz := hW.size
          exact sendf_any B b c A r s i y.k y.f y.t y.s D y.d.length cd y.d W (HL.out.below hW (Nat.le_refl _)) HV.out HIN.out hsent (by omega) (by omega) (((HRDy.out.below HBw.out (Nat.le_refl _)).below hW (by have := HBw.out.size; omega)).more (by have := HBw.out.size; omega)))
        have hwz := HBw.out.size
        cases hvd : Frm.vd y.k y.f y.t y.s y.d.length
        · have F1 := Lib.hid (show sfE s i y.k y.f y.t y.s y.d.length = 2 by unfold sfE; rw [if_neg (by rw [hvd]; simp)])
          have F2 := Lib.hid (show sfS r s i y.k y.f y.t y.s y.d = s by unfold sfS; rw [if_neg (by rw [hvd]; simp)])
          rw [hvd] at RV
          rw [F1.out, F2.out] at SF
          have HN1 := Lib.hid (HNN.out hvd)
          have HN2 := Lib.hid (HWN.out hvd)
          clear hvd HYE HWY HNN HWN
          go_wp2_with fail
          refine (RV.out _).mono ?_
          rintro e w5 ⟨rfl, hb5⟩
          have hz5 := hb5.size
          have f0 := (hb5.cell (p := ⟨bb, oo + i * 5, none⟩) (by show bb < _; omega)).trans d0
          have f1 := (hb5.cell (p := ⟨bb, oo + i * 5 + 1, none⟩) (by show bb < _; omega)).trans d1
          have f2 := (hb5.cell (p := ⟨bb, oo + i * 5 + 2, none⟩) (by show bb < _; omega)).trans d2
          have f3 := (hb5.cell (p := ⟨bb, oo + i * 5 + 3, none⟩) (by show bb < _; omega)).trans d3
          have f4 := (hb5.cell (p := ⟨bb, oo + i * 5 + 4, none⟩) (by show bb < _; omega)).trans d4
          have HB5 := Lib.hid hb5
          clear hb5 d0 d1 d2 d3 d4
          go_wp2_with fail
          refine (SF.out _ HB5.out).mono ?_
          rintro e w6 ⟨rfl, A1, c1, hl6, hk6, hat6⟩
          have HL6 := Lib.hid hl6
          have HRW6 := Lib.hid ((HRW.out.below HB5.out (Nat.le_refl _)).kept hk6 (fun g hg hT => HOD.out g hg hT))
          have HOD6 := Lib.hid (show ∀ g, blkOf O = some g → ¬ Two b A1 g from fun g hg hT => by
            have h1 := (HRW.out.lt hg).2
            exact HOD.out g hg (two_new (b := b) (n := w5.heap.size) hat6 g (by omega) hT))
          have HB6 := Lib.hid (show Below B V w6 from (HB.out.trans (HB5.out.mono (by omega))).trans (hk6.below (fun j _ hj => HL.out.two_ge j hj) (by omega)))
          clear hl6 hk6 hat6
          go_wp2_with fail
          go_roundw
          case rel => exact ⟨i + 1, s, A1, c1, O, oc, wl, by go_num, by go_num, by omega, by omega, HN1, HIN, HL6, HRW6, Lib.hid (by rw [HN2.out]; exact HWL.out), HRD, HOD6, HB6⟩
          case measure => simp [intOf]; omega
        · have F1 := Lib.hid (show sfE s i y.k y.f y.t y.s y.d.length = 0 by
            unfold sfE
            rw [if_pos hvd]
            have h := (HYE.out hvd).1
            rw [Frq.encF_len] at h
            rw [show y.d.length + 10 = 10 + y.d.length by omega]
            exact h)
          have F2 := Lib.hid (show sfS r s i y.k y.f y.t y.s y.d = Lnk.send r s (i : Int) (Frq.encF y) by unfold sfS; rw [if_pos hvd]; rfl)
          rw [hvd] at RV
          rw [F1.out, F2.out] at SF
          have HN1 := Lib.hid (HYE.out hvd).2
          have HN2 := Lib.hid (HWY.out hvd)
          have HIN1 := Lib.hid (Lnk.inv_send HV.out HIN.out (b := Frq.encF y) (now := (i : Int)) (Frq.encF_by ⟨hvd, HRDy.out.2.1⟩) hsent)
          generalize Lnk.send r s (i : Int) (Frq.encF y) = s' at *
          clear hvd HYE HWY HNN HWN F2
          go_wp2_with fail
          refine (RV.out _).mono ?_
          rintro e w5 ⟨rfl, hb5⟩
          have hz5 := hb5.size
          have f0 := (hb5.cell (p := ⟨bb, oo + i * 5, none⟩) (by show bb < _; omega)).trans d0
          have f1 := (hb5.cell (p := ⟨bb, oo + i * 5 + 1, none⟩) (by show bb < _; omega)).trans d1
          have f2 := (hb5.cell (p := ⟨bb, oo + i * 5 + 2, none⟩) (by show bb < _; omega)).trans d2
          have f3 := (hb5.cell (p := ⟨bb, oo + i * 5 + 3, none⟩) (by show bb < _; omega)).trans d3
          have f4 := (hb5.cell (p := ⟨bb, oo + i * 5 + 4, none⟩) (by show bb < _; omega)).trans d4
          have HB5 := Lib.hid hb5
          clear hb5 d0 d1 d2 d3 d4
          go_wp2_with fail
          refine (SF.out _ HB5.out).mono ?_
          rintro e w6 ⟨rfl, A1, c1, hl6, hk6, hat6⟩
          have HL6 := Lib.hid hl6
          have HRW6 := Lib.hid ((HRW.out.below HB5.out (Nat.le_refl _)).kept hk6 (fun g hg hT => HOD.out g hg hT))
          have HOD6 := Lib.hid (show ∀ g, blkOf O = some g → ¬ Two b A1 g from fun g hg hT => by
            have h1 := (HRW.out.lt hg).2
            exact HOD.out g hg (two_new (b := b) (n := w5.heap.size) hat6 g (by omega) hT))
          have HB6 := Lib.hid (show Below B V w6 from (HB.out.trans (HB5.out.mono (by omega))).trans (hk6.below (fun j _ hj => HL.out.two_ge j hj) (by omega)))
          have hz6 := hk6.size
          have HBw6 := Lib.hid (show Below w.heap.size w w6 from HBV.out.trans (HB6.out.mono (by omega)))
          have g0 := (HBw6.out.cell (p := ⟨bb, oo + i * 5, none⟩) hbb).trans E0.out
          have g1 := (HBw6.out.cell (p := ⟨bb, oo + i * 5 + 1, none⟩) hbb).trans E1.out
          have g2 := (HBw6.out.cell (p := ⟨bb, oo + i * 5 + 2, none⟩) hbb).trans E2.out
          have g3 := (HBw6.out.cell (p := ⟨bb, oo + i * 5 + 3, none⟩) hbb).trans E3.out
          have g4 := (HBw6.out.cell (p := ⟨bb, oo + i * 5 + 4, none⟩) hbb).trans E4.out
          have hwl20 : wl.length ≤ 20 := by omega
          have hBw6 : B ≤ w6.heap.size := by omega
          have hbb6 : bb < w6.heap.size := by omega
          clear hl6 hk6 hat6 f0 f1 f2 f3 f4 HRW HOD HL HB HB5
          go_wp2_with (at_builtin; refine wpList_append_row rfl (.tmp 85) (.tmp 90) _ rfl B 40 i0 _ 5 56 Try.underlying54 hi0 hz0 hz1 hz2 rfl O wl.length oc (wcells wl) rfl (HRW6.out.alloc _) ⟨w6.heap.size, 0, none⟩ 1 1 (wcell (WFr.mk y D cd)) rfl rfl (fun j u hu => by rw [addr_add, Nat.zero_add]; exact blk_cell (heap_new _ _) j hu) (by have h := wcells_one [WFr.mk y D cd]; simpa [wcells] using h) (by omega) (by unfold maxLen; omega) (by omega) (by simp; omega) ?_; intro O' oc' w7 hown7 hg7 hat7; (have hz7 := hg7.size; try simp at hz7); have HOW := Lib.hid hown7; have HG7 := Lib.hid hg7; have HAT7 := Lib.hid hat7; clear hown7 hg7 hat7)
          have kg : Keeps (fun j => blkOf O = some j) (w6.alloc (.cells #[.int .i64 y.k, .int .i64 y.f, .int .i64 y.t, .int .i64 y.s, .slice D y.d.length cd] 40)) w7 := Keeps.of_grown HG7.out (fun g hg => hg)
          have HL7 := Lib.hid ((HL6.out.alloc _).kept kg (fun j hj hT => HOD6.out j hT hj))
          have HB7 := Lib.hid (show Below B V w7 from Below.grown (HB6.out.alloc (by omega) _) HG7.out (by simp; omega) (fun g hg => (HRW6.out.lt (g := g) hg).1))
          have HOD7 := Lib.hid (show ∀ g, blkOf O' = some g → ¬ Two b A1 g from fun g hg hT => by
            rcases HAT7.out with h | h
            · rw [h] at hg; exact HOD6.out g hg hT
            · rw [h] at hg
              injection hg with hg
              have := HL6.out.two g hT
              simp at hg; omega)
          have HRW7 := Lib.hid (show Row w7 B 40 5 O' (wl ++ [WFr.mk y D cd]).length oc' (wcells (wl ++ [WFr.mk y D cd])) from by
            rw [wcells_append, List.length_append]
            have h := HOW.out
            simpa [wcells] using h)
          have HWL7 := Lib.hid (show (wl ++ [WFr.mk y D cd]).map (·.y) = Lnk.wantF l2 (i + 1) from by rw [HN2.out, List.map_append, HWL.out]; rfl)
          have HRD7 := Lib.hid (show ∀ m ∈ wl ++ [WFr.mk y D cd], Rd w w.heap.size m.A m.y.d.length m.y.d from fun m hm => by
            rcases List.mem_append.1 hm with h | h
            · exact HRD.out m h
            · simp only [List.mem_singleton] at h
              subst h
              exact HRDy.out)
          have hlen7 : (wl ++ [WFr.mk y D cd]).length = wl.length + 1 := by simp
          clear kg HOW HG7 HAT7 g0 g1 g2 g3 g4
          have HLE7 := Lib.hid hlen7
          clear hlen7
          go_wp2_with fail
          go_roundw
          case rel => exact ⟨i + 1, s', A1, c1, O', oc', wl ++ [WFr.mk y D cd], by rw [HLE7.out], by go_num, by omega, by rw [HLE7.out]; omega, HN1, HIN1, HL7, HRW7, HWL7, HRD7, HOD7, HB7⟩
          case measure => simp [intOf]; omega
    · obtain rfl : i = len2 := by omega
      clear hlt HYES
      have hGT := HFI.out.got hdl hlen20
      obtain ⟨hE, hGD⟩ := hGT
      have HGD := Lib.hid hGD
      have hcap := HRW.out.le
      clear hGD
      go_wp2_with fail
      refine (recv_yes B b c A r s (a1 + 20) wr HL.out HIN.out (by omega) hE).mono ?_
      rintro e w6 ⟨oA, n1, oc1, rfl, hrb, A1, c1, hl6, hk6, hat6⟩
      rw [HGD.out] at hrb
      have hn1 := hrb.len
      rw [← HWL.out] at hn1
      simp only [List.length_map] at hn1
      obtain rfl : n1 = wl.length := hn1.symm
      have HRB := Lib.hid hrb
      have HRW6 := Lib.hid (HRW.out.kept hk6 (fun g hg hT => HOD.out g hg hT))
      have HB6 := Lib.hid (show Below w.heap.size w w6 from HBw.out.trans (hk6.below (fun j _ hj => by have := HL.out.two_ge j hj; omega) (by have := HBw.out.size; omega)))
      have hz6 := hk6.size
      clear hn1 hrb hl6 hk6 hat6 HL HRW HOD HB HBw HIN HFI hE
      go_wp2_with fail
      obtain ⟨V6, hV6⟩ : ∃ V6, V6 = w6 := ⟨_, rfl⟩
      obtain ⟨wo, rfl⟩ : ∃ wo : World, wo = wr := ⟨_, rfl⟩
      go_loopw [17] (fun v17 wr => ∃ (j : Nat), v17 = .int .i64 j ∧ j ≤ wl.length ∧ Hid (Below w6.heap.size w6 wr)) (fun v _ => wl.length - (intOf v).toNat)
      case atStart => exact ⟨0, by go_num, by omega, Lib.hid (Below.refl _ _)⟩
      case round =>
        obtain ⟨j, rfl, hj, HB⟩ := hrel
        have hzr := HB.out.size
        by_cases hjn : j < wl.length
        · obtain ⟨m, hm⟩ : ∃ m, wl[j]? = some m := ⟨_, List.getElem?_eq_getElem hjn⟩
          have hmm : m ∈ wl := List.mem_of_getElem? hm
          have hgd : ((Lnk.wantF l2 i).map Frq.encF).getD j [] = Frq.encF m.y := by rw [← HWL.out]; simp [List.getD, hm]
          have hrdm := HRD.out m hmm
          have hok : Frm.vd m.y.k m.y.f m.y.t m.y.s m.y.d.length = true := Lnk.wantF_ok (l := l2) (i := i) (by rw [← HWL.out]; exact List.mem_map_of_mem hmm)
          obtain ⟨bb, o', A', c', rfl, hbb, hc1, hrd, hle, hcm, _, _⟩ := HRB.out.at_ hjn
          rw [hgd] at hc1 hrd hle
          have hvb := Frm.vd_bd hok
          have hel : (Frq.encF m.y).length ≤ 74 := by rw [Frq.encF_len]; omega
          have DEC := Lib.hid (show Calls Try.prog 22 #[.slice A' (Frq.encF m.y).length c'] wr fun e w' => ∃ A2 cap2, e = .returned (.tuple #[.agg #[.int .i64 m.y.k, .int .i64 m.y.f, .int .i64 m.y.t, .int .i64 m.y.s, .slice A2 m.y.d.length cap2], .int .i64 0]) ∧ Hid (Ow w' wr.heap.size A2 m.y.d.length cap2 m.y.d) ∧ Below wr.heap.size wr w' from by
            unfold maxLen at hcm
            refine (rdec_any A' (Frq.encF m.y).length c' (Frq.encF m.y) wr (by omega) hle hcm ((hrd.below HB.out (Nat.le_refl _)).more hzr)).mono ?_
            intro e w' h
            have hE0 := Frq.enc_dE (y := m.y) ⟨hok, hrdm.2.1⟩
            have hdm : Frm.dm (Frq.encF m.y) = m.y.d.length := by simpa using Frq.enc_dm (y := m.y) []
            rcases h with ⟨h1, _⟩ | ⟨_, A2, cap2, h2, h3, h4⟩
            · exact absurd hE0 h1
            · rw [hdm, Frq.enc_dd] at h3
              rw [hdm, Frq.enc_dS ⟨hok, hrdm.2.1⟩] at h2
              exact ⟨A2, cap2, h2, Lib.hid h3, h4⟩)
          obtain ⟨q, hq⟩ : ∃ q, q = (Frq.encF m.y).length := ⟨_, rfl⟩
          rw [← hq] at DEC hc1 hle hel
          obtain ⟨g, o, cur, rfl, hBg, hgl, hgo, _, _, _, _, hat, _⟩ := HRW6.out.some_ (by omega)
          obtain ⟨x0, x1, x2, x3, x4⟩ := wcells_at hm
          have hgr : g < wr.heap.size := by omega
          have v0 := (HB.out.cell (p := ⟨g, o + j * 5, none⟩) hgl).trans (hat _ _ x0)
          have v1 := (HB.out.cell (p := ⟨g, o + (j * 5 + 1), none⟩) hgl).trans (hat _ _ x1)
          have v2 := (HB.out.cell (p := ⟨g, o + (j * 5 + 2), none⟩) hgl).trans (hat _ _ x2)
          have v3 := (HB.out.cell (p := ⟨g, o + (j * 5 + 3), none⟩) hgl).trans (hat _ _ x3)
          have v4 := (HB.out.cell (p := ⟨g, o + (j * 5 + 4), none⟩) hgl).trans (hat _ _ x4)
          have cb := (HB.out.cell (p := ⟨bb, o' + j, none⟩) hbb).trans hc1
          have hjI : (j : Int) < (wl.length : Int) := by omega
          have HRDm := Lib.hid hrdm
          clear hq hat hgo hc1 hrd hgd hm x0 x1 x2 x3 x4 hok hrdm
          go_wp2_with fail
          refine DEC.out.mono ?_
          rintro e w8 ⟨A2, cap9, rfl, how, hb8⟩
          have hz8 := hb8.size
          have u0 := (hb8.cell (p := ⟨g, o + j * 5, none⟩) hgr).trans v0
          have u1 := (hb8.cell (p := ⟨g, o + j * 5 + 1, none⟩) hgr).trans v1
          have u2 := (hb8.cell (p := ⟨g, o + j * 5 + 2, none⟩) hgr).trans v2
          have u3 := (hb8.cell (p := ⟨g, o + j * 5 + 3, none⟩) hgr).trans v3
          have u4 := (hb8.cell (p := ⟨g, o + j * 5 + 4, none⟩) hgr).trans v4
          have HB8 := Lib.hid (HB.out.trans (hb8.mono hzr))
          clear v0 v1 v2 v3 v4 cb hb8
          go_upto_region 26 with fail
          generalize hW9 : World.alloc _ _ = W9
          have kN : W9.heap[w8.heap.size]? = some (.cells #[.int .i64 m.y.k, .int .i64 m.y.f, .int .i64 m.y.t, .int .i64 m.y.s, .slice A2 m.y.d.length cap9] 40 (0, 0)) := by rw [← hW9]; exact heap_new _ _
          have hb9 : Below w8.heap.size w8 W9 := by rw [← hW9]; exact (Below.refl _ _).alloc (Nat.le_refl _) _
          clear hW9
          have hN9 := lt_of_block kN
          have hg8 : g < w8.heap.size := by omega
          have hg9 : g < W9.heap.size := by omega
          have y0 := (hb9.cell (p := ⟨g, o + j * 5, none⟩) hg8).trans u0
          have y1 := (hb9.cell (p := ⟨g, o + j * 5 + 1, none⟩) hg8).trans u1
          have y2 := (hb9.cell (p := ⟨g, o + j * 5 + 2, none⟩) hg8).trans u2
          have y3 := (hb9.cell (p := ⟨g, o + j * 5 + 3, none⟩) hg8).trans u3
          have y4 := (hb9.cell (p := ⟨g, o + j * 5 + 4, none⟩) hg8).trans u4
          have HB9 := Lib.hid (HB8.out.trans (hb9.mono (by omega)))
          have hz9 := HB9.out.size
          have hBw6 := HB6.out.size
          have SM := Lib.hid (show ∀ W : World, Below W9.heap.size W9 W → Calls Try.prog 23 #[.agg #[.int .i64 m.y.k, .int .i64 m.y.f, .int .i64 m.y.t, .int .i64 m.y.s, .slice A2 m.y.d.length cap9], .agg #[.int .i64 m.y.k, .int .i64 m.y.f, .int .i64 m.y.t, .int .i64 m.y.s, .slice m.A m.y.d.length m.c]] W fun e w' => e = .returned (.bool true) ∧ Below W.heap.size W w' from fun W hW => by
            have hz := hW.size
            refine (same_any m.y.k m.y.f m.y.t m.y.s m.y.k m.y.f m.y.t m.y.s A2 m.A m.y.d.length m.y.d.length cap9 m.c m.y.d m.y.d W (((how.out.rd.below hb9 (Nat.le_refl _)).below hW (by omega)).more (by omega)) (((HRDm.out.below HB6.out (Nat.le_refl _)).below (HB9.out.trans (hW.mono hz9)) (by omega)).more (by omega))).mono ?_
            rintro e w' ⟨rfl, h⟩
            exact ⟨by unfold sameB; simp, h⟩)
          have hNg : g ≠ w8.heap.size := by omega
          clear hb9 u0 u1 u2 u3 u4 how
          have cn_0 := blk_cell kN 0 rfl; have fn_0 := blk_free kN 0; have cn_1 := blk_cell kN 1 rfl; have fn_1 := blk_free kN 1; have cn_2 := blk_cell kN 2 rfl; have fn_2 := blk_free kN 2; have cn_3 := blk_cell kN 3 rfl; have fn_3 := blk_free kN 3; have cn_4 := blk_cell kN 4 rfl; have fn_4 := blk_free kN 4; have ln := lt_of_block kN
          go_region_held3 (fun w' => (w'.cell? ⟨w8.heap.size, 0, none⟩ = some (.int .i64 m.y.k) ∧ w'.cell? ⟨w8.heap.size, 1, none⟩ = some (.int .i64 m.y.f) ∧ w'.cell? ⟨w8.heap.size, 2, none⟩ = some (.int .i64 m.y.t) ∧ w'.cell? ⟨w8.heap.size, 3, none⟩ = some (.int .i64 m.y.s) ∧ w'.cell? ⟨w8.heap.size, 4, none⟩ = some (.slice A2 m.y.d.length cap9)) ∧ w'.cell? ⟨g, o + j * 5, none⟩ = some (.int .i64 m.y.k) ∧ w'.cell? ⟨g, o + j * 5 + 1, none⟩ = some (.int .i64 m.y.f) ∧ w'.cell? ⟨g, o + j * 5 + 2, none⟩ = some (.int .i64 m.y.t) ∧ w'.cell? ⟨g, o + j * 5 + 3, none⟩ = some (.int .i64 m.y.s) ∧ w'.cell? ⟨g, o + j * 5 + 4, none⟩ = some (.slice m.A m.y.d.length m.c)) (first | exact ⟨⟨cd_0, cd_1, cd_2, cd_3, cd_4⟩, p0, p1, p2, p3, p4⟩ | exact ⟨⟨cn_0, cn_1, cn_2, cn_3, cn_4⟩, y0, y1, y2, y3, y4⟩ | go_keep) (first | (go_at_call 23; refine (SM.out _ (by repeat (first | (with_reducible exact Below.refl _ _) | (with_reducible refine Below.drew ?_) | (with_reducible refine below_drewN ?_ _) | ((with_reducible refine Below.alloc ?_ ?_ _); rotate_left; (first | omega | (simp <;> omega)); rotate_right) | ((with_reducible refine Below.setCell ?_ ?_ _); rotate_left; (first | omega | (simp <;> omega)); rotate_right) | (with_reducible assumption) | (refine Below.trans ?_ (Below.mono (by assumption) ?_); rotate_left; (first | omega | (simp <;> omega)); rotate_right)))).mono ?_; rintro e w10 ⟨rfl, hb10⟩; have hz10 := hb10.size; (try simp at hz10); have k10 := blk_below (q := w8.heap.size) (by repeat (first | (with_reducible assumption) | ((with_reducible apply blk_far); rotate_left; (first | omega | (simp <;> omega)); rotate_right) | (with_reducible apply blk_drew) | (with_reducible apply blk_drewN) | (with_reducible exact heap_new _ _) | ((with_reducible apply heap_new'); (first | rfl | (simp <;> fail))) | (with_reducible apply blk_alloc))) hb10 (by first | omega | (simp; done) | (simp; omega)); have cd_0 := blk_cell k10 0 rfl; have fd_0 := blk_free k10 0; have cd_1 := blk_cell k10 1 rfl; have fd_1 := blk_free k10 1; have cd_2 := blk_cell k10 2 rfl; have fd_2 := blk_free k10 2; have cd_3 := blk_cell k10 3 rfl; have fd_3 := blk_free k10 3; have cd_4 := blk_cell k10 4 rfl; have fd_4 := blk_free k10 4; have ld := lt_of_block k10; have p0 := (hb10.cell (p := ⟨g, o + j * 5, none⟩) hg9).trans y0; have p1 := (hb10.cell (p := ⟨g, o + j * 5 + 1, none⟩) hg9).trans y1; have p2 := (hb10.cell (p := ⟨g, o + j * 5 + 2, none⟩) hg9).trans y2; have p3 := (hb10.cell (p := ⟨g, o + j * 5 + 3, none⟩) hg9).trans y3; have p4 := (hb10.cell (p := ⟨g, o + j * 5 + 4, none⟩) hg9).trans y4))
          all_goals
            go_wp2_with fail
            have hb99 := HB9.out
            go_roundw
            case rel => exact ⟨j + 1, by go_num, by omega, Lib.hid (by repeat (first | (with_reducible exact Below.refl _ _) | (with_reducible refine Below.drew ?_) | (with_reducible refine below_drewN ?_ _) | ((with_reducible refine Below.alloc ?_ ?_ _); rotate_left; (first | omega | (simp <;> omega)); rotate_right) | ((with_reducible refine Below.setCell ?_ ?_ _); rotate_left; (first | omega | (simp <;> omega)); rotate_right) | (with_reducible assumption) | (refine Below.trans ?_ (Below.mono (by assumption) ?_); rotate_left; (first | omega | (simp <;> omega)); rotate_right)))⟩
            case measure => simp [intOf]; omega
        · obtain rfl : j = wl.length := by omega
          go_wp2_with fail
          refine (known_true _).mono ?_
          rintro e w9 ⟨rfl, hb9⟩
          go_wp2_with fail
          go_ret
          have hBx := HB6.out.trans (HB.out.mono HB6.out.size)
          exact ⟨rfl, hBx.trans (hb9.mono hBx.size)⟩
theorem walk (a0 : Int) (a1 : Int) (a2 : Option Addr) (len2 cap2 : Nat) (l2 : List Fr) (w : World) (w0 : (Lit.int .i64 a0).wf = true) (w1 : (Lit.int .i64 a1).wf = true) (w2 : Rf w w.heap.size a2 len2 l2) (r2 : Room a2 len2 cap2) (f2 : ∀ y ∈ l2, FrOk y) :
    Calls Try.prog 7 #[.int .i64 a0, .int .i64 a1, .slice a2 len2 cap2] w fun e w' => e = .returned (.bool true) ∧ Below w.heap.size w w' := by
  by_cases h1 : 20 < len2
  · exact walk_no a0 a1 a2 len2 cap2 l2 w w0 w1 w2 r2 f2 (.inl h1)
  · cases h2 : Lnk.vld (Lnk.frRu a0 a1)
    · exact walk_no a0 a1 a2 len2 cap2 l2 w w0 w1 w2 r2 f2 (.inr ⟨h1, h2⟩)
    · exact walk_yes a0 a1 a2 len2 cap2 l2 w w0 w1 w2 r2 f2 h1 h2
theorem own : ownKnob Try.prog.godebug = none := by kernel_rfl
theorem laidOut : laidOutB Try.prog = true := by kernel_rfl
set_option maxRecDepth 100000 in
theorem lifted (os : Os) (started : os.Started) (H : Type) (enc : TypeId × Value → H) :
    ReturnsInHanded {} Try.checked os 7 .any (Rows.linkFramesSpec.pre6 enc Try.prog Try.f7 Rows.linkFramesRow.domain false) (Rows.linkFramesSpec.post enc Try.prog Try.f7 false true false false) := by
  refine returnsInHanded_of_change (C := Try.checked) own started (by kernel_rfl) Try.func7
    (ChangeSpec.witness6 (enc := enc) (C := Try.checked) false ⟨#[], #[.int .i64 0, .int .i64 0, .slice none 0 0], []⟩ 8 (by kernel_rfl) (by kernel_rfl) (by kernel_rfl) (by kernel_rfl)) ?_
  intro W base args ds gs before hval0 hW hcnd _
  have hval : ∀ (j : Nat) t v, Try.f7.params[j]? = some t → args[j]? = some v → Value.okWide Try.prog W .any base t v := hval0
  have hW' := hW
  obtain ⟨p, q, hA0, hV, rfl, hfz, hnd⟩ := hW
  have hA : DataW.TrodAll enc Try.prog W 0 (fun _ => true) true Try.f7.params.toList args.toList ds p := hA0
  rw [Try.params7] at hA hval
  obtain ⟨v0, vs0, d0, ds0, p0, q0, hargs, rfl, rfl, h0, r0⟩ := trodAll_cons hA
  obtain ⟨v1, vs1, d1, ds1, p1, q1, rfl, rfl, rfl, h1, r1⟩ := trodAll_cons r0
  obtain ⟨v2, vs2, d2, ds2, p2, q2, rfl, rfl, rfl, h2, r2⟩ := trodAll_cons r1
  obtain ⟨rfl, rfl, rfl⟩ := trodAll_nil r2
  obtain rfl : args = #[v0, v1, v2] := by cases args; simp_all
  obtain ⟨rfl, rfl⟩ := trodVars_none hV
  have k0 := h0
  have lt0 : ∀ x ∈ p0, x.block < W.heap.size := by obtain ⟨m, hm⟩ := k0; exact DataW.trod_lt m _ _ _ hm
  obtain ⟨a0, rfl, _, _, w0⟩ := open_int Try.underlying3 (hval 0 3 v0 rfl rfl) h0
  have k1 := h1
  have lt1 : ∀ x ∈ p1, x.block < W.heap.size := by obtain ⟨m, hm⟩ := k1; exact DataW.trod_lt m _ _ _ hm
  obtain ⟨a1, rfl, _, _, w1⟩ := open_int Try.underlying3 (hval 1 3 v1 rfl rfl) h1
  have k2 := h2
  have lt2 : ∀ x ∈ p2, x.block < W.heap.size := by obtain ⟨m, hm⟩ := k2; exact DataW.trod_lt m _ _ _ hm
  obtain ⟨a2, len2, cap2, rfl⟩ := okWide_slice Try.underlying54 (hval 2 54 v2 rfl rfl)
  obtain ⟨fuel2, hf2⟩ := h2
  obtain ⟨xa2, xlen2, xcap2, l2, xe2, ro2, wo2, fo2⟩ := frames_of hf2
  obtain ⟨rfl, rfl, rfl⟩ : a2 = xa2 ∧ len2 = xlen2 ∧ cap2 = xcap2 := by injection xe2 with e1 e2 e3; exact ⟨e1, e2, e3⟩
  clear hA0 hval0
  refine (walk a0 a1 a2 len2 cap2 l2 W w0 w1 wo2 ro2 fo2).mono fun e W' ⟨he, bel⟩ => ?_
  subst he
  exact ⟨_, rfl, _, _, _, [], _, [], hW', trodAll_mk1 (shut_bool Try.underlying4 _), (trodAll_cons_mk (Below.trod laidOut (by kernel_rfl) (of_decide_eq_true (by kernel_rfl)) k0 bel lt0) (trodAll_cons_mk (Below.trod laidOut (by kernel_rfl) (of_decide_eq_true (by kernel_rfl)) k1 bel lt1) (trodAll_cons_mk (Below.trod laidOut (by kernel_rfl) (of_decide_eq_true (by kernel_rfl)) k2 bel lt2) trodAll_mk0))), rfl, bel.frame _, fun h => by cases h⟩
theorem over : Rows.linkFramesRow.holds Try.pinned (OpenSpec.ofChange Rows.linkFramesSpec) :=
  OpenClaim.holds_of_wide 7 Try.f7 rfl rfl rfl rfl rfl rfl rfl ⟨rfl, rfl, rfl, rfl, rfl⟩ rfl rfl rfl rfl rfl (by kernel_rfl) Try.func7 (by kernel_rfl)
    (of_decide_eq_true (by kernel_rfl)) (by unfold Func.isWrapper; first | (rw [if_pos (by decide +kernel)]; kernel_rfl) | (rw [if_neg (by decide +kernel)]; exact ⟨rfl, rfl⟩))
    (fun os started H enc _ => lifted os started H enc)
theorem proved : Rows.LinkFramesSaid := over
end Go.Proofs.Ytgdpoiapkaahfaa.lawLinkFrames

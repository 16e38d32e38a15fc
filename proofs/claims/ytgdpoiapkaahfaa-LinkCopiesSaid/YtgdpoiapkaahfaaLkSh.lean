/- few; shows. -/
import Derived.Test.YtgdpoiapkaahfaaLkM
import Derived.Test.YtgdpoiapkaahfaaRLkE
import Derived.Test.YtgdpoiapkaahfaaLkAct
namespace Go.Proofs.Ytgdpoiapkaahfaa
open Go.RowKit
set_option maxHeartbeats 16000000
set_option maxRecDepth 100000
set_option linter.unusedSimpArgs false
set_option linter.unusedVariables false
attribute [local go_sem ↓] Go.wp_at_zero Go.wp_at_succ
def okA (a : LAct) : Bool := decide (a.d.length ≤ 200) && decide (a.f.d.length ≤ 100)
def fewB (l : List LAct) (most : Nat) : Bool := decide (l.length ≤ most) && l.all okA
theorem few_any (A : Option Addr) (n cap most B : Nat) (l : List LAct) (w : World) (h : LRf w B A n l) (hn : n ≤ 140737488355328) (hm : most ≤ 1000) :
    Calls Try.prog 13 #[.slice A n cap, .int .i64 most] w fun e w' => e = .returned (.bool (fewB l most)) ∧ w = w' := by
  have hl := h.1
  by_cases hnm : most < n
  · have E := Lib.hid (show fewB l most = false by unfold fewB; rw [decide_eq_false (by omega)]; rfl)
    clear h hl
    go_enter Try.func13, Try.ntmps13
    go_wp2_with fail
    go_ret
    exact ⟨ret_bool E.out.symm, rfl⟩
  · have H := Lib.hid h
    have HL := Lib.hid hl
    clear h hl
    go_enter Try.func13, Try.ntmps13
    go_wp2_with fail
    go_loop [5] (fun s => ∃ j : Nat, s = .int .i64 j ∧ j ≤ n ∧ Hid (∀ i, i < j → okA (l.getD i la0) = true)) (fun s => n - (intOf s).toNat)
    case atStart => exact ⟨0, by go_num, by omega, Lib.hid (fun i hi => absurd hi (by omega))⟩
    case round =>
      obtain ⟨j, rfl, hj, HA⟩ := hrel
      by_cases hlt : j < n
      · obtain ⟨b, o, rfl, hb, hc⟩ := H.out.2 (by omega)
        obtain ⟨D, cd, E', ce, c0, c1, c2, c3, c4, c5, c6, c7, _⟩ := hc j hlt
        obtain ⟨x, hx⟩ : ∃ x, x = l.getD j la0 := ⟨_, rfl⟩
        rw [← hx] at c2 c7
        have HX := Lib.hid hx
        have hjn : (j : Int) < (n : Int) := by omega
        clear hc c0 c1 c3 c4 c5 c6 hx
        have NO := Lib.hid (show okA x = false → fewB l most = false from fun ho => by
          have hm' : x ∈ l := by rw [HX.out]; simp [List.getD, List.getElem?_eq_getElem (show j < l.length by rw [HL.out]; exact hlt)]
          unfold fewB
          have : l.all okA = false := by rw [List.all_eq_false]; exact ⟨x, hm', by rw [ho]; simp⟩
          rw [this]; simp)
        by_cases h1 : 200 < x.d.length
        · have E := Lib.hid (NO.out (by unfold okA; rw [decide_eq_false (by omega)]; rfl))
          go_wp2_with fail
          go_ret
          exact ⟨ret_bool E.out.symm, rfl⟩
        · by_cases h2 : 100 < x.f.d.length
          · have E := Lib.hid (NO.out (by unfold okA; rw [decide_eq_false (show ¬ x.f.d.length ≤ 100 by omega)]; simp))
            go_wp2_with fail
            go_ret
            exact ⟨ret_bool E.out.symm, rfl⟩
          · have Y := Lib.hid (show okA x = true by unfold okA; rw [decide_eq_true (by omega), decide_eq_true (by omega)]; rfl)
            go_wp2_with fail
            go_round
            case rel => exact ⟨j + 1, by go_num, by omega, Lib.hid (fun i hi => by
              rcases Nat.lt_or_ge i j with h | h
              · exact HA.out i h
              · obtain rfl : i = j := by omega
                rw [← HX.out]; exact Y.out)⟩
            case measure => simp [intOf]; omega
      · obtain rfl : j = n := by omega
        have E := Lib.hid (show fewB l most = true by
          unfold fewB
          rw [decide_eq_true (by rw [HL.out]; omega), Bool.true_and, List.all_eq_true]
          intro x hx
          obtain ⟨i, hi, rfl⟩ := List.getElem_of_mem hx
          have := HA.out i (by rw [← HL.out]; exact hi)
          simpa [List.getD, List.getElem?_eq_getElem hi] using this)
        go_wp2_with fail
        go_ret
        exact ⟨ret_bool E.out.symm, rfl⟩
theorem rnext_any (r : Lnk.Ru) (s : Lnk.St) (A : Option Addr) (n c : Nat) (w : World) (hn : n = s.u.length) (hnn : n ≤ 1000) (X : Nat → Prop) (h : RWay w X A n s.u) :
    Calls Try.prog 36 #[rlv r s A n c] w fun e w' => e = .returned (.tuple #[.int .i64 (Lnk.nextN s), .int .i64 (Lnk.nextE s)]) ∧ Below w.heap.size w w' := by
  rcases Nat.eq_zero_or_pos n with h0 | h0
  · have e1 : Lnk.nextE s = 9 := by unfold Lnk.nextE; rw [if_pos (by omega)]
    have e2 : Lnk.nextN s = 0 := by
      have : s.u = [] := List.eq_nil_of_length_eq_zero (by omega)
      unfold Lnk.nextN; rw [this]; rfl
    rw [e1, e2]
    subst h0
    exact rnext_none r s A c w
  · have e1 : Lnk.nextE s = 0 := by unfold Lnk.nextE; rw [if_neg (by omega)]
    rw [e1]
    exact rnext_yes r s A n c w h0 (by omega) X h
theorem shows_yes (base b c : Nat) (A : Option Addr) (r : Lnk.Ru) (s : Lnk.St) (A' : Option Addr) (n c' : Nat) (w : World) (h : IsLk w base b A c r s) (hs : Lnk.Inv s) (hn : n = s.u.length) (X : Nat → Prop) (hw : RWay w X A' n s.u) :
    Calls Try.prog 15 #[.pointer (some ⟨b, 0, none⟩), rlv r s A' n c'] w fun e w' => e = .returned (.bool true) ∧ Below w.heap.size w w' := by
  have hn1 : n ≤ 1000 := by have := hs.2.2.1; omega
  have N1 := Lib.hid (fun (W : World) (hW : IsLk W base b A c r s) => lnext_any base b c A r s W hW hs.2.2.1)
  have N2 := Lib.hid (show ∀ W : World, Below w.heap.size w W → Calls Try.prog 36 #[rlv r s A' n c'] W fun e w' => e = .returned (.tuple #[.int .i64 (Lnk.nextN s), .int .i64 (Lnk.nextE s)]) ∧ Below W.heap.size W w' from fun W hW => rnext_any r s A' n c' W hn hn1 _ (hw.bound.below hW (fun i hi => hi.2)))
  have N3 := Lib.hid (show ∀ (W : World) (hW : IsLk W base b A c r s), Calls Try.prog 17 #[.pointer (some ⟨b, 0, none⟩)] W fun e w' => e = .returned (.int .i64 n) ∧ W = w' from fun W hW => by rw [hn]; exact lway_any base b c A r s W hW)
  have N4 := Lib.hid (fun (W : World) (hW : IsLk W base b A c r s) => counts_yes base b c A r s s.sent s.lost s.dbl W hW rfl rfl rfl)
  have HL := Lib.hid h
  obtain ⟨x, hx⟩ : ∃ x, x = Lnk.nextN s := ⟨_, rfl⟩
  obtain ⟨y, hy⟩ : ∃ y, y = Lnk.nextE s := ⟨_, rfl⟩
  rw [← hx, ← hy] at N1 N2
  clear h hw hn hx hy hs
  simp only [rlv, rll] at *
  go_enter Try.func15, Try.ntmps15
  go_wp2_with fail
  refine (N1.out _ (HL.out.alloc _)).mono ?_
  rintro e w' ⟨rfl, rfl⟩
  have k0 : (w.alloc (.cells #[.int .i64 r.loss, .int .i64 r.twice, .int .i64 r.least, .int .i64 r.most, .int .i64 r.seed, .int .u64 s.x, .int .i64 s.now, .slice A' n c', .int .i64 s.sent, .int .i64 s.lost, .int .i64 s.dbl] 28)).heap[w.heap.size]? = _ := heap_new _ _
  go_wp2_with fail
  refine (N2.out _ (by repeat (first | (with_reducible exact Below.refl _ _) | (with_reducible refine Below.drew ?_) | (with_reducible refine below_drewN ?_ _) | ((with_reducible refine Below.alloc ?_ ?_ _); rotate_left; (first | omega | (simp <;> omega)); rotate_right) | ((with_reducible refine Below.setCell ?_ ?_ _); rotate_left; (first | omega | (simp <;> omega)); rotate_right) | (with_reducible assumption) | (refine Below.trans ?_ (Below.mono (by assumption) ?_); rotate_left; (first | omega | (simp <;> omega)); rotate_right)))).mono ?_
  rintro e w2 ⟨rfl, hb2⟩
  have hz2 := hb2.size; try simp at hz2
  have k2 := blk_below k0 hb2 (by simp)
  have HL2 := Lib.hid ((HL.out.alloc _).below hb2 (Nat.le_refl _))
  have HB2 := Lib.hid (show Below w.heap.size w w2 from (by repeat (first | (with_reducible exact Below.refl _ _) | (with_reducible refine Below.drew ?_) | (with_reducible refine below_drewN ?_ _) | ((with_reducible refine Below.alloc ?_ ?_ _); rotate_left; (first | omega | (simp <;> omega)); rotate_right) | ((with_reducible refine Below.setCell ?_ ?_ _); rotate_left; (first | omega | (simp <;> omega)); rotate_right) | (with_reducible assumption) | (refine Below.trans ?_ (Below.mono (by assumption) ?_); rotate_left; (first | omega | (simp <;> omega)); rotate_right))))
  clear hb2 k0
  have ca_0 := blk_cell k2 0 rfl; have fa_0 := blk_free k2 0; have ca_1 := blk_cell k2 1 rfl; have fa_1 := blk_free k2 1; have ca_2 := blk_cell k2 2 rfl; have fa_2 := blk_free k2 2; have ca_3 := blk_cell k2 3 rfl; have fa_3 := blk_free k2 3; have ca_4 := blk_cell k2 4 rfl; have fa_4 := blk_free k2 4; have ca_5 := blk_cell k2 5 rfl; have fa_5 := blk_free k2 5; have ca_6 := blk_cell k2 6 rfl; have fa_6 := blk_free k2 6; have ca_7 := blk_cell k2 7 rfl; have fa_7 := blk_free k2 7; have ca_8 := blk_cell k2 8 rfl; have fa_8 := blk_free k2 8; have ca_9 := blk_cell k2 9 rfl; have fa_9 := blk_free k2 9; have ca_10 := blk_cell k2 10 rfl; have fa_10 := blk_free k2 10; have la := lt_of_block k2
  go_wp2_with fail
  go_region_held3 (fun w' => w'.cell? ⟨w.heap.size, 7, none⟩ = some (.slice A' n c') ∧ w'.cell? ⟨w.heap.size, 8, none⟩ = some (.int .i64 s.sent) ∧ w'.cell? ⟨w.heap.size, 9, none⟩ = some (.int .i64 s.lost) ∧ w'.cell? ⟨w.heap.size, 10, none⟩ = some (.int .i64 s.dbl)) (first | exact ⟨ca_7, ca_8, ca_9, ca_10⟩ | go_keep) (first | (go_at_call 17; refine (N3.out _ (by first | exact HL2.out | exact HL2.out.drew | exact HL2.out.drewN _)).mono ?_; rintro e w' ⟨rfl, rfl⟩) | (go_at_call 32; refine (N4.out _ (by first | exact HL2.out | exact HL2.out.drew | exact HL2.out.drewN _)).mono ?_; rintro e w' ⟨rfl, q, rfl⟩))
  all_goals have HB := HB2.out
  all_goals go_wp2_with fail
  all_goals go_ret
  all_goals exact ⟨rfl, (by repeat (first | (with_reducible exact Below.refl _ _) | (with_reducible refine Below.drew ?_) | (with_reducible refine below_drewN ?_ _) | ((with_reducible refine Below.alloc ?_ ?_ _); rotate_left; (first | omega | (simp <;> omega)); rotate_right) | ((with_reducible refine Below.setCell ?_ ?_ _); rotate_left; (first | omega | (simp <;> omega)); rotate_right) | (with_reducible assumption) | (refine Below.trans ?_ (Below.mono (by assumption) ?_); rotate_left; (first | omega | (simp <;> omega)); rotate_right)))⟩
end Go.Proofs.Ytgdpoiapkaahfaa

/- SameAll on slices of slices of bytes. -/
import Derived.Test.YtgdpoiapkaahfaaRbs
import Derived.Deep.DrawnRows
namespace Go.Proofs.Ytgdpoiapkaahfaa
open Go.RowKit
set_option maxHeartbeats 8000000
set_option maxRecDepth 100000
set_option linter.unusedSimpArgs false
set_option linter.unusedVariables false
attribute [local go_sem ↓] Go.wp_at_zero Go.wp_at_succ
theorem getD_eq2 {l k : List (List Int)} (h : l.length = k.length) (hh : ∀ i, i < l.length → l.getD i [] = k.getD i []) : l = k := by
  apply List.ext_getElem h
  intro i h1 h2
  have := hh i h1
  simpa [List.getD, List.getElem?_eq_getElem h1, List.getElem?_eq_getElem h2] using this
theorem samer_any (A C : Option Addr) (n m c c' lo B lo' B' : Nat) (l k : List (List Int)) (w : World) (hn : n ≤ 1000000000) (hm : m ≤ 1000000000) (h : Rb w lo B A n l) (g : Rb w lo' B' C m k) :
    Calls Try.prog 27 #[.slice A n c, .slice C m c'] w fun e w' => e = .returned (.bool (decide (l = k))) ∧ ∃ q, w' = w.drewN q := by
  have hl := h.len
  have gl := g.len
  by_cases hnm : n = m
  · subst hnm
    have HL := Lib.hid hl; have GL := Lib.hid gl; have H := Lib.hid h; have G := Lib.hid g
    clear hl gl h g
    go_enter Try.func27, Try.ntmps27
    go_wp2_with fail
    go_loopw [5] (fun s wr => ∃ (j q : Nat), s = .int .i64 j ∧ j ≤ n ∧ wr = w.drewN q ∧ Hid (∀ i, i < j → l.getD i [] = k.getD i [])) (fun s _ => n - (intOf s).toNat)
    case atStart => exact ⟨0, 0, by go_num, by omega, rfl, Lib.hid (fun i hi => absurd hi (by omega))⟩
    case round =>
      obtain ⟨j, q, rfl, hj, rfl, HA⟩ := hrel
      by_cases hlt : j < n
      · obtain ⟨b, o, A1, c1, rfl, hb, hc, hrd, _⟩ := H.out.at_ hlt
        obtain ⟨b', o', A2, c2, rfl, hb', hc', hrd', _⟩ := G.out.at_ hlt
        have E := Lib.hid (show ∀ x y : List Int, l.getD j [] = x → k.getD j [] = y → x ≠ y → decide (l = k) = false from fun x y e1 e2 hxy => by
          rw [decide_eq_false_iff_not]
          rintro rfl
          exact hxy (e1.symm.trans e2))
        have F := Lib.hid (show ∀ x y : List Int, l.getD j [] = x → k.getD j [] = y → x = y → ∀ i, i < j + 1 → l.getD i [] = k.getD i [] from fun x y e1 e2 hxy i hi => by
          rcases Nat.lt_or_ge i j with h | h
          · exact HA.out i h
          · obtain rfl : i = j := by omega
            rw [e1, e2, hxy])
        obtain ⟨x, hx⟩ : ∃ x, l.getD j [] = x := ⟨_, rfl⟩
        obtain ⟨y, hy⟩ : ∃ y, k.getD j [] = y := ⟨_, rfl⟩
        rw [hx] at hc hrd
        rw [hy] at hc' hrd'
        have E1 := Lib.hid (E.out x y hx hy)
        have F1 := Lib.hid (F.out x y hx hy)
        have hbx := hrd.2.1
        have hby := hrd'.2.1
        have cv1 : ∀ z, (convert 37 9 (.slice A1 x.length c1)).run Try.prog (w.drewN z) = .ok (.string (strOfNums x)) (w.drewN z) := fun z => str_of (hrd.drewN z) c1
        have cv2 : ∀ z, (convert 37 9 (.slice A2 y.length c2)).run Try.prog (w.drewN z) = .ok (.string (strOfNums y)) (w.drewN z) := fun z => str_of (hrd'.drewN z) c2
        have SE := Lib.hid (str_eq hbx hby)
        clear E F hx hy HA hrd hrd' hbx hby
        by_cases hxy : x = y
        · have E2 := Lib.hid (F1.out hxy)
          subst hxy
          clear E1 F1 SE
          go_wp2_with fail
          go_quiet (fail)
          go_wp2_with fail
          go_roundw
          case rel => exact ⟨j + 1, _, by go_num, by omega, by first | exact World.drewN_drewN _ _ _ | rfl, E2⟩
          case measure => simp [intOf]; omega
        · have E2 := Lib.hid (E1.out hxy)
          have z1 : ((strOfNums x).toList == (strOfNums y).toList) = false := by rw [SE.out]; exact decide_eq_false hxy
          have z2 : ((strOfNums x).toList != (strOfNums y).toList) = true := by simp only [bne, z1]; rfl
          clear E1 F1 hxy SE
          go_wp2_with fail
          go_quiet (fail)
          go_wp2_with fail
          go_ret
          exact ⟨ret_bool E2.out.symm, _, World.drewN_drewN _ _ _⟩
      · obtain rfl : j = n := by omega
        have E := Lib.hid (show decide (l = k) = true from decide_eq_true (getD_eq2 (HL.out.trans GL.out.symm) (fun i hi => HA.out i (by rw [HL.out] at hi; exact hi))))
        clear HA
        go_wp2_with fail
        go_ret
        exact ⟨ret_bool E.out.symm, q, rfl⟩
  · have z : ((n : Int) != (m : Int)) = true := by simp; omega
    have E := Lib.hid (show decide (l = k) = false by rw [decide_eq_false_iff_not]; rintro rfl; omega)
    clear hl gl h g hnm
    go_enter Try.func27, Try.ntmps27
    go_wp2_with fail
    go_ret
    exact ⟨ret_bool E.out.symm, 0, rfl⟩
end Go.Proofs.Ytgdpoiapkaahfaa

/- start, slices.Equal and slices.Clone on bytes. -/
import Derived.Test.YteakljjalmgicaaSame
import Derived.Test.YteakljjalmgicaaApp
namespace Go.Proofs.Yteakljjalmgicaa
open Go.RowKit
set_option maxHeartbeats 4000000
set_option linter.unusedSimpArgs false
set_option linter.unusedVariables false
theorem start_any (w : World) : Calls Try.prog 31 #[] w fun e w' => e = .returned (.agg #[.int .u8 213, .int .u8 76]) ∧ Below w.heap.size w w' := by
  go_enter Try.func31, Try.ntmps31
  go_wp2_with fail
  refine bodyPost_ret (v := .agg #[.int .u8 213, .int .u8 76]) ?_ rfl ⟨rfl, (by repeat (first | (with_reducible exact Below.refl _ _) | (with_reducible refine Below.drew ?_) | (with_reducible refine below_drewN ?_ _) | ((with_reducible refine Below.alloc ?_ ?_ _); rotate_left; (first | omega | (simp <;> omega)); rotate_right) | ((with_reducible refine Below.setCell ?_ ?_ _); rotate_left; (first | omega | (simp <;> omega)); rotate_right) | (with_reducible assumption) | (refine Below.trans ?_ (Below.mono (by assumption) ?_); rotate_left; (first | omega | (simp <;> omega)); rotate_right)))⟩
  simp [results, Try.results31, go_sem]
theorem info_u8 : (Try.prog.info? 5).map (fun i => (i.zero, i.size, i.bytes)) = some (some (.int .u8 0), 1, 1) := by kernel_rfl
theorem getD_eq {l k : List Int} (h : l.length = k.length) (hh : ∀ i, i < l.length → l.getD i 0 = k.getD i 0) : l = k := by
  apply List.ext_getElem h
  intro i h1 h2
  have := hh i h1
  simpa [List.getD, List.getElem?_eq_getElem h1, List.getElem?_eq_getElem h2] using this
theorem equal_any (A C : Option Addr) (n m cap caq : Nat) (l k : List Int) (w : World) (hn : n ≤ 140737488355328) (hm : m ≤ 140737488355328) (h : Rd w w.heap.size A n l) (g : Rd w w.heap.size C m k) :
    Calls Try.prog 38 #[.slice A n cap, .slice C m caq] w fun e w' => e = .returned (.bool (decide (l = k))) ∧ ∃ q, w' = w.drewN q := by
  obtain ⟨hl, hb, hr⟩ := h
  obtain ⟨gl, gb, gr⟩ := g
  by_cases hnm : n = m
  · subst hnm
    have HL := Lib.hid hl; have GL := Lib.hid gl; have HB := Lib.hid hb; have GB := Lib.hid gb
    clear hl gl hb gb
    go_enter Try.func38, Try.ntmps38
    go_wp2_with fail
    go_loopw [13] (fun s wr => ∃ (j q : Nat), s = .int .i64 j ∧ j ≤ n ∧ wr = w.drewN q ∧ Hid (∀ i, i < j → l.getD i 0 = k.getD i 0)) (fun s _ => n - (intOf s).toNat)
    case atStart => exact ⟨0, 0, by go_num, by omega, rfl, Lib.hid (fun i hi => absurd hi (by omega))⟩
    case round =>
      obtain ⟨j, q, rfl, hj, rfl, HA⟩ := hrel
      by_cases hlt : j < n
      · obtain ⟨b, o, rfl, hbl, hcl⟩ := hr (by omega)
        obtain ⟨b', o', rfl, hbl', hcl'⟩ := gr (by omega)
        have c1 := hcl j hlt
        have c2 := hcl' j hlt
        have E := Lib.hid (show ∀ x y : Int, l.getD j 0 = x → k.getD j 0 = y → x ≠ y → decide (l = k) = false from fun x y e1 e2 hxy => by
          rw [decide_eq_false_iff_not]
          rintro rfl
          exact hxy (e1.symm.trans e2))
        have F := Lib.hid (show ∀ x y : Int, l.getD j 0 = x → k.getD j 0 = y → x = y → ∀ i, i < j + 1 → l.getD i 0 = k.getD i 0 from fun x y e1 e2 hxy i hi => by
          rcases Nat.lt_or_ge i j with h | h
          · exact HA.out i h
          · obtain rfl : i = j := by omega
            rw [e1, e2, hxy])
        clear hr gr hcl hcl' HA
        obtain ⟨x, hx⟩ : ∃ x, l.getD j 0 = x := ⟨_, rfl⟩
        obtain ⟨y, hy⟩ : ∃ y, k.getD j 0 = y := ⟨_, rfl⟩
        rw [hx] at c1
        rw [hy] at c2
        have E1 := Lib.hid (E.out x y hx hy)
        have F1 := Lib.hid (F.out x y hx hy)
        clear E F hx hy
        by_cases hxy : x = y
        · have E2 := Lib.hid (F1.out hxy)
          subst hxy
          clear E1 F1
          go_wp2_with fail
          go_quiet (fail)
          go_wp2_with fail
          go_roundw
          case rel => exact ⟨j + 1, _, by go_num, by omega, rfl, E2⟩
          case measure => simp [intOf]; omega
        · have E2 := Lib.hid (E1.out hxy)
          have z : (x != y) = true := by simpa using hxy
          clear E1 F1 hxy
          go_wp2_with fail
          go_quiet (fail)
          go_wp2_with fail
          go_ret
          exact ⟨ret_bool E2.out.symm, _, World.drewN_drewN _ _ _⟩
      · obtain rfl : j = n := by omega
        have E := Lib.hid (show decide (l = k) = true from decide_eq_true (getD_eq (HL.out.trans GL.out.symm) (fun i hi => HA.out i (by rw [HL.out] at hi; exact hi))))
        clear hr gr HA
        go_wp2_with fail
        go_ret
        exact ⟨ret_bool E.out.symm, q, rfl⟩
  · have z : ((n : Int) != (m : Int)) = true := by simp; omega
    have E := Lib.hid (show decide (l = k) = false by rw [decide_eq_false_iff_not]; rintro rfl; omega)
    clear hl gl hr gr hnm hb gb
    go_enter Try.func38, Try.ntmps38
    go_wp2_with fail
    go_ret
    exact ⟨ret_bool E.out.symm, 0, rfl⟩
theorem clone_any (A : Option Addr) (n cap : Nat) (l : List Int) (w : World) (hn : n ≤ 140737488355328) (hnil : A = none → n = 0) (h : Rd w w.heap.size A n l) :
    Calls Try.prog 32 #[.slice A n cap] w fun e w' => ∃ A' cap', e = .returned (.slice A' n cap') ∧ Ow w' w.heap.size A' n cap' l ∧ Below w.heap.size w w' := by
  obtain ⟨i0, hi0, hz0, hz1, hz2⟩ := info_parts info_u8
  cases A with
  | none =>
    obtain rfl := hnil rfl
    have hl : l = [] := List.eq_nil_of_length_eq_zero h.1
    subst hl
    have kn := fun (W : World) => Lib.run_eql_slice_nil (P := Try.prog) W 23 5 none 0 cap 0 0 Try.underlying23
    simp only [Option.isNone] at kn
    go_enter Try.func32, Try.ntmps32
    go_wp2_with fail
    go_ret
    exact ⟨none, 0, rfl, Ow.nil _ _, (by repeat (first | (with_reducible exact Below.refl _ _) | (with_reducible refine Below.drew ?_) | (with_reducible refine below_drewN ?_ _) | ((with_reducible refine Below.alloc ?_ ?_ _); rotate_left; (first | omega | (simp <;> omega)); rotate_right) | ((with_reducible refine Below.setCell ?_ ?_ _); rotate_left; (first | omega | (simp <;> omega)); rotate_right) | (with_reducible assumption) | (refine Below.trans ?_ (Below.mono (by assumption) ?_); rotate_left; (first | omega | (simp <;> omega)); rotate_right)))⟩
  | some a =>
    have hb := h.2.1
    have hr := h.reads
    have HH := Lib.hid h
    clear h hnil
    have kn := fun (W : World) => Lib.run_eql_slice_nil (P := Try.prog) W 23 5 (some a) n cap 0 0 Try.underlying23
    simp only [Option.isNone] at kn
    go_enter Try.func32, Try.ntmps32
    go_wp2_with (at_builtin; refine wpList_append_any _ rfl (.tmp 5) (.tmp 6) _ rfl w.heap.size 5 i0 _ 1 1 Try.underlying23 hi0 hz0 hz1 hz2 rfl (by omega) (.slice (some ⟨w.heap.size, 0, none⟩) 0 0) 0 [] rfl (World.ownsRow_lit w #[] 0 (Nat.le_refl _) (by unfold maxLen; omega) rfl) w.heap.size (some a) n cap (bv l) rfl (hr.alloc (Nat.le_refl _) _) (bv_one l) (by simp only [maxLen]; omega) (by omega) (by simp) ?_; intro v1 w1 hown1 hg1 hat1)
    go_ret
    simp only [Nat.zero_add, List.nil_append] at hown1
    obtain ⟨A', cap', rfl⟩ := own_form hown1
    exact ⟨A', cap', rfl, ⟨hown1, hb⟩, ((Below.refl _ _).alloc (Nat.le_refl _) _).grown hg1 (by simp) (fun k hk => by simp [Value.ownBlock] at hk; omega)⟩
end Go.Proofs.Yteakljjalmgicaa

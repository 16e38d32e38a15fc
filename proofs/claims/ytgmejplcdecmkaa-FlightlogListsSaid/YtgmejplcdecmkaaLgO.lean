/- End, may, Append of the reference. -/
import Derived.Test.YtgmejplcdecmkaaLgL
namespace Go.Proofs.Ytgmejplcdecmkaa
open Go.RowKit
set_option maxHeartbeats 16000000
set_option maxRecDepth 100000
set_option linter.unusedSimpArgs false
set_option linter.unusedVariables false
attribute [local go_sem ↓] Go.wp_at_zero Go.wp_at_succ
section
variable {w w' : World} {base p c n : Nat} {X X' : Nat → Prop} {A : Option Addr} {vs : List Lg.RV}
theorem rjend_any (h : Lg.Rr w w.heap.size A n vs) (hn : n ≤ 1000000) : Calls Try.prog 49 #[.slice A n c] w fun e w' => e = .returned (.int .u32 (Lg.endS (Lg.xs vs))) ∧ w = w' := by
  have hl := h.len
  rcases Nat.eq_zero_or_pos n with h0 | h0
  · subst h0
    have E := Lib.hid (show Lg.endS (Lg.xs vs) = 0 by rw [List.eq_nil_of_length_eq_zero hl]; rfl)
    clear h hl
    go_enter Try.func49, Try.ntmps49
    go_wp2_with fail
    go_ret
    exact ⟨ret_int E.out.symm, rfl⟩
  · obtain ⟨m, rfl⟩ : ∃ m, n = m + 1 := ⟨n - 1, by omega⟩
    obtain ⟨b, o, rfl, hb, hc, _⟩ := h.at_ (i := m) (by omega)
    have E := Lib.hid (show Lg.endS (Lg.xs vs) = (vs.getD m Lg.rv0).x.sum by unfold Lg.endS Lg.lastR; rw [Lg.xs_len, hl, Nat.add_sub_cancel, Lg.xs_at (by omega)])
    have c12 := hc 12 _ rfl
    clear hc hl h
    have i1 : IntKind.i64.wrap (((m + 1 : Nat) : Int) - 1) = (m : Int) := by rw [IntWalk.i64_in _ (by omega)]; omega
    have i2 : (m : Int) < ((m + 1 : Nat) : Int) := by omega
    have i3 : (((m + 1 : Nat) : Int) == 0) = false := by rw [beq_eq_false_iff_ne]; omega
    rw [E.out]
    generalize (vs.getD m Lg.rv0).x.sum = z at c12 ⊢
    generalize hN : m + 1 = N at *
    go_enter Try.func49, Try.ntmps49
    go_wp2_with fail
    go_ret
    exact ⟨rfl, rfl⟩
theorem rjmay_any (h : Lg.Rr w w.heap.size A n vs) (hn : n ≤ 1000000) (v : Lg.RV) (hv : Lg.Ok w w.heap.size v) :
    Calls Try.prog 48 #[.slice A n c, v.val] w fun e w' => e = .returned (.int .i64 (Lg.mayE (Lg.xs vs) v.x)) ∧ Below w.heap.size w w' := by
  have HV := Lib.hid hv
  have F := Lib.hid (fun (W : World) (hW : Below w.heap.size w W) => rfine_any v W ((HV.out.below hW (Nat.le_refl _)).more hW.size))
  have RR := Lib.hid h
  have HN := Lib.hid h.len
  obtain ⟨C, hval, hC, hCs⟩ := rv_opaque v
  have hC0 : C[0]? = some (.int .i64 v.x.t) := by rw [← hC]; rfl
  rw [hval] at F ⊢
  clear h hv hval hC HV
  cases hf : Lg.fine v.x
  · have E := Lib.hid (show Lg.mayE (Lg.xs vs) v.x = 2 by unfold Lg.mayE; rw [hf]; rfl)
    rw [hf] at F
    clear hf
    go_enter Try.func48, Try.ntmps48; go_upto_region 1 with fail; have hbx := heap_new w (.cells C 32 (0, 0)); go_wp2_with (refine wpList_load_row rfl 32 _ rfl _ rfl 32 _ (0, 0) _ hbx Try.underlying32 rfl (by rw [hCs]; kernel_rfl) ?_); refine (F.out _ (by repeat (first | (with_reducible exact Below.refl _ _) | (with_reducible refine Below.drew ?_) | (with_reducible refine below_drewN ?_ _) | ((with_reducible refine Below.alloc ?_ ?_ _); rotate_left; (first | omega | (simp <;> omega)); rotate_right) | ((with_reducible refine Below.setCell ?_ ?_ _); rotate_left; (first | omega | (simp <;> omega)); rotate_right) | (with_reducible assumption) | (refine Below.trans ?_ (Below.mono (by assumption) ?_); rotate_left; (first | omega | (simp <;> omega)); rotate_right)))).mono ?_; rintro e w1 ⟨rfl, hb1⟩; have hz1 := hb1.size; simp only [World.size_alloc] at hz1; have q0 := ((bcell hb1).1 w.heap.size 0 (by simp)).trans (arr_cell hbx hC0); (try (have kk := ((bcell hb1).1 b _ (by simp; omega)).trans ((World.cell?_alloc_lt w _ ⟨b, _, none⟩ hb).trans k0))); have HB1 := (show Below w.heap.size w w1 from (by repeat (first | (with_reducible exact Below.refl _ _) | (with_reducible refine Below.drew ?_) | (with_reducible refine below_drewN ?_ _) | ((with_reducible refine Below.alloc ?_ ?_ _); rotate_left; (first | omega | (simp <;> omega)); rotate_right) | ((with_reducible refine Below.setCell ?_ ?_ _); rotate_left; (first | omega | (simp <;> omega)); rotate_right) | (with_reducible assumption) | (refine Below.trans ?_ (Below.mono (by assumption) ?_); rotate_left; (first | omega | (simp <;> omega)); rotate_right)))); clear hb1 hbx; go_wp2_with fail
    go_ret
    exact ⟨ret_int E.out.symm, HB1⟩
  · rw [hf] at F
    have HF := Lib.hid hf
    clear hf
    rcases Nat.eq_zero_or_pos n with h0 | h0
    · subst h0
      have E := Lib.hid (show Lg.mayE (Lg.xs vs) v.x = 0 by
        unfold Lg.mayE
        rw [HF.out, Lg.xs_len, HN.out]
        rfl)
      go_enter Try.func48, Try.ntmps48; go_upto_region 1 with fail; have hbx := heap_new w (.cells C 32 (0, 0)); go_wp2_with (refine wpList_load_row rfl 32 _ rfl _ rfl 32 _ (0, 0) _ hbx Try.underlying32 rfl (by rw [hCs]; kernel_rfl) ?_); refine (F.out _ (by repeat (first | (with_reducible exact Below.refl _ _) | (with_reducible refine Below.drew ?_) | (with_reducible refine below_drewN ?_ _) | ((with_reducible refine Below.alloc ?_ ?_ _); rotate_left; (first | omega | (simp <;> omega)); rotate_right) | ((with_reducible refine Below.setCell ?_ ?_ _); rotate_left; (first | omega | (simp <;> omega)); rotate_right) | (with_reducible assumption) | (refine Below.trans ?_ (Below.mono (by assumption) ?_); rotate_left; (first | omega | (simp <;> omega)); rotate_right)))).mono ?_; rintro e w1 ⟨rfl, hb1⟩; have hz1 := hb1.size; simp only [World.size_alloc] at hz1; have q0 := ((bcell hb1).1 w.heap.size 0 (by simp)).trans (arr_cell hbx hC0); (try (have kk := ((bcell hb1).1 b _ (by simp; omega)).trans ((World.cell?_alloc_lt w _ ⟨b, _, none⟩ hb).trans k0))); have HB1 := (show Below w.heap.size w w1 from (by repeat (first | (with_reducible exact Below.refl _ _) | (with_reducible refine Below.drew ?_) | (with_reducible refine below_drewN ?_ _) | ((with_reducible refine Below.alloc ?_ ?_ _); rotate_left; (first | omega | (simp <;> omega)); rotate_right) | ((with_reducible refine Below.setCell ?_ ?_ _); rotate_left; (first | omega | (simp <;> omega)); rotate_right) | (with_reducible assumption) | (refine Below.trans ?_ (Below.mono (by assumption) ?_); rotate_left; (first | omega | (simp <;> omega)); rotate_right)))); clear hb1 hbx; go_wp2_with fail
      go_quiet (fail)
      go_wp2_with fail
      go_ret
      exact ⟨ret_int E.out.symm, below_drewN HB1 _⟩
    · obtain ⟨m, rfl⟩ : ∃ m, n = m + 1 := ⟨n - 1, by omega⟩
      obtain ⟨b, o, rfl, hb, hc, _⟩ := RR.out.at_ (i := m) (by omega)
      have hl : (Lg.lastR (Lg.xs vs)).t = (vs.getD m Lg.rv0).x.t := by unfold Lg.lastR; rw [Lg.xs_len, HN.out, Nat.add_sub_cancel, Lg.xs_at (by rw [HN.out]; omega)]
      have k0 := hc 0 _ rfl
      have E0 := Lib.hid (show ∀ z, (vs.getD m Lg.rv0).x.t = z → Lg.mayE (Lg.xs vs) v.x = if v.x.t < z then 8 else 0 from fun z hz => by
        unfold Lg.mayE
        rw [HF.out, if_pos rfl, Lg.xs_len, HN.out, hl, hz]
        by_cases hh : v.x.t < z
        · rw [if_pos hh, if_pos ⟨by omega, hh⟩]
        · rw [if_neg hh, if_neg (fun h => hh h.2)])
      obtain ⟨z, hz⟩ : ∃ z, (vs.getD m Lg.rv0).x.t = z := ⟨_, rfl⟩
      have E1 := Lib.hid (E0.out z hz)
      rw [Nat.add_zero, hz] at k0
      clear hc RR HN E0 hl hz HF
      have i1 : IntKind.i64.wrap (((m + 1 : Nat) : Int) - 1) = (m : Int) := by rw [IntWalk.i64_in _ (by omega)]; omega
      have i2 : (m : Int) < ((m + 1 : Nat) : Int) := by omega
      have i3 : (0 : Int) < ((m + 1 : Nat) : Int) := by omega
      generalize hN : m + 1 = N at *
      generalize v.x.t = t at *
      by_cases htz : t < z
      · have E2 := Lib.hid (E1.out.trans (if_pos htz))
        clear E1
        go_enter Try.func48, Try.ntmps48; go_upto_region 1 with fail; have hbx := heap_new w (.cells C 32 (0, 0)); go_wp2_with (refine wpList_load_row rfl 32 _ rfl _ rfl 32 _ (0, 0) _ hbx Try.underlying32 rfl (by rw [hCs]; kernel_rfl) ?_); refine (F.out _ (by repeat (first | (with_reducible exact Below.refl _ _) | (with_reducible refine Below.drew ?_) | (with_reducible refine below_drewN ?_ _) | ((with_reducible refine Below.alloc ?_ ?_ _); rotate_left; (first | omega | (simp <;> omega)); rotate_right) | ((with_reducible refine Below.setCell ?_ ?_ _); rotate_left; (first | omega | (simp <;> omega)); rotate_right) | (with_reducible assumption) | (refine Below.trans ?_ (Below.mono (by assumption) ?_); rotate_left; (first | omega | (simp <;> omega)); rotate_right)))).mono ?_; rintro e w1 ⟨rfl, hb1⟩; have hz1 := hb1.size; simp only [World.size_alloc] at hz1; have q0 := ((bcell hb1).1 w.heap.size 0 (by simp)).trans (arr_cell hbx hC0); (try (have kk := ((bcell hb1).1 b _ (by simp; omega)).trans ((World.cell?_alloc_lt w _ ⟨b, _, none⟩ hb).trans k0))); have HB1 := (show Below w.heap.size w w1 from (by repeat (first | (with_reducible exact Below.refl _ _) | (with_reducible refine Below.drew ?_) | (with_reducible refine below_drewN ?_ _) | ((with_reducible refine Below.alloc ?_ ?_ _); rotate_left; (first | omega | (simp <;> omega)); rotate_right) | ((with_reducible refine Below.setCell ?_ ?_ _); rotate_left; (first | omega | (simp <;> omega)); rotate_right) | (with_reducible assumption) | (refine Below.trans ?_ (Below.mono (by assumption) ?_); rotate_left; (first | omega | (simp <;> omega)); rotate_right)))); clear hb1 hbx; go_wp2_with fail
        go_quiet (fail)
        go_wp2_with fail
        go_ret
        exact ⟨ret_int E2.out.symm, below_drewN HB1 _⟩
      · have E2 := Lib.hid (E1.out.trans (if_neg htz))
        clear E1
        go_enter Try.func48, Try.ntmps48; go_upto_region 1 with fail; have hbx := heap_new w (.cells C 32 (0, 0)); go_wp2_with (refine wpList_load_row rfl 32 _ rfl _ rfl 32 _ (0, 0) _ hbx Try.underlying32 rfl (by rw [hCs]; kernel_rfl) ?_); refine (F.out _ (by repeat (first | (with_reducible exact Below.refl _ _) | (with_reducible refine Below.drew ?_) | (with_reducible refine below_drewN ?_ _) | ((with_reducible refine Below.alloc ?_ ?_ _); rotate_left; (first | omega | (simp <;> omega)); rotate_right) | ((with_reducible refine Below.setCell ?_ ?_ _); rotate_left; (first | omega | (simp <;> omega)); rotate_right) | (with_reducible assumption) | (refine Below.trans ?_ (Below.mono (by assumption) ?_); rotate_left; (first | omega | (simp <;> omega)); rotate_right)))).mono ?_; rintro e w1 ⟨rfl, hb1⟩; have hz1 := hb1.size; simp only [World.size_alloc] at hz1; have q0 := ((bcell hb1).1 w.heap.size 0 (by simp)).trans (arr_cell hbx hC0); (try (have kk := ((bcell hb1).1 b _ (by simp; omega)).trans ((World.cell?_alloc_lt w _ ⟨b, _, none⟩ hb).trans k0))); have HB1 := (show Below w.heap.size w w1 from (by repeat (first | (with_reducible exact Below.refl _ _) | (with_reducible refine Below.drew ?_) | (with_reducible refine below_drewN ?_ _) | ((with_reducible refine Below.alloc ?_ ?_ _); rotate_left; (first | omega | (simp <;> omega)); rotate_right) | ((with_reducible refine Below.setCell ?_ ?_ _); rotate_left; (first | omega | (simp <;> omega)); rotate_right) | (with_reducible assumption) | (refine Below.trans ?_ (Below.mono (by assumption) ?_); rotate_left; (first | omega | (simp <;> omega)); rotate_right)))); clear hb1 hbx; go_wp2_with fail
        go_quiet (fail)
        go_wp2_with fail
        go_ret
        exact ⟨ret_int E2.out.symm, below_drewN HB1 _⟩
end
end Go.Proofs.Ytgmejplcdecmkaa

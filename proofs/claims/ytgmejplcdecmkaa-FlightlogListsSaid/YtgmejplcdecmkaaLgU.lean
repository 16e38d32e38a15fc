/- Lists of records are equal: the reference's SameAll; Same of two logs. -/
import Derived.Test.YtgmejplcdecmkaaLgT
namespace Go.Proofs.Ytgmejplcdecmkaa
open Go.RowKit
set_option maxHeartbeats 8000000
set_option maxRecDepth 100000
set_option linter.unusedSimpArgs false
set_option linter.unusedVariables false
attribute [local go_sem ↓] Go.wp_at_zero Go.wp_at_succ
theorem rsameall_any (A C : Option Addr) (n m cap caq : Nat) (vs us : List Lg.RV) (w : World) (hn : n ≤ 1000000) (hm : m ≤ 1000000) (h : Lg.Rr w w.heap.size A n vs) (g : Lg.Rr w w.heap.size C m us) :
    Calls Try.prog 17 #[.slice A n cap, .slice C m caq] w fun e w' => e = .returned (.bool (Lg.sameRs (Lg.xs vs) (Lg.xs us))) ∧ Below w.heap.size w w' := by
  have hl := h.len
  have gl := g.len
  by_cases hnm : n = m
  · subst hnm
    have H := Lib.hid h
    have G := Lib.hid g
    have HL := Lib.hid hl
    have GL := Lib.hid gl
    clear h g hl gl
    go_enter Try.func17, Try.ntmps17
    go_wp2_with fail
    go_loopw [5] (fun s wr => ∃ (j : Nat), s = .int .i64 j ∧ j ≤ n ∧ Below w.heap.size w wr ∧ Hid (∀ i, i < j → Lg.sameR ((Lg.xs vs).getD i Lg.r0) ((Lg.xs us).getD i Lg.r0) = true)) (fun s _ => n - (intOf s).toNat)
    case atStart => exact ⟨0, by go_num, by omega, (by repeat (first | (with_reducible exact Below.refl _ _) | (with_reducible refine Below.drew ?_) | (with_reducible refine below_drewN ?_ _) | ((with_reducible refine Below.alloc ?_ ?_ _); rotate_left; (first | omega | (simp <;> omega)); rotate_right) | ((with_reducible refine Below.setCell ?_ ?_ _); rotate_left; (first | omega | (simp <;> omega)); rotate_right) | (with_reducible assumption) | (refine Below.trans ?_ (Below.mono (by assumption) ?_); rotate_left; (first | omega | (simp <;> omega)); rotate_right))), Lib.hid (fun i hi => absurd hi (by omega))⟩
    case round =>
      obtain ⟨j, rfl, hj, hB, HA⟩ := hrel
      have hzr := hB.size
      by_cases hlt : j < n
      · obtain ⟨b, o, rfl, hbl, hcl, hok⟩ := (H.out.up hB).at_ hlt
        obtain ⟨b', o', rfl, hbl', hcl', hok'⟩ := (G.out.up hB).at_ hlt
        have e1 := Lg.xs_at (l := vs) (i := j) (by rw [HL.out]; exact hlt)
        have e2 := Lg.xs_at (l := us) (i := j) (by rw [GL.out]; exact hlt)
        have N := Lib.hid (fun hf => Lg.sameRs_no (l := Lg.xs vs) (m := Lg.xs us) (j := j) (by rw [e1, e2]; exact hf))
        have Y := Lib.hid (fun (hf : Lg.sameR (vs.getD j Lg.rv0).x (us.getD j Lg.rv0).x = true) => show ∀ i, i < j + 1 → Lg.sameR ((Lg.xs vs).getD i Lg.r0) ((Lg.xs us).getD i Lg.r0) = true from fun i hi => by
          rcases Nat.lt_or_ge i j with h | h
          · exact HA.out i h
          · obtain rfl : i = j := by omega
            rw [e1, e2]
            exact hf)
        have l1 := Lg.RV.len (vs.getD j Lg.rv0)
        have l2 := Lg.RV.len (us.getD j Lg.rv0)
        generalize vs.getD j Lg.rv0 = v1 at *
        generalize us.getD j Lg.rv0 = v2 at *
        have SM := Lib.hid (fun (W : World) (hW : Below wr.heap.size wr W) => rsameR_any v1 v2 W (hok.up hW) (hok'.up hW))
        have HC1 := Lib.hid hcl
        have HC2 := Lib.hid hcl'
        have jn : (j : Int) < (n : Int) := by omega
        clear HA e1 e2 hok hok' hcl hcl'
        cases hr : Lg.sameR v1.x v2.x
        · have R := Lib.hid (N.out hr)
          rw [hr] at SM
          clear N Y hr
          go_upto_region 6 with fail
          refine wp_region_held_drew (S := fun w' => (∀ i u, v1.cells[i]? = some u → w'.cell? ⟨b, o + j * 13 + i, none⟩ = some u) ∧ (∀ i u, v2.cells[i]? = some u → w'.cell? ⟨b', o' + j * 13 + i, none⟩ = some u)) (by kernel_rfl) ?_ (fun h0 => ?_)
          · exact ⟨HC1.out, HC2.out⟩
          refine wpAnyH_take (i := 0) (v := ?_) rfl (by kernel_rfl) (by kernel_rfl) (by kernel_rfl) (fun _ _ _ h => h) (Or.inl ⟨by rfl, ?_⟩) h0 ?_
          rotate_left
          focus (intro w' hSw; skip; go_simp; (try with_reducible rfl))
          (try simp only [List.getElem_toArray, List.getElem_cons_succ, List.getElem_cons_zero, Act.put, List.setIfInBounds_toArray, List.set_cons_zero, List.set_cons_succ])
          refine wpAnyH_take (i := 1) (v := ?_) rfl (by kernel_rfl) (by kernel_rfl) (by kernel_rfl) (fun _ _ _ h => h) (Or.inl ⟨by rfl, ?_⟩) h0 ?_
          rotate_left
          focus (intro w' hSw; skip; go_simp; (try with_reducible rfl))
          (try simp only [List.getElem_toArray, List.getElem_cons_succ, List.getElem_cons_zero, Act.put, List.setIfInBounds_toArray, List.set_cons_zero, List.set_cons_succ])
          refine wpAnyH_take (i := 2) (v := ?_) rfl (by kernel_rfl) (by kernel_rfl) (by kernel_rfl) (fun _ _ _ h => h) (Or.inl ⟨by rfl, ?_⟩) h0 ?_
          rotate_left
          focus (intro w' hSw; skip; go_simp; (try with_reducible rfl))
          (try simp only [List.getElem_toArray, List.getElem_cons_succ, List.getElem_cons_zero, Act.put, List.setIfInBounds_toArray, List.set_cons_zero, List.set_cons_succ])
          refine wpAnyH_take (i := 3) (v := .agg v1.cells.toArray) rfl (by kernel_rfl) (by kernel_rfl) (by kernel_rfl) (fun _ _ _ h => h) (yields_load_at (by rfl) 32 _ rfl b (o + j * 13) rfl _ _ (fun w' hS => hS.1) Try.underlying32 rfl (by rw [l1]; kernel_rfl)) h0 ?_
          (try simp only [List.getElem_toArray, List.getElem_cons_succ, List.getElem_cons_zero, Act.put, List.setIfInBounds_toArray, List.set_cons_zero, List.set_cons_succ])
          refine wpAnyH_take (i := 4) (v := ?_) rfl (by kernel_rfl) (by kernel_rfl) (by kernel_rfl) (fun _ _ _ h => h) (Or.inl ⟨by rfl, ?_⟩) h0 ?_
          rotate_left
          focus (intro w' hSw; skip; go_simp; (try with_reducible rfl))
          (try simp only [List.getElem_toArray, List.getElem_cons_succ, List.getElem_cons_zero, Act.put, List.setIfInBounds_toArray, List.set_cons_zero, List.set_cons_succ])
          refine wpAnyH_take (i := 5) (v := ?_) rfl (by kernel_rfl) (by kernel_rfl) (by kernel_rfl) (fun _ _ _ h => h) (Or.inl ⟨by rfl, ?_⟩) h0 ?_
          rotate_left
          focus (intro w' hSw; skip; go_simp; (try with_reducible rfl))
          (try simp only [List.getElem_toArray, List.getElem_cons_succ, List.getElem_cons_zero, Act.put, List.setIfInBounds_toArray, List.set_cons_zero, List.set_cons_succ])
          refine wpAnyH_take (i := 6) (v := ?_) rfl (by kernel_rfl) (by kernel_rfl) (by kernel_rfl) (fun _ _ _ h => h) (Or.inl ⟨by rfl, ?_⟩) h0 ?_
          rotate_left
          focus (intro w' hSw; skip; go_simp; (try with_reducible rfl))
          (try simp only [List.getElem_toArray, List.getElem_cons_succ, List.getElem_cons_zero, Act.put, List.setIfInBounds_toArray, List.set_cons_zero, List.set_cons_succ])
          refine wpAnyH_take (i := 7) (v := .agg v2.cells.toArray) rfl (by kernel_rfl) (by kernel_rfl) (by kernel_rfl) (fun _ _ _ h => h) (yields_load_at (by rfl) 32 _ rfl b' (o' + j * 13) rfl _ _ (fun w' hS => hS.2) Try.underlying32 rfl (by rw [l2]; kernel_rfl)) h0 ?_
          (try simp only [List.getElem_toArray, List.getElem_cons_succ, List.getElem_cons_zero, Act.put, List.setIfInBounds_toArray, List.set_cons_zero, List.set_cons_succ])
          refine wpAnyH_ready (rs := [8]) (by kernel_rfl) (by simp) ?_
          refine AllReadyH.cons rfl (fun K hK => ?_) AllReadyH.nil
          go_simp
          refine (SM.out _ (by repeat (first | (with_reducible exact Below.refl _ _) | (with_reducible refine Below.drew ?_) | (with_reducible refine below_drewN ?_ _) | ((with_reducible refine Below.alloc ?_ ?_ _); rotate_left; (first | omega | (simp <;> omega)); rotate_right) | ((with_reducible refine Below.setCell ?_ ?_ _); rotate_left; (first | omega | (simp <;> omega)); rotate_right) | (with_reducible assumption) | (refine Below.trans ?_ (Below.mono (by assumption) ?_); rotate_left; (first | omega | (simp <;> omega)); rotate_right)))).mono ?_
          rintro e W5 ⟨rfl, hb5⟩
          go_wp2_with fail
          have hb6 : Below wr.heap.size wr W5 := (Below.refl wr.heap.size wr).drew.trans hb5
          refine hK.out _ _ ?_ (fun h1 => ?_)
          · exact ⟨fun i u hu => ((bcell hb6).1 b _ hbl).trans (HC1.out i u hu), fun i u hu => ((bcell hb6).1 b' _ hbl').trans (HC2.out i u hu)⟩
          clear hK K
          (try simp only [List.getElem_toArray, List.getElem_cons_succ, List.getElem_cons_zero, Act.put, List.setIfInBounds_toArray, List.set_cons_zero, List.set_cons_succ])
          refine wpAnyH_take (i := 9) (v := ?_) rfl (by kernel_rfl) (by kernel_rfl) (by kernel_rfl) (fun _ _ _ h => h) (Or.inl ⟨by rfl, ?_⟩) h1 ?_
          rotate_left
          focus (intro w' hSw; skip; go_simp; (try with_reducible rfl))
          (try simp only [List.getElem_toArray, List.getElem_cons_succ, List.getElem_cons_zero, Act.put, List.setIfInBounds_toArray, List.set_cons_zero, List.set_cons_succ])
          refine wpAnyH_done (by kernel_rfl) ?_ _
          have HB4 := (show Below w.heap.size w W5 from (by repeat (first | (with_reducible exact Below.refl _ _) | (with_reducible refine Below.drew ?_) | (with_reducible refine below_drewN ?_ _) | ((with_reducible refine Below.alloc ?_ ?_ _); rotate_left; (first | omega | (simp <;> omega)); rotate_right) | ((with_reducible refine Below.setCell ?_ ?_ _); rotate_left; (first | omega | (simp <;> omega)); rotate_right) | (with_reducible assumption) | (refine Below.trans ?_ (Below.mono (by assumption) ?_); rotate_left; (first | omega | (simp <;> omega)); rotate_right))))
          clear h0 h1 hb5 hb6
          go_wp2_with fail
          go_ret
          exact ⟨ret_bool R.out.symm, HB4⟩
        · have R := Lib.hid (Y.out hr)
          rw [hr] at SM
          clear N Y hr
          go_upto_region 6 with fail
          refine wp_region_held_drew (S := fun w' => (∀ i u, v1.cells[i]? = some u → w'.cell? ⟨b, o + j * 13 + i, none⟩ = some u) ∧ (∀ i u, v2.cells[i]? = some u → w'.cell? ⟨b', o' + j * 13 + i, none⟩ = some u)) (by kernel_rfl) ?_ (fun h0 => ?_)
          · exact ⟨HC1.out, HC2.out⟩
          refine wpAnyH_take (i := 0) (v := ?_) rfl (by kernel_rfl) (by kernel_rfl) (by kernel_rfl) (fun _ _ _ h => h) (Or.inl ⟨by rfl, ?_⟩) h0 ?_
          rotate_left
          focus (intro w' hSw; skip; go_simp; (try with_reducible rfl))
          (try simp only [List.getElem_toArray, List.getElem_cons_succ, List.getElem_cons_zero, Act.put, List.setIfInBounds_toArray, List.set_cons_zero, List.set_cons_succ])
          refine wpAnyH_take (i := 1) (v := ?_) rfl (by kernel_rfl) (by kernel_rfl) (by kernel_rfl) (fun _ _ _ h => h) (Or.inl ⟨by rfl, ?_⟩) h0 ?_
          rotate_left
          focus (intro w' hSw; skip; go_simp; (try with_reducible rfl))
          (try simp only [List.getElem_toArray, List.getElem_cons_succ, List.getElem_cons_zero, Act.put, List.setIfInBounds_toArray, List.set_cons_zero, List.set_cons_succ])
          refine wpAnyH_take (i := 2) (v := ?_) rfl (by kernel_rfl) (by kernel_rfl) (by kernel_rfl) (fun _ _ _ h => h) (Or.inl ⟨by rfl, ?_⟩) h0 ?_
          rotate_left
          focus (intro w' hSw; skip; go_simp; (try with_reducible rfl))
          (try simp only [List.getElem_toArray, List.getElem_cons_succ, List.getElem_cons_zero, Act.put, List.setIfInBounds_toArray, List.set_cons_zero, List.set_cons_succ])
          refine wpAnyH_take (i := 3) (v := .agg v1.cells.toArray) rfl (by kernel_rfl) (by kernel_rfl) (by kernel_rfl) (fun _ _ _ h => h) (yields_load_at (by rfl) 32 _ rfl b (o + j * 13) rfl _ _ (fun w' hS => hS.1) Try.underlying32 rfl (by rw [l1]; kernel_rfl)) h0 ?_
          (try simp only [List.getElem_toArray, List.getElem_cons_succ, List.getElem_cons_zero, Act.put, List.setIfInBounds_toArray, List.set_cons_zero, List.set_cons_succ])
          refine wpAnyH_take (i := 4) (v := ?_) rfl (by kernel_rfl) (by kernel_rfl) (by kernel_rfl) (fun _ _ _ h => h) (Or.inl ⟨by rfl, ?_⟩) h0 ?_
          rotate_left
          focus (intro w' hSw; skip; go_simp; (try with_reducible rfl))
          (try simp only [List.getElem_toArray, List.getElem_cons_succ, List.getElem_cons_zero, Act.put, List.setIfInBounds_toArray, List.set_cons_zero, List.set_cons_succ])
          refine wpAnyH_take (i := 5) (v := ?_) rfl (by kernel_rfl) (by kernel_rfl) (by kernel_rfl) (fun _ _ _ h => h) (Or.inl ⟨by rfl, ?_⟩) h0 ?_
          rotate_left
          focus (intro w' hSw; skip; go_simp; (try with_reducible rfl))
          (try simp only [List.getElem_toArray, List.getElem_cons_succ, List.getElem_cons_zero, Act.put, List.setIfInBounds_toArray, List.set_cons_zero, List.set_cons_succ])
          refine wpAnyH_take (i := 6) (v := ?_) rfl (by kernel_rfl) (by kernel_rfl) (by kernel_rfl) (fun _ _ _ h => h) (Or.inl ⟨by rfl, ?_⟩) h0 ?_
          rotate_left
          focus (intro w' hSw; skip; go_simp; (try with_reducible rfl))
          (try simp only [List.getElem_toArray, List.getElem_cons_succ, List.getElem_cons_zero, Act.put, List.setIfInBounds_toArray, List.set_cons_zero, List.set_cons_succ])
          refine wpAnyH_take (i := 7) (v := .agg v2.cells.toArray) rfl (by kernel_rfl) (by kernel_rfl) (by kernel_rfl) (fun _ _ _ h => h) (yields_load_at (by rfl) 32 _ rfl b' (o' + j * 13) rfl _ _ (fun w' hS => hS.2) Try.underlying32 rfl (by rw [l2]; kernel_rfl)) h0 ?_
          (try simp only [List.getElem_toArray, List.getElem_cons_succ, List.getElem_cons_zero, Act.put, List.setIfInBounds_toArray, List.set_cons_zero, List.set_cons_succ])
          refine wpAnyH_ready (rs := [8]) (by kernel_rfl) (by simp) ?_
          refine AllReadyH.cons rfl (fun K hK => ?_) AllReadyH.nil
          go_simp
          refine (SM.out _ (by repeat (first | (with_reducible exact Below.refl _ _) | (with_reducible refine Below.drew ?_) | (with_reducible refine below_drewN ?_ _) | ((with_reducible refine Below.alloc ?_ ?_ _); rotate_left; (first | omega | (simp <;> omega)); rotate_right) | ((with_reducible refine Below.setCell ?_ ?_ _); rotate_left; (first | omega | (simp <;> omega)); rotate_right) | (with_reducible assumption) | (refine Below.trans ?_ (Below.mono (by assumption) ?_); rotate_left; (first | omega | (simp <;> omega)); rotate_right)))).mono ?_
          rintro e W5 ⟨rfl, hb5⟩
          go_wp2_with fail
          have hb6 : Below wr.heap.size wr W5 := (Below.refl wr.heap.size wr).drew.trans hb5
          refine hK.out _ _ ?_ (fun h1 => ?_)
          · exact ⟨fun i u hu => ((bcell hb6).1 b _ hbl).trans (HC1.out i u hu), fun i u hu => ((bcell hb6).1 b' _ hbl').trans (HC2.out i u hu)⟩
          clear hK K
          (try simp only [List.getElem_toArray, List.getElem_cons_succ, List.getElem_cons_zero, Act.put, List.setIfInBounds_toArray, List.set_cons_zero, List.set_cons_succ])
          refine wpAnyH_take (i := 9) (v := ?_) rfl (by kernel_rfl) (by kernel_rfl) (by kernel_rfl) (fun _ _ _ h => h) (Or.inl ⟨by rfl, ?_⟩) h1 ?_
          rotate_left
          focus (intro w' hSw; skip; go_simp; (try with_reducible rfl))
          (try simp only [List.getElem_toArray, List.getElem_cons_succ, List.getElem_cons_zero, Act.put, List.setIfInBounds_toArray, List.set_cons_zero, List.set_cons_succ])
          refine wpAnyH_done (by kernel_rfl) ?_ _
          have HB4 := (show Below w.heap.size w W5 from (by repeat (first | (with_reducible exact Below.refl _ _) | (with_reducible refine Below.drew ?_) | (with_reducible refine below_drewN ?_ _) | ((with_reducible refine Below.alloc ?_ ?_ _); rotate_left; (first | omega | (simp <;> omega)); rotate_right) | ((with_reducible refine Below.setCell ?_ ?_ _); rotate_left; (first | omega | (simp <;> omega)); rotate_right) | (with_reducible assumption) | (refine Below.trans ?_ (Below.mono (by assumption) ?_); rotate_left; (first | omega | (simp <;> omega)); rotate_right))))
          clear h0 h1 hb5 hb6
          go_wp2_with fail
          go_roundw
          case rel => exact ⟨j + 1, by go_num, by omega, HB4, R⟩
          case measure => simp [intOf]; omega
      · obtain rfl : j = n := by omega
        have E := Lib.hid (show Lg.sameRs (Lg.xs vs) (Lg.xs us) = true from Lg.sameRs_yes (by rw [Lg.xs_len, Lg.xs_len, HL.out, GL.out]) (fun i hi => HA.out i (by rw [Lg.xs_len, HL.out] at hi; exact hi)))
        go_wp2_with fail
        go_ret
        exact ⟨ret_bool E.out.symm, (by repeat (first | (with_reducible exact Below.refl _ _) | (with_reducible refine Below.drew ?_) | (with_reducible refine below_drewN ?_ _) | ((with_reducible refine Below.alloc ?_ ?_ _); rotate_left; (first | omega | (simp <;> omega)); rotate_right) | ((with_reducible refine Below.setCell ?_ ?_ _); rotate_left; (first | omega | (simp <;> omega)); rotate_right) | (with_reducible assumption) | (refine Below.trans ?_ (Below.mono (by assumption) ?_); rotate_left; (first | omega | (simp <;> omega)); rotate_right)))⟩
  · have z : ((n : Int) != (m : Int)) = true := by simp; omega
    have E := Lib.hid (show Lg.sameRs (Lg.xs vs) (Lg.xs us) = false from Lg.sameRs_len (by rw [Lg.xs_len, Lg.xs_len, hl, gl]; exact hnm))
    clear hnm h g hl gl
    go_enter Try.func17, Try.ntmps17
    go_wp2_with fail
    go_ret
    exact ⟨ret_bool E.out.symm, (by repeat (first | (with_reducible exact Below.refl _ _) | (with_reducible refine Below.drew ?_) | (with_reducible refine below_drewN ?_ _) | ((with_reducible refine Below.alloc ?_ ?_ _); rotate_left; (first | omega | (simp <;> omega)); rotate_right) | ((with_reducible refine Below.setCell ?_ ?_ _); rotate_left; (first | omega | (simp <;> omega)); rotate_right) | (with_reducible assumption) | (refine Below.trans ?_ (Below.mono (by assumption) ?_); rotate_left; (first | omega | (simp <;> omega)); rotate_right)))⟩
theorem equalf_any (A C : Option Addr) (n m cap caq : Nat) (vs us : List Lg.RV) (w : World) (hn : n ≤ 1000000) (hm : m ≤ 1000000) (h : Lg.Rr w w.heap.size A n vs) (g : Lg.Rr w w.heap.size C m us) :
    Calls Try.prog 55 #[.slice A n cap, .slice C m caq, .func (.func 56) #[] #[]] w fun e w' => e = .returned (.bool (Lg.sameRs (Lg.xs vs) (Lg.xs us))) ∧ Below w.heap.size w w' := by
  have hl := h.len
  have gl := g.len
  by_cases hnm : n = m
  · subst hnm
    have H := Lib.hid h
    have G := Lib.hid g
    have HL := Lib.hid hl
    have GL := Lib.hid gl
    clear h g hl gl
    go_enter Try.func55, Try.ntmps55
    go_wp2_with fail
    go_loopw [17] (fun s wr => ∃ (j : Nat), s = .int .i64 j ∧ j ≤ n ∧ Below w.heap.size w wr ∧ Hid (∀ i, i < j → Lg.sameR ((Lg.xs vs).getD i Lg.r0) ((Lg.xs us).getD i Lg.r0) = true)) (fun s _ => n - (intOf s).toNat)
    case atStart => exact ⟨0, by go_num, by omega, (by repeat (first | (with_reducible exact Below.refl _ _) | (with_reducible refine Below.drew ?_) | (with_reducible refine below_drewN ?_ _) | ((with_reducible refine Below.alloc ?_ ?_ _); rotate_left; (first | omega | (simp <;> omega)); rotate_right) | ((with_reducible refine Below.setCell ?_ ?_ _); rotate_left; (first | omega | (simp <;> omega)); rotate_right) | (with_reducible assumption) | (refine Below.trans ?_ (Below.mono (by assumption) ?_); rotate_left; (first | omega | (simp <;> omega)); rotate_right))), Lib.hid (fun i hi => absurd hi (by omega))⟩
    case round =>
      obtain ⟨j, rfl, hj, hB, HA⟩ := hrel
      have hzr := hB.size
      by_cases hlt : j < n
      · obtain ⟨b, o, rfl, hbl, hcl, hok⟩ := (H.out.up hB).at_ hlt
        obtain ⟨b', o', rfl, hbl', hcl', hok'⟩ := (G.out.up hB).at_ hlt
        have e1 := Lg.xs_at (l := vs) (i := j) (by rw [HL.out]; exact hlt)
        have e2 := Lg.xs_at (l := us) (i := j) (by rw [GL.out]; exact hlt)
        have N := Lib.hid (fun hf => Lg.sameRs_no (l := Lg.xs vs) (m := Lg.xs us) (j := j) (by rw [e1, e2]; exact hf))
        have Y := Lib.hid (fun (hf : Lg.sameR (vs.getD j Lg.rv0).x (us.getD j Lg.rv0).x = true) => show ∀ i, i < j + 1 → Lg.sameR ((Lg.xs vs).getD i Lg.r0) ((Lg.xs us).getD i Lg.r0) = true from fun i hi => by
          rcases Nat.lt_or_ge i j with h | h
          · exact HA.out i h
          · obtain rfl : i = j := by omega
            rw [e1, e2]
            exact hf)
        have l1 := Lg.RV.len (vs.getD j Lg.rv0)
        have l2 := Lg.RV.len (us.getD j Lg.rv0)
        generalize vs.getD j Lg.rv0 = v1 at *
        generalize us.getD j Lg.rv0 = v2 at *
        have SM := Lib.hid (fun (W : World) (hW : Below wr.heap.size wr W) => lsameR_any v1 v2 W (hok.up hW) (hok'.up hW))
        have on1 := rv_ones v1
        have on2 := rv_ones v2
        have z1 : v1.cells.toArray.size = 13 := l1
        have z2 : v2.cells.toArray.size = 13 := l2
        have jn : (j : Int) < (n : Int) := by omega
        clear HA e1 e2 hok hok'
        cases hr : Lg.sameR v1.x v2.x
        · have R := Lib.hid (N.out hr)
          rw [hr] at SM
          clear N Y hr
          (go_upto_region 6 with (first | (refine wpList_load_at rfl 32 _ rfl b (o + j * 13) rfl _ _ hcl Try.underlying32 rfl (by rw [l1]; kernel_rfl) ?_) | (refine wpList_store_row rfl 32 _ _ rfl _ _ rfl rfl 32 _ (heap_new wr (.cells #[.int .i64 0, .int .i64 0, .int .i64 0, .int .i64 0, .int .i64 0, .int .i64 0, .int .i64 0, .int .i64 0, .int .i64 0, .int .i64 0, .int .i64 0, .slice none 0 0, .int .u32 0] 32 (0, 0))) (by rw [z1]; kernel_rfl) z1.symm on1 ?_))); generalize hW1 : World.setRow _ _ _ = W1; have k1 : W1.heap[wr.heap.size]? = some (.cells v1.cells.toArray 32 (0, 0)) := (by rw [← hW1]; exact setRow_heap _ _ _ _ _ _ (heap_new wr (.cells #[.int .i64 0, .int .i64 0, .int .i64 0, .int .i64 0, .int .i64 0, .int .i64 0, .int .i64 0, .int .i64 0, .int .i64 0, .int .i64 0, .int .i64 0, .slice none 0 0, .int .u32 0] 32 (0, 0)))); have B1 : Below wr.heap.size wr W1 := (by rw [← hW1]; exact below_setRow (by exact (by repeat (first | (with_reducible exact Below.refl _ _) | (with_reducible refine Below.drew ?_) | (with_reducible refine below_drewN ?_ _) | ((with_reducible refine Below.alloc ?_ ?_ _); rotate_left; (first | omega | (simp <;> omega)); rotate_right) | ((with_reducible refine Below.setCell ?_ ?_ _); rotate_left; (first | omega | (simp <;> omega)); rotate_right) | (with_reducible assumption) | (refine Below.trans ?_ (Below.mono (by assumption) ?_); rotate_left; (first | omega | (simp <;> omega)); rotate_right)))) (Nat.le_refl _) _); clear hW1; have hcl2 := (fun i u hu => ((bcell B1).1 b' _ hbl').trans (hcl' i u hu)); have hs1 := lt_of_block k1; (go_upto_region 7 with (first | (refine wpList_load_at rfl 32 _ rfl b' (o' + j * 13) rfl _ _ hcl2 Try.underlying32 rfl (by rw [l2]; kernel_rfl) ?_) | (refine wpList_store_row rfl 32 _ _ rfl _ _ rfl rfl 32 _ (heap_new W1 (.cells #[.int .i64 0, .int .i64 0, .int .i64 0, .int .i64 0, .int .i64 0, .int .i64 0, .int .i64 0, .int .i64 0, .int .i64 0, .int .i64 0, .int .i64 0, .slice none 0 0, .int .u32 0] 32 (0, 0))) (by rw [z2]; kernel_rfl) z2.symm on2 ?_))); generalize hW2 : World.setRow _ _ _ = W2; have k2 : W2.heap[W1.heap.size]? = some (.cells v2.cells.toArray 32 (0, 0)) := (by rw [← hW2]; exact setRow_heap _ _ _ _ _ _ (heap_new W1 (.cells #[.int .i64 0, .int .i64 0, .int .i64 0, .int .i64 0, .int .i64 0, .int .i64 0, .int .i64 0, .int .i64 0, .int .i64 0, .int .i64 0, .int .i64 0, .slice none 0 0, .int .u32 0] 32 (0, 0)))); have k1' : W2.heap[wr.heap.size]? = some (.cells v1.cells.toArray 32 (0, 0)) := (by rw [← hW2]; exact (setRow_other _ _ _ _ (by omega)).trans (blk_alloc k1 _)); have B2 : Below wr.heap.size wr W2 := (by rw [← hW2]; exact below_setRow (by exact (by repeat (first | (with_reducible exact Below.refl _ _) | (with_reducible refine Below.drew ?_) | (with_reducible refine below_drewN ?_ _) | ((with_reducible refine Below.alloc ?_ ?_ _); rotate_left; (first | omega | (simp <;> omega)); rotate_right) | ((with_reducible refine Below.setCell ?_ ?_ _); rotate_left; (first | omega | (simp <;> omega)); rotate_right) | (with_reducible assumption) | (refine Below.trans ?_ (Below.mono (by assumption) ?_); rotate_left; (first | omega | (simp <;> omega)); rotate_right)))) (by omega) _); clear hW2; go_wp2_with (first | (refine wpList_load_row rfl 32 _ rfl _ rfl 32 _ (0, 0) _ k1' Try.underlying32 rfl (by rw [z1]; kernel_rfl) ?_) | (refine wpList_load_row rfl 32 _ rfl _ rfl 32 _ (0, 0) _ k2 Try.underlying32 rfl (by rw [z2]; kernel_rfl) ?_)); refine (SM.out _ B2).mono ?_; rintro e w5 ⟨rfl, hb5⟩; have HB4 := (hB.trans (B2.mono hzr)).trans (hb5.mono (Nat.le_trans hzr B2.size)); clear hb5; go_wp2_with fail
          go_ret
          exact ⟨ret_bool R.out.symm, HB4⟩
        · have R := Lib.hid (Y.out hr)
          rw [hr] at SM
          clear N Y hr
          (go_upto_region 6 with (first | (refine wpList_load_at rfl 32 _ rfl b (o + j * 13) rfl _ _ hcl Try.underlying32 rfl (by rw [l1]; kernel_rfl) ?_) | (refine wpList_store_row rfl 32 _ _ rfl _ _ rfl rfl 32 _ (heap_new wr (.cells #[.int .i64 0, .int .i64 0, .int .i64 0, .int .i64 0, .int .i64 0, .int .i64 0, .int .i64 0, .int .i64 0, .int .i64 0, .int .i64 0, .int .i64 0, .slice none 0 0, .int .u32 0] 32 (0, 0))) (by rw [z1]; kernel_rfl) z1.symm on1 ?_))); generalize hW1 : World.setRow _ _ _ = W1; have k1 : W1.heap[wr.heap.size]? = some (.cells v1.cells.toArray 32 (0, 0)) := (by rw [← hW1]; exact setRow_heap _ _ _ _ _ _ (heap_new wr (.cells #[.int .i64 0, .int .i64 0, .int .i64 0, .int .i64 0, .int .i64 0, .int .i64 0, .int .i64 0, .int .i64 0, .int .i64 0, .int .i64 0, .int .i64 0, .slice none 0 0, .int .u32 0] 32 (0, 0)))); have B1 : Below wr.heap.size wr W1 := (by rw [← hW1]; exact below_setRow (by exact (by repeat (first | (with_reducible exact Below.refl _ _) | (with_reducible refine Below.drew ?_) | (with_reducible refine below_drewN ?_ _) | ((with_reducible refine Below.alloc ?_ ?_ _); rotate_left; (first | omega | (simp <;> omega)); rotate_right) | ((with_reducible refine Below.setCell ?_ ?_ _); rotate_left; (first | omega | (simp <;> omega)); rotate_right) | (with_reducible assumption) | (refine Below.trans ?_ (Below.mono (by assumption) ?_); rotate_left; (first | omega | (simp <;> omega)); rotate_right)))) (Nat.le_refl _) _); clear hW1; have hcl2 := (fun i u hu => ((bcell B1).1 b' _ hbl').trans (hcl' i u hu)); have hs1 := lt_of_block k1; (go_upto_region 7 with (first | (refine wpList_load_at rfl 32 _ rfl b' (o' + j * 13) rfl _ _ hcl2 Try.underlying32 rfl (by rw [l2]; kernel_rfl) ?_) | (refine wpList_store_row rfl 32 _ _ rfl _ _ rfl rfl 32 _ (heap_new W1 (.cells #[.int .i64 0, .int .i64 0, .int .i64 0, .int .i64 0, .int .i64 0, .int .i64 0, .int .i64 0, .int .i64 0, .int .i64 0, .int .i64 0, .int .i64 0, .slice none 0 0, .int .u32 0] 32 (0, 0))) (by rw [z2]; kernel_rfl) z2.symm on2 ?_))); generalize hW2 : World.setRow _ _ _ = W2; have k2 : W2.heap[W1.heap.size]? = some (.cells v2.cells.toArray 32 (0, 0)) := (by rw [← hW2]; exact setRow_heap _ _ _ _ _ _ (heap_new W1 (.cells #[.int .i64 0, .int .i64 0, .int .i64 0, .int .i64 0, .int .i64 0, .int .i64 0, .int .i64 0, .int .i64 0, .int .i64 0, .int .i64 0, .int .i64 0, .slice none 0 0, .int .u32 0] 32 (0, 0)))); have k1' : W2.heap[wr.heap.size]? = some (.cells v1.cells.toArray 32 (0, 0)) := (by rw [← hW2]; exact (setRow_other _ _ _ _ (by omega)).trans (blk_alloc k1 _)); have B2 : Below wr.heap.size wr W2 := (by rw [← hW2]; exact below_setRow (by exact (by repeat (first | (with_reducible exact Below.refl _ _) | (with_reducible refine Below.drew ?_) | (with_reducible refine below_drewN ?_ _) | ((with_reducible refine Below.alloc ?_ ?_ _); rotate_left; (first | omega | (simp <;> omega)); rotate_right) | ((with_reducible refine Below.setCell ?_ ?_ _); rotate_left; (first | omega | (simp <;> omega)); rotate_right) | (with_reducible assumption) | (refine Below.trans ?_ (Below.mono (by assumption) ?_); rotate_left; (first | omega | (simp <;> omega)); rotate_right)))) (by omega) _); clear hW2; go_wp2_with (first | (refine wpList_load_row rfl 32 _ rfl _ rfl 32 _ (0, 0) _ k1' Try.underlying32 rfl (by rw [z1]; kernel_rfl) ?_) | (refine wpList_load_row rfl 32 _ rfl _ rfl 32 _ (0, 0) _ k2 Try.underlying32 rfl (by rw [z2]; kernel_rfl) ?_)); refine (SM.out _ B2).mono ?_; rintro e w5 ⟨rfl, hb5⟩; have HB4 := (hB.trans (B2.mono hzr)).trans (hb5.mono (Nat.le_trans hzr B2.size)); clear hb5; go_wp2_with fail
          go_roundw
          case rel => exact ⟨j + 1, by go_num, by omega, HB4, R⟩
          case measure => simp [intOf]; omega
      · obtain rfl : j = n := by omega
        have E := Lib.hid (show Lg.sameRs (Lg.xs vs) (Lg.xs us) = true from Lg.sameRs_yes (by rw [Lg.xs_len, Lg.xs_len, HL.out, GL.out]) (fun i hi => HA.out i (by rw [Lg.xs_len, HL.out] at hi; exact hi)))
        go_wp2_with fail
        go_ret
        exact ⟨ret_bool E.out.symm, (by repeat (first | (with_reducible exact Below.refl _ _) | (with_reducible refine Below.drew ?_) | (with_reducible refine below_drewN ?_ _) | ((with_reducible refine Below.alloc ?_ ?_ _); rotate_left; (first | omega | (simp <;> omega)); rotate_right) | ((with_reducible refine Below.setCell ?_ ?_ _); rotate_left; (first | omega | (simp <;> omega)); rotate_right) | (with_reducible assumption) | (refine Below.trans ?_ (Below.mono (by assumption) ?_); rotate_left; (first | omega | (simp <;> omega)); rotate_right)))⟩
  · have z : ((n : Int) != (m : Int)) = true := by simp; omega
    have E := Lib.hid (show Lg.sameRs (Lg.xs vs) (Lg.xs us) = false from Lg.sameRs_len (by rw [Lg.xs_len, Lg.xs_len, hl, gl]; exact hnm))
    clear hnm h g hl gl
    go_enter Try.func55, Try.ntmps55
    go_wp2_with fail
    go_ret
    exact ⟨ret_bool E.out.symm, (by repeat (first | (with_reducible exact Below.refl _ _) | (with_reducible refine Below.drew ?_) | (with_reducible refine below_drewN ?_ _) | ((with_reducible refine Below.alloc ?_ ?_ _); rotate_left; (first | omega | (simp <;> omega)); rotate_right) | ((with_reducible refine Below.setCell ?_ ?_ _); rotate_left; (first | omega | (simp <;> omega)); rotate_right) | (with_reducible assumption) | (refine Below.trans ?_ (Below.mono (by assumption) ?_); rotate_left; (first | omega | (simp <;> omega)); rotate_right)))⟩
section
variable {w w' : World} {base p c base' p' c' : Nat} {X X' : Nat → Prop} {A A' : Option Addr} {vs us : List Lg.RV}
open Lg (IsLg)
theorem lsame_nn (w : World) : Calls Try.prog 26 #[.pointer none, .pointer none] w fun e w' => e = .returned (.bool true) ∧ Below w.heap.size w w' := by
  go_enter Try.func26, Try.ntmps26
  go_wp2_with fail
  go_ret
  exact ⟨rfl, (by repeat (first | (with_reducible exact Below.refl _ _) | (with_reducible refine Below.drew ?_) | (with_reducible refine below_drewN ?_ _) | ((with_reducible refine Below.alloc ?_ ?_ _); rotate_left; (first | omega | (simp <;> omega)); rotate_right) | ((with_reducible refine Below.setCell ?_ ?_ _); rotate_left; (first | omega | (simp <;> omega)); rotate_right) | (with_reducible assumption) | (refine Below.trans ?_ (Below.mono (by assumption) ?_); rotate_left; (first | omega | (simp <;> omega)); rotate_right)))⟩
theorem lsame_nx (q : Nat) (w : World) : Calls Try.prog 26 #[.pointer none, .pointer (some ⟨q, 0, none⟩)] w fun e w' => e = .returned (.bool false) ∧ Below w.heap.size w w' := by
  go_enter Try.func26, Try.ntmps26
  go_wp2_with fail
  go_ret
  exact ⟨rfl, (by repeat (first | (with_reducible exact Below.refl _ _) | (with_reducible refine Below.drew ?_) | (with_reducible refine below_drewN ?_ _) | ((with_reducible refine Below.alloc ?_ ?_ _); rotate_left; (first | omega | (simp <;> omega)); rotate_right) | ((with_reducible refine Below.setCell ?_ ?_ _); rotate_left; (first | omega | (simp <;> omega)); rotate_right) | (with_reducible assumption) | (refine Below.trans ?_ (Below.mono (by assumption) ?_); rotate_left; (first | omega | (simp <;> omega)); rotate_right)))⟩
theorem lsame_xn (q : Nat) (w : World) : Calls Try.prog 26 #[.pointer (some ⟨q, 0, none⟩), .pointer none] w fun e w' => e = .returned (.bool false) ∧ Below w.heap.size w w' := by
  go_enter Try.func26, Try.ntmps26
  go_wp2_with fail
  go_ret
  exact ⟨rfl, (by repeat (first | (with_reducible exact Below.refl _ _) | (with_reducible refine Below.drew ?_) | (with_reducible refine below_drewN ?_ _) | ((with_reducible refine Below.alloc ?_ ?_ _); rotate_left; (first | omega | (simp <;> omega)); rotate_right) | ((with_reducible refine Below.setCell ?_ ?_ _); rotate_left; (first | omega | (simp <;> omega)); rotate_right) | (with_reducible assumption) | (refine Below.trans ?_ (Below.mono (by assumption) ?_); rotate_left; (first | omega | (simp <;> omega)); rotate_right)))⟩
theorem lsame_any (h : IsLg w base p A c vs X) (g : IsLg w base' p' A' c' us X') (hn : vs.length ≤ 1000000) (hm : us.length ≤ 1000000) :
    Calls Try.prog 26 #[.pointer (some ⟨p, 0, none⟩), .pointer (some ⟨p', 0, none⟩)] w fun e w' => e = .returned (.bool (Lg.sameRs (Lg.xs vs) (Lg.xs us))) ∧ Below w.heap.size w w' := by
  have c0 : w.cell? ⟨p, 0, none⟩ = some (.slice A vs.length c) := blk_cell (l := [_]) h.blk 0 rfl
  have d0 : w.cell? ⟨p', 0, none⟩ = some (.slice A' us.length c') := blk_cell (l := [_]) g.blk 0 rfl
  have EQ := Lib.hid (fun (W : World) (hW : Below w.heap.size w W) => equalf_any A A' vs.length us.length c c' vs us W hn hm (h.rr.up hW) (g.rr.up hW))
  have hp := h.lt
  have hp' := g.lt
  clear h g
  generalize vs.length = n at *
  generalize us.length = m at *
  go_enter Try.func26, Try.ntmps26
  go_upto_region 3 with fail
  go_region_held3 (fun w' => w'.cell? ⟨p, 0, none⟩ = some (.slice A n c) ∧ w'.cell? ⟨p', 0, none⟩ = some (.slice A' m c')) (first | (refine ⟨?_, ?_⟩ <;> simp [go_sem, *]; done) | go_keep) (first | (go_at_call 55; refine (EQ.out _ (by repeat (first | (with_reducible exact Below.refl _ _) | (with_reducible refine Below.drew ?_) | (with_reducible refine below_drewN ?_ _) | ((with_reducible refine Below.alloc ?_ ?_ _); rotate_left; (first | omega | (simp <;> omega)); rotate_right) | ((with_reducible refine Below.setCell ?_ ?_ _); rotate_left; (first | omega | (simp <;> omega)); rotate_right) | (with_reducible assumption) | (refine Below.trans ?_ (Below.mono (by assumption) ?_); rotate_left; (first | omega | (simp <;> omega)); rotate_right)))).mono ?_; rintro e w4 ⟨rfl, hb4⟩; have d1 : w4.cell? ⟨p, 0, none⟩ = some (.slice A n c) := ((bcell hb4).1 p _ hp).trans (by simp [go_sem, *]); have d2 : w4.cell? ⟨p', 0, none⟩ = some (.slice A' m c') := ((bcell hb4).1 p' _ hp').trans (by simp [go_sem, *])))
  have HB4 := (show Below w.heap.size w w4 from (by repeat (first | (with_reducible exact Below.refl _ _) | (with_reducible refine Below.drew ?_) | (with_reducible refine below_drewN ?_ _) | ((with_reducible refine Below.alloc ?_ ?_ _); rotate_left; (first | omega | (simp <;> omega)); rotate_right) | ((with_reducible refine Below.setCell ?_ ?_ _); rotate_left; (first | omega | (simp <;> omega)); rotate_right) | (with_reducible assumption) | (refine Below.trans ?_ (Below.mono (by assumption) ?_); rotate_left; (first | omega | (simp <;> omega)); rotate_right))))
  go_wp2_with fail
  go_ret
  exact ⟨rfl, HB4⟩
end
end Go.Proofs.Ytgmejplcdecmkaa

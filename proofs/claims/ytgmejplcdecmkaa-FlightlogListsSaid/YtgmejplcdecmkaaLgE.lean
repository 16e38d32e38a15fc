/- Which records are valid: the reference. -/
import Derived.Test.YtgmejplcdecmkaaLgC
import Derived.Test.YtgmejplcdecmkaaROpen
namespace Go.Proofs.Ytgmejplcdecmkaa
open Go.RowKit
set_option maxHeartbeats 8000000
set_option maxRecDepth 100000
set_option linter.unusedSimpArgs false
set_option linter.unusedVariables false
attribute [local go_sem ↓] Go.wp_at_zero Go.wp_at_succ
theorem rfine_any (v : Lg.RV) (w : World) (h : Lg.Ok w w.heap.size v) :
    Calls Try.prog 43 #[v.val] w fun e w' => e = .returned (.bool (Lg.fine v.x)) ∧ Below w.heap.size w w' := by
  obtain ⟨⟨t, a, k, x, y, z, s, ⟨fk, ff, ft, fs, d⟩, sum⟩, A, cap⟩ := v
  obtain ⟨h, hr⟩ := h
  simp only at h hr
  have H := Lib.hid h
  have hcl := Lib.hid (show d.length ≤ 9223372036854775807 from by have h1 := hr.1; have h2 := hr.2.1; unfold maxLen at h2; omega)
  clear h hr
  simp only [Lg.RV.val, Lg.RV.cells]
  by_cases h1 : t < 0
  · have R := Lib.hid (show Lg.fine ⟨t, a, k, x, y, z, s, ⟨fk, ff, ft, fs, d⟩, sum⟩ = false from Lg.fine_t (Frm.inB_no.2 (by simp only; omega)))
    go_enter Try.func43, Try.ntmps43
    go_wp2_with fail
    go_ret
    exact ⟨ret_bool (R.out).symm, (by repeat (first | (with_reducible exact Below.refl _ _) | (with_reducible refine Below.drew ?_) | (with_reducible refine below_drewN ?_ _) | ((with_reducible refine Below.alloc ?_ ?_ _); rotate_left; (first | omega | (simp <;> omega)); rotate_right) | ((with_reducible refine Below.setCell ?_ ?_ _); rotate_left; (first | omega | (simp <;> omega)); rotate_right) | (with_reducible assumption) | (refine Below.trans ?_ (Below.mono (by assumption) ?_); rotate_left; (first | omega | (simp <;> omega)); rotate_right)))⟩
  by_cases h2 : 3600000 < t
  · have R := Lib.hid (show Lg.fine ⟨t, a, k, x, y, z, s, ⟨fk, ff, ft, fs, d⟩, sum⟩ = false from Lg.fine_t (Frm.inB_no.2 (by simp only; omega)))
    go_enter Try.func43, Try.ntmps43
    go_wp2_with fail
    go_ret
    exact ⟨ret_bool (R.out).symm, (by repeat (first | (with_reducible exact Below.refl _ _) | (with_reducible refine Below.drew ?_) | (with_reducible refine below_drewN ?_ _) | ((with_reducible refine Below.alloc ?_ ?_ _); rotate_left; (first | omega | (simp <;> omega)); rotate_right) | ((with_reducible refine Below.setCell ?_ ?_ _); rotate_left; (first | omega | (simp <;> omega)); rotate_right) | (with_reducible assumption) | (refine Below.trans ?_ (Below.mono (by assumption) ?_); rotate_left; (first | omega | (simp <;> omega)); rotate_right)))⟩
  by_cases h3 : a < 0
  · have R := Lib.hid (show Lg.fine ⟨t, a, k, x, y, z, s, ⟨fk, ff, ft, fs, d⟩, sum⟩ = false from Lg.fine_a (Frm.inB_no.2 (by simp only; omega)))
    go_enter Try.func43, Try.ntmps43
    go_wp2_with fail
    go_ret
    exact ⟨ret_bool (R.out).symm, (by repeat (first | (with_reducible exact Below.refl _ _) | (with_reducible refine Below.drew ?_) | (with_reducible refine below_drewN ?_ _) | ((with_reducible refine Below.alloc ?_ ?_ _); rotate_left; (first | omega | (simp <;> omega)); rotate_right) | ((with_reducible refine Below.setCell ?_ ?_ _); rotate_left; (first | omega | (simp <;> omega)); rotate_right) | (with_reducible assumption) | (refine Below.trans ?_ (Below.mono (by assumption) ?_); rotate_left; (first | omega | (simp <;> omega)); rotate_right)))⟩
  by_cases h4 : 64 < a
  · have R := Lib.hid (show Lg.fine ⟨t, a, k, x, y, z, s, ⟨fk, ff, ft, fs, d⟩, sum⟩ = false from Lg.fine_a (Frm.inB_no.2 (by simp only; omega)))
    go_enter Try.func43, Try.ntmps43
    go_wp2_with fail
    go_ret
    exact ⟨ret_bool (R.out).symm, (by repeat (first | (with_reducible exact Below.refl _ _) | (with_reducible refine Below.drew ?_) | (with_reducible refine below_drewN ?_ _) | ((with_reducible refine Below.alloc ?_ ?_ _); rotate_left; (first | omega | (simp <;> omega)); rotate_right) | ((with_reducible refine Below.setCell ?_ ?_ _); rotate_left; (first | omega | (simp <;> omega)); rotate_right) | (with_reducible assumption) | (refine Below.trans ?_ (Below.mono (by assumption) ?_); rotate_left; (first | omega | (simp <;> omega)); rotate_right)))⟩
  have FK := Lib.hid (show Lg.fine ⟨t, a, k, x, y, z, s, ⟨fk, ff, ft, fs, d⟩, sum⟩ = Lg.fineK ⟨t, a, k, x, y, z, s, ⟨fk, ff, ft, fs, d⟩, sum⟩ from Lg.fine_k (Frm.inB_iff.2 (by simp only; omega)) (Frm.inB_iff.2 (by simp only; omega)))
  have SM := Lib.hid (fun (W : World) (hW : Below w.heap.size w W) => same_any fk ff ft fs 0 0 0 0 A none d.length 0 cap 0 d [] W ((H.out.below hW (Nat.le_refl _)).more hW.size) (Rd.nil _ _ _))
  obtain ⟨zf, hzf⟩ : ∃ zf, zf = sameB fk ff ft fs 0 0 0 0 d [] := ⟨_, rfl⟩
  rw [← hzf] at SM
  have ZF := Lib.hid hzf
  clear hzf
  have nq := veql x y z
  obtain ⟨zv, hzv⟩ : ∃ zv, zv = decide (x = 0 ∧ y = 0 ∧ z = 0) := ⟨_, rfl⟩
  rw [← hzv] at nq
  have ZV := Lib.hid hzv
  clear hzv
  go_enter Try.func43, Try.ntmps43
  go_wp2_with fail
  refine (SM.out _ (by repeat (first | (with_reducible exact Below.refl _ _) | (with_reducible refine Below.drew ?_) | (with_reducible refine below_drewN ?_ _) | ((with_reducible refine Below.alloc ?_ ?_ _); rotate_left; (first | omega | (simp <;> omega)); rotate_right) | ((with_reducible refine Below.setCell ?_ ?_ _); rotate_left; (first | omega | (simp <;> omega)); rotate_right) | (with_reducible assumption) | (refine Below.trans ?_ (Below.mono (by assumption) ?_); rotate_left; (first | omega | (simp <;> omega)); rotate_right)))).mono ?_
  rintro e w4 ⟨rfl, hb4⟩
  have hz4 := hb4.size; (try simp at hz4)
  have d1 : w4.cell? ⟨w.heap.size, 1, none⟩ = some (.int .i64 a) := ((bcell hb4).1 w.heap.size 1 (by first | omega | (simp; done) | (simp; omega))).trans (by simp [go_sem])
  have d2 : w4.cell? ⟨w.heap.size, 2, none⟩ = some (.int .i64 k) := ((bcell hb4).1 w.heap.size 2 (by first | omega | (simp; done) | (simp; omega))).trans (by simp [go_sem])
  have d3 : w4.cell? ⟨w.heap.size, 3, none⟩ = some (.int .i64 x) := ((bcell hb4).1 w.heap.size 3 (by first | omega | (simp; done) | (simp; omega))).trans (by simp [go_sem])
  have d4 : w4.cell? ⟨w.heap.size, 4, none⟩ = some (.int .i64 y) := ((bcell hb4).1 w.heap.size 4 (by first | omega | (simp; done) | (simp; omega))).trans (by simp [go_sem])
  have d5 : w4.cell? ⟨w.heap.size, 5, none⟩ = some (.int .i64 z) := ((bcell hb4).1 w.heap.size 5 (by first | omega | (simp; done) | (simp; omega))).trans (by simp [go_sem])
  have d6 : w4.cell? ⟨w.heap.size, 6, none⟩ = some (.int .i64 s) := ((bcell hb4).1 w.heap.size 6 (by first | omega | (simp; done) | (simp; omega))).trans (by simp [go_sem])
  have d7 : w4.cell? ⟨w.heap.size, 7, none⟩ = some (.int .i64 fk) := ((bcell hb4).1 w.heap.size 7 (by first | omega | (simp; done) | (simp; omega))).trans (by simp [go_sem])
  have d8 : w4.cell? ⟨w.heap.size, 8, none⟩ = some (.int .i64 ff) := ((bcell hb4).1 w.heap.size 8 (by first | omega | (simp; done) | (simp; omega))).trans (by simp [go_sem])
  have d9 : w4.cell? ⟨w.heap.size, 9, none⟩ = some (.int .i64 ft) := ((bcell hb4).1 w.heap.size 9 (by first | omega | (simp; done) | (simp; omega))).trans (by simp [go_sem])
  have d10 : w4.cell? ⟨w.heap.size, 10, none⟩ = some (.int .i64 fs) := ((bcell hb4).1 w.heap.size 10 (by first | omega | (simp; done) | (simp; omega))).trans (by simp [go_sem])
  have d11 : w4.cell? ⟨w.heap.size, 11, none⟩ = some (.slice A d.length cap) := ((bcell hb4).1 w.heap.size 11 (by first | omega | (simp; done) | (simp; omega))).trans (by simp [go_sem])
  have HB4 := (show Below w.heap.size w w4 from (by repeat (first | (with_reducible exact Below.refl _ _) | (with_reducible refine Below.drew ?_) | (with_reducible refine below_drewN ?_ _) | ((with_reducible refine Below.alloc ?_ ?_ _); rotate_left; (first | omega | (simp <;> omega)); rotate_right) | ((with_reducible refine Below.setCell ?_ ?_ _); rotate_left; (first | omega | (simp <;> omega)); rotate_right) | (with_reducible assumption) | (refine Below.trans ?_ (Below.mono (by assumption) ?_); rotate_left; (first | omega | (simp <;> omega)); rotate_right))))
  clear hb4 h1 h2 h3 h4
  by_cases k1 : k = 1
  · subst k1
    have R := Lib.hid (show Lg.fine ⟨t, a, 1, x, y, z, s, ⟨fk, ff, ft, fs, d⟩, sum⟩ = (decide (0 < a) && Lg.inP3 x y z && decide (s = 0) && zf) from FK.out.trans ((Lg.fineK1 rfl).trans (by rw [Lg.zF_eq, ← ZF.out])))
    by_cases ha : 0 < a
    · cases hp : Lg.inP3 x y z
      · have PL := Lib.hid (fun W => hp ▸ point_any x y z W)
        have R2 := Lib.hid (show Lg.fine _ = false from R.out.trans (by simp [hp]))
        clear hp
        go_wp2_with fail
        refine (PL.out _).mono ?_
        rintro e w5 ⟨rfl, hb5⟩
        have hz5 := hb5.size
        have HB5 := (show Below w.heap.size w w5 from (by repeat (first | (with_reducible exact Below.refl _ _) | (with_reducible refine Below.drew ?_) | (with_reducible refine below_drewN ?_ _) | ((with_reducible refine Below.alloc ?_ ?_ _); rotate_left; (first | omega | (simp <;> omega)); rotate_right) | ((with_reducible refine Below.setCell ?_ ?_ _); rotate_left; (first | omega | (simp <;> omega)); rotate_right) | (with_reducible assumption) | (refine Below.trans ?_ (Below.mono (by assumption) ?_); rotate_left; (first | omega | (simp <;> omega)); rotate_right))))
        clear hb5
        go_wp2_with fail
        go_ret
        exact ⟨ret_bool (R2.out).symm, (by repeat (first | (with_reducible exact Below.refl _ _) | (with_reducible refine Below.drew ?_) | (with_reducible refine below_drewN ?_ _) | ((with_reducible refine Below.alloc ?_ ?_ _); rotate_left; (first | omega | (simp <;> omega)); rotate_right) | ((with_reducible refine Below.setCell ?_ ?_ _); rotate_left; (first | omega | (simp <;> omega)); rotate_right) | (with_reducible assumption) | (refine Below.trans ?_ (Below.mono (by assumption) ?_); rotate_left; (first | omega | (simp <;> omega)); rotate_right)))⟩
      · have PL := Lib.hid (fun W => hp ▸ point_any x y z W)
        by_cases hs : s = 0
        · have R2 := Lib.hid (R.out.trans (by simp [hp, ha, hs] : _ = zf))
          have zs : (s == 0) = true := by simp [hs]
          clear hp hs
          cases zf
          all_goals
            go_wp2_with fail
            refine (PL.out _).mono ?_
            rintro e w5 ⟨rfl, hb5⟩
            have hz5 := hb5.size
            have e6 := ((bcell hb5).1 w.heap.size 6 (by first | omega | (simp; done) | (simp; omega))).trans d6
            have HB5 := (show Below w.heap.size w w5 from (by repeat (first | (with_reducible exact Below.refl _ _) | (with_reducible refine Below.drew ?_) | (with_reducible refine below_drewN ?_ _) | ((with_reducible refine Below.alloc ?_ ?_ _); rotate_left; (first | omega | (simp <;> omega)); rotate_right) | ((with_reducible refine Below.setCell ?_ ?_ _); rotate_left; (first | omega | (simp <;> omega)); rotate_right) | (with_reducible assumption) | (refine Below.trans ?_ (Below.mono (by assumption) ?_); rotate_left; (first | omega | (simp <;> omega)); rotate_right))))
            clear hb5
            go_wp2_with fail
            go_ret
            exact ⟨ret_bool (R2.out).symm, (by repeat (first | (with_reducible exact Below.refl _ _) | (with_reducible refine Below.drew ?_) | (with_reducible refine below_drewN ?_ _) | ((with_reducible refine Below.alloc ?_ ?_ _); rotate_left; (first | omega | (simp <;> omega)); rotate_right) | ((with_reducible refine Below.setCell ?_ ?_ _); rotate_left; (first | omega | (simp <;> omega)); rotate_right) | (with_reducible assumption) | (refine Below.trans ?_ (Below.mono (by assumption) ?_); rotate_left; (first | omega | (simp <;> omega)); rotate_right)))⟩
        · have R2 := Lib.hid (show Lg.fine _ = false from R.out.trans (by simp [hs]))
          have zs : (s == 0) = false := by simp [hs]
          clear hp hs
          go_wp2_with fail
          refine (PL.out _).mono ?_
          rintro e w5 ⟨rfl, hb5⟩
          have hz5 := hb5.size
          have e6 := ((bcell hb5).1 w.heap.size 6 (by first | omega | (simp; done) | (simp; omega))).trans d6
          have HB5 := (show Below w.heap.size w w5 from (by repeat (first | (with_reducible exact Below.refl _ _) | (with_reducible refine Below.drew ?_) | (with_reducible refine below_drewN ?_ _) | ((with_reducible refine Below.alloc ?_ ?_ _); rotate_left; (first | omega | (simp <;> omega)); rotate_right) | ((with_reducible refine Below.setCell ?_ ?_ _); rotate_left; (first | omega | (simp <;> omega)); rotate_right) | (with_reducible assumption) | (refine Below.trans ?_ (Below.mono (by assumption) ?_); rotate_left; (first | omega | (simp <;> omega)); rotate_right))))
          clear hb5
          go_wp2_with fail
          go_ret
          exact ⟨ret_bool (R2.out).symm, (by repeat (first | (with_reducible exact Below.refl _ _) | (with_reducible refine Below.drew ?_) | (with_reducible refine below_drewN ?_ _) | ((with_reducible refine Below.alloc ?_ ?_ _); rotate_left; (first | omega | (simp <;> omega)); rotate_right) | ((with_reducible refine Below.setCell ?_ ?_ _); rotate_left; (first | omega | (simp <;> omega)); rotate_right) | (with_reducible assumption) | (refine Below.trans ?_ (Below.mono (by assumption) ?_); rotate_left; (first | omega | (simp <;> omega)); rotate_right)))⟩
    · have R2 := Lib.hid (show Lg.fine _ = false from R.out.trans (by simp [ha]))
      go_wp2_with fail
      go_ret
      exact ⟨ret_bool (R2.out).symm, (by repeat (first | (with_reducible exact Below.refl _ _) | (with_reducible refine Below.drew ?_) | (with_reducible refine below_drewN ?_ _) | ((with_reducible refine Below.alloc ?_ ?_ _); rotate_left; (first | omega | (simp <;> omega)); rotate_right) | ((with_reducible refine Below.setCell ?_ ?_ _); rotate_left; (first | omega | (simp <;> omega)); rotate_right) | (with_reducible assumption) | (refine Below.trans ?_ (Below.mono (by assumption) ?_); rotate_left; (first | omega | (simp <;> omega)); rotate_right)))⟩
  by_cases k2 : k = 2
  · subst k2
    have R := Lib.hid (show Lg.fine ⟨t, a, 2, x, y, z, s, ⟨fk, ff, ft, fs, d⟩, sum⟩ = (decide (0 ≤ s ∧ (s ≤ 7 ∨ s ≤ 9 ∧ a = 0)) && zv && zf) from FK.out.trans ((Lg.fineK2 rfl).trans (by rw [Lg.zF_eq, ← ZF.out, ZV.out]; rfl)))
    by_cases g1 : s < 0
    · skip
      have R2 := Lib.hid (show Lg.fine _ = false from R.out.trans (by rw [decide_eq_false (by omega)]; simp))
      try clear ha
      go_wp2_with fail
      go_ret
      exact ⟨ret_bool (R2.out).symm, (by repeat (first | (with_reducible exact Below.refl _ _) | (with_reducible refine Below.drew ?_) | (with_reducible refine below_drewN ?_ _) | ((with_reducible refine Below.alloc ?_ ?_ _); rotate_left; (first | omega | (simp <;> omega)); rotate_right) | ((with_reducible refine Below.setCell ?_ ?_ _); rotate_left; (first | omega | (simp <;> omega)); rotate_right) | (with_reducible assumption) | (refine Below.trans ?_ (Below.mono (by assumption) ?_); rotate_left; (first | omega | (simp <;> omega)); rotate_right)))⟩
    by_cases g2 : s ≤ 7
    · skip
      have R2 := Lib.hid (show Lg.fine _ = (zv && zf) from R.out.trans (by rw [decide_eq_true (by omega), Bool.true_and]))
      try clear ha
      cases zv
      · go_wp2_with fail
        go_ret
        exact ⟨ret_bool (R2.out).symm, (by repeat (first | (with_reducible exact Below.refl _ _) | (with_reducible refine Below.drew ?_) | (with_reducible refine below_drewN ?_ _) | ((with_reducible refine Below.alloc ?_ ?_ _); rotate_left; (first | omega | (simp <;> omega)); rotate_right) | ((with_reducible refine Below.setCell ?_ ?_ _); rotate_left; (first | omega | (simp <;> omega)); rotate_right) | (with_reducible assumption) | (refine Below.trans ?_ (Below.mono (by assumption) ?_); rotate_left; (first | omega | (simp <;> omega)); rotate_right)))⟩
      · cases zf
        all_goals
          go_wp2_with fail
          go_ret
          exact ⟨ret_bool (R2.out).symm, (by repeat (first | (with_reducible exact Below.refl _ _) | (with_reducible refine Below.drew ?_) | (with_reducible refine below_drewN ?_ _) | ((with_reducible refine Below.alloc ?_ ?_ _); rotate_left; (first | omega | (simp <;> omega)); rotate_right) | ((with_reducible refine Below.setCell ?_ ?_ _); rotate_left; (first | omega | (simp <;> omega)); rotate_right) | (with_reducible assumption) | (refine Below.trans ?_ (Below.mono (by assumption) ?_); rotate_left; (first | omega | (simp <;> omega)); rotate_right)))⟩
    by_cases g3 : 9 < s
    · skip
      have R2 := Lib.hid (show Lg.fine _ = false from R.out.trans (by rw [decide_eq_false (by omega)]; simp))
      try clear ha
      go_wp2_with fail
      go_ret
      exact ⟨ret_bool (R2.out).symm, (by repeat (first | (with_reducible exact Below.refl _ _) | (with_reducible refine Below.drew ?_) | (with_reducible refine below_drewN ?_ _) | ((with_reducible refine Below.alloc ?_ ?_ _); rotate_left; (first | omega | (simp <;> omega)); rotate_right) | ((with_reducible refine Below.setCell ?_ ?_ _); rotate_left; (first | omega | (simp <;> omega)); rotate_right) | (with_reducible assumption) | (refine Below.trans ?_ (Below.mono (by assumption) ?_); rotate_left; (first | omega | (simp <;> omega)); rotate_right)))⟩
    by_cases ha : a = 0
    · have za : (a == 0) = true := by simp [ha]
      have R2 := Lib.hid (show Lg.fine _ = (zv && zf) from R.out.trans (by rw [decide_eq_true (by omega), Bool.true_and]))
      try clear ha
      cases zv
      · go_wp2_with fail
        go_ret
        exact ⟨ret_bool (R2.out).symm, (by repeat (first | (with_reducible exact Below.refl _ _) | (with_reducible refine Below.drew ?_) | (with_reducible refine below_drewN ?_ _) | ((with_reducible refine Below.alloc ?_ ?_ _); rotate_left; (first | omega | (simp <;> omega)); rotate_right) | ((with_reducible refine Below.setCell ?_ ?_ _); rotate_left; (first | omega | (simp <;> omega)); rotate_right) | (with_reducible assumption) | (refine Below.trans ?_ (Below.mono (by assumption) ?_); rotate_left; (first | omega | (simp <;> omega)); rotate_right)))⟩
      · cases zf
        all_goals
          go_wp2_with fail
          go_ret
          exact ⟨ret_bool (R2.out).symm, (by repeat (first | (with_reducible exact Below.refl _ _) | (with_reducible refine Below.drew ?_) | (with_reducible refine below_drewN ?_ _) | ((with_reducible refine Below.alloc ?_ ?_ _); rotate_left; (first | omega | (simp <;> omega)); rotate_right) | ((with_reducible refine Below.setCell ?_ ?_ _); rotate_left; (first | omega | (simp <;> omega)); rotate_right) | (with_reducible assumption) | (refine Below.trans ?_ (Below.mono (by assumption) ?_); rotate_left; (first | omega | (simp <;> omega)); rotate_right)))⟩
    · have za : (a == 0) = false := by simp [ha]
      have R2 := Lib.hid (show Lg.fine _ = false from R.out.trans (by rw [decide_eq_false (by omega)]; simp))
      try clear ha
      go_wp2_with fail
      go_ret
      exact ⟨ret_bool (R2.out).symm, (by repeat (first | (with_reducible exact Below.refl _ _) | (with_reducible refine Below.drew ?_) | (with_reducible refine below_drewN ?_ _) | ((with_reducible refine Below.alloc ?_ ?_ _); rotate_left; (first | omega | (simp <;> omega)); rotate_right) | ((with_reducible refine Below.setCell ?_ ?_ _); rotate_left; (first | omega | (simp <;> omega)); rotate_right) | (with_reducible assumption) | (refine Below.trans ?_ (Below.mono (by assumption) ?_); rotate_left; (first | omega | (simp <;> omega)); rotate_right)))⟩
  by_cases k3 : k = 3
  · subst k3
    have R := Lib.hid (show Lg.fine ⟨t, a, 3, x, y, z, s, ⟨fk, ff, ft, fs, d⟩, sum⟩ = (Frm.vd fk ff ft fs d.length && decide (ff = a ∨ ft = a) && zv && decide (s = 0)) from FK.out.trans ((Lg.fineK3 rfl).trans (by rw [ZV.out]; rfl)))
    have VA := Lib.hid (fun W : World => rvalid_any fk ff ft fs A d.length cap W hcl.out)
    cases hv : Frm.vd fk ff ft fs d.length
    · rw [hv] at VA
      have R2 := Lib.hid (show Lg.fine _ = false from R.out.trans (by simp [hv]))
      clear hv
      go_wp2_with fail
      refine (VA.out _).mono ?_
      rintro e w5 ⟨rfl, hb5⟩
      have hz5 := hb5.size
      have HB5 := (show Below w.heap.size w w5 from (by repeat (first | (with_reducible exact Below.refl _ _) | (with_reducible refine Below.drew ?_) | (with_reducible refine below_drewN ?_ _) | ((with_reducible refine Below.alloc ?_ ?_ _); rotate_left; (first | omega | (simp <;> omega)); rotate_right) | ((with_reducible refine Below.setCell ?_ ?_ _); rotate_left; (first | omega | (simp <;> omega)); rotate_right) | (with_reducible assumption) | (refine Below.trans ?_ (Below.mono (by assumption) ?_); rotate_left; (first | omega | (simp <;> omega)); rotate_right))))
      clear hb5
      go_wp2_with fail
      go_ret
      exact ⟨ret_bool (R2.out).symm, (by repeat (first | (with_reducible exact Below.refl _ _) | (with_reducible refine Below.drew ?_) | (with_reducible refine below_drewN ?_ _) | ((with_reducible refine Below.alloc ?_ ?_ _); rotate_left; (first | omega | (simp <;> omega)); rotate_right) | ((with_reducible refine Below.setCell ?_ ?_ _); rotate_left; (first | omega | (simp <;> omega)); rotate_right) | (with_reducible assumption) | (refine Below.trans ?_ (Below.mono (by assumption) ?_); rotate_left; (first | omega | (simp <;> omega)); rotate_right)))⟩
    · rw [hv] at VA
      by_cases hf : ff = a
      · have zfa : (ff == a) = true := by simp [hf]
        have R2 := Lib.hid (show Lg.fine _ = (zv && decide (s = 0)) from R.out.trans (by rw [hv, decide_eq_true (Or.inl hf)]; simp))
        clear hv hf
        try clear hg
        cases zv
        · skip
          go_wp2_with fail
          refine (VA.out _).mono ?_
          rintro e w5 ⟨rfl, hb5⟩
          have hz5 := hb5.size
          have e1 := ((bcell hb5).1 w.heap.size 1 (by first | omega | (simp; done) | (simp; omega))).trans d1
          have e6 := ((bcell hb5).1 w.heap.size 6 (by first | omega | (simp; done) | (simp; omega))).trans d6
          have e8 := ((bcell hb5).1 w.heap.size 8 (by first | omega | (simp; done) | (simp; omega))).trans d8
          have e9 := ((bcell hb5).1 w.heap.size 9 (by first | omega | (simp; done) | (simp; omega))).trans d9
          have HB5 := (show Below w.heap.size w w5 from (by repeat (first | (with_reducible exact Below.refl _ _) | (with_reducible refine Below.drew ?_) | (with_reducible refine below_drewN ?_ _) | ((with_reducible refine Below.alloc ?_ ?_ _); rotate_left; (first | omega | (simp <;> omega)); rotate_right) | ((with_reducible refine Below.setCell ?_ ?_ _); rotate_left; (first | omega | (simp <;> omega)); rotate_right) | (with_reducible assumption) | (refine Below.trans ?_ (Below.mono (by assumption) ?_); rotate_left; (first | omega | (simp <;> omega)); rotate_right))))
          clear hb5
          go_wp2_with fail
          go_ret
          exact ⟨ret_bool (R2.out).symm, (by repeat (first | (with_reducible exact Below.refl _ _) | (with_reducible refine Below.drew ?_) | (with_reducible refine below_drewN ?_ _) | ((with_reducible refine Below.alloc ?_ ?_ _); rotate_left; (first | omega | (simp <;> omega)); rotate_right) | ((with_reducible refine Below.setCell ?_ ?_ _); rotate_left; (first | omega | (simp <;> omega)); rotate_right) | (with_reducible assumption) | (refine Below.trans ?_ (Below.mono (by assumption) ?_); rotate_left; (first | omega | (simp <;> omega)); rotate_right)))⟩
        · by_cases hs : s = 0
          · have R3 := Lib.hid (R2.out.trans (by simp [hs] : _ = true))
            have zs : (s == 0) = true := by simp [hs]
            clear hs
            go_wp2_with fail
            refine (VA.out _).mono ?_
            rintro e w5 ⟨rfl, hb5⟩
            have hz5 := hb5.size
            have e1 := ((bcell hb5).1 w.heap.size 1 (by first | omega | (simp; done) | (simp; omega))).trans d1
            have e6 := ((bcell hb5).1 w.heap.size 6 (by first | omega | (simp; done) | (simp; omega))).trans d6
            have e8 := ((bcell hb5).1 w.heap.size 8 (by first | omega | (simp; done) | (simp; omega))).trans d8
            have e9 := ((bcell hb5).1 w.heap.size 9 (by first | omega | (simp; done) | (simp; omega))).trans d9
            have HB5 := (show Below w.heap.size w w5 from (by repeat (first | (with_reducible exact Below.refl _ _) | (with_reducible refine Below.drew ?_) | (with_reducible refine below_drewN ?_ _) | ((with_reducible refine Below.alloc ?_ ?_ _); rotate_left; (first | omega | (simp <;> omega)); rotate_right) | ((with_reducible refine Below.setCell ?_ ?_ _); rotate_left; (first | omega | (simp <;> omega)); rotate_right) | (with_reducible assumption) | (refine Below.trans ?_ (Below.mono (by assumption) ?_); rotate_left; (first | omega | (simp <;> omega)); rotate_right))))
            clear hb5
            go_wp2_with fail
            go_ret
            exact ⟨ret_bool (R3.out).symm, (by repeat (first | (with_reducible exact Below.refl _ _) | (with_reducible refine Below.drew ?_) | (with_reducible refine below_drewN ?_ _) | ((with_reducible refine Below.alloc ?_ ?_ _); rotate_left; (first | omega | (simp <;> omega)); rotate_right) | ((with_reducible refine Below.setCell ?_ ?_ _); rotate_left; (first | omega | (simp <;> omega)); rotate_right) | (with_reducible assumption) | (refine Below.trans ?_ (Below.mono (by assumption) ?_); rotate_left; (first | omega | (simp <;> omega)); rotate_right)))⟩
          · have R3 := Lib.hid (R2.out.trans (by simp [hs] : _ = false))
            have zs : (s == 0) = false := by simp [hs]
            clear hs
            go_wp2_with fail
            refine (VA.out _).mono ?_
            rintro e w5 ⟨rfl, hb5⟩
            have hz5 := hb5.size
            have e1 := ((bcell hb5).1 w.heap.size 1 (by first | omega | (simp; done) | (simp; omega))).trans d1
            have e6 := ((bcell hb5).1 w.heap.size 6 (by first | omega | (simp; done) | (simp; omega))).trans d6
            have e8 := ((bcell hb5).1 w.heap.size 8 (by first | omega | (simp; done) | (simp; omega))).trans d8
            have e9 := ((bcell hb5).1 w.heap.size 9 (by first | omega | (simp; done) | (simp; omega))).trans d9
            have HB5 := (show Below w.heap.size w w5 from (by repeat (first | (with_reducible exact Below.refl _ _) | (with_reducible refine Below.drew ?_) | (with_reducible refine below_drewN ?_ _) | ((with_reducible refine Below.alloc ?_ ?_ _); rotate_left; (first | omega | (simp <;> omega)); rotate_right) | ((with_reducible refine Below.setCell ?_ ?_ _); rotate_left; (first | omega | (simp <;> omega)); rotate_right) | (with_reducible assumption) | (refine Below.trans ?_ (Below.mono (by assumption) ?_); rotate_left; (first | omega | (simp <;> omega)); rotate_right))))
            clear hb5
            go_wp2_with fail
            go_ret
            exact ⟨ret_bool (R3.out).symm, (by repeat (first | (with_reducible exact Below.refl _ _) | (with_reducible refine Below.drew ?_) | (with_reducible refine below_drewN ?_ _) | ((with_reducible refine Below.alloc ?_ ?_ _); rotate_left; (first | omega | (simp <;> omega)); rotate_right) | ((with_reducible refine Below.setCell ?_ ?_ _); rotate_left; (first | omega | (simp <;> omega)); rotate_right) | (with_reducible assumption) | (refine Below.trans ?_ (Below.mono (by assumption) ?_); rotate_left; (first | omega | (simp <;> omega)); rotate_right)))⟩
      · have zfa : (ff == a) = false := by simp [hf]
        by_cases hg : ft = a
        · have zga : (ft == a) = true := by simp [hg]
          have R2 := Lib.hid (show Lg.fine _ = (zv && decide (s = 0)) from R.out.trans (by rw [hv, decide_eq_true (Or.inr hg)]; simp))
          clear hv hf
          try clear hg
          cases zv
          · skip
            go_wp2_with fail
            refine (VA.out _).mono ?_
            rintro e w5 ⟨rfl, hb5⟩
            have hz5 := hb5.size
            have e1 := ((bcell hb5).1 w.heap.size 1 (by first | omega | (simp; done) | (simp; omega))).trans d1
            have e6 := ((bcell hb5).1 w.heap.size 6 (by first | omega | (simp; done) | (simp; omega))).trans d6
            have e8 := ((bcell hb5).1 w.heap.size 8 (by first | omega | (simp; done) | (simp; omega))).trans d8
            have e9 := ((bcell hb5).1 w.heap.size 9 (by first | omega | (simp; done) | (simp; omega))).trans d9
            have HB5 := (show Below w.heap.size w w5 from (by repeat (first | (with_reducible exact Below.refl _ _) | (with_reducible refine Below.drew ?_) | (with_reducible refine below_drewN ?_ _) | ((with_reducible refine Below.alloc ?_ ?_ _); rotate_left; (first | omega | (simp <;> omega)); rotate_right) | ((with_reducible refine Below.setCell ?_ ?_ _); rotate_left; (first | omega | (simp <;> omega)); rotate_right) | (with_reducible assumption) | (refine Below.trans ?_ (Below.mono (by assumption) ?_); rotate_left; (first | omega | (simp <;> omega)); rotate_right))))
            clear hb5
            go_wp2_with fail
            go_ret
            exact ⟨ret_bool (R2.out).symm, (by repeat (first | (with_reducible exact Below.refl _ _) | (with_reducible refine Below.drew ?_) | (with_reducible refine below_drewN ?_ _) | ((with_reducible refine Below.alloc ?_ ?_ _); rotate_left; (first | omega | (simp <;> omega)); rotate_right) | ((with_reducible refine Below.setCell ?_ ?_ _); rotate_left; (first | omega | (simp <;> omega)); rotate_right) | (with_reducible assumption) | (refine Below.trans ?_ (Below.mono (by assumption) ?_); rotate_left; (first | omega | (simp <;> omega)); rotate_right)))⟩
          · by_cases hs : s = 0
            · have R3 := Lib.hid (R2.out.trans (by simp [hs] : _ = true))
              have zs : (s == 0) = true := by simp [hs]
              clear hs
              go_wp2_with fail
              refine (VA.out _).mono ?_
              rintro e w5 ⟨rfl, hb5⟩
              have hz5 := hb5.size
              have e1 := ((bcell hb5).1 w.heap.size 1 (by first | omega | (simp; done) | (simp; omega))).trans d1
              have e6 := ((bcell hb5).1 w.heap.size 6 (by first | omega | (simp; done) | (simp; omega))).trans d6
              have e8 := ((bcell hb5).1 w.heap.size 8 (by first | omega | (simp; done) | (simp; omega))).trans d8
              have e9 := ((bcell hb5).1 w.heap.size 9 (by first | omega | (simp; done) | (simp; omega))).trans d9
              have HB5 := (show Below w.heap.size w w5 from (by repeat (first | (with_reducible exact Below.refl _ _) | (with_reducible refine Below.drew ?_) | (with_reducible refine below_drewN ?_ _) | ((with_reducible refine Below.alloc ?_ ?_ _); rotate_left; (first | omega | (simp <;> omega)); rotate_right) | ((with_reducible refine Below.setCell ?_ ?_ _); rotate_left; (first | omega | (simp <;> omega)); rotate_right) | (with_reducible assumption) | (refine Below.trans ?_ (Below.mono (by assumption) ?_); rotate_left; (first | omega | (simp <;> omega)); rotate_right))))
              clear hb5
              go_wp2_with fail
              go_ret
              exact ⟨ret_bool (R3.out).symm, (by repeat (first | (with_reducible exact Below.refl _ _) | (with_reducible refine Below.drew ?_) | (with_reducible refine below_drewN ?_ _) | ((with_reducible refine Below.alloc ?_ ?_ _); rotate_left; (first | omega | (simp <;> omega)); rotate_right) | ((with_reducible refine Below.setCell ?_ ?_ _); rotate_left; (first | omega | (simp <;> omega)); rotate_right) | (with_reducible assumption) | (refine Below.trans ?_ (Below.mono (by assumption) ?_); rotate_left; (first | omega | (simp <;> omega)); rotate_right)))⟩
            · have R3 := Lib.hid (R2.out.trans (by simp [hs] : _ = false))
              have zs : (s == 0) = false := by simp [hs]
              clear hs
              go_wp2_with fail
              refine (VA.out _).mono ?_
              rintro e w5 ⟨rfl, hb5⟩
              have hz5 := hb5.size
              have e1 := ((bcell hb5).1 w.heap.size 1 (by first | omega | (simp; done) | (simp; omega))).trans d1
              have e6 := ((bcell hb5).1 w.heap.size 6 (by first | omega | (simp; done) | (simp; omega))).trans d6
              have e8 := ((bcell hb5).1 w.heap.size 8 (by first | omega | (simp; done) | (simp; omega))).trans d8
              have e9 := ((bcell hb5).1 w.heap.size 9 (by first | omega | (simp; done) | (simp; omega))).trans d9
              have HB5 := (show Below w.heap.size w w5 from (by repeat (first | (with_reducible exact Below.refl _ _) | (with_reducible refine Below.drew ?_) | (with_reducible refine below_drewN ?_ _) | ((with_reducible refine Below.alloc ?_ ?_ _); rotate_left; (first | omega | (simp <;> omega)); rotate_right) | ((with_reducible refine Below.setCell ?_ ?_ _); rotate_left; (first | omega | (simp <;> omega)); rotate_right) | (with_reducible assumption) | (refine Below.trans ?_ (Below.mono (by assumption) ?_); rotate_left; (first | omega | (simp <;> omega)); rotate_right))))
              clear hb5
              go_wp2_with fail
              go_ret
              exact ⟨ret_bool (R3.out).symm, (by repeat (first | (with_reducible exact Below.refl _ _) | (with_reducible refine Below.drew ?_) | (with_reducible refine below_drewN ?_ _) | ((with_reducible refine Below.alloc ?_ ?_ _); rotate_left; (first | omega | (simp <;> omega)); rotate_right) | ((with_reducible refine Below.setCell ?_ ?_ _); rotate_left; (first | omega | (simp <;> omega)); rotate_right) | (with_reducible assumption) | (refine Below.trans ?_ (Below.mono (by assumption) ?_); rotate_left; (first | omega | (simp <;> omega)); rotate_right)))⟩
        · have zga : (ft == a) = false := by simp [hg]
          have R2 := Lib.hid (show Lg.fine _ = false from R.out.trans (by simp [hf, hg]))
          clear hv hf hg
          go_wp2_with fail
          refine (VA.out _).mono ?_
          rintro e w5 ⟨rfl, hb5⟩
          have hz5 := hb5.size
          have e1 := ((bcell hb5).1 w.heap.size 1 (by first | omega | (simp; done) | (simp; omega))).trans d1
          have e6 := ((bcell hb5).1 w.heap.size 6 (by first | omega | (simp; done) | (simp; omega))).trans d6
          have e8 := ((bcell hb5).1 w.heap.size 8 (by first | omega | (simp; done) | (simp; omega))).trans d8
          have e9 := ((bcell hb5).1 w.heap.size 9 (by first | omega | (simp; done) | (simp; omega))).trans d9
          have HB5 := (show Below w.heap.size w w5 from (by repeat (first | (with_reducible exact Below.refl _ _) | (with_reducible refine Below.drew ?_) | (with_reducible refine below_drewN ?_ _) | ((with_reducible refine Below.alloc ?_ ?_ _); rotate_left; (first | omega | (simp <;> omega)); rotate_right) | ((with_reducible refine Below.setCell ?_ ?_ _); rotate_left; (first | omega | (simp <;> omega)); rotate_right) | (with_reducible assumption) | (refine Below.trans ?_ (Below.mono (by assumption) ?_); rotate_left; (first | omega | (simp <;> omega)); rotate_right))))
          clear hb5
          go_wp2_with fail
          go_ret
          exact ⟨ret_bool (R2.out).symm, (by repeat (first | (with_reducible exact Below.refl _ _) | (with_reducible refine Below.drew ?_) | (with_reducible refine below_drewN ?_ _) | ((with_reducible refine Below.alloc ?_ ?_ _); rotate_left; (first | omega | (simp <;> omega)); rotate_right) | ((with_reducible refine Below.setCell ?_ ?_ _); rotate_left; (first | omega | (simp <;> omega)); rotate_right) | (with_reducible assumption) | (refine Below.trans ?_ (Below.mono (by assumption) ?_); rotate_left; (first | omega | (simp <;> omega)); rotate_right)))⟩
  have R2 := Lib.hid (show Lg.fine _ = false from FK.out.trans (Lg.fineK0 k1 k2 k3))
  have z1 : (k == 1) = false := by simp [k1]
  have z2 : (k == 2) = false := by simp [k2]
  have z3 : (k == 3) = false := by simp [k3]
  go_wp2_with fail
  go_ret
  exact ⟨ret_bool (R2.out).symm, (by repeat (first | (with_reducible exact Below.refl _ _) | (with_reducible refine Below.drew ?_) | (with_reducible refine below_drewN ?_ _) | ((with_reducible refine Below.alloc ?_ ?_ _); rotate_left; (first | omega | (simp <;> omega)); rotate_right) | ((with_reducible refine Below.setCell ?_ ?_ _); rotate_left; (first | omega | (simp <;> omega)); rotate_right) | (with_reducible assumption) | (refine Below.trans ?_ (Below.mono (by assumption) ?_); rotate_left; (first | omega | (simp <;> omega)); rotate_right)))⟩
end Go.Proofs.Ytgmejplcdecmkaa

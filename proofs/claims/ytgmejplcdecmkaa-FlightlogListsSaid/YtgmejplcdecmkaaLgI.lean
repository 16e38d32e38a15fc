/- Len, End, may, own of a log. -/
import Derived.Test.YtgmejplcdecmkaaLgH
import Derived.StillTailTactics
import Derived.Laws.Tables
namespace Go.Proofs.Ytgmejplcdecmkaa
open Go.RowKit
set_option maxHeartbeats 8000000
set_option maxRecDepth 100000
set_option linter.unusedSimpArgs false
set_option linter.unusedVariables false
attribute [local go_sem ↓] Go.wp_at_zero Go.wp_at_succ
theorem Keeps.setRow {S : Nat → Prop} {w w' : World} (h : Keeps S w w') {g : Nat} (hg : S g ∨ w.heap.size ≤ g) (cs : Array Value) : Keeps S w (w'.setRow g cs) :=
  ⟨h.os, h.tape, h.output, by simpa [World.setRow] using h.size, fun i hi hn => (setRow_other w' g i cs (by
    rintro rfl
    rcases hg with hg | hg
    · exact hn hg
    · omega)).trans (h.block i hi hn)⟩
theorem Ow.kept {S : Nat → Prop} {w w' : World} {base n cap : Nat} {A : Option Addr} {l : List Int} (h : Ow w base A n cap l) (k : Keeps S w w') (hS : ∀ g, A = some ⟨g, 0, none⟩ → ¬ S g) : Ow w' base A n cap l := by
  refine ⟨⟨h.1.1, ?_⟩, h.2⟩
  rcases h.1.2 with e | ⟨g, c, cur, e, hb, hh, rest⟩
  · exact .inl e
  · refine .inr ⟨g, c, cur, e, hb, blk_keep hh k (hS g ?_), rest⟩
    injection e
theorem rv_ones (v : Lg.RV) : v.cells.toArray.all (·.oneCell') = true := by
  rw [List.all_toArray, List.all_eq_true]
  exact v.one
theorem llen_nil (w : World) : Calls Try.prog 23 #[.pointer none] w fun e w' => e = .returned (.int .i64 0) ∧ w = w' := by
  go_enter Try.func23, Try.ntmps23
  go_wp2_with fail
  go_ret
  exact ⟨rfl, rfl⟩
theorem lend_nil (w : World) : Calls Try.prog 27 #[.pointer none] w fun e w' => e = .returned (.int .u32 0) ∧ w = w' := by
  go_enter Try.func27, Try.ntmps27
  go_wp2_with fail
  refine (llen_nil _).mono ?_
  rintro e w' ⟨rfl, rfl⟩
  go_wp2_with fail
  go_ret
  exact ⟨rfl, rfl⟩
section
variable {w w' : World} {base p c n : Nat} {X X' : Nat → Prop} {A : Option Addr} {vs : List Lg.RV}
open Lg (IsLg)
theorem llen_any (h : IsLg w base p A c vs X) : Calls Try.prog 23 #[.pointer (some ⟨p, 0, none⟩)] w fun e w' => e = .returned (.int .i64 vs.length) ∧ w = w' := by
  have c0 : w.cell? ⟨p, 0, none⟩ = some (.slice A vs.length c) := blk_cell (l := [_]) h.blk 0 rfl
  clear h
  go_enter Try.func23, Try.ntmps23
  go_wp2_with fail
  go_ret
  exact ⟨rfl, rfl⟩
theorem lend_any (h : IsLg w base p A c vs X) (hn : vs.length ≤ 1000000) : Calls Try.prog 27 #[.pointer (some ⟨p, 0, none⟩)] w fun e w' => e = .returned (.int .u32 (Lg.endS (Lg.xs vs))) ∧ ∃ q, w' = w.drewN q := by
  have L := Lib.hid (llen_any h)
  have c0 : w.cell? ⟨p, 0, none⟩ = some (.slice A vs.length c) := blk_cell (l := [_]) h.blk 0 rfl
  have RR := Lib.hid h.rr
  clear h
  obtain ⟨n, hvn⟩ : ∃ n, n = vs.length := ⟨_, rfl⟩
  rw [← hvn] at c0 hn L RR
  rcases Nat.eq_zero_or_pos n with h0 | h0
  · subst h0
    have E := Lib.hid (show Lg.endS (Lg.xs vs) = 0 by rw [List.eq_nil_of_length_eq_zero hvn.symm]; rfl)
    clear hvn
    go_enter Try.func27, Try.ntmps27
    go_wp2_with fail
    refine L.out.mono ?_
    rintro e w' ⟨rfl, rfl⟩
    go_wp2_with fail
    go_ret
    exact ⟨ret_int E.out.symm, 0, rfl⟩
  · obtain ⟨m, rfl⟩ : ∃ m, n = m + 1 := ⟨n - 1, by omega⟩
    obtain ⟨b, o, rfl, hb, hc, _⟩ := RR.out.at_ (i := m) (by omega)
    have E := Lib.hid (show Lg.endS (Lg.xs vs) = (vs.getD m Lg.rv0).x.sum by unfold Lg.endS Lg.lastR; rw [Lg.xs_len, ← hvn, Nat.add_sub_cancel, Lg.xs_at (by omega)])
    have c12 := hc 12 _ rfl
    clear hc RR hvn
    have i1 : IntKind.i64.wrap (((m + 1 : Nat) : Int) - 1) = (m : Int) := by rw [IntWalk.i64_in _ (by omega)]; omega
    have i2 : (m : Int) < ((m + 1 : Nat) : Int) := by omega
    have i3 : (((m + 1 : Nat) : Int) == 0) = false := by rw [beq_eq_false_iff_ne]; omega
    rw [E.out]
    generalize (vs.getD m Lg.rv0).x.sum = z at c12 ⊢
    generalize hN : m + 1 = N at *
    go_enter Try.func27, Try.ntmps27
    go_wp2_with fail
    refine L.out.mono ?_
    rintro e w' ⟨rfl, rfl⟩
    go_wp2_with fail
    go_quiet (fail)
    go_wp2_with fail
    go_ret
    exact ⟨rfl, _, rfl⟩
theorem arr_cell {w : World} {q i : Nat} {C : Array Value} {t : TypeId} {v : Value} (h : w.heap[q]? = some (.cells C t (0, 0))) (hv : C[i]? = some v) : w.cell? ⟨q, i, none⟩ = some v := by simp [World.cell?, h, hv]
/-- a record's value, its cells not looked at -/
theorem rv_opaque (v : Lg.RV) : ∃ C : Array Value, v.val = .agg C ∧ v.cells.toArray = C ∧ C.size = 13 := ⟨v.cells.toArray, rfl, rfl, rfl⟩
theorem lmay_any (h : IsLg w base p A c vs X) (hn : vs.length ≤ 1000000) (v : Lg.RV) (hv : Lg.Ok w w.heap.size v) :
    Calls Try.prog 46 #[.pointer (some ⟨p, 0, none⟩), v.val] w fun e w' => e = .returned (.int .i64 (Lg.mayE (Lg.xs vs) v.x)) ∧ Below w.heap.size w w' := by
  have HV := Lib.hid hv
  have F := Lib.hid (fun (W : World) (hW : Below w.heap.size w W) => fine_any v W ((HV.out.below hW (Nat.le_refl _)).more hW.size))
  have c0 : w.cell? ⟨p, 0, none⟩ = some (.slice A vs.length c) := blk_cell (l := [_]) h.blk 0 rfl
  have hp := h.lt
  have RR := Lib.hid h.rr
  obtain ⟨C, hval, hC, hCs⟩ := rv_opaque v
  have hC0 : C[0]? = some (.int .i64 v.x.t) := by rw [← hC]; rfl
  rw [hval] at F ⊢
  clear h hv hval hC HV
  obtain ⟨n, hvn⟩ : ∃ n, n = vs.length := ⟨_, rfl⟩
  rw [← hvn] at c0 hn RR
  have HN := Lib.hid hvn
  clear hvn
  cases hf : Lg.fine v.x
  · have E := Lib.hid (show Lg.mayE (Lg.xs vs) v.x = 2 by unfold Lg.mayE; rw [hf]; rfl)
    rw [hf] at F
    clear hf
    go_enter Try.func46, Try.ntmps46
    go_upto_region 1 with fail
    have hbx := heap_new w (.cells C 32 (0, 0))
    go_wp2_with (refine wpList_load_row rfl 32 _ rfl _ rfl 32 _ (0, 0) _ hbx Try.underlying32 rfl (by rw [hCs]; kernel_rfl) ?_)
    refine (F.out _ (by repeat (first | (with_reducible exact Below.refl _ _) | (with_reducible refine Below.drew ?_) | (with_reducible refine below_drewN ?_ _) | ((with_reducible refine Below.alloc ?_ ?_ _); rotate_left; (first | omega | (simp <;> omega)); rotate_right) | ((with_reducible refine Below.setCell ?_ ?_ _); rotate_left; (first | omega | (simp <;> omega)); rotate_right) | (with_reducible assumption) | (refine Below.trans ?_ (Below.mono (by assumption) ?_); rotate_left; (first | omega | (simp <;> omega)); rotate_right)))).mono ?_
    rintro e w1 ⟨rfl, hb1⟩
    have hz1 := hb1.size
    simp only [World.size_alloc] at hz1
    go_wp2_with fail
    go_ret
    exact ⟨ret_int E.out.symm, (by repeat (first | (with_reducible exact Below.refl _ _) | (with_reducible refine Below.drew ?_) | (with_reducible refine below_drewN ?_ _) | ((with_reducible refine Below.alloc ?_ ?_ _); rotate_left; (first | omega | (simp <;> omega)); rotate_right) | ((with_reducible refine Below.setCell ?_ ?_ _); rotate_left; (first | omega | (simp <;> omega)); rotate_right) | (with_reducible assumption) | (refine Below.trans ?_ (Below.mono (by assumption) ?_); rotate_left; (first | omega | (simp <;> omega)); rotate_right)))⟩
  · rw [hf] at F
    have HF := Lib.hid hf
    clear hf
    rcases Nat.eq_zero_or_pos n with h0 | h0
    · subst h0
      have E := Lib.hid (show Lg.mayE (Lg.xs vs) v.x = 0 by
        unfold Lg.mayE
        rw [HF.out, Lg.xs_len, ← HN.out]
        rfl)
      go_enter Try.func46, Try.ntmps46; go_upto_region 1 with fail; have hbx := heap_new w (.cells C 32 (0, 0)); go_wp2_with (refine wpList_load_row rfl 32 _ rfl _ rfl 32 _ (0, 0) _ hbx Try.underlying32 rfl (by rw [hCs]; kernel_rfl) ?_); refine (F.out _ (by repeat (first | (with_reducible exact Below.refl _ _) | (with_reducible refine Below.drew ?_) | (with_reducible refine below_drewN ?_ _) | ((with_reducible refine Below.alloc ?_ ?_ _); rotate_left; (first | omega | (simp <;> omega)); rotate_right) | ((with_reducible refine Below.setCell ?_ ?_ _); rotate_left; (first | omega | (simp <;> omega)); rotate_right) | (with_reducible assumption) | (refine Below.trans ?_ (Below.mono (by assumption) ?_); rotate_left; (first | omega | (simp <;> omega)); rotate_right)))).mono ?_; rintro e w1 ⟨rfl, hb1⟩; have hz1 := hb1.size; simp only [World.size_alloc] at hz1; have q0 := ((bcell hb1).1 w.heap.size 0 (by simp)).trans (arr_cell hbx hC0); have p0 := ((bcell hb1).1 p 0 (by simp; omega)).trans ((World.cell?_alloc_lt w _ ⟨p, 0, none⟩ hp).trans c0); (try (have kk := ((bcell hb1).1 b _ (by simp; omega)).trans ((World.cell?_alloc_lt w _ ⟨b, _, none⟩ hb).trans k0))); have HB1 := (show Below w.heap.size w w1 from (by repeat (first | (with_reducible exact Below.refl _ _) | (with_reducible refine Below.drew ?_) | (with_reducible refine below_drewN ?_ _) | ((with_reducible refine Below.alloc ?_ ?_ _); rotate_left; (first | omega | (simp <;> omega)); rotate_right) | ((with_reducible refine Below.setCell ?_ ?_ _); rotate_left; (first | omega | (simp <;> omega)); rotate_right) | (with_reducible assumption) | (refine Below.trans ?_ (Below.mono (by assumption) ?_); rotate_left; (first | omega | (simp <;> omega)); rotate_right)))); clear hb1 hbx; go_wp2_with fail
      go_quiet (fail)
      go_wp2_with fail
      go_ret
      exact ⟨ret_int E.out.symm, below_drewN HB1 _⟩
    · obtain ⟨m, rfl⟩ : ∃ m, n = m + 1 := ⟨n - 1, by omega⟩
      obtain ⟨b, o, rfl, hb, hc, _⟩ := RR.out.at_ (i := m) (by omega)
      have hl : (Lg.lastR (Lg.xs vs)).t = (vs.getD m Lg.rv0).x.t := by unfold Lg.lastR; rw [Lg.xs_len, ← HN.out, Nat.add_sub_cancel, Lg.xs_at (by rw [← HN.out]; omega)]
      have k0 := hc 0 _ rfl
      have E0 := Lib.hid (show ∀ z, (vs.getD m Lg.rv0).x.t = z → Lg.mayE (Lg.xs vs) v.x = if v.x.t < z then 8 else 0 from fun z hz => by
        unfold Lg.mayE
        rw [HF.out, if_pos rfl, Lg.xs_len, ← HN.out, hl, hz]
        by_cases hh : v.x.t < z
        · rw [if_pos hh, if_pos ⟨by omega, hh⟩]
        · rw [if_neg hh, if_neg (fun h => hh h.2)])
      obtain ⟨z, hz⟩ : ∃ z, (vs.getD m Lg.rv0).x.t = z := ⟨_, rfl⟩
      have E1 := Lib.hid (E0.out z hz)
      rw [Nat.add_zero, hz] at k0
      clear hc RR HN E0 hl hz HF
      have i1 : IntKind.i64.wrap (((m + 1 : Nat) : Int) - 1) = (m : Int) := by rw [IntWalk.i64_in _ (by omega)]; omega
      have i2 : (m : Int) < ((m + 1 : Nat) : Int) := by omega
      have i3 : (0 : Int) < ((m + 1 : Nat) : Int) := by omega
      generalize hN : m + 1 = N at *
      generalize v.x.t = t at *
      by_cases htz : t < z
      · have E2 := Lib.hid (E1.out.trans (if_pos htz))
        clear E1
        go_enter Try.func46, Try.ntmps46; go_upto_region 1 with fail; have hbx := heap_new w (.cells C 32 (0, 0)); go_wp2_with (refine wpList_load_row rfl 32 _ rfl _ rfl 32 _ (0, 0) _ hbx Try.underlying32 rfl (by rw [hCs]; kernel_rfl) ?_); refine (F.out _ (by repeat (first | (with_reducible exact Below.refl _ _) | (with_reducible refine Below.drew ?_) | (with_reducible refine below_drewN ?_ _) | ((with_reducible refine Below.alloc ?_ ?_ _); rotate_left; (first | omega | (simp <;> omega)); rotate_right) | ((with_reducible refine Below.setCell ?_ ?_ _); rotate_left; (first | omega | (simp <;> omega)); rotate_right) | (with_reducible assumption) | (refine Below.trans ?_ (Below.mono (by assumption) ?_); rotate_left; (first | omega | (simp <;> omega)); rotate_right)))).mono ?_; rintro e w1 ⟨rfl, hb1⟩; have hz1 := hb1.size; simp only [World.size_alloc] at hz1; have q0 := ((bcell hb1).1 w.heap.size 0 (by simp)).trans (arr_cell hbx hC0); have p0 := ((bcell hb1).1 p 0 (by simp; omega)).trans ((World.cell?_alloc_lt w _ ⟨p, 0, none⟩ hp).trans c0); (try (have kk := ((bcell hb1).1 b _ (by simp; omega)).trans ((World.cell?_alloc_lt w _ ⟨b, _, none⟩ hb).trans k0))); have HB1 := (show Below w.heap.size w w1 from (by repeat (first | (with_reducible exact Below.refl _ _) | (with_reducible refine Below.drew ?_) | (with_reducible refine below_drewN ?_ _) | ((with_reducible refine Below.alloc ?_ ?_ _); rotate_left; (first | omega | (simp <;> omega)); rotate_right) | ((with_reducible refine Below.setCell ?_ ?_ _); rotate_left; (first | omega | (simp <;> omega)); rotate_right) | (with_reducible assumption) | (refine Below.trans ?_ (Below.mono (by assumption) ?_); rotate_left; (first | omega | (simp <;> omega)); rotate_right)))); clear hb1 hbx; go_wp2_with fail
        go_quiet (fail)
        go_wp2_with fail
        go_ret
        exact ⟨ret_int E2.out.symm, below_drewN HB1 _⟩
      · have E2 := Lib.hid (E1.out.trans (if_neg htz))
        clear E1
        go_enter Try.func46, Try.ntmps46; go_upto_region 1 with fail; have hbx := heap_new w (.cells C 32 (0, 0)); go_wp2_with (refine wpList_load_row rfl 32 _ rfl _ rfl 32 _ (0, 0) _ hbx Try.underlying32 rfl (by rw [hCs]; kernel_rfl) ?_); refine (F.out _ (by repeat (first | (with_reducible exact Below.refl _ _) | (with_reducible refine Below.drew ?_) | (with_reducible refine below_drewN ?_ _) | ((with_reducible refine Below.alloc ?_ ?_ _); rotate_left; (first | omega | (simp <;> omega)); rotate_right) | ((with_reducible refine Below.setCell ?_ ?_ _); rotate_left; (first | omega | (simp <;> omega)); rotate_right) | (with_reducible assumption) | (refine Below.trans ?_ (Below.mono (by assumption) ?_); rotate_left; (first | omega | (simp <;> omega)); rotate_right)))).mono ?_; rintro e w1 ⟨rfl, hb1⟩; have hz1 := hb1.size; simp only [World.size_alloc] at hz1; have q0 := ((bcell hb1).1 w.heap.size 0 (by simp)).trans (arr_cell hbx hC0); have p0 := ((bcell hb1).1 p 0 (by simp; omega)).trans ((World.cell?_alloc_lt w _ ⟨p, 0, none⟩ hp).trans c0); (try (have kk := ((bcell hb1).1 b _ (by simp; omega)).trans ((World.cell?_alloc_lt w _ ⟨b, _, none⟩ hb).trans k0))); have HB1 := (show Below w.heap.size w w1 from (by repeat (first | (with_reducible exact Below.refl _ _) | (with_reducible refine Below.drew ?_) | (with_reducible refine below_drewN ?_ _) | ((with_reducible refine Below.alloc ?_ ?_ _); rotate_left; (first | omega | (simp <;> omega)); rotate_right) | ((with_reducible refine Below.setCell ?_ ?_ _); rotate_left; (first | omega | (simp <;> omega)); rotate_right) | (with_reducible assumption) | (refine Below.trans ?_ (Below.mono (by assumption) ?_); rotate_left; (first | omega | (simp <;> omega)); rotate_right)))); clear hb1 hbx; go_wp2_with fail
        go_quiet (fail)
        go_wp2_with fail
        go_ret
        exact ⟨ret_int E2.out.symm, below_drewN HB1 _⟩
/-- a record that shares no memory -/
theorem lown_any (v : Lg.RV) (w : World) (hv : Lg.Ok w w.heap.size v) (hd : v.x.f.d.length ≤ 1000) :
    Calls Try.prog 54 #[v.val] w fun e w' => ∃ A' c', e = .returned (Lg.RV.val ⟨v.x, A', c'⟩) ∧ Ow w' w.heap.size A' v.x.f.d.length c' v.x.f.d ∧ Below w.heap.size w w' := by
  have CL := Lib.hid (fun (W : World) (hW : Below w.heap.size w W) => clone_any v.A v.x.f.d.length v.cap v.x.f.d W (by omega) (fun h => (hv.2.2.2 h).1) ((hv.1.below hW (Nat.le_refl _)).more hW.size))
  clear hv
  obtain ⟨⟨t, a, k, x, y, z, s, ⟨fk, ff, ft, fs, d⟩, sum⟩, A, cap⟩ := v
  simp only at CL
  simp only [Lg.RV.val, Lg.RV.cells]
  go_enter Try.func54, Try.ntmps54
  go_wp2_with fail
  refine (CL.out _ (by repeat (first | (with_reducible exact Below.refl _ _) | (with_reducible refine Below.drew ?_) | (with_reducible refine below_drewN ?_ _) | ((with_reducible refine Below.alloc ?_ ?_ _); rotate_left; (first | omega | (simp <;> omega)); rotate_right) | ((with_reducible refine Below.setCell ?_ ?_ _); rotate_left; (first | omega | (simp <;> omega)); rotate_right) | (with_reducible assumption) | (refine Below.trans ?_ (Below.mono (by assumption) ?_); rotate_left; (first | omega | (simp <;> omega)); rotate_right)))).mono ?_
  rintro e w1 ⟨A1, c1, rfl, o1, hb1⟩
  have hz1 := hb1.size
  simp only [World.size_alloc] at hz1
  have hx1 := blk_below (q := w.heap.size) (blk_alloc (heap_new w (.cells #[.int .i64 t, .int .i64 a, .int .i64 k, .int .i64 x, .int .i64 y, .int .i64 z, .int .i64 s, .int .i64 fk, .int .i64 ff, .int .i64 ft, .int .i64 fs, .slice A d.length cap, .int .u32 sum] 32)) _) hb1 (by simp; omega)
  have hy1 := blk_below (q := w.heap.size + 1) (heap_new' _ _ _ (by simp)) hb1 (by simp)
  have hx2 := blk_set hx1 11 (.slice A1 d.length c1)
  have hy2 := blk_far hy1 (a := ⟨w.heap.size, 11, none⟩) (by simp) (.slice A1 d.length c1)
  have O2 := Lib.hid (Ow.kept (S := fun i => i = w.heap.size ∨ i = w.heap.size + 1) o1 (((Keeps.refl _ w1).setCell (p := ⟨w.heap.size, 11, none⟩) (.inl (.inl rfl)) (.slice A1 d.length c1)).setRow (g := w.heap.size + 1) (.inl (.inr rfl)) (Lg.RV.cells ⟨⟨t, a, k, x, y, z, s, ⟨fk, ff, ft, fs, d⟩, sum⟩, A1, c1⟩).toArray) (fun g e => by
    rcases o1.form with ⟨e', _⟩ | ⟨g', e', h, _⟩
    · rw [e'] at e; cases e
    · rw [e'] at e; injection e with e; injection e with e; simp at h; omega))
  have HB1 := (show Below w.heap.size w w1 from (by repeat (first | (with_reducible exact Below.refl _ _) | (with_reducible refine Below.drew ?_) | (with_reducible refine below_drewN ?_ _) | ((with_reducible refine Below.alloc ?_ ?_ _); rotate_left; (first | omega | (simp <;> omega)); rotate_right) | ((with_reducible refine Below.setCell ?_ ?_ _); rotate_left; (first | omega | (simp <;> omega)); rotate_right) | (with_reducible assumption) | (refine Below.trans ?_ (Below.mono (by assumption) ?_); rotate_left; (first | omega | (simp <;> omega)); rotate_right))))
  have HB2 := Lib.hid (fun C => Keeps.below (S := fun i => w.heap.size ≤ i) (((Keeps.of_below (S := fun i => w.heap.size ≤ i) HB1).setCell (p := ⟨w.heap.size, 11, none⟩) (.inl (Nat.le_refl _)) (.slice A1 d.length c1)).setRow (g := w.heap.size + 1) (.inl (Nat.le_succ _)) C) (fun i _ h => h) (Nat.le_refl _))
  have ca_0 := blk_cell hx1 0 rfl; have fa_0 := blk_free hx1 0; have ca_1 := blk_cell hx1 1 rfl; have fa_1 := blk_free hx1 1; have ca_2 := blk_cell hx1 2 rfl; have fa_2 := blk_free hx1 2; have ca_3 := blk_cell hx1 3 rfl; have fa_3 := blk_free hx1 3; have ca_4 := blk_cell hx1 4 rfl; have fa_4 := blk_free hx1 4; have ca_5 := blk_cell hx1 5 rfl; have fa_5 := blk_free hx1 5; have ca_6 := blk_cell hx1 6 rfl; have fa_6 := blk_free hx1 6; have ca_7 := blk_cell hx1 7 rfl; have fa_7 := blk_free hx1 7; have ca_8 := blk_cell hx1 8 rfl; have fa_8 := blk_free hx1 8; have ca_9 := blk_cell hx1 9 rfl; have fa_9 := blk_free hx1 9; have ca_10 := blk_cell hx1 10 rfl; have fa_10 := blk_free hx1 10; have ca_11 := blk_cell hx1 11 rfl; have fa_11 := blk_free hx1 11; have ca_12 := blk_cell hx1 12 rfl; have fa_12 := blk_free hx1 12; have la := lt_of_block hx1
  clear hb1 o1
  obtain ⟨C, hC⟩ : ∃ C, C = (#[.int .i64 t, .int .i64 a, .int .i64 k, .int .i64 x, .int .i64 y, .int .i64 z, .int .i64 s, .int .i64 fk, .int .i64 ff, .int .i64 ft, .int .i64 fs, .slice A d.length cap, .int .u32 sum] : Array Value).setIfInBounds 11 (.slice A1 d.length c1) := ⟨_, rfl⟩
  rw [← hC] at hx2
  have hCs : C.size = 13 := by rw [hC]; rfl
  have hCl : C = (Lg.RV.cells ⟨⟨t, a, k, x, y, z, s, ⟨fk, ff, ft, fs, d⟩, sum⟩, A1, c1⟩).toArray := by rw [hC]; rfl
  have h1 : C.all (·.oneCell') = true := by rw [hCl]; exact rv_ones _
  have HCl := Lib.hid hCl
  have HC := Lib.hid hC
  clear hC hCl
  rw [← HCl.out] at O2
  obtain ⟨Z, hZ, hZs⟩ : ∃ Z : Array Value, (w1.setCell ⟨w.heap.size, 11, none⟩ (.slice A1 d.length c1)).heap[w.heap.size + 1]? = some (.cells Z 32 (0, 0)) ∧ Z.size = 13 := ⟨_, hy2, rfl⟩
  clear hy2 hy1
  go_upto_region 2 with fail
  generalize World.setCell _ _ _ = W2 at *
  go_wp2_with (first | (refine wpList_load_row rfl 32 _ rfl _ rfl 32 _ (0, 0) _ hx2 Try.underlying32 rfl (by rw [hCs]; kernel_rfl) ?_) | (refine wpList_store_row rfl 32 _ _ rfl _ _ rfl rfl 32 _ hZ (by rw [hCs]; kernel_rfl) (hZs.trans hCs.symm) h1 ?_))
  refine bodyPost_ret (results_cell_row rfl _ _ (w.heap.size + 1) 32 C (0, 0) _ rfl (setRow_heap _ _ _ _ _ _ hZ) Try.underlying32 rfl (by rw [hCs]; kernel_rfl)) rfl ⟨A1, c1, by rw [HCl.out]; rfl, O2.out.more (by simp; omega), HB2.out C⟩
end
end Go.Proofs.Ytgmejplcdecmkaa

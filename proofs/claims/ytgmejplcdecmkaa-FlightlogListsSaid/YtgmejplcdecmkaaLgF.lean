/- The bytes of a record's contents. -/
import Derived.Test.YtgmejplcdecmkaaLgD
import Derived.Test.YtgmejplcdecmkaaLgE
import Derived.Test.YtgmejplcdecmkaaEnc
import Derived.Test.YtgmejplcdecmkaaRPut
namespace Go.Proofs.Ytgmejplcdecmkaa
open Go.RowKit
set_option maxHeartbeats 8000000
set_option maxRecDepth 100000
set_option linter.unusedSimpArgs false
set_option linter.unusedVariables false
attribute [local go_sem ↓] Go.wp_at_zero Go.wp_at_succ
namespace Lg
theorem fine_ta {r : Rc} (h : fine r = true) : (0 ≤ r.t ∧ r.t ≤ 3600000) ∧ (0 ≤ r.a ∧ r.a ≤ 64) := by
  unfold fine at h
  rw [Bool.and_eq_true, decide_eq_true_eq] at h
  omega
theorem fine_fk {r : Rc} (h : fine r = true) : fineK r = true := by
  obtain ⟨h1, h2⟩ := fine_ta h
  rw [← fine_k (Frm.inB_iff.2 h1) (Frm.inB_iff.2 h2)]
  exact h
theorem fine_kind {r : Rc} (h : fine r = true) : r.k = 1 ∨ r.k = 2 ∨ r.k = 3 := by
  by_cases h1 : r.k = 1
  · exact .inl h1
  by_cases h2 : r.k = 2
  · exact .inr (.inl h2)
  by_cases h3 : r.k = 3
  · exact .inr (.inr h3)
  have := fine_fk h
  rw [fineK0 h1 h2 h3] at this
  cases this
theorem inP_iff {v : Int} : inP v = true ↔ -1048576 ≤ v ∧ v ≤ 1048576 := by simp [inP]
theorem fine_1 {r : Rc} (h : fine r = true) (hk : r.k = 1) : (-1048576 ≤ r.x ∧ r.x ≤ 1048576) ∧ (-1048576 ≤ r.y ∧ r.y ≤ 1048576) ∧ (-1048576 ≤ r.z ∧ r.z ≤ 1048576) := by
  have := fine_fk h
  rw [fineK1 hk] at this
  simp only [Bool.and_eq_true, inP3, inP_iff] at this
  exact ⟨this.1.1.2.1.1, this.1.1.2.1.2, this.1.1.2.2⟩
theorem fine_2 {r : Rc} (h : fine r = true) (hk : r.k = 2) : 0 ≤ r.s ∧ r.s ≤ 9 := by
  have := fine_fk h
  rw [fineK2 hk] at this
  simp only [Bool.and_eq_true, decide_eq_true_eq] at this
  omega
theorem fine_3 {r : Rc} (h : fine r = true) (hk : r.k = 3) : Frm.vd r.f.k r.f.f r.f.t r.f.s r.f.d.length = true := by
  have := fine_fk h
  rw [fineK3 hk] at this
  simp only [Bool.and_eq_true] at this
  exact this.1.1.1
end Lg
theorem info_i64 : (Try.prog.info? 3).map (fun i => (i.zero, i.size, i.bytes)) = some (some (.int .i64 0), 1, 8) := by kernel_rfl
theorem u8_in (x : Int) (h : 0 ≤ x ∧ x < 256) : IntKind.u8.wrap x = x := by rw [IntKind.wrap_u8]; omega
/-- one after the other: kind, numbers, the rest -/
theorem cat3 {w : World} {q g3 : Nat} {A B : Option Addr} {n m ca cb : Nat} {k : Int} {l r : List Int} (hk : 0 ≤ k ∧ k < 256) (hq : w.heap[q]? = some (.cells #[.int .u8 k] 5 (0, 0)))
    (hg : w.heap[g3]? = some (.cells #[.slice (some ⟨q, 0, none⟩) 1 1, .slice A n ca, .slice B m cb] 28 (0, 0)))
    (hl : Rd w w.heap.size A n l) (hr : Rd w w.heap.size B m r) (hca : n ≤ ca ∧ ca ≤ maxLen) (hcb : m ≤ cb ∧ cb ≤ maxLen) (hA : A = none → n = 0) (hB : B = none → m = 0) (hs : n + m ≤ 1000) :
    Calls Try.prog 73 #[.slice (some ⟨g3, 0, none⟩) 3 3] w fun e w' => ∃ A' cap', e = .returned (.slice A' (k :: (l ++ r)).length cap') ∧ Ow w' w.heap.size A' (k :: (l ++ r)).length cap' (k :: (l ++ r)) ∧ Below w.heap.size w w' := by
  have e1 := hl.1
  have e2 := hr.1
  have e : Lg.cat [⟨some ⟨q, 0, none⟩, 1, [k]⟩, ⟨A, ca, l⟩, ⟨B, cb, r⟩] = k :: (l ++ r) := by simp [Lg.cat]
  rw [← e]
  subst e1; subst e2
  refine concat_any _ 3 3 _ w (by omega) ⟨rfl, fun _ => ⟨g3, 0, rfl, lt_of_block hg, fun j u hu => ?_⟩⟩ ?_ (by rw [e]; simp; omega)
  · rw [Nat.zero_add]
    exact blk_cell (l := [_, _, _]) hg j hu
  · intro y hy
    simp only [List.mem_cons, List.not_mem_nil, or_false] at hy
    rcases hy with rfl | rfl | rfl
    · refine ⟨⟨rfl, (by intro x hx; simp at hx; omega), fun _ => ⟨q, 0, rfl, lt_of_block hq, fun i hi => ?_⟩⟩, fun _ _ => Nat.zero_le _, Nat.le_refl _, (by show 1 ≤ maxLen; unfold maxLen; omega), (by intro h; cases h)⟩
      have hi' : i < 1 := hi
      obtain rfl : i = 0 := by omega
      exact blk_cell (l := [_]) hq 0 rfl
    · exact ⟨hl, fun _ _ => Nat.zero_le _, hca.1, hca.2, hA⟩
    · exact ⟨hr, fun _ _ => Nat.zero_le _, hcb.1, hcb.2, hB⟩
theorem Ow.room {w : World} {base : Nat} {A : Option Addr} {n cap : Nat} {l : List Int} (h : Ow w base A n cap l) : n ≤ cap ∧ cap ≤ maxLen ∧ (A = none → n = 0) := by
  rcases h.form with ⟨h0, h1, h2⟩ | ⟨g, e, _, _, h1, h2⟩
  · subst h2; subst h1; exact ⟨Nat.le_refl _, Nat.zero_le _, fun _ => rfl⟩
  · exact ⟨h1, h2, fun h => by rw [e] at h; cases h⟩
/-- a call that gives the bytes l -/
def GivesB (f : FuncId) (args : Array Value) (w : World) (l : List Int) : Prop :=
  Calls Try.prog f args w fun e w' => ∃ A' cap', e = .returned (.slice A' l.length cap') ∧ Ow w' w.heap.size A' l.length cap' l ∧ Below w.heap.size w w'
theorem num_rows (W : World) (q : Nat) (t a : Int) (h0 : 0 ≤ t ∧ t ≤ 3600000) (h1 : 0 ≤ a ∧ a ≤ 64) (h : W.heap[q]? = some (.cells #[.int .i64 t, .int .i64 a] 3 (0, 0))) : Ri W W.heap.size (some ⟨q, 0, none⟩) 2 [t, a] :=
  ⟨rfl, (by intro x hx; simp at hx; omega), fun _ => ⟨q, 0, rfl, lt_of_block h, fun i hi => by
    rw [Nat.zero_add]
    refine blk_cell (l := [_, _]) h i ?_
    rcases i with _ | _ | i
    · rfl
    · rfl
    · omega⟩⟩
theorem ok_ta {t a : Int} (h0 : 0 ≤ t ∧ t ≤ 3600000) (h1 : 0 ≤ a ∧ a ≤ 64) : Frm.okAll [t, a] = true := by
  simp only [Frm.okAll, List.all_cons, List.all_nil, Bool.and_true, Bool.and_eq_true, Frm.okN_iff]
  omega
theorem content_2 (v : Lg.RV) (w : World) (hk : v.x.k = 2) (hf : Lg.fine v.x = true) : GivesB 42 #[v.val] w (Lg.content v.x) := by
  have h1 := Lg.fine_ta hf
  have h2 := Lg.fine_2 hf hk
  clear hf
  obtain ⟨⟨t, a, k, x, y, z, s, ⟨fk, ff, ft, fs, d⟩, sum⟩, A, cap⟩ := v
  simp only at hk h1 h2
  subst hk
  obtain ⟨⟨t0, t1⟩, a0, a1⟩ := h1
  obtain ⟨L, hL⟩ : ∃ L, L = Lg.content ⟨t, a, 2, x, y, z, s, ⟨fk, ff, ft, fs, d⟩, sum⟩ := ⟨_, rfl⟩
  simp only
  rw [← hL]
  obtain ⟨s0, s1⟩ := h2
  have E := Lib.hid (show L = 2 :: (Frm.pn [t, a] ++ [s]) from hL)
  clear hL
  unfold GivesB
  simp only [Lg.RV.val, Lg.RV.cells]
  have ws : IntKind.u8.wrap s = s := u8_in s (by omega)
  have PY := Lib.hid (fun (q : Nat) (W : World) h => put_yes (some ⟨q, 0, none⟩) 2 2 [t, a] W (num_rows W q t a ⟨t0, t1⟩ ⟨a0, a1⟩ h) (by omega) (ok_ta ⟨t0, t1⟩ ⟨a0, a1⟩))
  go_enter Try.func42, Try.ntmps42
  go_wp2_with fail
  refine (PY.out (w.heap.size + 1) _ (blk_alloc (heap_new' _ _ _ (by simp)) _)).mono ?_
  rintro e w5 ⟨A5, c5, rfl, o5, hb5⟩
  have hz5 := hb5.size
  simp only [World.size_alloc] at hz5
  have d2 : w5.cell? ⟨w.heap.size, 2, none⟩ = some (.int .i64 2) := ((bcell hb5).1 w.heap.size 2 (by simp; omega)).trans (by simp [go_sem])
  have hq : w5.heap[w.heap.size + 2]? = some (.cells #[.int .u8 s] 5 (0, 0)) := blk_below (heap_new' _ _ _ (by simp)) hb5 (by simp)
  have HB5 := (show Below w.heap.size w w5 from (by repeat (first | (with_reducible exact Below.refl _ _) | (with_reducible refine Below.drew ?_) | (with_reducible refine below_drewN ?_ _) | ((with_reducible refine Below.alloc ?_ ?_ _); rotate_left; (first | omega | (simp <;> omega)); rotate_right) | ((with_reducible refine Below.setCell ?_ ?_ _); rotate_left; (first | omega | (simp <;> omega)); rotate_right) | (with_reducible assumption) | (refine Below.trans ?_ (Below.mono (by assumption) ?_); rotate_left; (first | omega | (simp <;> omega)); rotate_right))))
  have O5 := Lib.hid o5
  have HQ := Lib.hid hq
  clear hb5 o5 hq
  go_wp2_with fail
  refine (cat3 (q := w5.heap.size) (g3 := w5.heap.size + 1) (n := 8) (m := 1) (k := 2) (l := Frm.pn [t, a]) (r := [s]) (by omega) (blk_alloc (heap_new _ _) _) (heap_new' _ _ _ (by simp)) (((O5.out.rd.alloc (Nat.le_refl _) _).alloc (by simp) _).more (by simp; omega)) ⟨rfl, (by intro x hx; simp at hx; omega), fun _ => ⟨w.heap.size + 2, 0, rfl, (by simp; omega), fun i hi => (by
    have hi' : i < 1 := hi
    obtain rfl : i = 0 := by omega
    exact blk_cell (l := [_]) (blk_alloc (blk_alloc HQ.out _) _) 0 rfl)⟩⟩ ⟨O5.out.room.1, O5.out.room.2.1⟩ ⟨Nat.le_refl 1, by show 1 ≤ maxLen; unfold maxLen; omega⟩ O5.out.room.2.2 (fun h => by cases h) (by omega)).mono ?_
  rintro e w6 ⟨A6, c6, rfl, o6, hb6⟩
  rw [← E.out] at o6 ⊢
  have hz6 := hb6.size
  simp only [World.size_alloc] at hz6 hb6
  go_wp2_with fail
  go_ret
  exact ⟨A6, c6, rfl, Ow.more o6 (by simp; omega), (by repeat (first | (with_reducible exact Below.refl _ _) | (with_reducible refine Below.drew ?_) | (with_reducible refine below_drewN ?_ _) | ((with_reducible refine Below.alloc ?_ ?_ _); rotate_left; (first | omega | (simp <;> omega)); rotate_right) | ((with_reducible refine Below.setCell ?_ ?_ _); rotate_left; (first | omega | (simp <;> omega)); rotate_right) | (with_reducible assumption) | (refine Below.trans ?_ (Below.mono (by assumption) ?_); rotate_left; (first | omega | (simp <;> omega)); rotate_right)))⟩
theorem content_3 (v : Lg.RV) (w : World) (hk : v.x.k = 3) (hf : Lg.fine v.x = true) (hv : Lg.Ok w w.heap.size v) : GivesB 42 #[v.val] w (Lg.content v.x) := by
  have h1 := Lg.fine_ta hf
  have h2 := Lg.fine_3 hf hk
  clear hf
  obtain ⟨⟨t, a, k, x, y, z, s, ⟨fk, ff, ft, fs, d⟩, sum⟩, A, cap⟩ := v
  simp only at hk h1 h2
  subst hk
  obtain ⟨⟨t0, t1⟩, a0, a1⟩ := h1
  obtain ⟨L, hL⟩ : ∃ L, L = Lg.content ⟨t, a, 3, x, y, z, s, ⟨fk, ff, ft, fs, d⟩, sum⟩ := ⟨_, rfl⟩
  simp only
  rw [← hL]
  have E := Lib.hid (show L = 3 :: (Frm.pn [t, a] ++ Frm.enc fk ff ft fs d) from hL)
  have hd := hv.1
  simp only at hd
  have hdl := (Frm.vd_bd h2).2.2.2.2
  have EN := Lib.hid (fun (W : World) (hW : Below w.heap.size w W) => enc_yes fk ff ft fs A d.length cap d W h2 ((hd.below hW (Nat.le_refl _)).more hW.size))
  clear hL hd h2 hv
  unfold GivesB
  simp only [Lg.RV.val, Lg.RV.cells]
  have PY := Lib.hid (fun (q : Nat) (W : World) h => put_yes (some ⟨q, 0, none⟩) 2 2 [t, a] W (num_rows W q t a ⟨t0, t1⟩ ⟨a0, a1⟩ h) (by omega) (ok_ta ⟨t0, t1⟩ ⟨a0, a1⟩))
  go_enter Try.func42, Try.ntmps42
  go_wp2_with fail
  refine (EN.out _ (by repeat (first | (with_reducible exact Below.refl _ _) | (with_reducible refine Below.drew ?_) | (with_reducible refine below_drewN ?_ _) | ((with_reducible refine Below.alloc ?_ ?_ _); rotate_left; (first | omega | (simp <;> omega)); rotate_right) | ((with_reducible refine Below.setCell ?_ ?_ _); rotate_left; (first | omega | (simp <;> omega)); rotate_right) | (with_reducible assumption) | (refine Below.trans ?_ (Below.mono (by assumption) ?_); rotate_left; (first | omega | (simp <;> omega)); rotate_right)))).mono ?_
  rintro e w4 ⟨A4, c4, rfl, o4, hb4⟩
  have hz4 := hb4.size
  simp only [World.size_alloc] at hz4
  have hq := blk_below (q := w.heap.size + 1) (heap_new' (w.alloc _) (.cells #[.int .i64 t, .int .i64 a] 3) _ (by simp)) hb4 (by simp)
  have d2 : w4.cell? ⟨w.heap.size, 2, none⟩ = some (.int .i64 3) := ((bcell hb4).1 w.heap.size 2 (by simp; omega)).trans (by simp [go_sem])
  have HB4 := (show Below w.heap.size w w4 from (by repeat (first | (with_reducible exact Below.refl _ _) | (with_reducible refine Below.drew ?_) | (with_reducible refine below_drewN ?_ _) | ((with_reducible refine Below.alloc ?_ ?_ _); rotate_left; (first | omega | (simp <;> omega)); rotate_right) | ((with_reducible refine Below.setCell ?_ ?_ _); rotate_left; (first | omega | (simp <;> omega)); rotate_right) | (with_reducible assumption) | (refine Below.trans ?_ (Below.mono (by assumption) ?_); rotate_left; (first | omega | (simp <;> omega)); rotate_right))))
  have O4 := Lib.hid o4
  have HQ := Lib.hid hq
  clear hb4 o4 hq
  go_wp2_with fail
  refine (PY.out (w.heap.size + 1) _ HQ.out).mono ?_
  rintro e w5 ⟨A5, c5, rfl, o5, hb5⟩
  have hz5 := hb5.size
  have e2 : w5.cell? ⟨w.heap.size, 2, none⟩ = some (.int .i64 3) := ((bcell hb5).1 w.heap.size 2 (by omega)).trans d2
  have HB5 := (show Below w.heap.size w w5 from (by repeat (first | (with_reducible exact Below.refl _ _) | (with_reducible refine Below.drew ?_) | (with_reducible refine below_drewN ?_ _) | ((with_reducible refine Below.alloc ?_ ?_ _); rotate_left; (first | omega | (simp <;> omega)); rotate_right) | ((with_reducible refine Below.setCell ?_ ?_ _); rotate_left; (first | omega | (simp <;> omega)); rotate_right) | (with_reducible assumption) | (refine Below.trans ?_ (Below.mono (by assumption) ?_); rotate_left; (first | omega | (simp <;> omega)); rotate_right))))
  have O5 := Lib.hid o5
  have O4' := Lib.hid (O4.out.below hb5 (Nat.le_refl _))
  clear hb5 o5 d2
  go_wp2_with fail
  refine (cat3 (q := w5.heap.size) (g3 := w5.heap.size + 1) (k := 3) (l := Frm.pn [t, a]) (r := Frm.enc fk ff ft fs d) (by omega) (blk_alloc (heap_new _ _) _) (heap_new' _ _ _ (by simp)) (((O5.out.rd.alloc (Nat.le_refl _) _).alloc (by simp) _).more (by simp; omega)) (((O4'.out.rd.alloc (Nat.le_refl _) _).alloc (by simp) _).more (by simp; omega)) ⟨O5.out.room.1, O5.out.room.2.1⟩ ⟨O4'.out.room.1, O4'.out.room.2.1⟩ O5.out.room.2.2 O4'.out.room.2.2 (by omega)).mono ?_
  rintro e w6 ⟨A6, c6, rfl, o6, hb6⟩
  rw [← E.out] at o6 ⊢
  have hz6 := hb6.size
  simp only [World.size_alloc] at hz6 hb6
  go_wp2_with fail
  go_ret
  exact ⟨A6, c6, rfl, Ow.more o6 (by simp; omega), (by repeat (first | (with_reducible exact Below.refl _ _) | (with_reducible refine Below.drew ?_) | (with_reducible refine below_drewN ?_ _) | ((with_reducible refine Below.alloc ?_ ?_ _); rotate_left; (first | omega | (simp <;> omega)); rotate_right) | ((with_reducible refine Below.setCell ?_ ?_ _); rotate_left; (first | omega | (simp <;> omega)); rotate_right) | (with_reducible assumption) | (refine Below.trans ?_ (Below.mono (by assumption) ?_); rotate_left; (first | omega | (simp <;> omega)); rotate_right)))⟩
theorem content_1 (v : Lg.RV) (w : World) (hk : v.x.k = 1) (hf : Lg.fine v.x = true) : GivesB 42 #[v.val] w (Lg.content v.x) := by
  have h1 := Lg.fine_ta hf
  have h2 := Lg.fine_1 hf hk
  clear hf
  obtain ⟨⟨t, a, k, x, y, z, s, ⟨fk, ff, ft, fs, d⟩, sum⟩, A, cap⟩ := v
  simp only at hk h1 h2
  subst hk
  obtain ⟨⟨t0, t1⟩, a0, a1⟩ := h1
  obtain ⟨L, hL⟩ : ∃ L, L = Lg.content ⟨t, a, 1, x, y, z, s, ⟨fk, ff, ft, fs, d⟩, sum⟩ := ⟨_, rfl⟩
  simp only
  rw [← hL]
  obtain ⟨⟨x0, x1⟩, ⟨y0, y1⟩, z0, z1⟩ := h2
  obtain ⟨i0, hi0, hz0, hz1, hz2⟩ := info_parts info_i64
  have E := Lib.hid (show L = 1 :: (Frm.pn [t, a, x + 1048576, y + 1048576, z + 1048576] ++ []) by
    rw [hL, List.append_nil]
    show 1 :: (Frm.pn [t, a] ++ Frm.pn [x + 1048576, y + 1048576, z + 1048576]) = _
    rw [← Frm.pn_append]
    rfl)
  clear hL
  unfold GivesB
  simp only [Lg.RV.val, Lg.RV.cells]
  have wx : IntKind.i64.wrap (x + 1048576) = x + 1048576 := IntWalk.i64_in _ (by omega)
  have wy : IntKind.i64.wrap (y + 1048576) = y + 1048576 := IntWalk.i64_in _ (by omega)
  have wz : IntKind.i64.wrap (z + 1048576) = z + 1048576 := IntWalk.i64_in _ (by omega)
  have I5 := Lib.hid (show I64 [t, a, x + 1048576, y + 1048576, z + 1048576] by intro q hq; simp at hq; omega)
  have PY := Lib.hid (fun (D : Option Addr) (c : Nat) (W : World) h => put_yes D 5 c [t, a, x + 1048576, y + 1048576, z + 1048576] W h (by omega) (by
    simp only [Frm.okAll, List.all_cons, List.all_nil, Bool.and_true, Bool.and_eq_true, Frm.okN_iff]
    omega))
  go_enter Try.func42, Try.ntmps42
  go_wp2_with fail
  refine (PY.out (some ⟨w.heap.size + 1 + 1 + 1, 0, none⟩) _ _ ⟨rfl, I5.out, fun _ => ⟨_, 0, rfl, (by simp), fun i hi => (by
    rcases i with _ | _ | _ | _ | _ | i <;> first | omega | simp [go_sem, Array.getElem?_append])⟩⟩).mono ?_
  rintro e w5 ⟨A5, c5, rfl, o5, hb5⟩
  have hz5 := hb5.size
  simp only [World.size_alloc, World.size_drew] at hz5
  have d2 : w5.cell? ⟨w.heap.size, 2, none⟩ = some (.int .i64 1) := ((bcell hb5).1 w.heap.size 2 (by simp; omega)).trans (by simp [go_sem])
  have HB5 := (show Below w.heap.size w w5 from (by repeat (first | (with_reducible exact Below.refl _ _) | (with_reducible refine Below.drew ?_) | (with_reducible refine below_drewN ?_ _) | ((with_reducible refine Below.alloc ?_ ?_ _); rotate_left; (first | omega | (simp <;> omega)); rotate_right) | ((with_reducible refine Below.setCell ?_ ?_ _); rotate_left; (first | omega | (simp <;> omega)); rotate_right) | (with_reducible assumption) | (refine Below.trans ?_ (Below.mono (by assumption) ?_); rotate_left; (first | omega | (simp <;> omega)); rotate_right))))
  have O5 := Lib.hid o5
  clear hb5 o5
  go_wp2_with fail
  refine (cat3 (q := w5.heap.size) (g3 := w5.heap.size + 1) (n := 20) (m := 0) (k := 1) (l := Frm.pn [t, a, x + 1048576, y + 1048576, z + 1048576]) (r := []) (by omega) (blk_alloc (heap_new _ _) _) (heap_new' _ _ _ (by simp)) (((O5.out.rd.alloc (Nat.le_refl _) _).alloc (by simp) _).more (by simp; omega)) (Rd.nil _ _ _) ⟨O5.out.room.1, O5.out.room.2.1⟩ ⟨Nat.le_refl _, Nat.zero_le _⟩ O5.out.room.2.2 (fun _ => rfl) (by omega)).mono ?_
  rintro e w6 ⟨A6, c6, rfl, o6, hb6⟩
  rw [← E.out] at o6 ⊢
  have hz6 := hb6.size
  simp only [World.size_alloc] at hz6 hb6
  go_wp2_with fail
  go_ret
  exact ⟨A6, c6, rfl, Ow.more o6 (by simp; omega), (by repeat (first | (with_reducible exact Below.refl _ _) | (with_reducible refine Below.drew ?_) | (with_reducible refine below_drewN ?_ _) | ((with_reducible refine Below.alloc ?_ ?_ _); rotate_left; (first | omega | (simp <;> omega)); rotate_right) | ((with_reducible refine Below.setCell ?_ ?_ _); rotate_left; (first | omega | (simp <;> omega)); rotate_right) | (with_reducible assumption) | (refine Below.trans ?_ (Below.mono (by assumption) ?_); rotate_left; (first | omega | (simp <;> omega)); rotate_right)))⟩
theorem content_any (v : Lg.RV) (w : World) (hf : Lg.fine v.x = true) (hv : Lg.Ok w w.heap.size v) : GivesB 42 #[v.val] w (Lg.content v.x) := by
  rcases Lg.fine_kind hf with h | h | h
  · exact content_1 v w h hf
  · exact content_2 v w h hf
  · exact content_3 v w h hf hv
end Go.Proofs.Ytgmejplcdecmkaa

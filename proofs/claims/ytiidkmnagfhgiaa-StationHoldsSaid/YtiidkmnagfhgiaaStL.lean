/- read; Receive of what is refused. -/
import Derived.Test.YtiidkmnagfhgiaaStK
namespace Go.Proofs.Ytiidkmnagfhgiaa
open Go.RowKit
set_option maxHeartbeats 8000000
set_option maxRecDepth 100000
set_option linter.unusedSimpArgs false
set_option linter.unusedVariables false
attribute [local go_sem ↓] Go.wp_at_zero Go.wp_at_succ
/-- what a frame says, as a value -/
def readV (y : Fr) : Value :=
  if y.d.length = 1 then (if y.k = 8 then .iface 98 (.agg #[.int .u8 (y.d.getD 0 0)]) else if y.d.getD 0 0 ≤ 7 then .iface 106 (.agg #[.int .i64 (y.d.getD 0 0)]) else .nilIface) else .nilIface
theorem read_any (k f t s : Int) (D : Option Addr) (n cap : Nat) (d : List Int) (w : World) (hd : Rd w w.heap.size D n d) (hn : n ≤ 64) :
    Calls Try.prog 48 #[.agg #[.int .i64 k, .int .i64 f, .int .i64 t, .int .i64 s, .slice D n cap]] w fun e w' => e = .returned (readV ⟨k, f, t, s, d⟩) ∧ Below w.heap.size w w' := by
  have hdl := hd.1
  by_cases h1 : n = 1
  · subst h1
    obtain ⟨b, o, rfl, hb, hc⟩ := hd.2.2 (by omega)
    have c0 := hc 0 (by omega)
    have hx := hd.2.1.at_ 0
    simp only [Nat.add_zero] at c0
    obtain ⟨x, hxe⟩ : ∃ x, x = d.getD 0 0 := ⟨_, rfl⟩
    rw [← hxe] at c0 hx
    by_cases h8 : k = 8
    · subst h8
      have E := Lib.hid (show readV ⟨8, f, t, s, d⟩ = .iface 98 (.agg #[.int .u8 x]) by unfold readV; rw [if_pos hdl, if_pos rfl, ← hxe])
      clear hd hc hxe hdl
      go_enter Try.func48, Try.ntmps48
      go_wp2_with fail
      go_ret
      rw [E.out]
      exact ⟨rfl, (by repeat (first | (with_reducible exact Below.refl _ _) | (with_reducible refine Below.drew ?_) | (with_reducible refine below_drewN ?_ _) | ((with_reducible refine Below.alloc ?_ ?_ _); rotate_left; (first | omega | (simp <;> omega)); rotate_right) | ((with_reducible refine Below.setCell ?_ ?_ _); rotate_left; (first | omega | (simp <;> omega)); rotate_right) | (with_reducible assumption) | (refine Below.trans ?_ (Below.mono (by assumption) ?_); rotate_left; (first | omega | (simp <;> omega)); rotate_right)))⟩
    · have z : (k == 8) = false := by rw [beq_eq_false_iff_ne]; exact h8
      by_cases h7 : x ≤ 7
      · have E := Lib.hid (show readV ⟨k, f, t, s, d⟩ = .iface 106 (.agg #[.int .i64 x]) by unfold readV; rw [if_pos hdl, if_neg h8, ← hxe, if_pos h7])
        clear hd hc hxe hdl h8
        go_enter Try.func48, Try.ntmps48
        go_wp2_with fail
        go_ret
        rw [E.out]
        exact ⟨rfl, (by repeat (first | (with_reducible exact Below.refl _ _) | (with_reducible refine Below.drew ?_) | (with_reducible refine below_drewN ?_ _) | ((with_reducible refine Below.alloc ?_ ?_ _); rotate_left; (first | omega | (simp <;> omega)); rotate_right) | ((with_reducible refine Below.setCell ?_ ?_ _); rotate_left; (first | omega | (simp <;> omega)); rotate_right) | (with_reducible assumption) | (refine Below.trans ?_ (Below.mono (by assumption) ?_); rotate_left; (first | omega | (simp <;> omega)); rotate_right)))⟩
      · have E := Lib.hid (show readV ⟨k, f, t, s, d⟩ = .nilIface by unfold readV; rw [if_pos hdl, if_neg h8, ← hxe, if_neg h7])
        clear hd hc hxe hdl h8
        go_enter Try.func48, Try.ntmps48
        go_wp2_with fail
        go_ret
        rw [E.out]
        exact ⟨rfl, (by repeat (first | (with_reducible exact Below.refl _ _) | (with_reducible refine Below.drew ?_) | (with_reducible refine below_drewN ?_ _) | ((with_reducible refine Below.alloc ?_ ?_ _); rotate_left; (first | omega | (simp <;> omega)); rotate_right) | ((with_reducible refine Below.setCell ?_ ?_ _); rotate_left; (first | omega | (simp <;> omega)); rotate_right) | (with_reducible assumption) | (refine Below.trans ?_ (Below.mono (by assumption) ?_); rotate_left; (first | omega | (simp <;> omega)); rotate_right)))⟩
  · have z : ((n : Int) != 1) = true := by simp; omega
    have E := Lib.hid (show readV ⟨k, f, t, s, d⟩ = .nilIface by unfold readV; rw [if_neg (by simp only; omega)])
    clear hd hdl h1
    go_enter Try.func48, Try.ntmps48
    go_wp2_with fail
    go_ret
    rw [E.out]
    exact ⟨rfl, (by repeat (first | (with_reducible exact Below.refl _ _) | (with_reducible refine Below.drew ?_) | (with_reducible refine below_drewN ?_ _) | ((with_reducible refine Below.alloc ?_ ?_ _); rotate_left; (first | omega | (simp <;> omega)); rotate_right) | ((with_reducible refine Below.setCell ?_ ?_ _); rotate_left; (first | omega | (simp <;> omega)); rotate_right) | (with_reducible assumption) | (refine Below.trans ?_ (Below.mono (by assumption) ?_); rotate_left; (first | omega | (simp <;> omega)); rotate_right)))⟩
section
variable {w w' : World} {base b mc rc : Nat} {MA RA : Option Addr} {s : Stn.St}
theorem recv_no (h : IsSt w base b MA mc RA rc s) (hs : Stn.Inv s) (now k f t q : Int) (D : Option Addr) (n cap : Nat) (d : List Int) (hdl : d.length = n) (hn : n ≤ 140737488355328) (he : Stn.recvE s now ⟨k, f, t, q, d⟩ ≠ 0) :
    Calls Try.prog 24 #[.pointer (some ⟨b, 0, none⟩), .int .i64 now, .agg #[.int .i64 k, .int .i64 f, .int .i64 t, .int .i64 q, .slice D n cap]] w fun e w' => e = .returned (.tuple #[.slice none 0 0, .int .i64 (Stn.recvE s now ⟨k, f, t, q, d⟩)]) ∧ Below w.heap.size w w' := by
  have N := Lib.hid (fun (W : World) (hW : Below w.heap.size w W) => (h.below hW (Nat.le_refl _)).none hs)
  have CH := Lib.hid (fun (W : World) (hW : Below w.heap.size w W) => check_any (h.below hW (Nat.le_refl _)) now)
  have VA := Lib.hid (fun (W : World) => valid_any k f t q D n cap W (by omega))
  have c0 : w.cell? ⟨b, 0, none⟩ = some (.int .i64 s.n) := blk_cell h.blk 0 rfl
  have hb := h.lt
  have hsn := hs.n
  unfold Stn.recvE at he ⊢
  simp only [hdl] at he ⊢
  have kx : (w.alloc (.cells #[.int .i64 k, .int .i64 f, .int .i64 t, .int .i64 q, .slice D n cap] 40)).heap[w.heap.size]? = _ := heap_new _ _
  clear h hs
  by_cases hv : Frm.vd k f t q n = true
  · rw [hv] at VA
    have vb := Frm.vd_iff.1 hv
    by_cases ht : t = 0
    · have z : (t != 0) = false := by simpa using ht
      by_cases hf : f ≤ s.n
      · rw [if_pos ⟨hv, ht, hf⟩] at he ⊢
        have ht3 : Stn.timeE s now = 3 := (timeE_cases s now).resolve_left he
        rw [ht3] at CH ⊢
        have hf' : decide ((s.n : Int) < f) = false := by rw [decide_eq_false_iff_not]; omega
        clear he vb hv ht3 ht
        go_enter Try.func24, Try.ntmps24; go_wp2_with fail; refine (N.out _ (by repeat (first | (with_reducible exact Below.refl _ _) | (with_reducible refine Below.drew ?_) | (with_reducible refine below_drewN ?_ _) | ((with_reducible refine Below.alloc ?_ ?_ _); rotate_left; (first | omega | (simp <;> omega)); rotate_right) | ((with_reducible refine Below.setCell ?_ ?_ _); rotate_left; (first | omega | (simp <;> omega)); rotate_right) | (with_reducible assumption) | (refine Below.trans ?_ (Below.mono (by assumption) ?_); rotate_left; (first | omega | (simp <;> omega)); rotate_right)))).mono ?_; rintro e w1 ⟨rfl, rfl⟩; go_wp2_with fail; (have cx_0 := blk_cell kx 0 rfl; have fx_0 := blk_free kx 0; have cx_1 := blk_cell kx 1 rfl; have fx_1 := blk_free kx 1; have cx_2 := blk_cell kx 2 rfl; have fx_2 := blk_free kx 2; have cx_3 := blk_cell kx 3 rfl; have fx_3 := blk_free kx 3; have cx_4 := blk_cell kx 4 rfl; have fx_4 := blk_free kx 4; have lx := lt_of_block kx); (first | (go_region_held3 (fun w' => w'.cell? ⟨w.heap.size, 0, none⟩ = some (.int .i64 k) ∧ w'.cell? ⟨w.heap.size, 1, none⟩ = some (.int .i64 f) ∧ w'.cell? ⟨w.heap.size, 2, none⟩ = some (.int .i64 t) ∧ w'.cell? ⟨w.heap.size, 3, none⟩ = some (.int .i64 q) ∧ w'.cell? ⟨w.heap.size, 4, none⟩ = some (.slice D n cap) ∧ w'.cell? ⟨b, 0, none⟩ = some (.int .i64 s.n)) (first | (refine ⟨?_, ?_, ?_, ?_, ?_, ?_⟩ <;> simp [go_sem, *]; done) | go_keep) (first | (go_at_call 46; refine (VA.out _).mono ?_; rintro e w4 ⟨rfl, hb4⟩; have hz4 := hb4.size; (try simp at hz4); have HB4 := (show Below w.heap.size w w4 from (by repeat (first | (with_reducible exact Below.refl _ _) | (with_reducible refine Below.drew ?_) | (with_reducible refine below_drewN ?_ _) | ((with_reducible refine Below.alloc ?_ ?_ _); rotate_left; (first | omega | (simp <;> omega)); rotate_right) | ((with_reducible refine Below.setCell ?_ ?_ _); rotate_left; (first | omega | (simp <;> omega)); rotate_right) | (with_reducible assumption) | (refine Below.trans ?_ (Below.mono (by assumption) ?_); rotate_left; (first | omega | (simp <;> omega)); rotate_right)))); have k4 := blk_below (q := w.heap.size) (by repeat (first | (with_reducible assumption) | ((with_reducible apply blk_far); rotate_left; (first | omega | (simp <;> omega)); rotate_right) | (with_reducible apply blk_drew) | (with_reducible apply blk_drewN) | (with_reducible exact heap_new _ _) | ((with_reducible apply heap_new'); (first | rfl | (simp <;> fail))) | (with_reducible apply blk_alloc))) hb4 (by first | omega | (simp; done) | (simp; omega)); (have cz_0 := blk_cell k4 0 rfl; have fz_0 := blk_free k4 0; have cz_1 := blk_cell k4 1 rfl; have fz_1 := blk_free k4 1; have cz_2 := blk_cell k4 2 rfl; have fz_2 := blk_free k4 2; have cz_3 := blk_cell k4 3 rfl; have fz_3 := blk_free k4 3; have cz_4 := blk_cell k4 4 rfl; have fz_4 := blk_free k4 4; have lz := lt_of_block k4); have e0 : w4.cell? ⟨b, 0, none⟩ = some (.int .i64 s.n) := ((bcell hb4).1 b _ (by first | omega | (simp; done) | (simp; omega))).trans (by simp [go_sem, *])))) | fail); clear cx_0 fx_0 cx_1 fx_1 cx_2 fx_2 cx_3 fx_3 cx_4 fx_4 lx; go_wp2_with fail
        refine (CH.out _ (by repeat (first | (with_reducible exact Below.refl _ _) | (with_reducible refine Below.drew ?_) | (with_reducible refine below_drewN ?_ _) | ((with_reducible refine Below.alloc ?_ ?_ _); rotate_left; (first | omega | (simp <;> omega)); rotate_right) | ((with_reducible refine Below.setCell ?_ ?_ _); rotate_left; (first | omega | (simp <;> omega)); rotate_right) | (with_reducible assumption) | (refine Below.trans ?_ (Below.mono (by assumption) ?_); rotate_left; (first | omega | (simp <;> omega)); rotate_right)))).mono ?_
        rintro e w5 ⟨rfl, rfl⟩
        go_wp2_with fail
        go_ret2
        exact ⟨rfl, (by repeat (first | (with_reducible exact Below.refl _ _) | (with_reducible refine Below.drew ?_) | (with_reducible refine below_drewN ?_ _) | ((with_reducible refine Below.alloc ?_ ?_ _); rotate_left; (first | omega | (simp <;> omega)); rotate_right) | ((with_reducible refine Below.setCell ?_ ?_ _); rotate_left; (first | omega | (simp <;> omega)); rotate_right) | (with_reducible assumption) | (refine Below.trans ?_ (Below.mono (by assumption) ?_); rotate_left; (first | omega | (simp <;> omega)); rotate_right)))⟩
      · rw [if_neg (fun hh => hf hh.2.2)] at he ⊢
        have hf' : decide ((s.n : Int) < f) = true := by rw [decide_eq_true_iff]; omega
        clear he vb hv hf ht
        go_enter Try.func24, Try.ntmps24; go_wp2_with fail; refine (N.out _ (by repeat (first | (with_reducible exact Below.refl _ _) | (with_reducible refine Below.drew ?_) | (with_reducible refine below_drewN ?_ _) | ((with_reducible refine Below.alloc ?_ ?_ _); rotate_left; (first | omega | (simp <;> omega)); rotate_right) | ((with_reducible refine Below.setCell ?_ ?_ _); rotate_left; (first | omega | (simp <;> omega)); rotate_right) | (with_reducible assumption) | (refine Below.trans ?_ (Below.mono (by assumption) ?_); rotate_left; (first | omega | (simp <;> omega)); rotate_right)))).mono ?_; rintro e w1 ⟨rfl, rfl⟩; go_wp2_with fail; (have cx_0 := blk_cell kx 0 rfl; have fx_0 := blk_free kx 0; have cx_1 := blk_cell kx 1 rfl; have fx_1 := blk_free kx 1; have cx_2 := blk_cell kx 2 rfl; have fx_2 := blk_free kx 2; have cx_3 := blk_cell kx 3 rfl; have fx_3 := blk_free kx 3; have cx_4 := blk_cell kx 4 rfl; have fx_4 := blk_free kx 4; have lx := lt_of_block kx); (first | (go_region_held3 (fun w' => w'.cell? ⟨w.heap.size, 0, none⟩ = some (.int .i64 k) ∧ w'.cell? ⟨w.heap.size, 1, none⟩ = some (.int .i64 f) ∧ w'.cell? ⟨w.heap.size, 2, none⟩ = some (.int .i64 t) ∧ w'.cell? ⟨w.heap.size, 3, none⟩ = some (.int .i64 q) ∧ w'.cell? ⟨w.heap.size, 4, none⟩ = some (.slice D n cap) ∧ w'.cell? ⟨b, 0, none⟩ = some (.int .i64 s.n)) (first | (refine ⟨?_, ?_, ?_, ?_, ?_, ?_⟩ <;> simp [go_sem, *]; done) | go_keep) (first | (go_at_call 46; refine (VA.out _).mono ?_; rintro e w4 ⟨rfl, hb4⟩; have hz4 := hb4.size; (try simp at hz4); have HB4 := (show Below w.heap.size w w4 from (by repeat (first | (with_reducible exact Below.refl _ _) | (with_reducible refine Below.drew ?_) | (with_reducible refine below_drewN ?_ _) | ((with_reducible refine Below.alloc ?_ ?_ _); rotate_left; (first | omega | (simp <;> omega)); rotate_right) | ((with_reducible refine Below.setCell ?_ ?_ _); rotate_left; (first | omega | (simp <;> omega)); rotate_right) | (with_reducible assumption) | (refine Below.trans ?_ (Below.mono (by assumption) ?_); rotate_left; (first | omega | (simp <;> omega)); rotate_right)))); have k4 := blk_below (q := w.heap.size) (by repeat (first | (with_reducible assumption) | ((with_reducible apply blk_far); rotate_left; (first | omega | (simp <;> omega)); rotate_right) | (with_reducible apply blk_drew) | (with_reducible apply blk_drewN) | (with_reducible exact heap_new _ _) | ((with_reducible apply heap_new'); (first | rfl | (simp <;> fail))) | (with_reducible apply blk_alloc))) hb4 (by first | omega | (simp; done) | (simp; omega)); (have cz_0 := blk_cell k4 0 rfl; have fz_0 := blk_free k4 0; have cz_1 := blk_cell k4 1 rfl; have fz_1 := blk_free k4 1; have cz_2 := blk_cell k4 2 rfl; have fz_2 := blk_free k4 2; have cz_3 := blk_cell k4 3 rfl; have fz_3 := blk_free k4 3; have cz_4 := blk_cell k4 4 rfl; have fz_4 := blk_free k4 4; have lz := lt_of_block k4); have e0 : w4.cell? ⟨b, 0, none⟩ = some (.int .i64 s.n) := ((bcell hb4).1 b _ (by first | omega | (simp; done) | (simp; omega))).trans (by simp [go_sem, *])))) | fail); clear cx_0 fx_0 cx_1 fx_1 cx_2 fx_2 cx_3 fx_3 cx_4 fx_4 lx; go_wp2_with fail
        go_ret2
        exact ⟨rfl, (by repeat (first | (with_reducible exact Below.refl _ _) | (with_reducible refine Below.drew ?_) | (with_reducible refine below_drewN ?_ _) | ((with_reducible refine Below.alloc ?_ ?_ _); rotate_left; (first | omega | (simp <;> omega)); rotate_right) | ((with_reducible refine Below.setCell ?_ ?_ _); rotate_left; (first | omega | (simp <;> omega)); rotate_right) | (with_reducible assumption) | (refine Below.trans ?_ (Below.mono (by assumption) ?_); rotate_left; (first | omega | (simp <;> omega)); rotate_right)))⟩
    · rw [if_neg (fun hh => ht hh.2.1)] at he ⊢
      have z : (t != 0) = true := by simpa using ht
      clear he vb hv ht
      go_enter Try.func24, Try.ntmps24; go_wp2_with fail; refine (N.out _ (by repeat (first | (with_reducible exact Below.refl _ _) | (with_reducible refine Below.drew ?_) | (with_reducible refine below_drewN ?_ _) | ((with_reducible refine Below.alloc ?_ ?_ _); rotate_left; (first | omega | (simp <;> omega)); rotate_right) | ((with_reducible refine Below.setCell ?_ ?_ _); rotate_left; (first | omega | (simp <;> omega)); rotate_right) | (with_reducible assumption) | (refine Below.trans ?_ (Below.mono (by assumption) ?_); rotate_left; (first | omega | (simp <;> omega)); rotate_right)))).mono ?_; rintro e w1 ⟨rfl, rfl⟩; go_wp2_with fail; (have cx_0 := blk_cell kx 0 rfl; have fx_0 := blk_free kx 0; have cx_1 := blk_cell kx 1 rfl; have fx_1 := blk_free kx 1; have cx_2 := blk_cell kx 2 rfl; have fx_2 := blk_free kx 2; have cx_3 := blk_cell kx 3 rfl; have fx_3 := blk_free kx 3; have cx_4 := blk_cell kx 4 rfl; have fx_4 := blk_free kx 4; have lx := lt_of_block kx); (first | (go_region_with (first | (go_at_call 46; refine (VA.out _).mono ?_; rintro e w4 ⟨rfl, hb4⟩; have hz4 := hb4.size; (try simp at hz4); have HB4 := (show Below w.heap.size w w4 from (by repeat (first | (with_reducible exact Below.refl _ _) | (with_reducible refine Below.drew ?_) | (with_reducible refine below_drewN ?_ _) | ((with_reducible refine Below.alloc ?_ ?_ _); rotate_left; (first | omega | (simp <;> omega)); rotate_right) | ((with_reducible refine Below.setCell ?_ ?_ _); rotate_left; (first | omega | (simp <;> omega)); rotate_right) | (with_reducible assumption) | (refine Below.trans ?_ (Below.mono (by assumption) ?_); rotate_left; (first | omega | (simp <;> omega)); rotate_right)))); have k4 := blk_below (q := w.heap.size) (by repeat (first | (with_reducible assumption) | ((with_reducible apply blk_far); rotate_left; (first | omega | (simp <;> omega)); rotate_right) | (with_reducible apply blk_drew) | (with_reducible apply blk_drewN) | (with_reducible exact heap_new _ _) | ((with_reducible apply heap_new'); (first | rfl | (simp <;> fail))) | (with_reducible apply blk_alloc))) hb4 (by first | omega | (simp; done) | (simp; omega)); (have cz_0 := blk_cell k4 0 rfl; have fz_0 := blk_free k4 0; have cz_1 := blk_cell k4 1 rfl; have fz_1 := blk_free k4 1; have cz_2 := blk_cell k4 2 rfl; have fz_2 := blk_free k4 2; have cz_3 := blk_cell k4 3 rfl; have fz_3 := blk_free k4 3; have cz_4 := blk_cell k4 4 rfl; have fz_4 := blk_free k4 4; have lz := lt_of_block k4); have e0 : w4.cell? ⟨b, 0, none⟩ = some (.int .i64 s.n) := ((bcell hb4).1 b _ (by first | omega | (simp; done) | (simp; omega))).trans (by simp [go_sem, *])))) | fail)
      all_goals
        go_wp2_with fail
        go_ret2
        exact ⟨rfl, (by repeat (first | (with_reducible exact Below.refl _ _) | (with_reducible refine Below.drew ?_) | (with_reducible refine below_drewN ?_ _) | ((with_reducible refine Below.alloc ?_ ?_ _); rotate_left; (first | omega | (simp <;> omega)); rotate_right) | ((with_reducible refine Below.setCell ?_ ?_ _); rotate_left; (first | omega | (simp <;> omega)); rotate_right) | (with_reducible assumption) | (refine Below.trans ?_ (Below.mono (by assumption) ?_); rotate_left; (first | omega | (simp <;> omega)); rotate_right)))⟩
  · rw [if_neg (fun hh => hv hh.1)] at he ⊢
    have hv' : Frm.vd k f t q n = false := by simpa using hv
    rw [hv'] at VA
    clear he hv hv'
    go_enter Try.func24, Try.ntmps24; go_wp2_with fail; refine (N.out _ (by repeat (first | (with_reducible exact Below.refl _ _) | (with_reducible refine Below.drew ?_) | (with_reducible refine below_drewN ?_ _) | ((with_reducible refine Below.alloc ?_ ?_ _); rotate_left; (first | omega | (simp <;> omega)); rotate_right) | ((with_reducible refine Below.setCell ?_ ?_ _); rotate_left; (first | omega | (simp <;> omega)); rotate_right) | (with_reducible assumption) | (refine Below.trans ?_ (Below.mono (by assumption) ?_); rotate_left; (first | omega | (simp <;> omega)); rotate_right)))).mono ?_; rintro e w1 ⟨rfl, rfl⟩; go_wp2_with fail; (have cx_0 := blk_cell kx 0 rfl; have fx_0 := blk_free kx 0; have cx_1 := blk_cell kx 1 rfl; have fx_1 := blk_free kx 1; have cx_2 := blk_cell kx 2 rfl; have fx_2 := blk_free kx 2; have cx_3 := blk_cell kx 3 rfl; have fx_3 := blk_free kx 3; have cx_4 := blk_cell kx 4 rfl; have fx_4 := blk_free kx 4; have lx := lt_of_block kx); (first | (go_region_with (first | (go_at_call 46; refine (VA.out _).mono ?_; rintro e w4 ⟨rfl, hb4⟩; have hz4 := hb4.size; (try simp at hz4); have HB4 := (show Below w.heap.size w w4 from (by repeat (first | (with_reducible exact Below.refl _ _) | (with_reducible refine Below.drew ?_) | (with_reducible refine below_drewN ?_ _) | ((with_reducible refine Below.alloc ?_ ?_ _); rotate_left; (first | omega | (simp <;> omega)); rotate_right) | ((with_reducible refine Below.setCell ?_ ?_ _); rotate_left; (first | omega | (simp <;> omega)); rotate_right) | (with_reducible assumption) | (refine Below.trans ?_ (Below.mono (by assumption) ?_); rotate_left; (first | omega | (simp <;> omega)); rotate_right)))); have k4 := blk_below (q := w.heap.size) (by repeat (first | (with_reducible assumption) | ((with_reducible apply blk_far); rotate_left; (first | omega | (simp <;> omega)); rotate_right) | (with_reducible apply blk_drew) | (with_reducible apply blk_drewN) | (with_reducible exact heap_new _ _) | ((with_reducible apply heap_new'); (first | rfl | (simp <;> fail))) | (with_reducible apply blk_alloc))) hb4 (by first | omega | (simp; done) | (simp; omega)); (have cz_0 := blk_cell k4 0 rfl; have fz_0 := blk_free k4 0; have cz_1 := blk_cell k4 1 rfl; have fz_1 := blk_free k4 1; have cz_2 := blk_cell k4 2 rfl; have fz_2 := blk_free k4 2; have cz_3 := blk_cell k4 3 rfl; have fz_3 := blk_free k4 3; have cz_4 := blk_cell k4 4 rfl; have fz_4 := blk_free k4 4; have lz := lt_of_block k4); have e0 : w4.cell? ⟨b, 0, none⟩ = some (.int .i64 s.n) := ((bcell hb4).1 b _ (by first | omega | (simp; done) | (simp; omega))).trans (by simp [go_sem, *])))) | fail)
    all_goals
      go_wp2_with fail
      go_ret2
      exact ⟨rfl, (by repeat (first | (with_reducible exact Below.refl _ _) | (with_reducible refine Below.drew ?_) | (with_reducible refine below_drewN ?_ _) | ((with_reducible refine Below.alloc ?_ ?_ _); rotate_left; (first | omega | (simp <;> omega)); rotate_right) | ((with_reducible refine Below.setCell ?_ ?_ _); rotate_left; (first | omega | (simp <;> omega)); rotate_right) | (with_reducible assumption) | (refine Below.trans ?_ (Below.mono (by assumption) ?_); rotate_left; (first | omega | (simp <;> omega)); rotate_right)))⟩
end
end Go.Proofs.Ytiidkmnagfhgiaa

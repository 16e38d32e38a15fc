/- The reference's pilot: Receive. -/
import Derived.Test.YtjidchaejicjaaaPlU
import Derived.Test.YtjidchaejicjaaaPlT
namespace Go.Proofs.Ytjidchaejicjaaa
open Go.RowKit
set_option maxHeartbeats 6000000
set_option maxRecDepth 100000
set_option linter.unusedSimpArgs false
set_option linter.unusedVariables false
attribute [local go_sem ↓] Go.wp_at_zero Go.wp_at_succ
theorem rrecv_any (s : Plt.St) (hs : Plt.Inv s) (k f t q : Int) (A : Option Addr) (n cap : Nat) (l : List Int) (hn : n = l.length) (hn2 : n ≤ 9223372036854775807) (w : World) (hr : Rd w w.heap.size A n l) (now : Int) :
    Calls Try.prog 44 #[.agg (rag s).toArray, .int .i64 now, .agg #[.int .i64 k, .int .i64 f, .int .i64 t, .int .i64 q, .slice A n cap]] w (RRPost (Plt.rcvS s now ⟨k, f, t, q, l⟩) (Plt.rcvF s now ⟨k, f, t, q, l⟩) (Plt.rcvE s now ⟨k, f, t, q, l⟩) w) := by
  have hE : Plt.rcvE s now ⟨k, f, t, q, l⟩ = if Frm.vd k f t q n = true ∧ t = s.id then Plt.timE s now else 2 := by rw [hn]; rfl
  have hS : ∀ x, Plt.rcvE s now ⟨k, f, t, q, l⟩ = x → x ≠ 0 → Plt.rcvS s now ⟨k, f, t, q, l⟩ = s ∧ Plt.rcvF s now ⟨k, f, t, q, l⟩ = [] := fun x hx h0 => by
    unfold Plt.rcvS Plt.rcvF
    rw [if_neg (by rw [hx]; exact h0), if_neg (by rw [hx]; exact fun hh => h0 hh.1)]
    exact ⟨rfl, rfl⟩
  cases hv : Frm.vd k f t q n
  · have VA := Lib.hid (fun W : World => by have := rvalid_any k f t q A n cap W hn2; rw [hv] at this; exact this)
    have E := Lib.hid (show Plt.rcvE s now ⟨k, f, t, q, l⟩ = 2 by rw [hE, hv, if_neg (by simp)])
    have ES := Lib.hid (hS 2 E.out (by omega))
    clear hv hE hS hs hn hn2 hr
    go_enter Try.func44, Try.ntmps44; go_upto_region 1 with fail; generalize hV : World.alloc _ _ = V; have k0 : RB V w.heap.size s := (by rw [← hV]; exact blk_alloc (blk_alloc (heap_new _ _) _) _); have kf : V.heap[w.heap.size + 1]? = some (.cells #[.int .i64 k, .int .i64 f, .int .i64 t, .int .i64 q, .slice A n cap] 35 (0, 0)) := (by rw [← hV]; exact blk_alloc (heap_new' _ _ _ (by simp)) _); have k2 : RB V (w.heap.size + 2) rzero := (by rw [← hV]; exact heap_new' _ _ _ (by simp)); have HB := Lib.hid (show Below w.heap.size w V from by rw [← hV]; exact (by repeat (first | (with_reducible exact Below.refl _ _) | (with_reducible refine Below.drew ?_) | (with_reducible refine below_drewN ?_ _) | ((with_reducible refine Below.alloc ?_ ?_ _); rotate_left; (first | omega | (simp <;> omega)); rotate_right) | ((with_reducible refine Below.setCell ?_ ?_ _); rotate_left; (first | omega | (simp <;> omega)); rotate_right) | (with_reducible assumption) | (refine Below.trans ?_ (Below.mono (by assumption) ?_); rotate_left; (first | omega | (simp <;> omega)); rotate_right)))); clear hV; (have cf_0 := blk_cell kf 0 rfl; have ff_0 := blk_free kf 0; have cf_1 := blk_cell kf 1 rfl; have ff_1 := blk_free kf 1; have cf_2 := blk_cell kf 2 rfl; have ff_2 := blk_free kf 2; have cf_3 := blk_cell kf 3 rfl; have ff_3 := blk_free kf 3; have cf_4 := blk_cell kf 4 rfl; have ff_4 := blk_free kf 4; have lf := lt_of_block kf); have KF := Lib.hid kf; clear kf; (go_wp2_with fail); refine (VA.out _).mono ?_; rintro e W1 ⟨rfl, hb1⟩; (clear cf_0 ff_0 cf_1 ff_1 cf_2 ff_2 cf_3 ff_3 cf_4 ff_4); have i0 := blk_below k0 hb1 (lt_of_block k0); have jf := blk_below KF.out hb1 (lt_of_block KF.out); have i2 := blk_below k2 hb1 (lt_of_block k2); have HB1 := Lib.hid (HB.out.trans (hb1.mono HB.out.size)); clear k0 k2 HB KF hb1; have k0 := i0; have k2 := i2; have KF := Lib.hid jf; have HB := HB1; clear i0 i2 jf HB1; have jf := KF.out; (have cf_0 := blk_cell jf 0 rfl; have ff_0 := blk_free jf 0; have cf_1 := blk_cell jf 1 rfl; have ff_1 := blk_free jf 1; have cf_2 := blk_cell jf 2 rfl; have ff_2 := blk_free jf 2; have cf_3 := blk_cell jf 3 rfl; have ff_3 := blk_free jf 3; have cf_4 := blk_cell jf 4 rfl; have ff_4 := blk_free jf 4; have lf := lt_of_block jf); clear jf
    go_wp2_with (first | (refine wpList_load_row rfl 54 _ rfl _ rfl 54 _ (0, 0) _ k0 Try.underlying54 rfl (by kernel_rfl) ?_) | (refine wpList_store_row rfl 54 _ _ rfl _ _ rfl rfl 54 _ k2 (by kernel_rfl) rfl (rag_one _) ?_))
    exact bodyPost_ret (results_ctt rfl _ _ _ _ _ (0, 0) _ rfl (setRow_heap _ _ _ _ _ _ k2) Try.underlying54 rfl (by kernel_rfl)) rfl ⟨_, by rw [ES.out.1, E.out]; rfl, by rw [ES.out.2]; exact Rof.nil _ _, below_setRow HB.out (by omega) _⟩
  have VA := Lib.hid (fun W : World => by have := rvalid_any k f t q A n cap W hn2; rw [hv] at this; exact this)
  by_cases ht : t = s.id
  case neg =>
    have E := Lib.hid (show Plt.rcvE s now ⟨k, f, t, q, l⟩ = 2 by rw [hE, if_neg (fun hh => ht hh.2)])
    have ES := Lib.hid (hS 2 E.out (by omega))
    have z1 : (t == s.id) = false := by rw [beq_eq_false_iff_ne]; exact ht
    have z2 : (t != s.id) = true := by simpa using ht
    clear hv hE hS hs hn hn2 hr ht
    go_enter Try.func44, Try.ntmps44; go_upto_region 1 with fail; generalize hV : World.alloc _ _ = V; have k0 : RB V w.heap.size s := (by rw [← hV]; exact blk_alloc (blk_alloc (heap_new _ _) _) _); have kf : V.heap[w.heap.size + 1]? = some (.cells #[.int .i64 k, .int .i64 f, .int .i64 t, .int .i64 q, .slice A n cap] 35 (0, 0)) := (by rw [← hV]; exact blk_alloc (heap_new' _ _ _ (by simp)) _); have k2 : RB V (w.heap.size + 2) rzero := (by rw [← hV]; exact heap_new' _ _ _ (by simp)); have HB := Lib.hid (show Below w.heap.size w V from by rw [← hV]; exact (by repeat (first | (with_reducible exact Below.refl _ _) | (with_reducible refine Below.drew ?_) | (with_reducible refine below_drewN ?_ _) | ((with_reducible refine Below.alloc ?_ ?_ _); rotate_left; (first | omega | (simp <;> omega)); rotate_right) | ((with_reducible refine Below.setCell ?_ ?_ _); rotate_left; (first | omega | (simp <;> omega)); rotate_right) | (with_reducible assumption) | (refine Below.trans ?_ (Below.mono (by assumption) ?_); rotate_left; (first | omega | (simp <;> omega)); rotate_right)))); clear hV; (have cf_0 := blk_cell kf 0 rfl; have ff_0 := blk_free kf 0; have cf_1 := blk_cell kf 1 rfl; have ff_1 := blk_free kf 1; have cf_2 := blk_cell kf 2 rfl; have ff_2 := blk_free kf 2; have cf_3 := blk_cell kf 3 rfl; have ff_3 := blk_free kf 3; have cf_4 := blk_cell kf 4 rfl; have ff_4 := blk_free kf 4; have lf := lt_of_block kf); have KF := Lib.hid kf; clear kf; (go_wp2_with fail); refine (VA.out _).mono ?_; rintro e W1 ⟨rfl, hb1⟩; (clear cf_0 ff_0 cf_1 ff_1 cf_2 ff_2 cf_3 ff_3 cf_4 ff_4); have i0 := blk_below k0 hb1 (lt_of_block k0); have jf := blk_below KF.out hb1 (lt_of_block KF.out); have i2 := blk_below k2 hb1 (lt_of_block k2); have HB1 := Lib.hid (HB.out.trans (hb1.mono HB.out.size)); clear k0 k2 HB KF hb1; have k0 := i0; have k2 := i2; have KF := Lib.hid jf; have HB := HB1; clear i0 i2 jf HB1; have jf := KF.out; (have cf_0 := blk_cell jf 0 rfl; have ff_0 := blk_free jf 0; have cf_1 := blk_cell jf 1 rfl; have ff_1 := blk_free jf 1; have cf_2 := blk_cell jf 2 rfl; have ff_2 := blk_free jf 2; have cf_3 := blk_cell jf 3 rfl; have ff_3 := blk_free jf 3; have cf_4 := blk_cell jf 4 rfl; have ff_4 := blk_free jf 4; have lf := lt_of_block jf); clear jf
    have c0 : W1.cell? ⟨w.heap.size, 0, none⟩ = some (.int .i64 s.id) := blk_cell k0 0 rfl
    go_wp2_with (first | (refine wpList_load_row rfl 54 _ rfl _ rfl 54 _ (0, 0) _ k0 Try.underlying54 rfl (by kernel_rfl) ?_) | (refine wpList_store_row rfl 54 _ _ rfl _ _ rfl rfl 54 _ k2 (by kernel_rfl) rfl (rag_one _) ?_))
    exact bodyPost_ret (results_ctt rfl _ _ _ _ _ (0, 0) _ rfl (setRow_heap _ _ _ _ _ _ k2) Try.underlying54 rfl (by kernel_rfl)) rfl ⟨_, by rw [ES.out.1, E.out]; rfl, by rw [ES.out.2]; exact Rof.nil _ _, below_setRow HB.out (by omega) _⟩
  case pos =>
  have z1 : (t == s.id) = true := by rw [ht]; simp
  have z2 : (t != s.id) = false := by rw [ht]; simp
  have E0 : Plt.rcvE s now ⟨k, f, t, q, l⟩ = Plt.timE s now := by rw [hE, if_pos ⟨hv, ht⟩]
  have TM := Lib.hid (rtime_any s now)
  rcases Plt.timE_cases s now with he | he
  case inr =>
    have E := Lib.hid (E0.trans he)
    have ES := Lib.hid (hS 3 E.out (by omega))
    rw [he] at TM
    clear hv hE hS hs hn hn2 hr ht E0 he
    go_enter Try.func44, Try.ntmps44; go_upto_region 1 with fail; generalize hV : World.alloc _ _ = V; have k0 : RB V w.heap.size s := (by rw [← hV]; exact blk_alloc (blk_alloc (heap_new _ _) _) _); have kf : V.heap[w.heap.size + 1]? = some (.cells #[.int .i64 k, .int .i64 f, .int .i64 t, .int .i64 q, .slice A n cap] 35 (0, 0)) := (by rw [← hV]; exact blk_alloc (heap_new' _ _ _ (by simp)) _); have k2 : RB V (w.heap.size + 2) rzero := (by rw [← hV]; exact heap_new' _ _ _ (by simp)); have HB := Lib.hid (show Below w.heap.size w V from by rw [← hV]; exact (by repeat (first | (with_reducible exact Below.refl _ _) | (with_reducible refine Below.drew ?_) | (with_reducible refine below_drewN ?_ _) | ((with_reducible refine Below.alloc ?_ ?_ _); rotate_left; (first | omega | (simp <;> omega)); rotate_right) | ((with_reducible refine Below.setCell ?_ ?_ _); rotate_left; (first | omega | (simp <;> omega)); rotate_right) | (with_reducible assumption) | (refine Below.trans ?_ (Below.mono (by assumption) ?_); rotate_left; (first | omega | (simp <;> omega)); rotate_right)))); clear hV; (have cf_0 := blk_cell kf 0 rfl; have ff_0 := blk_free kf 0; have cf_1 := blk_cell kf 1 rfl; have ff_1 := blk_free kf 1; have cf_2 := blk_cell kf 2 rfl; have ff_2 := blk_free kf 2; have cf_3 := blk_cell kf 3 rfl; have ff_3 := blk_free kf 3; have cf_4 := blk_cell kf 4 rfl; have ff_4 := blk_free kf 4; have lf := lt_of_block kf); have KF := Lib.hid kf; clear kf; (go_wp2_with fail); refine (VA.out _).mono ?_; rintro e W1 ⟨rfl, hb1⟩; (clear cf_0 ff_0 cf_1 ff_1 cf_2 ff_2 cf_3 ff_3 cf_4 ff_4); have i0 := blk_below k0 hb1 (lt_of_block k0); have jf := blk_below KF.out hb1 (lt_of_block KF.out); have i2 := blk_below k2 hb1 (lt_of_block k2); have HB1 := Lib.hid (HB.out.trans (hb1.mono HB.out.size)); clear k0 k2 HB KF hb1; have k0 := i0; have k2 := i2; have KF := Lib.hid jf; have HB := HB1; clear i0 i2 jf HB1; have jf := KF.out; (have cf_0 := blk_cell jf 0 rfl; have ff_0 := blk_free jf 0; have cf_1 := blk_cell jf 1 rfl; have ff_1 := blk_free jf 1; have cf_2 := blk_cell jf 2 rfl; have ff_2 := blk_free jf 2; have cf_3 := blk_cell jf 3 rfl; have ff_3 := blk_free jf 3; have cf_4 := blk_cell jf 4 rfl; have ff_4 := blk_free jf 4; have lf := lt_of_block jf); clear jf
    have c0 : W1.cell? ⟨w.heap.size, 0, none⟩ = some (.int .i64 s.id) := blk_cell k0 0 rfl
    (go_wp2_with (first | (refine wpList_load_row rfl 54 _ rfl _ rfl 54 _ (0, 0) _ k0 Try.underlying54 rfl (by kernel_rfl) ?_))); refine (TM.out _).mono ?_; rintro e W2 ⟨rfl, hb1⟩; (clear cf_0 ff_0 cf_1 ff_1 cf_2 ff_2 cf_3 ff_3 cf_4 ff_4); clear c0; have i0 := blk_below k0 hb1 (lt_of_block k0); have jf := blk_below KF.out hb1 (lt_of_block KF.out); have i2 := blk_below k2 hb1 (lt_of_block k2); have HB1 := Lib.hid (HB.out.trans (hb1.mono HB.out.size)); clear k0 k2 HB KF hb1; have k0 := i0; have k2 := i2; have KF := Lib.hid jf; have HB := HB1; clear i0 i2 jf HB1
    go_wp2_with (first | (refine wpList_load_row rfl 54 _ rfl _ rfl 54 _ (0, 0) _ k0 Try.underlying54 rfl (by kernel_rfl) ?_) | (refine wpList_store_row rfl 54 _ _ rfl _ _ rfl rfl 54 _ k2 (by kernel_rfl) rfl (rag_one _) ?_))
    exact bodyPost_ret (results_ctt rfl _ _ _ _ _ (0, 0) _ rfl (setRow_heap _ _ _ _ _ _ k2) Try.underlying54 rfl (by kernel_rfl)) rfl ⟨_, by rw [ES.out.1, E.out]; rfl, by rw [ES.out.2]; exact Rof.nil _ _, below_setRow HB.out (by omega) _⟩
  case inl =>
  have E := Lib.hid (E0.trans he)
  have hl := (Plt.timE_ok he).1
  have hvv := Frm.vd_iff.1 hv
  rw [he] at TM
  obtain ⟨p, hp⟩ : ∃ p, p = Plt.pas s now := ⟨_, rfl⟩
  obtain ⟨u, hu⟩ : ∃ u, u = ({ p with heard := now } : Plt.St) := ⟨_, rfl⟩
  have hpi : Plt.Inv p := by rw [hp]; exact Plt.pas_inv hs hl
  have hui : Plt.Inv u := by rw [hu]; exact Plt.heard_inv hpi hl
  obtain ⟨x, hx⟩ : ∃ x, x = Plt.fmOf ⟨k, f, t, q, l⟩ := ⟨_, rfl⟩
  have hxn : -1 ≤ x.n ∧ x.n ≤ 4294967295 := by rw [hx]; exact Plt.fmOf_n hr.2.1
  obtain ⟨r, hrr⟩ : ∃ r, r = Plt.take u x := ⟨_, rfl⟩
  have hri : Plt.Inv r.1 := by rw [hrr]; exact Plt.take_inv hui hxn
  obtain ⟨v, hvd⟩ : ∃ v, v = Plt.pas r.1 now := ⟨_, rfl⟩
  have hss : Plt.rcvS s now ⟨k, f, t, q, l⟩ = v := by
    unfold Plt.rcvS
    rw [if_pos E.out, hvd, hrr, hu, hp, hx]; rfl
  have hid : v.id = s.id := by
    rw [hvd, Plt.pas_id, hrr, (Plt.take_same u x).2.2.2.2.2, hu]
    show p.id = _
    rw [hp, Plt.pas_id]
  have hff : Plt.rcvF s now ⟨k, f, t, q, l⟩ = if r.2 = true then [⟨8, v.id, 0, q, [k]⟩] else [] := by
    unfold Plt.rcvF
    have e1 : Plt.recvA s now (Plt.fmOf ⟨k, f, t, q, l⟩) = r.2 := by rw [hrr, hu, hp, hx]; rfl
    rw [e1, hid]
    cases hr2 : r.2
    · rw [if_neg (by simp), if_neg (by simp)]
    · rw [if_pos ⟨E.out, rfl⟩, if_pos rfl]
  have PA := Lib.hid (fun (W : World) => by have := rpass_any s hs hl W; rw [← hp] at this; exact this)
  have TK := Lib.hid (fun (W : World) (hR : Rd W W.heap.size A n l) => by have := rtake_any u hui k f t q A n cap l hn hvv.2.2.1 W hR; rw [← hx, ← hrr] at this; unfold RTPost at this; exact this)
  have PB := Lib.hid (fun (W : World) => by have := rpass_any r.1 hri hl W; rw [← hvd] at this; exact this)
  rw [hss, hff, E.out]
  have HR := Lib.hid hr
  have HU := Lib.hid hu
  have hst255 : 0 ≤ k ∧ k < 256 := by omega
  have wk : IntKind.u8.wrap k = k := by rw [IntKind.wrap_u8]; omega
  obtain ⟨r1, r2⟩ := r
  simp only at *
  clear hv hE hS hs hn hn2 hr ht E0 he hl hvv hp hu hpi hui hx hxn hrr hri hss hff hvd hid
  cases r2
  all_goals
    go_enter Try.func44, Try.ntmps44; go_upto_region 1 with fail; generalize hV : World.alloc _ _ = V; have k0 : RB V w.heap.size s := (by rw [← hV]; exact blk_alloc (blk_alloc (heap_new _ _) _) _); have kf : V.heap[w.heap.size + 1]? = some (.cells #[.int .i64 k, .int .i64 f, .int .i64 t, .int .i64 q, .slice A n cap] 35 (0, 0)) := (by rw [← hV]; exact blk_alloc (heap_new' _ _ _ (by simp)) _); have k2 : RB V (w.heap.size + 2) rzero := (by rw [← hV]; exact heap_new' _ _ _ (by simp)); have HB := Lib.hid (show Below w.heap.size w V from by rw [← hV]; exact (by repeat (first | (with_reducible exact Below.refl _ _) | (with_reducible refine Below.drew ?_) | (with_reducible refine below_drewN ?_ _) | ((with_reducible refine Below.alloc ?_ ?_ _); rotate_left; (first | omega | (simp <;> omega)); rotate_right) | ((with_reducible refine Below.setCell ?_ ?_ _); rotate_left; (first | omega | (simp <;> omega)); rotate_right) | (with_reducible assumption) | (refine Below.trans ?_ (Below.mono (by assumption) ?_); rotate_left; (first | omega | (simp <;> omega)); rotate_right)))); clear hV; (have cf_0 := blk_cell kf 0 rfl; have ff_0 := blk_free kf 0; have cf_1 := blk_cell kf 1 rfl; have ff_1 := blk_free kf 1; have cf_2 := blk_cell kf 2 rfl; have ff_2 := blk_free kf 2; have cf_3 := blk_cell kf 3 rfl; have ff_3 := blk_free kf 3; have cf_4 := blk_cell kf 4 rfl; have ff_4 := blk_free kf 4; have lf := lt_of_block kf); have KF := Lib.hid kf; clear kf; (go_wp2_with fail); refine (VA.out _).mono ?_; rintro e W1 ⟨rfl, hb1⟩; (clear cf_0 ff_0 cf_1 ff_1 cf_2 ff_2 cf_3 ff_3 cf_4 ff_4); have i0 := blk_below k0 hb1 (lt_of_block k0); have jf := blk_below KF.out hb1 (lt_of_block KF.out); have i2 := blk_below k2 hb1 (lt_of_block k2); have HB1 := Lib.hid (HB.out.trans (hb1.mono HB.out.size)); clear k0 k2 HB KF hb1; have k0 := i0; have k2 := i2; have KF := Lib.hid jf; have HB := HB1; clear i0 i2 jf HB1; have jf := KF.out; (have cf_0 := blk_cell jf 0 rfl; have ff_0 := blk_free jf 0; have cf_1 := blk_cell jf 1 rfl; have ff_1 := blk_free jf 1; have cf_2 := blk_cell jf 2 rfl; have ff_2 := blk_free jf 2; have cf_3 := blk_cell jf 3 rfl; have ff_3 := blk_free jf 3; have cf_4 := blk_cell jf 4 rfl; have ff_4 := blk_free jf 4; have lf := lt_of_block jf); clear jf
    have c0 : W1.cell? ⟨w.heap.size, 0, none⟩ = some (.int .i64 s.id) := blk_cell k0 0 rfl
    (go_wp2_with (first | (refine wpList_load_row rfl 54 _ rfl _ rfl 54 _ (0, 0) _ k0 Try.underlying54 rfl (by kernel_rfl) ?_))); refine (TM.out _).mono ?_; rintro e W2 ⟨rfl, hb1⟩; (clear cf_0 ff_0 cf_1 ff_1 cf_2 ff_2 cf_3 ff_3 cf_4 ff_4); clear c0; have i0 := blk_below k0 hb1 (lt_of_block k0); have jf := blk_below KF.out hb1 (lt_of_block KF.out); have i2 := blk_below k2 hb1 (lt_of_block k2); have HB1 := Lib.hid (HB.out.trans (hb1.mono HB.out.size)); clear k0 k2 HB KF hb1; have k0 := i0; have k2 := i2; have KF := Lib.hid jf; have HB := HB1; clear i0 i2 jf HB1
    clear z1 z2
    (go_wp2_with (first | (refine wpList_load_row rfl 54 _ rfl _ rfl 54 _ (0, 0) _ k0 Try.underlying54 rfl (by kernel_rfl) ?_)))
    refine (PA.out _).mono ?_
    rintro e W3 ⟨rfl, hb1⟩
    have i0 := blk_below k0 hb1 (lt_of_block k0); have jf := blk_below KF.out hb1 (lt_of_block KF.out); have i2 := blk_below k2 hb1 (lt_of_block k2); have HB1 := Lib.hid (HB.out.trans (hb1.mono HB.out.size)); clear k0 k2 HB KF hb1; have k0 := i0; have k2 := i2; have KF := Lib.hid jf; have HB := HB1; clear i0 i2 jf HB1
    (go_upto_region 7 with (refine wpList_store_row rfl 54 _ _ rfl _ _ rfl rfl 54 _ k0 (by kernel_rfl) rfl (rag_one _) ?_))
    generalize hW : World.setRow _ _ _ = W9
    have i0 : RB W9 w.heap.size p := (by rw [← hW]; exact setRow_heap _ _ _ _ _ _ k0)
    have i2 : RB W9 (w.heap.size + 2) rzero := (by rw [← hW]; exact (setRow_other _ _ _ _ (by omega)).trans k2)
    have jf : W9.heap[w.heap.size + 1]? = some (.cells #[.int .i64 k, .int .i64 f, .int .i64 t, .int .i64 q, .slice A n cap] 35 (0, 0)) := (by rw [← hW]; exact (setRow_other _ _ _ _ (by omega)).trans KF.out)
    have HB9 := Lib.hid (show Below w.heap.size w W9 by rw [← hW]; exact below_setRow HB.out (Nat.le_refl _) _)
    clear hW k0 k2 HB KF
    have c17 : W9.cell? ⟨w.heap.size, 17, none⟩ = some (.int .i64 p.heard) := blk_cell i0 17 rfl
    have f17 := blk_free i0 17
    go_upto_region 8 with fail
    generalize hW : World.setCell _ _ _ = W10
    have k0 : RB W10 w.heap.size u := by rw [← hW, HU.out]; exact blk_set i0 17 _
    have k2 : RB W10 (w.heap.size + 2) rzero := by rw [← hW]; exact blk_far i2 (by simp) _
    have kf : W10.heap[w.heap.size + 1]? = some (.cells #[.int .i64 k, .int .i64 f, .int .i64 t, .int .i64 q, .slice A n cap] 35 (0, 0)) := by rw [← hW]; exact blk_far jf (by simp) _
    have HB := Lib.hid (show Below w.heap.size w W10 by rw [← hW]; have := HB9.out; exact (by repeat (first | (with_reducible exact Below.refl _ _) | (with_reducible refine Below.drew ?_) | (with_reducible refine below_drewN ?_ _) | ((with_reducible refine Below.alloc ?_ ?_ _); rotate_left; (first | omega | (simp <;> omega)); rotate_right) | ((with_reducible refine Below.setCell ?_ ?_ _); rotate_left; (first | omega | (simp <;> omega)); rotate_right) | (with_reducible assumption) | (refine Below.trans ?_ (Below.mono (by assumption) ?_); rotate_left; (first | omega | (simp <;> omega)); rotate_right))))
    clear hW i0 i2 jf HB9 c17 f17
    have cf_0 := blk_cell kf 0 rfl; have ff_0 := blk_free kf 0; have cf_1 := blk_cell kf 1 rfl; have ff_1 := blk_free kf 1; have cf_2 := blk_cell kf 2 rfl; have ff_2 := blk_free kf 2; have cf_3 := blk_cell kf 3 rfl; have ff_3 := blk_free kf 3; have cf_4 := blk_cell kf 4 rfl; have ff_4 := blk_free kf 4; have lf := lt_of_block kf
    have KF := Lib.hid kf
    clear kf
    (go_wp2_with (first | (refine wpList_load_row rfl 54 _ rfl _ rfl 54 _ (0, 0) _ k0 Try.underlying54 rfl (by kernel_rfl) ?_)))
    refine (TK.out _ ((HR.out.below HB.out (Nat.le_refl _)).more HB.out.size)).mono ?_
    rintro e W4 ⟨rfl, hb1⟩
    clear cf_0 ff_0 cf_1 ff_1 cf_2 ff_2 cf_3 ff_3 cf_4 ff_4
    have i0 := blk_below k0 hb1 (lt_of_block k0); have jf := blk_below KF.out hb1 (lt_of_block KF.out); have i2 := blk_below k2 hb1 (lt_of_block k2); have HB1 := Lib.hid (HB.out.trans (hb1.mono HB.out.size)); clear k0 k2 HB KF hb1; have k0 := i0; have k2 := i2; have KF := Lib.hid jf; have HB := HB1; clear i0 i2 jf HB1
    (go_upto_region 9 with (refine wpList_store_row rfl 54 _ _ rfl _ _ rfl rfl 54 _ k0 (by kernel_rfl) rfl (rag_one _) ?_))
    generalize hW : World.setRow _ _ _ = W9; have i0 : RB W9 w.heap.size r1 := (by rw [← hW]; exact setRow_heap _ _ _ _ _ _ k0); have i2 : RB W9 (w.heap.size + 2) rzero := (by rw [← hW]; exact (setRow_other _ _ _ _ (by omega)).trans k2); have jf : W9.heap[w.heap.size + 1]? = some (.cells #[.int .i64 k, .int .i64 f, .int .i64 t, .int .i64 q, .slice A n cap] 35 (0, 0)) := (by rw [← hW]; exact (setRow_other _ _ _ _ (by omega)).trans KF.out); have HB1 := Lib.hid (show Below w.heap.size w W9 by rw [← hW]; exact below_setRow HB.out (Nat.le_refl _) _); clear hW k0 k2 HB KF; have k0 := i0; have k2 := i2; have KF := Lib.hid jf; have HB := HB1; clear i0 i2 jf HB1
    (go_wp2_with (first | (refine wpList_load_row rfl 54 _ rfl _ rfl 54 _ (0, 0) _ k0 Try.underlying54 rfl (by kernel_rfl) ?_)))
    refine (PB.out _).mono ?_
    rintro e W5 ⟨rfl, hb1⟩
    have i0 := blk_below k0 hb1 (lt_of_block k0); have jf := blk_below KF.out hb1 (lt_of_block KF.out); have i2 := blk_below k2 hb1 (lt_of_block k2); have HB1 := Lib.hid (HB.out.trans (hb1.mono HB.out.size)); clear k0 k2 HB KF hb1; have k0 := i0; have k2 := i2; have KF := Lib.hid jf; have HB := HB1; clear i0 i2 jf HB1
    (go_upto_region 10 with (refine wpList_store_row rfl 54 _ _ rfl _ _ rfl rfl 54 _ k0 (by kernel_rfl) rfl (rag_one _) ?_))
    generalize hW : World.setRow _ _ _ = W6
    have g0 : RB W6 w.heap.size v := (by rw [← hW]; exact setRow_heap _ _ _ _ _ _ k0)
    have g2 : RB W6 (w.heap.size + 2) rzero := (by rw [← hW]; exact (setRow_other _ _ _ _ (by omega)).trans k2)
    have gf : W6.heap[w.heap.size + 1]? = some (.cells #[.int .i64 k, .int .i64 f, .int .i64 t, .int .i64 q, .slice A n cap] 35 (0, 0)) := (by rw [← hW]; exact (setRow_other _ _ _ _ (by omega)).trans KF.out)
    have HB4 := Lib.hid (show Below w.heap.size w W6 by rw [← hW]; exact below_setRow HB.out (Nat.le_refl _) _)
    clear hW k0 k2 HB KF
  · have k0 := g0
    have k2 := g2
    go_wp2_with (first | (refine wpList_load_row rfl 54 _ rfl _ rfl 54 _ (0, 0) _ k0 Try.underlying54 rfl (by kernel_rfl) ?_) | (refine wpList_store_row rfl 54 _ _ rfl _ _ rfl rfl 54 _ k2 (by kernel_rfl) rfl (rag_one _) ?_))
    exact bodyPost_ret (results_ctt rfl _ _ _ _ _ (0, 0) _ rfl (setRow_heap _ _ _ _ _ _ k2) Try.underlying54 rfl (by kernel_rfl)) rfl ⟨_, rfl, Rof.nil _ _, below_setRow HB4.out (by omega) _⟩
  · go_upto_region 12 with fail
    refine wp_region_held_drew (S := fun w' => RB w' w.heap.size v ∧ w'.heap[w.heap.size + 1]? = some (.cells #[.int .i64 k, .int .i64 f, .int .i64 t, .int .i64 q, .slice A n cap] 35 (0, 0))) (by kernel_rfl) ?_ (fun h0 => ?_)
    · exact ⟨g0, gf⟩
    refine wpAnyH_take (i := 0) (v := .agg (rag v).toArray) rfl (by kernel_rfl) (by kernel_rfl) (by kernel_rfl) (fun _ _ _ h => h) (yields_load_row (by rfl) 54 _ rfl w.heap.size rfl 54 _ (0, 0) _ (fun w' h => h.1) Try.underlying54 rfl (by kernel_rfl)) h0 ?_
    (try simp only [List.getElem_toArray, List.getElem_cons_succ, List.getElem_cons_zero, Act.put, List.setIfInBounds_toArray, List.set_cons_zero, List.set_cons_succ])
    refine wpAnyH_take (i := 1) (v := ?_) rfl (by kernel_rfl) (by kernel_rfl) (by kernel_rfl) (fun _ _ _ h => h) (Or.inl ⟨by rfl, ?_⟩) h0 ?_
    rotate_left
    focus (intro w' hSw; have e0 := blk_cell hSw.1 0 rfl; have e1 := blk_cell hSw.2 3 rfl; have e2 := blk_cell hSw.2 0 rfl; (try dsimp only at e0 e1 e2); go_simp; (try with_reducible rfl))
    (try simp only [List.getElem_toArray, List.getElem_cons_succ, List.getElem_cons_zero, Act.put, List.setIfInBounds_toArray, List.set_cons_zero, List.set_cons_succ])
    refine wpAnyH_take (i := 2) (v := ?_) rfl (by kernel_rfl) (by kernel_rfl) (by kernel_rfl) (fun _ _ _ h => h) (Or.inl ⟨by rfl, ?_⟩) h0 ?_
    rotate_left
    focus (intro w' hSw; have e0 := blk_cell hSw.1 0 rfl; have e1 := blk_cell hSw.2 3 rfl; have e2 := blk_cell hSw.2 0 rfl; (try dsimp only at e0 e1 e2); go_simp; (try with_reducible rfl))
    (try simp only [List.getElem_toArray, List.getElem_cons_succ, List.getElem_cons_zero, Act.put, List.setIfInBounds_toArray, List.set_cons_zero, List.set_cons_succ])
    refine wpAnyH_take (i := 3) (v := ?_) rfl (by kernel_rfl) (by kernel_rfl) (by kernel_rfl) (fun _ _ _ h => h) (Or.inl ⟨by rfl, ?_⟩) h0 ?_
    rotate_left
    focus (intro w' hSw; have e0 := blk_cell hSw.1 0 rfl; have e1 := blk_cell hSw.2 3 rfl; have e2 := blk_cell hSw.2 0 rfl; (try dsimp only at e0 e1 e2); go_simp; (try with_reducible rfl))
    (try simp only [List.getElem_toArray, List.getElem_cons_succ, List.getElem_cons_zero, Act.put, List.setIfInBounds_toArray, List.set_cons_zero, List.set_cons_succ])
    refine wpAnyH_take (i := 4) (v := ?_) rfl (by kernel_rfl) (by kernel_rfl) (by kernel_rfl) (fun _ _ _ h => h) (Or.inl ⟨by rfl, ?_⟩) h0 ?_
    rotate_left
    focus (intro w' hSw; have e0 := blk_cell hSw.1 0 rfl; have e1 := blk_cell hSw.2 3 rfl; have e2 := blk_cell hSw.2 0 rfl; (try dsimp only at e0 e1 e2); go_simp; (try with_reducible rfl))
    (try simp only [List.getElem_toArray, List.getElem_cons_succ, List.getElem_cons_zero, Act.put, List.setIfInBounds_toArray, List.set_cons_zero, List.set_cons_succ])
    refine wpAnyH_take (i := 5) (v := ?_) rfl (by kernel_rfl) (by kernel_rfl) (by kernel_rfl) (fun _ _ _ h => h) (Or.inl ⟨by rfl, ?_⟩) h0 ?_
    rotate_left
    focus (intro w' hSw; have e0 := blk_cell hSw.1 0 rfl; have e1 := blk_cell hSw.2 3 rfl; have e2 := blk_cell hSw.2 0 rfl; (try dsimp only at e0 e1 e2); go_simp; (try with_reducible rfl))
    (try simp only [List.getElem_toArray, List.getElem_cons_succ, List.getElem_cons_zero, Act.put, List.setIfInBounds_toArray, List.set_cons_zero, List.set_cons_succ])
    refine wpAnyH_take (i := 6) (v := ?_) rfl (by kernel_rfl) (by kernel_rfl) (by kernel_rfl) (fun _ _ _ h => h) (Or.inl ⟨by rfl, ?_⟩) h0 ?_
    rotate_left
    focus (intro w' hSw; have e0 := blk_cell hSw.1 0 rfl; have e1 := blk_cell hSw.2 3 rfl; have e2 := blk_cell hSw.2 0 rfl; (try dsimp only at e0 e1 e2); go_simp; (try with_reducible rfl))
    (try simp only [List.getElem_toArray, List.getElem_cons_succ, List.getElem_cons_zero, Act.put, List.setIfInBounds_toArray, List.set_cons_zero, List.set_cons_succ])
    refine wpAnyH_take (i := 7) (v := ?_) rfl (by kernel_rfl) (by kernel_rfl) (by kernel_rfl) (fun _ _ _ h => h) (Or.inl ⟨by rfl, ?_⟩) h0 ?_
    rotate_left
    focus (intro w' hSw; have e0 := blk_cell hSw.1 0 rfl; have e1 := blk_cell hSw.2 3 rfl; have e2 := blk_cell hSw.2 0 rfl; (try dsimp only at e0 e1 e2); go_simp; (try with_reducible rfl))
    (try simp only [List.getElem_toArray, List.getElem_cons_succ, List.getElem_cons_zero, Act.put, List.setIfInBounds_toArray, List.set_cons_zero, List.set_cons_succ])
    have x2 : W6.drew.heap[w.heap.size + 2]? = some (.cells (rag rzero).toArray 54 (0, 0)) := g2
    have HX := Lib.hid (show Below w.heap.size w W6.drew from HB4.out.drew)
    refine wpAnyH_ready (rs := [8, 11]) (by kernel_rfl) (by simp) ?_
    refine AllReadyH.cons rfl (fun K hK => ?_) (AllReadyH.cons rfl (fun K hK => ?_) AllReadyH.nil)
    · go_simp
      refine hK.out _ _ ?_ (fun h1 => ?_)
      · exact ⟨blk_alloc h0.1 _, blk_alloc h0.2 _⟩
      clear hK K
      (try simp only [List.getElem_toArray, List.getElem_cons_succ, List.getElem_cons_zero, Act.put, List.setIfInBounds_toArray, List.set_cons_zero, List.set_cons_succ])
      refine wpAnyH_take (i := 9) (v := ?_) rfl (by kernel_rfl) (by kernel_rfl) (by kernel_rfl) (fun _ _ _ h => h) (Or.inl ⟨by rfl, ?_⟩) h1 ?_
      rotate_left
      focus (intro w' hSw; have e0 := blk_cell hSw.1 0 rfl; have e1 := blk_cell hSw.2 3 rfl; have e2 := blk_cell hSw.2 0 rfl; (try dsimp only at e0 e1 e2); go_simp; (try with_reducible rfl))
      (try simp only [List.getElem_toArray, List.getElem_cons_succ, List.getElem_cons_zero, Act.put, List.setIfInBounds_toArray, List.set_cons_zero, List.set_cons_succ])
      refine wpAnyH_ready (rs := [10, 11]) (by kernel_rfl) (by simp) ?_
      refine AllReadyH.cons rfl (fun K hK => ?_) (AllReadyH.cons rfl (fun K hK => ?_) AllReadyH.nil)
      · go_simp
        refine hK.out _ _ ?_ (fun h2 => ?_)
        · exact ⟨blk_alloc h1.1 _, blk_alloc h1.2 _⟩
        clear hK K
        (try simp only [List.getElem_toArray, List.getElem_cons_succ, List.getElem_cons_zero, Act.put, List.setIfInBounds_toArray, List.set_cons_zero, List.set_cons_succ])
        refine wpAnyH_ready (rs := [11]) (by kernel_rfl) (by simp) ?_
        refine AllReadyH.cons rfl (fun K hK => ?_) AllReadyH.nil
        refine wp_store_row 54 _ _ rfl _ _ rfl rfl 54 _ (blk_alloc (blk_alloc x2 _) _) (by kernel_rfl) rfl (rag_one _) ?_
        refine hK.out _ _ ?_ (fun h3 => ?_)
        · exact ⟨(setRow_other _ _ _ _ (by omega)).trans h2.1, (setRow_other _ _ _ _ (by omega)).trans h2.2⟩
        clear hK K
        (try simp only [List.getElem_toArray, List.getElem_cons_succ, List.getElem_cons_zero, Act.put, List.setIfInBounds_toArray, List.set_cons_zero, List.set_cons_succ])
        refine wpAnyH_take (i := 12) (v := ?_) rfl (by kernel_rfl) (by kernel_rfl) (by kernel_rfl) (fun _ _ _ h => h) (Or.inl ⟨by rfl, ?_⟩) h3 ?_
        rotate_left
        focus (intro w' hSw; have e0 := blk_cell hSw.1 0 rfl; have e1 := blk_cell hSw.2 3 rfl; have e2 := blk_cell hSw.2 0 rfl; (try dsimp only at e0 e1 e2); go_simp; (try with_reducible rfl))
        (try simp only [List.getElem_toArray, List.getElem_cons_succ, List.getElem_cons_zero, Act.put, List.setIfInBounds_toArray, List.set_cons_zero, List.set_cons_succ])
        refine wpAnyH_take (i := 13) (v := ?_) rfl (by kernel_rfl) (by kernel_rfl) (by kernel_rfl) (fun _ _ _ h => h) (Or.inl ⟨by rfl, ?_⟩) h3 ?_
        rotate_left
        focus (intro w' hSw; have e0 := blk_cell hSw.1 0 rfl; have e1 := blk_cell hSw.2 3 rfl; have e2 := blk_cell hSw.2 0 rfl; (try dsimp only at e0 e1 e2); go_simp; (try with_reducible rfl))
        (try simp only [List.getElem_toArray, List.getElem_cons_succ, List.getElem_cons_zero, Act.put, List.setIfInBounds_toArray, List.set_cons_zero, List.set_cons_succ])
        refine wpAnyH_done (by kernel_rfl) ?_ _
        go_wp2_with fail
        refine bodyPost_ret (results_ctt rfl _ _ _ _ _ (0, 0) _ rfl (setRow_heap _ _ _ _ _ _ (blk_alloc (blk_alloc x2 _) _)) Try.underlying54 rfl (by kernel_rfl)) rfl ⟨_, rfl, ?_, ?_⟩
        · exact rof_one (g1 := W6.heap.size) (g2 := W6.heap.size + 1) ((setRow_other _ _ _ _ (by have := lt_of_block x2; first | omega | (simp at *; omega))).trans (blk_alloc (heap_new _ _) _)) ((setRow_other _ _ _ _ (by have := lt_of_block x2; first | omega | (simp at *; omega))).trans (heap_new' _ _ _ (by first | rfl | (simp; done) | (simp [World.setRow]; done) | (simp [World.setRow]; omega)))) hst255 (by have := HX.out.size; simp at *; omega) (by have := HX.out.size; simp at *; omega)
        · exact below_setRow ((HX.out.alloc HX.out.size _).alloc (by have := HX.out.size; simp at *; omega) _) (by omega) _
      · refine wp_store_row 54 _ _ rfl _ _ rfl rfl 54 _ (blk_alloc x2 _) (by kernel_rfl) rfl (rag_one _) ?_
        refine hK.out _ _ ?_ (fun h2 => ?_)
        · exact ⟨(setRow_other _ _ _ _ (by omega)).trans h1.1, (setRow_other _ _ _ _ (by omega)).trans h1.2⟩
        clear hK K
        (try simp only [List.getElem_toArray, List.getElem_cons_succ, List.getElem_cons_zero, Act.put, List.setIfInBounds_toArray, List.set_cons_zero, List.set_cons_succ])
        refine wpAnyH_ready (rs := [10]) (by kernel_rfl) (by simp) ?_
        refine AllReadyH.cons rfl (fun K hK => ?_) AllReadyH.nil
        go_simp
        refine hK.out _ _ ?_ (fun h3 => ?_)
        · exact ⟨blk_alloc h2.1 _, blk_alloc h2.2 _⟩
        clear hK K
        (try simp only [List.getElem_toArray, List.getElem_cons_succ, List.getElem_cons_zero, Act.put, List.setIfInBounds_toArray, List.set_cons_zero, List.set_cons_succ])
        refine wpAnyH_take (i := 12) (v := ?_) rfl (by kernel_rfl) (by kernel_rfl) (by kernel_rfl) (fun _ _ _ h => h) (Or.inl ⟨by rfl, ?_⟩) h3 ?_
        rotate_left
        focus (intro w' hSw; have e0 := blk_cell hSw.1 0 rfl; have e1 := blk_cell hSw.2 3 rfl; have e2 := blk_cell hSw.2 0 rfl; (try dsimp only at e0 e1 e2); go_simp; (try with_reducible rfl))
        (try simp only [List.getElem_toArray, List.getElem_cons_succ, List.getElem_cons_zero, Act.put, List.setIfInBounds_toArray, List.set_cons_zero, List.set_cons_succ])
        refine wpAnyH_take (i := 13) (v := ?_) rfl (by kernel_rfl) (by kernel_rfl) (by kernel_rfl) (fun _ _ _ h => h) (Or.inl ⟨by rfl, ?_⟩) h3 ?_
        rotate_left
        focus (intro w' hSw; have e0 := blk_cell hSw.1 0 rfl; have e1 := blk_cell hSw.2 3 rfl; have e2 := blk_cell hSw.2 0 rfl; (try dsimp only at e0 e1 e2); go_simp; (try with_reducible rfl))
        (try simp only [List.getElem_toArray, List.getElem_cons_succ, List.getElem_cons_zero, Act.put, List.setIfInBounds_toArray, List.set_cons_zero, List.set_cons_succ])
        refine wpAnyH_done (by kernel_rfl) ?_ _
        go_wp2_with fail
        refine bodyPost_ret (results_ctt rfl _ _ _ _ _ (0, 0) _ rfl (blk_alloc (setRow_heap _ _ _ _ _ _ (blk_alloc x2 _)) _) Try.underlying54 rfl (by kernel_rfl)) rfl ⟨_, rfl, ?_, ?_⟩
        · exact rof_one (g1 := W6.heap.size) (g2 := W6.heap.size + 1) (blk_alloc ((setRow_other _ _ _ _ (by have := lt_of_block x2; first | omega | (simp at *; omega))).trans (heap_new _ _)) _) (heap_new' _ _ _ (by first | rfl | (simp; done) | (simp [World.setRow]; done) | (simp [World.setRow]; omega))) hst255 (by have := HX.out.size; simp at *; omega) (by have := HX.out.size; simp at *; omega)
        · exact (below_setRow (HX.out.alloc HX.out.size _) (by omega) _).alloc (by have := HX.out.size; simp [World.setRow] at *; omega) _
    · refine wp_store_row 54 _ _ rfl _ _ rfl rfl 54 _ (x2) (by kernel_rfl) rfl (rag_one _) ?_
      refine hK.out _ _ ?_ (fun h1 => ?_)
      · exact ⟨(setRow_other _ _ _ _ (by omega)).trans h0.1, (setRow_other _ _ _ _ (by omega)).trans h0.2⟩
      clear hK K
      (try simp only [List.getElem_toArray, List.getElem_cons_succ, List.getElem_cons_zero, Act.put, List.setIfInBounds_toArray, List.set_cons_zero, List.set_cons_succ])
      refine wpAnyH_ready (rs := [8]) (by kernel_rfl) (by simp) ?_
      refine AllReadyH.cons rfl (fun K hK => ?_) AllReadyH.nil
      go_simp
      refine hK.out _ _ ?_ (fun h2 => ?_)
      · exact ⟨blk_alloc h1.1 _, blk_alloc h1.2 _⟩
      clear hK K
      (try simp only [List.getElem_toArray, List.getElem_cons_succ, List.getElem_cons_zero, Act.put, List.setIfInBounds_toArray, List.set_cons_zero, List.set_cons_succ])
      refine wpAnyH_take (i := 9) (v := ?_) rfl (by kernel_rfl) (by kernel_rfl) (by kernel_rfl) (fun _ _ _ h => h) (Or.inl ⟨by rfl, ?_⟩) h2 ?_
      rotate_left
      focus (intro w' hSw; have e0 := blk_cell hSw.1 0 rfl; have e1 := blk_cell hSw.2 3 rfl; have e2 := blk_cell hSw.2 0 rfl; (try dsimp only at e0 e1 e2); go_simp; (try with_reducible rfl))
      (try simp only [List.getElem_toArray, List.getElem_cons_succ, List.getElem_cons_zero, Act.put, List.setIfInBounds_toArray, List.set_cons_zero, List.set_cons_succ])
      refine wpAnyH_ready (rs := [10]) (by kernel_rfl) (by simp) ?_
      refine AllReadyH.cons rfl (fun K hK => ?_) AllReadyH.nil
      go_simp
      refine hK.out _ _ ?_ (fun h3 => ?_)
      · exact ⟨blk_alloc h2.1 _, blk_alloc h2.2 _⟩
      clear hK K
      (try simp only [List.getElem_toArray, List.getElem_cons_succ, List.getElem_cons_zero, Act.put, List.setIfInBounds_toArray, List.set_cons_zero, List.set_cons_succ])
      refine wpAnyH_take (i := 12) (v := ?_) rfl (by kernel_rfl) (by kernel_rfl) (by kernel_rfl) (fun _ _ _ h => h) (Or.inl ⟨by rfl, ?_⟩) h3 ?_
      rotate_left
      focus (intro w' hSw; have e0 := blk_cell hSw.1 0 rfl; have e1 := blk_cell hSw.2 3 rfl; have e2 := blk_cell hSw.2 0 rfl; (try dsimp only at e0 e1 e2); go_simp; (try with_reducible rfl))
      (try simp only [List.getElem_toArray, List.getElem_cons_succ, List.getElem_cons_zero, Act.put, List.setIfInBounds_toArray, List.set_cons_zero, List.set_cons_succ])
      refine wpAnyH_take (i := 13) (v := ?_) rfl (by kernel_rfl) (by kernel_rfl) (by kernel_rfl) (fun _ _ _ h => h) (Or.inl ⟨by rfl, ?_⟩) h3 ?_
      rotate_left
      focus (intro w' hSw; have e0 := blk_cell hSw.1 0 rfl; have e1 := blk_cell hSw.2 3 rfl; have e2 := blk_cell hSw.2 0 rfl; (try dsimp only at e0 e1 e2); go_simp; (try with_reducible rfl))
      (try simp only [List.getElem_toArray, List.getElem_cons_succ, List.getElem_cons_zero, Act.put, List.setIfInBounds_toArray, List.set_cons_zero, List.set_cons_succ])
      refine wpAnyH_done (by kernel_rfl) ?_ _
      go_wp2_with fail
      refine bodyPost_ret (results_ctt rfl _ _ _ _ _ (0, 0) _ rfl (blk_alloc (blk_alloc (setRow_heap _ _ _ _ _ _ x2) _) _) Try.underlying54 rfl (by kernel_rfl)) rfl ⟨_, rfl, ?_, ?_⟩
      · exact rof_one (g1 := W6.heap.size) (g2 := W6.heap.size + 1) (blk_alloc (heap_new' _ _ _ (by first | rfl | (simp; done) | (simp [World.setRow]; done) | (simp [World.setRow]; omega))) _) (heap_new' _ _ _ (by first | rfl | (simp; done) | (simp [World.setRow]; done) | (simp [World.setRow]; omega))) hst255 (by have := HX.out.size; simp at *; omega) (by have := HX.out.size; simp at *; omega)
      · exact ((below_setRow HX.out (by omega) _).alloc (by have := HX.out.size; simp [World.setRow] at *; omega) _).alloc (by have := HX.out.size; simp [World.setRow] at *; omega) _
end Go.Proofs.Ytjidchaejicjaaa

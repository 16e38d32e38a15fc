/- The reference's pilot: Receive, Tick. -/
import Derived.Test.YtjidchaejicjaaaPlN
namespace Go.Proofs.Ytjidchaejicjaaa
open Go.RowKit
set_option maxHeartbeats 4000000
set_option maxRecDepth 100000
set_option linter.unusedSimpArgs false
set_option linter.unusedVariables false
attribute [local go_sem ↓] Go.wp_at_zero Go.wp_at_succ
/-- behind the reference's call -/
def RRPost (s' : Plt.St) (fr : List Fr) (er : Int) (w : World) (e : Ending) (w' : World) : Prop :=
  ∃ v, e = .returned (.tuple #[.agg (rag s').toArray, v, .int .i64 er]) ∧ Rof w' w.heap.size v fr ∧ Below w.heap.size w w'
theorem rtick_any (s : Plt.St) (hs : Plt.Inv s) (hrep : s.reports < 1000000000) (now : Int) (w : World) :
    Calls Try.prog 42 #[.agg (rag s).toArray, .int .i64 now] w (RRPost (Plt.tickS s now) (Plt.tickF s now) (Plt.timE s now) w) := by
  have TM := Lib.hid (rtime_any s now)
  rcases Plt.timE_cases s now with he | he
  case inr =>
    have ES := Lib.hid (show Plt.tickS s now = s ∧ Plt.tickF s now = [] by unfold Plt.tickS Plt.tickF; rw [if_neg (by rw [he]; omega), if_neg (by rw [he]; simp)]; exact ⟨rfl, rfl⟩)
    have E := Lib.hid he
    rw [he] at TM
    clear he hs hrep
    go_enter Try.func42, Try.ntmps42; go_upto_region 1 with fail; generalize hV : World.alloc _ _ = V; have k0 : RB V w.heap.size s := (by rw [← hV]; exact blk_alloc (heap_new _ _) _); have k2 : RB V (w.heap.size + 1) rzero := (by rw [← hV]; exact heap_new' _ _ _ (by simp)); have HB := Lib.hid (show Below w.heap.size w V from by rw [← hV]; exact (by repeat (first | (with_reducible exact Below.refl _ _) | (with_reducible refine Below.drew ?_) | (with_reducible refine below_drewN ?_ _) | ((with_reducible refine Below.alloc ?_ ?_ _); rotate_left; (first | omega | (simp <;> omega)); rotate_right) | ((with_reducible refine Below.setCell ?_ ?_ _); rotate_left; (first | omega | (simp <;> omega)); rotate_right) | (with_reducible assumption) | (refine Below.trans ?_ (Below.mono (by assumption) ?_); rotate_left; (first | omega | (simp <;> omega)); rotate_right)))); clear hV; (go_wp2_with (first | (refine wpList_load_row rfl 54 _ rfl _ rfl 54 _ (0, 0) _ k0 Try.underlying54 rfl (by kernel_rfl) ?_))); refine (TM.out _).mono ?_; rintro e W1 ⟨rfl, hb1⟩; have i0 := blk_below k0 hb1 (lt_of_block k0); have i2 := blk_below k2 hb1 (lt_of_block k2); have HB1 := Lib.hid (HB.out.trans (hb1.mono HB.out.size)); clear k0 k2 HB hb1; have k0 : RB W1 w.heap.size s := i0; have k2 : RB W1 (w.heap.size + 1) rzero := i2; have HB := HB1; clear i0 i2 HB1
    go_wp2_with (first | (refine wpList_load_row rfl 54 _ rfl _ rfl 54 _ (0, 0) _ k0 Try.underlying54 rfl (by kernel_rfl) ?_) | (refine wpList_store_row rfl 54 _ _ rfl _ _ rfl rfl 54 _ k2 (by kernel_rfl) rfl (rag_one _) ?_))
    exact bodyPost_ret (results_ctt rfl _ _ _ _ _ (0, 0) _ rfl (setRow_heap _ _ _ _ _ _ k2) Try.underlying54 rfl (by kernel_rfl)) rfl ⟨_, by rw [ES.out.1, E.out]; rfl, by rw [ES.out.2]; exact Rof.nil _ _, below_setRow HB.out (by omega) _⟩
  case inl =>
  have hl := (Plt.timE_ok he).1
  obtain ⟨p, hp⟩ : ∃ p, p = Plt.pas s now := ⟨_, rfl⟩
  have hpi : Plt.Inv p := by rw [hp]; exact Plt.pas_inv hs hl
  have hpr : p.reports = s.reports ∧ p.id = s.id := by rw [hp]; exact ⟨(Plt.pas_same s now).2.2.1, Plt.pas_id s now⟩
  have PA := Lib.hid (fun (W : World) => by have := rpass_any s hs hl W; rw [← hp] at this; exact this)
  have h1 := hpi.rep
  have h2 := hpi.every
  have h3 := hpi.rp
  have h4 := hpi.st
  have wr : IntKind.i64.wrap (p.rep + p.every) = p.rep + p.every := IntWalk.i64_in _ (by omega)
  rw [he] at TM ⊢
  cases ha : Plt.asks p now
  case true =>
    have ES := Lib.hid (show Plt.tickS s now = p ∧ Plt.tickF s now = [] by have := tickS_ask he (by rw [← hp]; exact ha); rw [← hp] at this; exact this)
    unfold Plt.asks at ha
    rw [decide_eq_true_eq] at ha
    have z1 : decide (0 < p.reports) = true := decide_eq_true ha.1
    have z2 : decide (now < p.rep + p.every) = true := decide_eq_true (by omega)
    clear ha he hs hrep hp hpi hpr hl h1 h2 h3 h4
    go_enter Try.func42, Try.ntmps42; go_upto_region 1 with fail; generalize hV : World.alloc _ _ = V; have k0 : RB V w.heap.size s := (by rw [← hV]; exact blk_alloc (heap_new _ _) _); have k2 : RB V (w.heap.size + 1) rzero := (by rw [← hV]; exact heap_new' _ _ _ (by simp)); have HB := Lib.hid (show Below w.heap.size w V from by rw [← hV]; exact (by repeat (first | (with_reducible exact Below.refl _ _) | (with_reducible refine Below.drew ?_) | (with_reducible refine below_drewN ?_ _) | ((with_reducible refine Below.alloc ?_ ?_ _); rotate_left; (first | omega | (simp <;> omega)); rotate_right) | ((with_reducible refine Below.setCell ?_ ?_ _); rotate_left; (first | omega | (simp <;> omega)); rotate_right) | (with_reducible assumption) | (refine Below.trans ?_ (Below.mono (by assumption) ?_); rotate_left; (first | omega | (simp <;> omega)); rotate_right)))); clear hV; (go_wp2_with (first | (refine wpList_load_row rfl 54 _ rfl _ rfl 54 _ (0, 0) _ k0 Try.underlying54 rfl (by kernel_rfl) ?_))); refine (TM.out _).mono ?_; rintro e W1 ⟨rfl, hb1⟩; have i0 := blk_below k0 hb1 (lt_of_block k0); have i2 := blk_below k2 hb1 (lt_of_block k2); have HB1 := Lib.hid (HB.out.trans (hb1.mono HB.out.size)); clear k0 k2 HB hb1; have k0 : RB W1 w.heap.size s := i0; have k2 : RB W1 (w.heap.size + 1) rzero := i2; have HB := HB1; clear i0 i2 HB1
    (go_wp2_with (first | (refine wpList_load_row rfl 54 _ rfl _ rfl 54 _ (0, 0) _ k0 Try.underlying54 rfl (by kernel_rfl) ?_))); refine (PA.out _).mono ?_; rintro e W2 ⟨rfl, hb2⟩; have i0 := blk_below k0 hb2 (lt_of_block k0); have i2 := blk_below k2 hb2 (lt_of_block k2); have HB2 := Lib.hid (HB.out.trans (hb2.mono HB.out.size)); clear k0 k2 HB hb2; (go_upto_region 5 with (refine wpList_store_row rfl 54 _ _ rfl _ _ rfl rfl 54 _ i0 (by kernel_rfl) rfl (rag_one _) ?_)); generalize hW : World.setRow _ _ _ = W3; have k0 : RB W3 w.heap.size p := (by rw [← hW]; exact setRow_heap _ _ _ _ _ _ i0); have k2 : RB W3 (w.heap.size + 1) rzero := (by rw [← hW]; exact (setRow_other _ _ _ _ (by omega)).trans i2); have HB := Lib.hid (show Below w.heap.size w W3 by rw [← hW]; exact below_setRow HB2.out (Nat.le_refl _) _); clear hW i0 i2 HB2
    have c21 : W3.cell? ⟨w.heap.size, 21, none⟩ = some (.int .i64 p.reports) := blk_cell k0 21 rfl
    have c22 : W3.cell? ⟨w.heap.size, 22, none⟩ = some (.int .i64 p.rep) := blk_cell k0 22 rfl
    have c5 : W3.cell? ⟨w.heap.size, 5, none⟩ = some (.int .i64 p.every) := blk_cell k0 5 rfl
    go_upto_region 6 with fail
    clear c21 c22 c5 wr z1 z2
    go_wp2_with (first | (refine wpList_load_row rfl 54 _ rfl _ rfl 54 _ (0, 0) _ k0 Try.underlying54 rfl (by kernel_rfl) ?_) | (refine wpList_store_row rfl 54 _ _ rfl _ _ rfl rfl 54 _ k2 (by kernel_rfl) rfl (rag_one _) ?_))
    exact bodyPost_ret (results_ctt rfl _ _ _ _ _ (0, 0) _ rfl (setRow_heap _ _ _ _ _ _ k2) Try.underlying54 rfl (by kernel_rfl)) rfl ⟨_, by rw [ES.out.1]; rfl, by rw [ES.out.2]; exact Rof.nil _ _, below_setRow HB.out (by omega) _⟩
  case false =>
    have ES := Lib.hid (show Plt.tickS s now = { p with q := p.reports % 65536, asked := true, reports := p.reports + 1, rep := now } ∧ Plt.tickF s now = [⟨9, s.id, 0, p.reports % 65536, [p.st]⟩] by have := tickS_rep he (by rw [← hp]; exact ha); rw [← hp] at this; exact this)
    unfold Plt.asks at ha
    rw [decide_eq_false_iff_not] at ha
    obtain ⟨u, hu⟩ : ∃ u, u = p.reports % 65536 := ⟨_, rfl⟩
    have wm : p.reports.tmod 65536 = u := by rw [hu, Int.tmod_eq_emod_of_nonneg h3]
    have wq : IntKind.i64.wrap u = u := IntWalk.i64_in _ (by omega)
    have ws : IntKind.i64.wrap (p.reports + 1) = p.reports + 1 := IntWalk.i64_in _ (by omega)
    have HID := Lib.hid hpr.2
    rw [← hu] at ES
    obtain ⟨n, hn⟩ : ∃ n, n = ({ p with q := u, asked := true, reports := p.reports + 1, rep := now } : Plt.St) := ⟨_, rfl⟩
    rw [← hn] at ES
    have HN := Lib.hid hn
    have EF := Lib.hid (show Plt.tickF s now = [⟨9, n.id, 0, n.q, [n.st]⟩] by rw [ES.out.2, hn]; simp only [hpr.2])
    rw [ES.out.1, EF.out]
    have key : (decide (0 < p.reports) = false) ∨ (decide (0 < p.reports) = true ∧ decide (now < p.rep + p.every) = false) := by
      by_cases h0 : 0 < p.reports
      · exact .inr ⟨decide_eq_true h0, decide_eq_false (fun hh => ha ⟨h0, by omega⟩)⟩
      · exact .inl (decide_eq_false h0)
    have hst255 : 0 ≤ n.st ∧ n.st < 256 := by rw [hn]; simp only; omega
    have wk : IntKind.u8.wrap n.st = n.st := by rw [IntKind.wrap_u8]; omega
    have hpr0 := h3
    have hpr1 : p.reports < 1000000000 := by omega
    clear ha he hs hrep hp hpi hpr hl h1 h2 h3 h4 hu hn
    rcases key with z1 | ⟨z1, z2⟩
    all_goals
      go_enter Try.func42, Try.ntmps42; go_upto_region 1 with fail; generalize hV : World.alloc _ _ = V; have k0 : RB V w.heap.size s := (by rw [← hV]; exact blk_alloc (heap_new _ _) _); have k2 : RB V (w.heap.size + 1) rzero := (by rw [← hV]; exact heap_new' _ _ _ (by simp)); have HB := Lib.hid (show Below w.heap.size w V from by rw [← hV]; exact (by repeat (first | (with_reducible exact Below.refl _ _) | (with_reducible refine Below.drew ?_) | (with_reducible refine below_drewN ?_ _) | ((with_reducible refine Below.alloc ?_ ?_ _); rotate_left; (first | omega | (simp <;> omega)); rotate_right) | ((with_reducible refine Below.setCell ?_ ?_ _); rotate_left; (first | omega | (simp <;> omega)); rotate_right) | (with_reducible assumption) | (refine Below.trans ?_ (Below.mono (by assumption) ?_); rotate_left; (first | omega | (simp <;> omega)); rotate_right)))); clear hV; (go_wp2_with (first | (refine wpList_load_row rfl 54 _ rfl _ rfl 54 _ (0, 0) _ k0 Try.underlying54 rfl (by kernel_rfl) ?_))); refine (TM.out _).mono ?_; rintro e W1 ⟨rfl, hb1⟩; have i0 := blk_below k0 hb1 (lt_of_block k0); have i2 := blk_below k2 hb1 (lt_of_block k2); have HB1 := Lib.hid (HB.out.trans (hb1.mono HB.out.size)); clear k0 k2 HB hb1; have k0 : RB W1 w.heap.size s := i0; have k2 : RB W1 (w.heap.size + 1) rzero := i2; have HB := HB1; clear i0 i2 HB1
      (go_wp2_with (first | (refine wpList_load_row rfl 54 _ rfl _ rfl 54 _ (0, 0) _ k0 Try.underlying54 rfl (by kernel_rfl) ?_))); refine (PA.out _).mono ?_; rintro e W2 ⟨rfl, hb2⟩; have i0 := blk_below k0 hb2 (lt_of_block k0); have i2 := blk_below k2 hb2 (lt_of_block k2); have HB2 := Lib.hid (HB.out.trans (hb2.mono HB.out.size)); clear k0 k2 HB hb2; (go_upto_region 5 with (refine wpList_store_row rfl 54 _ _ rfl _ _ rfl rfl 54 _ i0 (by kernel_rfl) rfl (rag_one _) ?_)); generalize hW : World.setRow _ _ _ = W3; have k0 : RB W3 w.heap.size p := (by rw [← hW]; exact setRow_heap _ _ _ _ _ _ i0); have k2 : RB W3 (w.heap.size + 1) rzero := (by rw [← hW]; exact (setRow_other _ _ _ _ (by omega)).trans i2); have HB := Lib.hid (show Below w.heap.size w W3 by rw [← hW]; exact below_setRow HB2.out (Nat.le_refl _) _); clear hW i0 i2 HB2
      have c21 : W3.cell? ⟨w.heap.size, 21, none⟩ = some (.int .i64 p.reports) := blk_cell k0 21 rfl
      have f21 := blk_free k0 21
      have c22 : W3.cell? ⟨w.heap.size, 22, none⟩ = some (.int .i64 p.rep) := blk_cell k0 22 rfl
      have f22 := blk_free k0 22
      have c5 : W3.cell? ⟨w.heap.size, 5, none⟩ = some (.int .i64 p.every) := blk_cell k0 5 rfl
      have c15 : W3.cell? ⟨w.heap.size, 15, none⟩ = some (.bool p.asked) := blk_cell k0 15 rfl
      have f15 := blk_free k0 15
      have c23 : W3.cell? ⟨w.heap.size, 23, none⟩ = some (.int .i64 p.q) := blk_cell k0 23 rfl
      have f23 := blk_free k0 23
      go_upto_region 10 with fail
      generalize hW : World.setCell _ _ _ = W4
      have g0 : RB W4 w.heap.size n := by rw [← hW, HN.out]; exact blk_set (blk_set (blk_set (blk_set k0 23 _) 15 _) 21 _) 22 _
      have g2 : RB W4 (w.heap.size + 1) rzero := by rw [← hW]; have h0 := k2; unfold RB at *; exact (by repeat (first | (with_reducible assumption) | ((with_reducible apply blk_far); rotate_left; (first | omega | (simp <;> omega)); rotate_right) | (with_reducible apply blk_drew) | (with_reducible apply blk_drewN) | (with_reducible exact heap_new _ _) | ((with_reducible apply heap_new'); (first | rfl | (simp <;> fail))) | (with_reducible apply blk_alloc)))
      have HB4 := Lib.hid (show Below w.heap.size w W4 by rw [← hW]; have := HB.out; exact (by repeat (first | (with_reducible exact Below.refl _ _) | (with_reducible refine Below.drew ?_) | (with_reducible refine below_drewN ?_ _) | ((with_reducible refine Below.alloc ?_ ?_ _); rotate_left; (first | omega | (simp <;> omega)); rotate_right) | ((with_reducible refine Below.setCell ?_ ?_ _); rotate_left; (first | omega | (simp <;> omega)); rotate_right) | (with_reducible assumption) | (refine Below.trans ?_ (Below.mono (by assumption) ?_); rotate_left; (first | omega | (simp <;> omega)); rotate_right))))
      clear hW k0 k2 HB c21 f21 c22 f22 c5 c15 f15 c23 f23 wr z1 wm wq ws
      (try clear z2)
      refine wp_region_held_drew (S := fun w' => RB w' w.heap.size n ∧ True) (by kernel_rfl) ?_ (fun h0 => ?_)
      · exact ⟨g0, trivial⟩
      refine wpAnyH_take (i := 0) (v := .agg (rag n).toArray) rfl (by kernel_rfl) (by kernel_rfl) (by kernel_rfl) (fun _ _ _ h => h) (yields_load_row (by rfl) 54 _ rfl w.heap.size rfl 54 _ (0, 0) _ (fun w' h => h.1) Try.underlying54 rfl (by kernel_rfl)) h0 ?_
      (try simp only [List.getElem_toArray, List.getElem_cons_succ, List.getElem_cons_zero, Act.put, List.setIfInBounds_toArray, List.set_cons_zero, List.set_cons_succ])
      refine wpAnyH_take (i := 1) (v := ?_) rfl (by kernel_rfl) (by kernel_rfl) (by kernel_rfl) (fun _ _ _ h => h) (Or.inl ⟨by rfl, ?_⟩) h0 ?_
      rotate_left
      focus (intro w' hSw; have e0 := blk_cell hSw.1 0 rfl; have e11 := blk_cell hSw.1 11 rfl; have e23 := blk_cell hSw.1 23 rfl; (try dsimp only at e0 e11 e23); go_simp; (try with_reducible rfl))
      (try simp only [List.getElem_toArray, List.getElem_cons_succ, List.getElem_cons_zero, Act.put, List.setIfInBounds_toArray, List.set_cons_zero, List.set_cons_succ])
      refine wpAnyH_take (i := 2) (v := ?_) rfl (by kernel_rfl) (by kernel_rfl) (by kernel_rfl) (fun _ _ _ h => h) (Or.inl ⟨by rfl, ?_⟩) h0 ?_
      rotate_left
      focus (intro w' hSw; have e0 := blk_cell hSw.1 0 rfl; have e11 := blk_cell hSw.1 11 rfl; have e23 := blk_cell hSw.1 23 rfl; (try dsimp only at e0 e11 e23); go_simp; (try with_reducible rfl))
      (try simp only [List.getElem_toArray, List.getElem_cons_succ, List.getElem_cons_zero, Act.put, List.setIfInBounds_toArray, List.set_cons_zero, List.set_cons_succ])
      refine wpAnyH_take (i := 3) (v := ?_) rfl (by kernel_rfl) (by kernel_rfl) (by kernel_rfl) (fun _ _ _ h => h) (Or.inl ⟨by rfl, ?_⟩) h0 ?_
      rotate_left
      focus (intro w' hSw; have e0 := blk_cell hSw.1 0 rfl; have e11 := blk_cell hSw.1 11 rfl; have e23 := blk_cell hSw.1 23 rfl; (try dsimp only at e0 e11 e23); go_simp; (try with_reducible rfl))
      (try simp only [List.getElem_toArray, List.getElem_cons_succ, List.getElem_cons_zero, Act.put, List.setIfInBounds_toArray, List.set_cons_zero, List.set_cons_succ])
      refine wpAnyH_take (i := 4) (v := ?_) rfl (by kernel_rfl) (by kernel_rfl) (by kernel_rfl) (fun _ _ _ h => h) (Or.inl ⟨by rfl, ?_⟩) h0 ?_
      rotate_left
      focus (intro w' hSw; have e0 := blk_cell hSw.1 0 rfl; have e11 := blk_cell hSw.1 11 rfl; have e23 := blk_cell hSw.1 23 rfl; (try dsimp only at e0 e11 e23); go_simp; (try with_reducible rfl))
      (try simp only [List.getElem_toArray, List.getElem_cons_succ, List.getElem_cons_zero, Act.put, List.setIfInBounds_toArray, List.set_cons_zero, List.set_cons_succ])
      refine wpAnyH_take (i := 5) (v := ?_) rfl (by kernel_rfl) (by kernel_rfl) (by kernel_rfl) (fun _ _ _ h => h) (Or.inl ⟨by rfl, ?_⟩) h0 ?_
      rotate_left
      focus (intro w' hSw; have e0 := blk_cell hSw.1 0 rfl; have e11 := blk_cell hSw.1 11 rfl; have e23 := blk_cell hSw.1 23 rfl; (try dsimp only at e0 e11 e23); go_simp; (try with_reducible rfl))
      (try simp only [List.getElem_toArray, List.getElem_cons_succ, List.getElem_cons_zero, Act.put, List.setIfInBounds_toArray, List.set_cons_zero, List.set_cons_succ])
      refine wpAnyH_take (i := 6) (v := ?_) rfl (by kernel_rfl) (by kernel_rfl) (by kernel_rfl) (fun _ _ _ h => h) (Or.inl ⟨by rfl, ?_⟩) h0 ?_
      rotate_left
      focus (intro w' hSw; have e0 := blk_cell hSw.1 0 rfl; have e11 := blk_cell hSw.1 11 rfl; have e23 := blk_cell hSw.1 23 rfl; (try dsimp only at e0 e11 e23); go_simp; (try with_reducible rfl))
      (try simp only [List.getElem_toArray, List.getElem_cons_succ, List.getElem_cons_zero, Act.put, List.setIfInBounds_toArray, List.set_cons_zero, List.set_cons_succ])
      refine wpAnyH_take (i := 7) (v := ?_) rfl (by kernel_rfl) (by kernel_rfl) (by kernel_rfl) (fun _ _ _ h => h) (Or.inl ⟨by rfl, ?_⟩) h0 ?_
      rotate_left
      focus (intro w' hSw; have e0 := blk_cell hSw.1 0 rfl; have e11 := blk_cell hSw.1 11 rfl; have e23 := blk_cell hSw.1 23 rfl; (try dsimp only at e0 e11 e23); go_simp; (try with_reducible rfl))
      (try simp only [List.getElem_toArray, List.getElem_cons_succ, List.getElem_cons_zero, Act.put, List.setIfInBounds_toArray, List.set_cons_zero, List.set_cons_succ])
      have x2 : W4.drew.heap[w.heap.size + 1]? = some (.cells (rag rzero).toArray 54 (0, 0)) := g2
      have HX := Lib.hid (show Below w.heap.size w W4.drew from HB4.out.drew)
      refine wpAnyH_ready (rs := [8, 11]) (by kernel_rfl) (by simp) ?_
      refine AllReadyH.cons rfl (fun K hK => ?_) (AllReadyH.cons rfl (fun K hK => ?_) AllReadyH.nil)
      · go_simp
        refine hK.out _ _ ?_ (fun h1 => ?_)
        · exact ⟨blk_alloc h0.1 _, trivial⟩
        clear hK K
        (try simp only [List.getElem_toArray, List.getElem_cons_succ, List.getElem_cons_zero, Act.put, List.setIfInBounds_toArray, List.set_cons_zero, List.set_cons_succ])
        refine wpAnyH_take (i := 9) (v := ?_) rfl (by kernel_rfl) (by kernel_rfl) (by kernel_rfl) (fun _ _ _ h => h) (Or.inl ⟨by rfl, ?_⟩) h1 ?_
        rotate_left
        focus (intro w' hSw; have e0 := blk_cell hSw.1 0 rfl; have e11 := blk_cell hSw.1 11 rfl; have e23 := blk_cell hSw.1 23 rfl; (try dsimp only at e0 e11 e23); go_simp; (try with_reducible rfl))
        (try simp only [List.getElem_toArray, List.getElem_cons_succ, List.getElem_cons_zero, Act.put, List.setIfInBounds_toArray, List.set_cons_zero, List.set_cons_succ])
        refine wpAnyH_ready (rs := [10, 11]) (by kernel_rfl) (by simp) ?_
        refine AllReadyH.cons rfl (fun K hK => ?_) (AllReadyH.cons rfl (fun K hK => ?_) AllReadyH.nil)
        · go_simp
          refine hK.out _ _ ?_ (fun h2 => ?_)
          · exact ⟨blk_alloc h1.1 _, trivial⟩
          clear hK K
          (try simp only [List.getElem_toArray, List.getElem_cons_succ, List.getElem_cons_zero, Act.put, List.setIfInBounds_toArray, List.set_cons_zero, List.set_cons_succ])
          refine wpAnyH_ready (rs := [11]) (by kernel_rfl) (by simp) ?_
          refine AllReadyH.cons rfl (fun K hK => ?_) AllReadyH.nil
          refine wp_store_row 54 _ _ rfl _ _ rfl rfl 54 _ (blk_alloc (blk_alloc x2 _) _) (by kernel_rfl) rfl (rag_one _) ?_
          refine hK.out _ _ ?_ (fun h3 => ?_)
          · exact ⟨(setRow_other _ _ _ _ (by omega)).trans h2.1, trivial⟩
          clear hK K
          (try simp only [List.getElem_toArray, List.getElem_cons_succ, List.getElem_cons_zero, Act.put, List.setIfInBounds_toArray, List.set_cons_zero, List.set_cons_succ])
          refine wpAnyH_take (i := 12) (v := ?_) rfl (by kernel_rfl) (by kernel_rfl) (by kernel_rfl) (fun _ _ _ h => h) (Or.inl ⟨by rfl, ?_⟩) h3 ?_
          rotate_left
          focus (intro w' hSw; have e0 := blk_cell hSw.1 0 rfl; have e11 := blk_cell hSw.1 11 rfl; have e23 := blk_cell hSw.1 23 rfl; (try dsimp only at e0 e11 e23); go_simp; (try with_reducible rfl))
          (try simp only [List.getElem_toArray, List.getElem_cons_succ, List.getElem_cons_zero, Act.put, List.setIfInBounds_toArray, List.set_cons_zero, List.set_cons_succ])
          refine wpAnyH_take (i := 13) (v := ?_) rfl (by kernel_rfl) (by kernel_rfl) (by kernel_rfl) (fun _ _ _ h => h) (Or.inl ⟨by rfl, ?_⟩) h3 ?_
          rotate_left
          focus (intro w' hSw; have e0 := blk_cell hSw.1 0 rfl; have e11 := blk_cell hSw.1 11 rfl; have e23 := blk_cell hSw.1 23 rfl; (try dsimp only at e0 e11 e23); go_simp; (try with_reducible rfl))
          (try simp only [List.getElem_toArray, List.getElem_cons_succ, List.getElem_cons_zero, Act.put, List.setIfInBounds_toArray, List.set_cons_zero, List.set_cons_succ])
          refine wpAnyH_done (by kernel_rfl) ?_ _
          go_wp2_with fail
          refine bodyPost_ret (results_ctt rfl _ _ _ _ _ (0, 0) _ rfl (setRow_heap _ _ _ _ _ _ (blk_alloc (blk_alloc x2 _) _)) Try.underlying54 rfl (by kernel_rfl)) rfl ⟨_, rfl, ?_, ?_⟩
          · exact rof_one (g1 := W4.heap.size) (g2 := W4.heap.size + 1) ((setRow_other _ _ _ _ (by have := lt_of_block x2; first | omega | (simp at *; omega))).trans (blk_alloc (heap_new _ _) _)) ((setRow_other _ _ _ _ (by have := lt_of_block x2; first | omega | (simp at *; omega))).trans (heap_new' _ _ _ (by first | rfl | (simp; done) | (simp [World.setRow]; done) | (simp [World.setRow]; omega)))) hst255 (by have := HX.out.size; simp at *; omega) (by have := HX.out.size; simp at *; omega)
          · exact below_setRow ((HX.out.alloc HX.out.size _).alloc (by have := HX.out.size; simp at *; omega) _) (by omega) _
        · refine wp_store_row 54 _ _ rfl _ _ rfl rfl 54 _ (blk_alloc x2 _) (by kernel_rfl) rfl (rag_one _) ?_
          refine hK.out _ _ ?_ (fun h2 => ?_)
          · exact ⟨(setRow_other _ _ _ _ (by omega)).trans h1.1, trivial⟩
          clear hK K
          (try simp only [List.getElem_toArray, List.getElem_cons_succ, List.getElem_cons_zero, Act.put, List.setIfInBounds_toArray, List.set_cons_zero, List.set_cons_succ])
          refine wpAnyH_ready (rs := [10]) (by kernel_rfl) (by simp) ?_
          refine AllReadyH.cons rfl (fun K hK => ?_) AllReadyH.nil
          go_simp
          refine hK.out _ _ ?_ (fun h3 => ?_)
          · exact ⟨blk_alloc h2.1 _, trivial⟩
          clear hK K
          (try simp only [List.getElem_toArray, List.getElem_cons_succ, List.getElem_cons_zero, Act.put, List.setIfInBounds_toArray, List.set_cons_zero, List.set_cons_succ])
          refine wpAnyH_take (i := 12) (v := ?_) rfl (by kernel_rfl) (by kernel_rfl) (by kernel_rfl) (fun _ _ _ h => h) (Or.inl ⟨by rfl, ?_⟩) h3 ?_
          rotate_left
          focus (intro w' hSw; have e0 := blk_cell hSw.1 0 rfl; have e11 := blk_cell hSw.1 11 rfl; have e23 := blk_cell hSw.1 23 rfl; (try dsimp only at e0 e11 e23); go_simp; (try with_reducible rfl))
          (try simp only [List.getElem_toArray, List.getElem_cons_succ, List.getElem_cons_zero, Act.put, List.setIfInBounds_toArray, List.set_cons_zero, List.set_cons_succ])
          refine wpAnyH_take (i := 13) (v := ?_) rfl (by kernel_rfl) (by kernel_rfl) (by kernel_rfl) (fun _ _ _ h => h) (Or.inl ⟨by rfl, ?_⟩) h3 ?_
          rotate_left
          focus (intro w' hSw; have e0 := blk_cell hSw.1 0 rfl; have e11 := blk_cell hSw.1 11 rfl; have e23 := blk_cell hSw.1 23 rfl; (try dsimp only at e0 e11 e23); go_simp; (try with_reducible rfl))
          (try simp only [List.getElem_toArray, List.getElem_cons_succ, List.getElem_cons_zero, Act.put, List.setIfInBounds_toArray, List.set_cons_zero, List.set_cons_succ])
          refine wpAnyH_done (by kernel_rfl) ?_ _
          go_wp2_with fail
          refine bodyPost_ret (results_ctt rfl _ _ _ _ _ (0, 0) _ rfl (blk_alloc (setRow_heap _ _ _ _ _ _ (blk_alloc x2 _)) _) Try.underlying54 rfl (by kernel_rfl)) rfl ⟨_, rfl, ?_, ?_⟩
          · exact rof_one (g1 := W4.heap.size) (g2 := W4.heap.size + 1) (blk_alloc ((setRow_other _ _ _ _ (by have := lt_of_block x2; first | omega | (simp at *; omega))).trans (heap_new _ _)) _) (heap_new' _ _ _ (by first | rfl | (simp; done) | (simp [World.setRow]; done) | (simp [World.setRow]; omega))) hst255 (by have := HX.out.size; simp at *; omega) (by have := HX.out.size; simp at *; omega)
          · exact (below_setRow (HX.out.alloc HX.out.size _) (by omega) _).alloc (by have := HX.out.size; simp [World.setRow] at *; omega) _
      · refine wp_store_row 54 _ _ rfl _ _ rfl rfl 54 _ (x2) (by kernel_rfl) rfl (rag_one _) ?_
        refine hK.out _ _ ?_ (fun h1 => ?_)
        · exact ⟨(setRow_other _ _ _ _ (by omega)).trans h0.1, trivial⟩
        clear hK K
        (try simp only [List.getElem_toArray, List.getElem_cons_succ, List.getElem_cons_zero, Act.put, List.setIfInBounds_toArray, List.set_cons_zero, List.set_cons_succ])
        refine wpAnyH_ready (rs := [8]) (by kernel_rfl) (by simp) ?_
        refine AllReadyH.cons rfl (fun K hK => ?_) AllReadyH.nil
        go_simp
        refine hK.out _ _ ?_ (fun h2 => ?_)
        · exact ⟨blk_alloc h1.1 _, trivial⟩
        clear hK K
        (try simp only [List.getElem_toArray, List.getElem_cons_succ, List.getElem_cons_zero, Act.put, List.setIfInBounds_toArray, List.set_cons_zero, List.set_cons_succ])
        refine wpAnyH_take (i := 9) (v := ?_) rfl (by kernel_rfl) (by kernel_rfl) (by kernel_rfl) (fun _ _ _ h => h) (Or.inl ⟨by rfl, ?_⟩) h2 ?_
        rotate_left
        focus (intro w' hSw; have e0 := blk_cell hSw.1 0 rfl; have e11 := blk_cell hSw.1 11 rfl; have e23 := blk_cell hSw.1 23 rfl; (try dsimp only at e0 e11 e23); go_simp; (try with_reducible rfl))
        (try simp only [List.getElem_toArray, List.getElem_cons_succ, List.getElem_cons_zero, Act.put, List.setIfInBounds_toArray, List.set_cons_zero, List.set_cons_succ])
        refine wpAnyH_ready (rs := [10]) (by kernel_rfl) (by simp) ?_
        refine AllReadyH.cons rfl (fun K hK => ?_) AllReadyH.nil
        go_simp
        refine hK.out _ _ ?_ (fun h3 => ?_)
        · exact ⟨blk_alloc h2.1 _, trivial⟩
        clear hK K
        (try simp only [List.getElem_toArray, List.getElem_cons_succ, List.getElem_cons_zero, Act.put, List.setIfInBounds_toArray, List.set_cons_zero, List.set_cons_succ])
        refine wpAnyH_take (i := 12) (v := ?_) rfl (by kernel_rfl) (by kernel_rfl) (by kernel_rfl) (fun _ _ _ h => h) (Or.inl ⟨by rfl, ?_⟩) h3 ?_
        rotate_left
        focus (intro w' hSw; have e0 := blk_cell hSw.1 0 rfl; have e11 := blk_cell hSw.1 11 rfl; have e23 := blk_cell hSw.1 23 rfl; (try dsimp only at e0 e11 e23); go_simp; (try with_reducible rfl))
        (try simp only [List.getElem_toArray, List.getElem_cons_succ, List.getElem_cons_zero, Act.put, List.setIfInBounds_toArray, List.set_cons_zero, List.set_cons_succ])
        refine wpAnyH_take (i := 13) (v := ?_) rfl (by kernel_rfl) (by kernel_rfl) (by kernel_rfl) (fun _ _ _ h => h) (Or.inl ⟨by rfl, ?_⟩) h3 ?_
        rotate_left
        focus (intro w' hSw; have e0 := blk_cell hSw.1 0 rfl; have e11 := blk_cell hSw.1 11 rfl; have e23 := blk_cell hSw.1 23 rfl; (try dsimp only at e0 e11 e23); go_simp; (try with_reducible rfl))
        (try simp only [List.getElem_toArray, List.getElem_cons_succ, List.getElem_cons_zero, Act.put, List.setIfInBounds_toArray, List.set_cons_zero, List.set_cons_succ])
        refine wpAnyH_done (by kernel_rfl) ?_ _
        go_wp2_with fail
        refine bodyPost_ret (results_ctt rfl _ _ _ _ _ (0, 0) _ rfl (blk_alloc (blk_alloc (setRow_heap _ _ _ _ _ _ x2) _) _) Try.underlying54 rfl (by kernel_rfl)) rfl ⟨_, rfl, ?_, ?_⟩
        · exact rof_one (g1 := W4.heap.size) (g2 := W4.heap.size + 1) (blk_alloc (heap_new' _ _ _ (by first | rfl | (simp; done) | (simp [World.setRow]; done) | (simp [World.setRow]; omega))) _) (heap_new' _ _ _ (by first | rfl | (simp; done) | (simp [World.setRow]; done) | (simp [World.setRow]; omega))) hst255 (by have := HX.out.size; simp at *; omega) (by have := HX.out.size; simp at *; omega)
        · exact ((below_setRow HX.out (by omega) _).alloc (by have := HX.out.size; simp [World.setRow] at *; omega) _).alloc (by have := HX.out.size; simp [World.setRow] at *; omega) _
end Go.Proofs.Ytjidchaejicjaaa

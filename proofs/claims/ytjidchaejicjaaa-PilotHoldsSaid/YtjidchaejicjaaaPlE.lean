/- The reference's pilot: its next event. -/
import Derived.Test.YtjidchaejicjaaaPlD
import Derived.StillTailTactics
namespace Go.Proofs.Ytjidchaejicjaaa
open Go.RowKit
set_option maxHeartbeats 8000000
set_option maxRecDepth 100000
set_option linter.unusedSimpArgs false
set_option linter.unusedVariables false
attribute [local go_sem ↓] Go.wp_at_zero Go.wp_at_succ
attribute [local go_sem high] run_mn run_mx
/-- the load of a whole struct in the quiet head of a region that draws -/
theorem still_load_row {P : Program} {ops : Array Oper} {w : World} {rest : List Oper} {o : Oper} {a : Act} {Q : Act → Prop} (hgd : o.guard = none) (ty : TypeId) (x : Operand) (ho : o.op = .load ty x)
    (g : Nat) (hx : a.eval x = .pointer (some ⟨g, 0, none⟩)) (t : TypeId) (cs : Array Value) (fr : Nat × Nat) (d : TypeDesc) (hg : w.heap[g]? = some (.cells cs t fr))
    (hu : P.underlying ty = some d) (hd : (match d with | .struct _ | .array _ _ => true | _ => false) = true) (hi : (P.info? ty).map (·.size) = some cs.size)
    (h : wpStill P ops w Q rest (a.put o.dst (.agg cs))) : wpStill P ops w Q (o :: rest) a :=
  wpStill_step fun K hK => by
    rw [if_pos (by simp [Region.wanted, hgd])]
    unfold Oper.still execOp
    simp only [ho, hx, Instr.loadAt, Instr.sureAddr, Sem.run_bind, Sem.run_pure, Result.andThen_ok, run_loadVar_row w g t ty cs fr d hg hu hd hi]
    exact ⟨rfl, hK _ h⟩
/-- the pilot behind its next event -/
def rnx (s : Plt.St) : Plt.St := if (Plt.evt s).2.2 then Plt.adv s else s
theorem rnx_eq {s : Plt.St} {a x : Int} (h : Plt.evt s = (a, x, true)) : (Plt.evt s).1 = a ∧ (Plt.evt s).2.1 = x ∧ (Plt.evt s).2.2 = true ∧ rnx s = { s with st := x, since := a, given := if Plt.fgt x then false else s.given, start := if Plt.fgt x then 0 else s.start } := by
  have h2 : (Plt.evt s).2.2 = true := by rw [h]
  have hne := (Plt.evt_rank h2).1
  refine ⟨by rw [h], by rw [h], h2, ?_⟩
  unfold rnx
  rw [if_pos h2]
  unfold Plt.adv Plt.ent
  rw [if_neg (fun e => hne e.symm), h]
theorem rnx_no {s : Plt.St} {a x : Int} (h : Plt.evt s = (a, x, false)) : (Plt.evt s).1 = a ∧ (Plt.evt s).2.1 = x ∧ (Plt.evt s).2.2 = false ∧ rnx s = s := by
  have h2 : (Plt.evt s).2.2 = false := by rw [h]
  refine ⟨by rw [h], by rw [h], h2, ?_⟩
  unfold rnx
  rw [h2]; rfl
theorem revent_any (s : Plt.St) (hs : Plt.Inv s) (w : World) :
    Calls Try.prog 68 #[.agg (rag s).toArray] w fun e w' => e = .returned (.tuple #[.int .i64 (Plt.evt s).1, .agg (rag (rnx s)).toArray, .bool (Plt.evt s).2.2]) ∧ Below w.heap.size w w' := by
  have h1 := hs.heard
  have h2 := hs.since
  have h3 := hs.lost
  have h4 := hs.ret
  have h5 := hs.desc
  have h6 := hs.start
  have h7 := hs.late
  have wl : IntKind.i64.wrap (s.heard + s.lost) = s.heard + s.lost := IntWalk.i64_in _ (by omega)
  have wr : IntKind.i64.wrap (s.heard + s.ret) = s.heard + s.ret := IntWalk.i64_in _ (by omega)
  have wd : IntKind.i64.wrap (s.since + s.desc) = s.since + s.desc := IntWalk.i64_in _ (by omega)
  have wt : IntKind.i64.wrap (s.start + s.late) = s.start + s.late := IntWalk.i64_in _ (by omega)
  have HW := Lib.hid (Plt.wat_bd hs)
  have SU := Lib.hid (fun W : World => Ck.rsure_any s.d s.r s.cs s.lo s.hi s.start W hs.clk)
  have AT := Lib.hid (fun (W : World) (x : Int) => Ck.rat_any s.d s.r s.cs s.lo s.hi x W hs.clk hs.l0)
  have EA := Lib.hid (fun (x a : Int) (W : World) => renter_any s x a W)
  clear hs
  by_cases e5 : s.st = 5
  · have E := Lib.hid (rnx_eq (show Plt.evt s = (max (s.heard + s.ret) s.since, 6, true) by unfold Plt.evt; rw [if_neg (by omega), if_neg (by omega), if_pos e5]))
    have EN := Lib.hid (EA.out 6 (max (s.heard + s.ret) s.since))
    have z5 : (s.st == 5) = true := by rw [e5]; rfl
    clear e5 SU AT EA
    go_enter Try.func68, Try.ntmps68; go_upto_region 1 with fail; generalize hV : World.alloc _ _ = V; have k0 : RB V w.heap.size s := (by rw [← hV]; exact blk_alloc (heap_new _ _) _); have k1 : RB V (w.heap.size + 1) rzero := (by rw [← hV]; exact heap_new' _ _ _ (by simp)); have HB := Lib.hid (show Below w.heap.size w V from by rw [← hV]; exact (by repeat (first | (with_reducible exact Below.refl _ _) | (with_reducible refine Below.drew ?_) | (with_reducible refine below_drewN ?_ _) | ((with_reducible refine Below.alloc ?_ ?_ _); rotate_left; (first | omega | (simp <;> omega)); rotate_right) | ((with_reducible refine Below.setCell ?_ ?_ _); rotate_left; (first | omega | (simp <;> omega)); rotate_right) | (with_reducible assumption) | (refine Below.trans ?_ (Below.mono (by assumption) ?_); rotate_left; (first | omega | (simp <;> omega)); rotate_right)))); clear hV; have c11 := blk_cell k0 11 rfl; have c1 := blk_cell k0 1 rfl; have c2 := blk_cell k0 2 rfl; have c3 := blk_cell k0 3 rfl; have c4 := blk_cell k0 4 rfl; have c17 := blk_cell k0 17 rfl; have c18 := blk_cell k0 18 rfl; have c20 := blk_cell k0 20 rfl
    (go_wp2_with (first | (refine wpList_load_row rfl 54 _ rfl _ rfl 54 _ (0, 0) _ k0 Try.underlying54 rfl (by kernel_rfl) ?_))); refine (EN.out _).mono ?_; rintro e w1 ⟨rfl, hb1⟩; have j1 := blk_below k1 hb1 (lt_of_block k1); have HBW := Lib.hid (HB.out.trans (hb1.mono HB.out.size)); clear k0 k1 hb1 HB c1 c2 c3 c4 c11 c17 c18 c20; (go_wp2_with (first | (refine wpList_store_row rfl 54 _ _ rfl _ _ rfl rfl 54 _ j1 (by kernel_rfl) rfl (rag_one _) ?_))); exact bodyPost_ret (results_tct rfl _ _ _ _ _ (0, 0) _ rfl (setRow_heap _ _ _ _ _ _ j1) Try.underlying54 rfl (by kernel_rfl)) rfl ⟨by rw [E.out.1, E.out.2.2.1, E.out.2.2.2]; rfl, below_setRow HBW.out (by omega) _⟩
  by_cases e6 : s.st = 6
  · have E := Lib.hid (rnx_eq (show Plt.evt s = (s.since + s.desc, 7, true) by unfold Plt.evt; rw [if_neg (by omega), if_neg (by omega), if_neg (by omega), if_pos e6]))
    have EN := Lib.hid (EA.out 7 (s.since + s.desc))
    have FG := Lib.hid (rforget_any { s with st := 7, since := s.since + s.desc })
    have z5 : (s.st == 5) = false := by rw [e6]; rfl
    have z6 : (s.st == 6) = true := by rw [e6]; rfl
    clear e5 e6 SU AT EA
    go_enter Try.func68, Try.ntmps68; go_upto_region 1 with fail; generalize hV : World.alloc _ _ = V; have k0 : RB V w.heap.size s := (by rw [← hV]; exact blk_alloc (heap_new _ _) _); have k1 : RB V (w.heap.size + 1) rzero := (by rw [← hV]; exact heap_new' _ _ _ (by simp)); have HB := Lib.hid (show Below w.heap.size w V from by rw [← hV]; exact (by repeat (first | (with_reducible exact Below.refl _ _) | (with_reducible refine Below.drew ?_) | (with_reducible refine below_drewN ?_ _) | ((with_reducible refine Below.alloc ?_ ?_ _); rotate_left; (first | omega | (simp <;> omega)); rotate_right) | ((with_reducible refine Below.setCell ?_ ?_ _); rotate_left; (first | omega | (simp <;> omega)); rotate_right) | (with_reducible assumption) | (refine Below.trans ?_ (Below.mono (by assumption) ?_); rotate_left; (first | omega | (simp <;> omega)); rotate_right)))); clear hV; have c11 := blk_cell k0 11 rfl; have c1 := blk_cell k0 1 rfl; have c2 := blk_cell k0 2 rfl; have c3 := blk_cell k0 3 rfl; have c4 := blk_cell k0 4 rfl; have c17 := blk_cell k0 17 rfl; have c18 := blk_cell k0 18 rfl; have c20 := blk_cell k0 20 rfl
    (go_wp2_with (first | (refine wpList_load_row rfl 54 _ rfl _ rfl 54 _ (0, 0) _ k0 Try.underlying54 rfl (by kernel_rfl) ?_))); refine (EN.out _).mono ?_; rintro e w1 ⟨rfl, hb1⟩; have j1 := blk_below k1 hb1 (lt_of_block k1); have HBW := Lib.hid (HB.out.trans (hb1.mono HB.out.size)); clear k0 k1 hb1 HB c1 c2 c3 c4 c11 c17 c18 c20; go_wp2_with fail; refine (FG.out _).mono ?_; rintro e w2 ⟨rfl, hb2⟩; have i1 := blk_below j1 hb2 (lt_of_block j1); have HBX := Lib.hid (HBW.out.trans (hb2.mono HBW.out.size)); clear j1 hb2 HBW; have j1 := i1; have HBW := HBX; clear i1 HBX; (go_wp2_with (first | (refine wpList_store_row rfl 54 _ _ rfl _ _ rfl rfl 54 _ j1 (by kernel_rfl) rfl (rag_one _) ?_))); exact bodyPost_ret (results_tct rfl _ _ _ _ _ (0, 0) _ rfl (setRow_heap _ _ _ _ _ _ j1) Try.underlying54 rfl (by kernel_rfl)) rfl ⟨by rw [E.out.1, E.out.2.2.1, E.out.2.2.2]; rfl, below_setRow HBW.out (by omega) _⟩
  by_cases e4 : s.st = 4
  · have E := Lib.hid (rnx_eq (show Plt.evt s = (s.heard + s.lost, 5, true) by unfold Plt.evt; rw [if_neg (by omega), if_pos e4]))
    have EN := Lib.hid (EA.out 5 (s.heard + s.lost))
    have z5 : (s.st == 5) = false := by rw [e4]; rfl
    have z6 : (s.st == 6) = false := by rw [e4]; rfl
    have z4 : (s.st == 4) = true := by rw [e4]; rfl
    clear e5 e6 e4 SU AT EA
    go_enter Try.func68, Try.ntmps68; go_upto_region 1 with fail; generalize hV : World.alloc _ _ = V; have k0 : RB V w.heap.size s := (by rw [← hV]; exact blk_alloc (heap_new _ _) _); have k1 : RB V (w.heap.size + 1) rzero := (by rw [← hV]; exact heap_new' _ _ _ (by simp)); have HB := Lib.hid (show Below w.heap.size w V from by rw [← hV]; exact (by repeat (first | (with_reducible exact Below.refl _ _) | (with_reducible refine Below.drew ?_) | (with_reducible refine below_drewN ?_ _) | ((with_reducible refine Below.alloc ?_ ?_ _); rotate_left; (first | omega | (simp <;> omega)); rotate_right) | ((with_reducible refine Below.setCell ?_ ?_ _); rotate_left; (first | omega | (simp <;> omega)); rotate_right) | (with_reducible assumption) | (refine Below.trans ?_ (Below.mono (by assumption) ?_); rotate_left; (first | omega | (simp <;> omega)); rotate_right)))); clear hV; have c11 := blk_cell k0 11 rfl; have c1 := blk_cell k0 1 rfl; have c2 := blk_cell k0 2 rfl; have c3 := blk_cell k0 3 rfl; have c4 := blk_cell k0 4 rfl; have c17 := blk_cell k0 17 rfl; have c18 := blk_cell k0 18 rfl; have c20 := blk_cell k0 20 rfl
    (go_wp2_with (first | (refine wpList_load_row rfl 54 _ rfl _ rfl 54 _ (0, 0) _ k0 Try.underlying54 rfl (by kernel_rfl) ?_))); refine (EN.out _).mono ?_; rintro e w1 ⟨rfl, hb1⟩; have j1 := blk_below k1 hb1 (lt_of_block k1); have HBW := Lib.hid (HB.out.trans (hb1.mono HB.out.size)); clear k0 k1 hb1 HB c1 c2 c3 c4 c11 c17 c18 c20; (go_wp2_with (first | (refine wpList_store_row rfl 54 _ _ rfl _ _ rfl rfl 54 _ j1 (by kernel_rfl) rfl (rag_one _) ?_))); exact bodyPost_ret (results_tct rfl _ _ _ _ _ (0, 0) _ rfl (setRow_heap _ _ _ _ _ _ j1) Try.underlying54 rfl (by kernel_rfl)) rfl ⟨by rw [E.out.1, E.out.2.2.1, E.out.2.2.2]; rfl, below_setRow HBW.out (by omega) _⟩
  by_cases e2 : s.st = 2
  · have E := Lib.hid (rnx_eq (show Plt.evt s = (s.heard + s.lost, 1, true) by unfold Plt.evt; rw [if_pos e2]))
    have EN := Lib.hid (EA.out 1 (s.heard + s.lost))
    have FG := Lib.hid (rforget_any { s with st := 1, since := s.heard + s.lost })
    have z5 : (s.st == 5) = false := by rw [e2]; rfl
    have z6 : (s.st == 6) = false := by rw [e2]; rfl
    have z4 : (s.st == 4) = false := by rw [e2]; rfl
    have z2 : (s.st == 2) = true := by rw [e2]; rfl
    clear e5 e6 e4 e2 SU AT EA
    go_enter Try.func68, Try.ntmps68; go_upto_region 1 with fail; generalize hV : World.alloc _ _ = V; have k0 : RB V w.heap.size s := (by rw [← hV]; exact blk_alloc (heap_new _ _) _); have k1 : RB V (w.heap.size + 1) rzero := (by rw [← hV]; exact heap_new' _ _ _ (by simp)); have HB := Lib.hid (show Below w.heap.size w V from by rw [← hV]; exact (by repeat (first | (with_reducible exact Below.refl _ _) | (with_reducible refine Below.drew ?_) | (with_reducible refine below_drewN ?_ _) | ((with_reducible refine Below.alloc ?_ ?_ _); rotate_left; (first | omega | (simp <;> omega)); rotate_right) | ((with_reducible refine Below.setCell ?_ ?_ _); rotate_left; (first | omega | (simp <;> omega)); rotate_right) | (with_reducible assumption) | (refine Below.trans ?_ (Below.mono (by assumption) ?_); rotate_left; (first | omega | (simp <;> omega)); rotate_right)))); clear hV; have c11 := blk_cell k0 11 rfl; have c1 := blk_cell k0 1 rfl; have c2 := blk_cell k0 2 rfl; have c3 := blk_cell k0 3 rfl; have c4 := blk_cell k0 4 rfl; have c17 := blk_cell k0 17 rfl; have c18 := blk_cell k0 18 rfl; have c20 := blk_cell k0 20 rfl
    (go_wp2_with (first | (refine wpList_load_row rfl 54 _ rfl _ rfl 54 _ (0, 0) _ k0 Try.underlying54 rfl (by kernel_rfl) ?_))); refine (EN.out _).mono ?_; rintro e w1 ⟨rfl, hb1⟩; have j1 := blk_below k1 hb1 (lt_of_block k1); have HBW := Lib.hid (HB.out.trans (hb1.mono HB.out.size)); clear k0 k1 hb1 HB c1 c2 c3 c4 c11 c17 c18 c20; go_wp2_with fail; refine (FG.out _).mono ?_; rintro e w2 ⟨rfl, hb2⟩; have i1 := blk_below j1 hb2 (lt_of_block j1); have HBX := Lib.hid (HBW.out.trans (hb2.mono HBW.out.size)); clear j1 hb2 HBW; have j1 := i1; have HBW := HBX; clear i1 HBX; (go_wp2_with (first | (refine wpList_store_row rfl 54 _ _ rfl _ _ rfl rfl 54 _ j1 (by kernel_rfl) rfl (rag_one _) ?_))); exact bodyPost_ret (results_tct rfl _ _ _ _ _ (0, 0) _ rfl (setRow_heap _ _ _ _ _ _ j1) Try.underlying54 rfl (by kernel_rfl)) rfl ⟨by rw [E.out.1, E.out.2.2.1, E.out.2.2.2]; rfl, below_setRow HBW.out (by omega) _⟩
  have z5 : (s.st == 5) = false := by rw [beq_eq_false_iff_ne]; exact e5
  have z6 : (s.st == 6) = false := by rw [beq_eq_false_iff_ne]; exact e6
  have z4 : (s.st == 4) = false := by rw [beq_eq_false_iff_ne]; exact e4
  have z2 : (s.st == 2) = false := by rw [beq_eq_false_iff_ne]; exact e2
  by_cases e3 : s.st = 3
  · have z3 : (s.st == 3) = true := by rw [e3]; rfl
    have z3' : (s.st != 3) = false := by rw [e3]; rfl
    have EW := Lib.hid (show Plt.evt s = Plt.wev s by unfold Plt.evt; rw [if_neg e2, if_neg e4, if_neg e5, if_neg e6, if_pos e3])
    clear e2 e3 e4 e5 e6
    have hm : max (Ck.Clk.suV s.d s.r s.cs s.lo s.start) s.since = Plt.wat s := rfl
    obtain ⟨u, hu⟩ : ∃ u, u = Ck.Clk.suE s.d s.r s.cs s.lo s.start := ⟨_, rfl⟩
    obtain ⟨x, hx⟩ : ∃ x, x = Ck.Clk.suV s.d s.r s.cs s.lo s.start := ⟨_, rfl⟩
    obtain ⟨y, hy⟩ : ∃ y, y = Plt.wat s := ⟨_, rfl⟩
    rw [← hx, ← hy] at hm
    by_cases hA : u ≠ 0 ∨ s.heard + s.lost ≤ y
    · have E := Lib.hid (rnx_eq (show Plt.evt s = (s.heard + s.lost, 1, true) by rw [EW.out]; unfold Plt.wev; rw [if_pos (by rw [← hu, ← hy]; exact hA)]))
      have EN := Lib.hid (EA.out 1 (s.heard + s.lost))
      have FG := Lib.hid (rforget_any { s with st := 1, since := s.heard + s.lost })
      rw [← hu, ← hx] at SU
      clear EW AT EA hu hx hy HW
      by_cases hu0 : u = 0
      · have z1 : decide (s.heard + s.lost ≤ y) = true := decide_eq_true (by omega)
        subst hu0
        clear hA
        go_enter Try.func68, Try.ntmps68; go_upto_region 1 with fail; generalize hV : World.alloc _ _ = V; have k0 : RB V w.heap.size s := (by rw [← hV]; exact blk_alloc (heap_new _ _) _); have k1 : RB V (w.heap.size + 1) rzero := (by rw [← hV]; exact heap_new' _ _ _ (by simp)); have HB := Lib.hid (show Below w.heap.size w V from by rw [← hV]; exact (by repeat (first | (with_reducible exact Below.refl _ _) | (with_reducible refine Below.drew ?_) | (with_reducible refine below_drewN ?_ _) | ((with_reducible refine Below.alloc ?_ ?_ _); rotate_left; (first | omega | (simp <;> omega)); rotate_right) | ((with_reducible refine Below.setCell ?_ ?_ _); rotate_left; (first | omega | (simp <;> omega)); rotate_right) | (with_reducible assumption) | (refine Below.trans ?_ (Below.mono (by assumption) ?_); rotate_left; (first | omega | (simp <;> omega)); rotate_right)))); clear hV; have c11 := blk_cell k0 11 rfl; have c1 := blk_cell k0 1 rfl; have c2 := blk_cell k0 2 rfl; have c3 := blk_cell k0 3 rfl; have c4 := blk_cell k0 4 rfl; have c17 := blk_cell k0 17 rfl; have c18 := blk_cell k0 18 rfl; have c20 := blk_cell k0 20 rfl
        have c6 := blk_cell k0 6 rfl; have c7 := blk_cell k0 7 rfl; have c8 := blk_cell k0 8 rfl; have c9 := blk_cell k0 9 rfl; have c10 := blk_cell k0 10 rfl
        go_wp2_with fail; refine (SU.out _).mono ?_; rintro e w1 ⟨rfl, hb1⟩; have i0 : RB w1 w.heap.size s := blk_below k0 hb1 (lt_of_block k0); have i1 : RB w1 (w.heap.size + 1) rzero := blk_below k1 hb1 (lt_of_block k1); have HB1 := Lib.hid (HB.out.trans (hb1.mono HB.out.size)); clear k0 k1 HB hb1 c1 c2 c3 c4 c11 c17 c18 c20 c6 c7 c8 c9 c10; have k0 := i0; have k1 := i1; have HB := HB1; clear i0 i1 HB1; have c11 := blk_cell k0 11 rfl; have c1 := blk_cell k0 1 rfl; have c2 := blk_cell k0 2 rfl; have c3 := blk_cell k0 3 rfl; have c4 := blk_cell k0 4 rfl; have c17 := blk_cell k0 17 rfl; have c18 := blk_cell k0 18 rfl; have c20 := blk_cell k0 20 rfl; have c6 := blk_cell k0 6 rfl; have c7 := blk_cell k0 7 rfl; have c8 := blk_cell k0 8 rfl; have c9 := blk_cell k0 9 rfl; have c10 := blk_cell k0 10 rfl
        (go_wp2_with (first | (refine wpList_load_row rfl 54 _ rfl _ rfl 54 _ (0, 0) _ k0 Try.underlying54 rfl (by kernel_rfl) ?_))); refine (EN.out _).mono ?_; rintro e w1 ⟨rfl, hb1⟩; have j1 := blk_below k1 hb1 (lt_of_block k1); have HBW := Lib.hid (HB.out.trans (hb1.mono HB.out.size)); clear k0 k1 hb1 HB c1 c2 c3 c4 c11 c17 c18 c20; go_wp2_with fail; refine (FG.out _).mono ?_; rintro e w2 ⟨rfl, hb2⟩; have i1 := blk_below j1 hb2 (lt_of_block j1); have HBX := Lib.hid (HBW.out.trans (hb2.mono HBW.out.size)); clear j1 hb2 HBW; have j1 := i1; have HBW := HBX; clear i1 HBX; (go_wp2_with (first | (refine wpList_store_row rfl 54 _ _ rfl _ _ rfl rfl 54 _ j1 (by kernel_rfl) rfl (rag_one _) ?_))); exact bodyPost_ret (results_tct rfl _ _ _ _ _ (0, 0) _ rfl (setRow_heap _ _ _ _ _ _ j1) Try.underlying54 rfl (by kernel_rfl)) rfl ⟨by rw [E.out.1, E.out.2.2.1, E.out.2.2.2]; rfl, below_setRow HBW.out (by omega) _⟩
      · have y1 : (u == 0) = false := by rw [beq_eq_false_iff_ne]; exact hu0
        have y2 : (u != 0) = true := by simpa using hu0
        clear hA hu0
        go_enter Try.func68, Try.ntmps68; go_upto_region 1 with fail; generalize hV : World.alloc _ _ = V; have k0 : RB V w.heap.size s := (by rw [← hV]; exact blk_alloc (heap_new _ _) _); have k1 : RB V (w.heap.size + 1) rzero := (by rw [← hV]; exact heap_new' _ _ _ (by simp)); have HB := Lib.hid (show Below w.heap.size w V from by rw [← hV]; exact (by repeat (first | (with_reducible exact Below.refl _ _) | (with_reducible refine Below.drew ?_) | (with_reducible refine below_drewN ?_ _) | ((with_reducible refine Below.alloc ?_ ?_ _); rotate_left; (first | omega | (simp <;> omega)); rotate_right) | ((with_reducible refine Below.setCell ?_ ?_ _); rotate_left; (first | omega | (simp <;> omega)); rotate_right) | (with_reducible assumption) | (refine Below.trans ?_ (Below.mono (by assumption) ?_); rotate_left; (first | omega | (simp <;> omega)); rotate_right)))); clear hV; have c11 := blk_cell k0 11 rfl; have c1 := blk_cell k0 1 rfl; have c2 := blk_cell k0 2 rfl; have c3 := blk_cell k0 3 rfl; have c4 := blk_cell k0 4 rfl; have c17 := blk_cell k0 17 rfl; have c18 := blk_cell k0 18 rfl; have c20 := blk_cell k0 20 rfl
        have c6 := blk_cell k0 6 rfl; have c7 := blk_cell k0 7 rfl; have c8 := blk_cell k0 8 rfl; have c9 := blk_cell k0 9 rfl; have c10 := blk_cell k0 10 rfl
        go_wp2_with fail; refine (SU.out _).mono ?_; rintro e w1 ⟨rfl, hb1⟩; have i0 : RB w1 w.heap.size s := blk_below k0 hb1 (lt_of_block k0); have i1 : RB w1 (w.heap.size + 1) rzero := blk_below k1 hb1 (lt_of_block k1); have HB1 := Lib.hid (HB.out.trans (hb1.mono HB.out.size)); clear k0 k1 HB hb1 c1 c2 c3 c4 c11 c17 c18 c20 c6 c7 c8 c9 c10; have k0 := i0; have k1 := i1; have HB := HB1; clear i0 i1 HB1; have c11 := blk_cell k0 11 rfl; have c1 := blk_cell k0 1 rfl; have c2 := blk_cell k0 2 rfl; have c3 := blk_cell k0 3 rfl; have c4 := blk_cell k0 4 rfl; have c17 := blk_cell k0 17 rfl; have c18 := blk_cell k0 18 rfl; have c20 := blk_cell k0 20 rfl; have c6 := blk_cell k0 6 rfl; have c7 := blk_cell k0 7 rfl; have c8 := blk_cell k0 8 rfl; have c9 := blk_cell k0 9 rfl; have c10 := blk_cell k0 10 rfl
        (go_wp2_with (first | (refine wpList_load_row rfl 54 _ rfl _ rfl 54 _ (0, 0) _ k0 Try.underlying54 rfl (by kernel_rfl) ?_))); refine (EN.out _).mono ?_; rintro e w1 ⟨rfl, hb1⟩; have j1 := blk_below k1 hb1 (lt_of_block k1); have HBW := Lib.hid (HB.out.trans (hb1.mono HB.out.size)); clear k0 k1 hb1 HB c1 c2 c3 c4 c11 c17 c18 c20; go_wp2_with fail; refine (FG.out _).mono ?_; rintro e w2 ⟨rfl, hb2⟩; have i1 := blk_below j1 hb2 (lt_of_block j1); have HBX := Lib.hid (HBW.out.trans (hb2.mono HBW.out.size)); clear j1 hb2 HBW; have j1 := i1; have HBW := HBX; clear i1 HBX; (go_wp2_with (first | (refine wpList_store_row rfl 54 _ _ rfl _ _ rfl rfl 54 _ j1 (by kernel_rfl) rfl (rag_one _) ?_))); exact bodyPost_ret (results_tct rfl _ _ _ _ _ (0, 0) _ rfl (setRow_heap _ _ _ _ _ _ j1) Try.underlying54 rfl (by kernel_rfl)) rfl ⟨by rw [E.out.1, E.out.2.2.1, E.out.2.2.2]; rfl, below_setRow HBW.out (by omega) _⟩
    · have hn0 : u = 0 := by omega
      have hn1 : ¬ (s.heard + s.lost ≤ y) := fun h => hA (.inr h)
      have EW2 := Lib.hid (show Plt.evt s = if Ck.aE s.d s.r s.cs s.hi (Plt.wat s) ≠ 0 ∨ s.start + s.late < Ck.aHi s.d s.r s.cs s.hi (Plt.wat s) then (Plt.wat s, 1, true) else (Plt.wat s, 4, true) by rw [EW.out]; unfold Plt.wev; rw [if_neg (by rw [← hu, ← hy]; exact hA)])
      rw [← hy] at EW2
      have AT := Lib.hid (fun (W : World) => AT.out W y)
      rw [← hu, ← hx, hn0] at SU
      have z1 : decide (s.heard + s.lost ≤ y) = false := decide_eq_false hn1
      clear EW hA hu hx hy HW hn0 hn1
      obtain ⟨v, hv⟩ : ∃ v, v = Ck.aE s.d s.r s.cs s.hi y := ⟨_, rfl⟩
      obtain ⟨g, hg⟩ : ∃ g, g = Ck.aHi s.d s.r s.cs s.hi y := ⟨_, rfl⟩
      rw [← hv, ← hg] at AT EW2
      clear hv hg
      by_cases hv0 : v = 0
      · subst hv0
        by_cases hg0 : s.start + s.late < g
        · have E := Lib.hid (rnx_eq (show Plt.evt s = (y, 1, true) by rw [EW2.out, if_pos (.inr hg0)]))
          have EN := Lib.hid (EA.out 1 y)
          have FG := Lib.hid (rforget_any { s with st := 1, since := y })
          have y2 : decide (s.start + s.late < g) = true := decide_eq_true hg0
          clear EW2 EA hg0
          go_enter Try.func68, Try.ntmps68; go_upto_region 1 with fail; generalize hV : World.alloc _ _ = V; have k0 : RB V w.heap.size s := (by rw [← hV]; exact blk_alloc (heap_new _ _) _); have k1 : RB V (w.heap.size + 1) rzero := (by rw [← hV]; exact heap_new' _ _ _ (by simp)); have HB := Lib.hid (show Below w.heap.size w V from by rw [← hV]; exact (by repeat (first | (with_reducible exact Below.refl _ _) | (with_reducible refine Below.drew ?_) | (with_reducible refine below_drewN ?_ _) | ((with_reducible refine Below.alloc ?_ ?_ _); rotate_left; (first | omega | (simp <;> omega)); rotate_right) | ((with_reducible refine Below.setCell ?_ ?_ _); rotate_left; (first | omega | (simp <;> omega)); rotate_right) | (with_reducible assumption) | (refine Below.trans ?_ (Below.mono (by assumption) ?_); rotate_left; (first | omega | (simp <;> omega)); rotate_right)))); clear hV; have c11 := blk_cell k0 11 rfl; have c1 := blk_cell k0 1 rfl; have c2 := blk_cell k0 2 rfl; have c3 := blk_cell k0 3 rfl; have c4 := blk_cell k0 4 rfl; have c17 := blk_cell k0 17 rfl; have c18 := blk_cell k0 18 rfl; have c20 := blk_cell k0 20 rfl
          have c6 := blk_cell k0 6 rfl; have c7 := blk_cell k0 7 rfl; have c8 := blk_cell k0 8 rfl; have c9 := blk_cell k0 9 rfl; have c10 := blk_cell k0 10 rfl
          go_wp2_with fail; refine (SU.out _).mono ?_; rintro e w1 ⟨rfl, hb1⟩; have i0 : RB w1 w.heap.size s := blk_below k0 hb1 (lt_of_block k0); have i1 : RB w1 (w.heap.size + 1) rzero := blk_below k1 hb1 (lt_of_block k1); have HB1 := Lib.hid (HB.out.trans (hb1.mono HB.out.size)); clear k0 k1 HB hb1 c1 c2 c3 c4 c11 c17 c18 c20 c6 c7 c8 c9 c10; have k0 := i0; have k1 := i1; have HB := HB1; clear i0 i1 HB1; have c11 := blk_cell k0 11 rfl; have c1 := blk_cell k0 1 rfl; have c2 := blk_cell k0 2 rfl; have c3 := blk_cell k0 3 rfl; have c4 := blk_cell k0 4 rfl; have c17 := blk_cell k0 17 rfl; have c18 := blk_cell k0 18 rfl; have c20 := blk_cell k0 20 rfl; have c6 := blk_cell k0 6 rfl; have c7 := blk_cell k0 7 rfl; have c8 := blk_cell k0 8 rfl; have c9 := blk_cell k0 9 rfl; have c10 := blk_cell k0 10 rfl
          go_wp2_with fail; refine (AT.out _).mono ?_; rintro e w2 ⟨rfl, hb2⟩; have hz2 := lt_of_block (blk_below k1 hb2 (lt_of_block k1)); (go_upto_region 19 with fail); generalize hV : World.alloc _ _ = V2; have i0 : RB V2 w.heap.size s := (by rw [← hV]; exact blk_alloc (blk_below k0 hb2 (lt_of_block k0)) _); have i1 : RB V2 (w.heap.size + 1) rzero := (by rw [← hV]; exact blk_alloc (blk_below k1 hb2 (lt_of_block k1)) _); have kb : V2.heap[w2.heap.size]? = some (.cells #[.int .i64 (Ck.aLo s.d s.r s.cs s.lo s.hi y), .int .i64 g] 47 (0, 0)) := (by rw [← hV]; exact heap_new _ _); have q1 : V2.cell? ⟨w2.heap.size, 1, none⟩ = some (.int .i64 g) := blk_cell kb 1 rfl; have HB1 := Lib.hid (show Below w.heap.size w V2 by rw [← hV]; exact (HB.out.trans (hb2.mono HB.out.size)).alloc (by omega) _); clear k0 k1 HB hb2 hV kb c1 c2 c3 c4 c11 c17 c18 c20 c6 c7 c8 c9 c10; have k0 := i0; have k1 := i1; have HB := HB1; clear i0 i1 HB1; have c11 := blk_cell k0 11 rfl; have c1 := blk_cell k0 1 rfl; have c2 := blk_cell k0 2 rfl; have c3 := blk_cell k0 3 rfl; have c4 := blk_cell k0 4 rfl; have c17 := blk_cell k0 17 rfl; have c18 := blk_cell k0 18 rfl; have c20 := blk_cell k0 20 rfl
          (go_wp2_with (first | (refine wpList_load_row rfl 54 _ rfl _ rfl 54 _ (0, 0) _ k0 Try.underlying54 rfl (by kernel_rfl) ?_))); refine (EN.out _).mono ?_; rintro e w1 ⟨rfl, hb1⟩; have j1 := blk_below k1 hb1 (lt_of_block k1); have HBW := Lib.hid (HB.out.trans (hb1.mono HB.out.size)); clear k0 k1 hb1 HB c1 c2 c3 c4 c11 c17 c18 c20; go_wp2_with fail; refine (FG.out _).mono ?_; rintro e w2 ⟨rfl, hb2⟩; have i1 := blk_below j1 hb2 (lt_of_block j1); have HBX := Lib.hid (HBW.out.trans (hb2.mono HBW.out.size)); clear j1 hb2 HBW; have j1 := i1; have HBW := HBX; clear i1 HBX; (go_wp2_with (first | (refine wpList_store_row rfl 54 _ _ rfl _ _ rfl rfl 54 _ j1 (by kernel_rfl) rfl (rag_one _) ?_))); exact bodyPost_ret (results_tct rfl _ _ _ _ _ (0, 0) _ rfl (setRow_heap _ _ _ _ _ _ j1) Try.underlying54 rfl (by kernel_rfl)) rfl ⟨by rw [E.out.1, E.out.2.2.1, E.out.2.2.2]; rfl, below_setRow HBW.out (by omega) _⟩
        · have E := Lib.hid (rnx_eq (show Plt.evt s = (y, 4, true) by rw [EW2.out, if_neg (fun h => by rcases h with h | h; exact h rfl; exact hg0 h)]))
          have EN := Lib.hid (EA.out 4 y)
          have y2 : decide (s.start + s.late < g) = false := decide_eq_false hg0
          clear EW2 EA hg0
          go_enter Try.func68, Try.ntmps68; go_upto_region 1 with fail; generalize hV : World.alloc _ _ = V; have k0 : RB V w.heap.size s := (by rw [← hV]; exact blk_alloc (heap_new _ _) _); have k1 : RB V (w.heap.size + 1) rzero := (by rw [← hV]; exact heap_new' _ _ _ (by simp)); have HB := Lib.hid (show Below w.heap.size w V from by rw [← hV]; exact (by repeat (first | (with_reducible exact Below.refl _ _) | (with_reducible refine Below.drew ?_) | (with_reducible refine below_drewN ?_ _) | ((with_reducible refine Below.alloc ?_ ?_ _); rotate_left; (first | omega | (simp <;> omega)); rotate_right) | ((with_reducible refine Below.setCell ?_ ?_ _); rotate_left; (first | omega | (simp <;> omega)); rotate_right) | (with_reducible assumption) | (refine Below.trans ?_ (Below.mono (by assumption) ?_); rotate_left; (first | omega | (simp <;> omega)); rotate_right)))); clear hV; have c11 := blk_cell k0 11 rfl; have c1 := blk_cell k0 1 rfl; have c2 := blk_cell k0 2 rfl; have c3 := blk_cell k0 3 rfl; have c4 := blk_cell k0 4 rfl; have c17 := blk_cell k0 17 rfl; have c18 := blk_cell k0 18 rfl; have c20 := blk_cell k0 20 rfl
          have c6 := blk_cell k0 6 rfl; have c7 := blk_cell k0 7 rfl; have c8 := blk_cell k0 8 rfl; have c9 := blk_cell k0 9 rfl; have c10 := blk_cell k0 10 rfl
          go_wp2_with fail; refine (SU.out _).mono ?_; rintro e w1 ⟨rfl, hb1⟩; have i0 : RB w1 w.heap.size s := blk_below k0 hb1 (lt_of_block k0); have i1 : RB w1 (w.heap.size + 1) rzero := blk_below k1 hb1 (lt_of_block k1); have HB1 := Lib.hid (HB.out.trans (hb1.mono HB.out.size)); clear k0 k1 HB hb1 c1 c2 c3 c4 c11 c17 c18 c20 c6 c7 c8 c9 c10; have k0 := i0; have k1 := i1; have HB := HB1; clear i0 i1 HB1; have c11 := blk_cell k0 11 rfl; have c1 := blk_cell k0 1 rfl; have c2 := blk_cell k0 2 rfl; have c3 := blk_cell k0 3 rfl; have c4 := blk_cell k0 4 rfl; have c17 := blk_cell k0 17 rfl; have c18 := blk_cell k0 18 rfl; have c20 := blk_cell k0 20 rfl; have c6 := blk_cell k0 6 rfl; have c7 := blk_cell k0 7 rfl; have c8 := blk_cell k0 8 rfl; have c9 := blk_cell k0 9 rfl; have c10 := blk_cell k0 10 rfl
          go_wp2_with fail; refine (AT.out _).mono ?_; rintro e w2 ⟨rfl, hb2⟩; have hz2 := lt_of_block (blk_below k1 hb2 (lt_of_block k1)); (go_upto_region 19 with fail); generalize hV : World.alloc _ _ = V2; have i0 : RB V2 w.heap.size s := (by rw [← hV]; exact blk_alloc (blk_below k0 hb2 (lt_of_block k0)) _); have i1 : RB V2 (w.heap.size + 1) rzero := (by rw [← hV]; exact blk_alloc (blk_below k1 hb2 (lt_of_block k1)) _); have kb : V2.heap[w2.heap.size]? = some (.cells #[.int .i64 (Ck.aLo s.d s.r s.cs s.lo s.hi y), .int .i64 g] 47 (0, 0)) := (by rw [← hV]; exact heap_new _ _); have q1 : V2.cell? ⟨w2.heap.size, 1, none⟩ = some (.int .i64 g) := blk_cell kb 1 rfl; have HB1 := Lib.hid (show Below w.heap.size w V2 by rw [← hV]; exact (HB.out.trans (hb2.mono HB.out.size)).alloc (by omega) _); clear k0 k1 HB hb2 hV kb c1 c2 c3 c4 c11 c17 c18 c20 c6 c7 c8 c9 c10; have k0 := i0; have k1 := i1; have HB := HB1; clear i0 i1 HB1; have c11 := blk_cell k0 11 rfl; have c1 := blk_cell k0 1 rfl; have c2 := blk_cell k0 2 rfl; have c3 := blk_cell k0 3 rfl; have c4 := blk_cell k0 4 rfl; have c17 := blk_cell k0 17 rfl; have c18 := blk_cell k0 18 rfl; have c20 := blk_cell k0 20 rfl
          (go_wp2_with (first | (refine wpList_load_row rfl 54 _ rfl _ rfl 54 _ (0, 0) _ k0 Try.underlying54 rfl (by kernel_rfl) ?_))); refine (EN.out _).mono ?_; rintro e w1 ⟨rfl, hb1⟩; have j1 := blk_below k1 hb1 (lt_of_block k1); have HBW := Lib.hid (HB.out.trans (hb1.mono HB.out.size)); clear k0 k1 hb1 HB c1 c2 c3 c4 c11 c17 c18 c20; (go_wp2_with (first | (refine wpList_store_row rfl 54 _ _ rfl _ _ rfl rfl 54 _ j1 (by kernel_rfl) rfl (rag_one _) ?_))); exact bodyPost_ret (results_tct rfl _ _ _ _ _ (0, 0) _ rfl (setRow_heap _ _ _ _ _ _ j1) Try.underlying54 rfl (by kernel_rfl)) rfl ⟨by rw [E.out.1, E.out.2.2.1, E.out.2.2.2]; rfl, below_setRow HBW.out (by omega) _⟩
      · have E := Lib.hid (rnx_eq (show Plt.evt s = (y, 1, true) by rw [EW2.out, if_pos (.inl hv0)]))
        have EN := Lib.hid (EA.out 1 y)
        have FG := Lib.hid (rforget_any { s with st := 1, since := y })
        have y2 : (v == 0) = false := by rw [beq_eq_false_iff_ne]; exact hv0
        have y3 : (v != 0) = true := by simpa using hv0
        clear EW2 EA hv0
        go_enter Try.func68, Try.ntmps68; go_upto_region 1 with fail; generalize hV : World.alloc _ _ = V; have k0 : RB V w.heap.size s := (by rw [← hV]; exact blk_alloc (heap_new _ _) _); have k1 : RB V (w.heap.size + 1) rzero := (by rw [← hV]; exact heap_new' _ _ _ (by simp)); have HB := Lib.hid (show Below w.heap.size w V from by rw [← hV]; exact (by repeat (first | (with_reducible exact Below.refl _ _) | (with_reducible refine Below.drew ?_) | (with_reducible refine below_drewN ?_ _) | ((with_reducible refine Below.alloc ?_ ?_ _); rotate_left; (first | omega | (simp <;> omega)); rotate_right) | ((with_reducible refine Below.setCell ?_ ?_ _); rotate_left; (first | omega | (simp <;> omega)); rotate_right) | (with_reducible assumption) | (refine Below.trans ?_ (Below.mono (by assumption) ?_); rotate_left; (first | omega | (simp <;> omega)); rotate_right)))); clear hV; have c11 := blk_cell k0 11 rfl; have c1 := blk_cell k0 1 rfl; have c2 := blk_cell k0 2 rfl; have c3 := blk_cell k0 3 rfl; have c4 := blk_cell k0 4 rfl; have c17 := blk_cell k0 17 rfl; have c18 := blk_cell k0 18 rfl; have c20 := blk_cell k0 20 rfl
        have c6 := blk_cell k0 6 rfl; have c7 := blk_cell k0 7 rfl; have c8 := blk_cell k0 8 rfl; have c9 := blk_cell k0 9 rfl; have c10 := blk_cell k0 10 rfl
        go_wp2_with fail; refine (SU.out _).mono ?_; rintro e w1 ⟨rfl, hb1⟩; have i0 : RB w1 w.heap.size s := blk_below k0 hb1 (lt_of_block k0); have i1 : RB w1 (w.heap.size + 1) rzero := blk_below k1 hb1 (lt_of_block k1); have HB1 := Lib.hid (HB.out.trans (hb1.mono HB.out.size)); clear k0 k1 HB hb1 c1 c2 c3 c4 c11 c17 c18 c20 c6 c7 c8 c9 c10; have k0 := i0; have k1 := i1; have HB := HB1; clear i0 i1 HB1; have c11 := blk_cell k0 11 rfl; have c1 := blk_cell k0 1 rfl; have c2 := blk_cell k0 2 rfl; have c3 := blk_cell k0 3 rfl; have c4 := blk_cell k0 4 rfl; have c17 := blk_cell k0 17 rfl; have c18 := blk_cell k0 18 rfl; have c20 := blk_cell k0 20 rfl; have c6 := blk_cell k0 6 rfl; have c7 := blk_cell k0 7 rfl; have c8 := blk_cell k0 8 rfl; have c9 := blk_cell k0 9 rfl; have c10 := blk_cell k0 10 rfl
        go_wp2_with fail; refine (AT.out _).mono ?_; rintro e w2 ⟨rfl, hb2⟩; have hz2 := lt_of_block (blk_below k1 hb2 (lt_of_block k1)); (go_upto_region 19 with fail); generalize hV : World.alloc _ _ = V2; have i0 : RB V2 w.heap.size s := (by rw [← hV]; exact blk_alloc (blk_below k0 hb2 (lt_of_block k0)) _); have i1 : RB V2 (w.heap.size + 1) rzero := (by rw [← hV]; exact blk_alloc (blk_below k1 hb2 (lt_of_block k1)) _); have kb : V2.heap[w2.heap.size]? = some (.cells #[.int .i64 (Ck.aLo s.d s.r s.cs s.lo s.hi y), .int .i64 g] 47 (0, 0)) := (by rw [← hV]; exact heap_new _ _); have q1 : V2.cell? ⟨w2.heap.size, 1, none⟩ = some (.int .i64 g) := blk_cell kb 1 rfl; have HB1 := Lib.hid (show Below w.heap.size w V2 by rw [← hV]; exact (HB.out.trans (hb2.mono HB.out.size)).alloc (by omega) _); clear k0 k1 HB hb2 hV kb c1 c2 c3 c4 c11 c17 c18 c20 c6 c7 c8 c9 c10; have k0 := i0; have k1 := i1; have HB := HB1; clear i0 i1 HB1; have c11 := blk_cell k0 11 rfl; have c1 := blk_cell k0 1 rfl; have c2 := blk_cell k0 2 rfl; have c3 := blk_cell k0 3 rfl; have c4 := blk_cell k0 4 rfl; have c17 := blk_cell k0 17 rfl; have c18 := blk_cell k0 18 rfl; have c20 := blk_cell k0 20 rfl
        go_upto_region 20 with fail
        (go_wp2_with (first | (refine wpList_load_row rfl 54 _ rfl _ rfl 54 _ (0, 0) _ k0 Try.underlying54 rfl (by kernel_rfl) ?_))); refine (EN.out _).mono ?_; rintro e w1 ⟨rfl, hb1⟩; have j1 := blk_below k1 hb1 (lt_of_block k1); have HBW := Lib.hid (HB.out.trans (hb1.mono HB.out.size)); clear k0 k1 hb1 HB c1 c2 c3 c4 c11 c17 c18 c20; go_wp2_with fail; refine (FG.out _).mono ?_; rintro e w2 ⟨rfl, hb2⟩; have i1 := blk_below j1 hb2 (lt_of_block j1); have HBX := Lib.hid (HBW.out.trans (hb2.mono HBW.out.size)); clear j1 hb2 HBW; have j1 := i1; have HBW := HBX; clear i1 HBX; (go_wp2_with (first | (refine wpList_store_row rfl 54 _ _ rfl _ _ rfl rfl 54 _ j1 (by kernel_rfl) rfl (rag_one _) ?_))); exact bodyPost_ret (results_tct rfl _ _ _ _ _ (0, 0) _ rfl (setRow_heap _ _ _ _ _ _ j1) Try.underlying54 rfl (by kernel_rfl)) rfl ⟨by rw [E.out.1, E.out.2.2.1, E.out.2.2.2]; rfl, below_setRow HBW.out (by omega) _⟩
  · have E := Lib.hid (rnx_no (show Plt.evt s = (0, 0, false) by unfold Plt.evt; rw [if_neg e2, if_neg e4, if_neg e5, if_neg e6, if_neg e3]))
    have z3 : (s.st == 3) = false := by rw [beq_eq_false_iff_ne]; exact e3
    have z3' : (s.st != 3) = true := by simpa using e3
    clear e2 e3 e4 e5 e6 SU AT EA
    go_enter Try.func68, Try.ntmps68; go_upto_region 1 with fail; generalize hV : World.alloc _ _ = V; have k0 : RB V w.heap.size s := (by rw [← hV]; exact blk_alloc (heap_new _ _) _); have k1 : RB V (w.heap.size + 1) rzero := (by rw [← hV]; exact heap_new' _ _ _ (by simp)); have HB := Lib.hid (show Below w.heap.size w V from by rw [← hV]; exact (by repeat (first | (with_reducible exact Below.refl _ _) | (with_reducible refine Below.drew ?_) | (with_reducible refine below_drewN ?_ _) | ((with_reducible refine Below.alloc ?_ ?_ _); rotate_left; (first | omega | (simp <;> omega)); rotate_right) | ((with_reducible refine Below.setCell ?_ ?_ _); rotate_left; (first | omega | (simp <;> omega)); rotate_right) | (with_reducible assumption) | (refine Below.trans ?_ (Below.mono (by assumption) ?_); rotate_left; (first | omega | (simp <;> omega)); rotate_right)))); clear hV; have c11 := blk_cell k0 11 rfl; have c1 := blk_cell k0 1 rfl; have c2 := blk_cell k0 2 rfl; have c3 := blk_cell k0 3 rfl; have c4 := blk_cell k0 4 rfl; have c17 := blk_cell k0 17 rfl; have c18 := blk_cell k0 18 rfl; have c20 := blk_cell k0 20 rfl
    go_wp2_with fail
    refine wp_region_still_tail 2 (by kernel_rfl) (by kernel_rfl) ?_
    simp only [List.take_succ_cons, List.take_zero, List.drop_succ_cons, List.drop_zero]
    refine still_load_row rfl 54 _ rfl _ rfl 54 _ (0, 0) _ k0 Try.underlying54 rfl (by kernel_rfl) ?_
    still_step
    refine wpStill_nil ?_
    change wpList _ _ _ _ _ V.drew
    have j1 : RB V.drew (w.heap.size + 1) rzero := k1
    have HBW := Lib.hid (show Below w.heap.size w V.drew from HB.out.drew)
    clear k0 k1 HB c1 c2 c3 c4 c11 c17 c18 c20
    refine wpList_store_row rfl 54 _ _ rfl _ _ rfl rfl 54 _ j1 (by kernel_rfl) rfl (rag_one _) ?_
    go_wp2_with fail
    exact bodyPost_ret (results_tct rfl _ _ _ _ _ (0, 0) _ rfl (setRow_heap _ _ _ _ _ _ j1) Try.underlying54 rfl (by kernel_rfl)) rfl ⟨by rw [E.out.1, E.out.2.2.1, E.out.2.2.2]; rfl, below_setRow HBW.out (by omega) _⟩
end Go.Proofs.Ytjidchaejicjaaa

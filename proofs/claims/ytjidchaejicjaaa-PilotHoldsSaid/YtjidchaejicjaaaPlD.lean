/- The reference's pilot: enter, forget, change. -/
import Derived.Test.YtjidchaejicjaaaPlC
import Derived.Laws.CopyOwn
namespace Go.Proofs.Ytjidchaejicjaaa
open Go.RowKit
set_option maxHeartbeats 8000000
set_option maxRecDepth 100000
set_option linter.unusedSimpArgs false
set_option linter.unusedVariables false
attribute [local go_sem ↓] Go.wp_at_zero Go.wp_at_succ
attribute [local go_sem high] run_mn run_mx
/-- the reference's pilot as a value -/
def rag (s : Plt.St) : List Value := [.int .i64 s.id, .int .i64 s.lost, .int .i64 s.ret, .int .i64 s.desc, .int .i64 s.late, .int .i64 s.every, .int .i64 s.d, .int .i64 s.r, .bool s.cs, .int .i64 s.lo, .int .i64 s.hi, .int .i64 s.st, .bool s.begun, .bool s.loaded, .bool s.given, .bool s.asked, .int .i64 s.now, .int .i64 s.heard, .int .i64 s.since, .int .i64 s.prog, .int .i64 s.start, .int .i64 s.reports, .int .i64 s.rep, .int .i64 s.q]
/-- no pilot -/
def rzero : Plt.St := ⟨0, 0, 0, 0, 0, 0, 0, 0, false, 0, 0, 0, false, false, false, false, 0, 0, 0, 0, 0, 0, 0, 0⟩
theorem rag_one (s : Plt.St) : (rag s).toArray.all (·.oneCell') = true := by kernel_rfl
/-- block i is a box with the reference's pilot s -/
def RB (w : World) (i : Nat) (s : Plt.St) : Prop := w.heap[i]? = some (.cells (rag s).toArray 54 (0, 0))
theorem renter_any (s : Plt.St) (x t : Int) (w : World) :
    Calls Try.prog 79 #[.agg (rag s).toArray, .int .i64 x, .int .i64 t] w fun e w' => e = .returned (.agg (rag { s with st := x, since := t }).toArray) ∧ Below w.heap.size w w' := by
  go_enter Try.func79, Try.ntmps79
  go_upto_region 1 with fail
  generalize hV : World.alloc _ _ = V; have k0 : RB V w.heap.size s := (by rw [← hV]; exact blk_alloc (heap_new _ _) _); have k1 : RB V (w.heap.size + 1) rzero := (by rw [← hV]; exact heap_new' _ _ _ (by simp)); have HB := Lib.hid (show Below w.heap.size w V from by rw [← hV]; exact (by repeat (first | (with_reducible exact Below.refl _ _) | (with_reducible refine Below.drew ?_) | (with_reducible refine below_drewN ?_ _) | ((with_reducible refine Below.alloc ?_ ?_ _); rotate_left; (first | omega | (simp <;> omega)); rotate_right) | ((with_reducible refine Below.setCell ?_ ?_ _); rotate_left; (first | omega | (simp <;> omega)); rotate_right) | (with_reducible assumption) | (refine Below.trans ?_ (Below.mono (by assumption) ?_); rotate_left; (first | omega | (simp <;> omega)); rotate_right)))); clear hV
  have c11 := blk_cell k0 11 rfl
  have f11 := blk_free k0 11
  have c18 := blk_cell k0 18 rfl
  have f18 := blk_free k0 18
  go_upto_region 2 with fail
  generalize hW : World.setCell _ _ _ = W
  have j0 : RB W w.heap.size { s with st := x, since := t } := by rw [← hW]; exact blk_set (blk_set k0 11 _) 18 _
  have j1 : RB W (w.heap.size + 1) rzero := by rw [← hW]; exact blk_far (blk_far k1 (by simp) _) (by simp) _
  have HBW := Lib.hid (show Below w.heap.size w W from by rw [← hW]; have := HB.out; exact (by repeat (first | (with_reducible exact Below.refl _ _) | (with_reducible refine Below.drew ?_) | (with_reducible refine below_drewN ?_ _) | ((with_reducible refine Below.alloc ?_ ?_ _); rotate_left; (first | omega | (simp <;> omega)); rotate_right) | ((with_reducible refine Below.setCell ?_ ?_ _); rotate_left; (first | omega | (simp <;> omega)); rotate_right) | (with_reducible assumption) | (refine Below.trans ?_ (Below.mono (by assumption) ?_); rotate_left; (first | omega | (simp <;> omega)); rotate_right))))
  clear hW HB k0 k1 c11 f11 c18 f18
  go_wp2_with (first | (refine wpList_load_row rfl 54 _ rfl _ rfl 54 _ (0, 0) _ j0 Try.underlying54 rfl (by kernel_rfl) ?_) | (refine wpList_store_row rfl 54 _ _ rfl _ _ rfl rfl 54 _ j1 (by kernel_rfl) rfl (rag_one _) ?_))
  exact bodyPost_ret (results_cell_row rfl _ _ _ _ _ (0, 0) _ rfl (setRow_heap _ _ _ _ _ _ j1) Try.underlying54 rfl (by kernel_rfl)) rfl ⟨rfl, below_setRow HBW.out (by omega) _⟩
theorem rforget_any (s : Plt.St) (w : World) :
    Calls Try.prog 77 #[.agg (rag s).toArray] w fun e w' => e = .returned (.agg (rag { s with given := false, start := 0 }).toArray) ∧ Below w.heap.size w w' := by
  go_enter Try.func77, Try.ntmps77
  go_upto_region 1 with fail
  generalize hV : World.alloc _ _ = V; have k0 : RB V w.heap.size s := (by rw [← hV]; exact blk_alloc (heap_new _ _) _); have k1 : RB V (w.heap.size + 1) rzero := (by rw [← hV]; exact heap_new' _ _ _ (by simp)); have HB := Lib.hid (show Below w.heap.size w V from by rw [← hV]; exact (by repeat (first | (with_reducible exact Below.refl _ _) | (with_reducible refine Below.drew ?_) | (with_reducible refine below_drewN ?_ _) | ((with_reducible refine Below.alloc ?_ ?_ _); rotate_left; (first | omega | (simp <;> omega)); rotate_right) | ((with_reducible refine Below.setCell ?_ ?_ _); rotate_left; (first | omega | (simp <;> omega)); rotate_right) | (with_reducible assumption) | (refine Below.trans ?_ (Below.mono (by assumption) ?_); rotate_left; (first | omega | (simp <;> omega)); rotate_right)))); clear hV
  have c14 := blk_cell k0 14 rfl
  have f14 := blk_free k0 14
  have c20 := blk_cell k0 20 rfl
  have f20 := blk_free k0 20
  go_upto_region 2 with fail
  generalize hW : World.setCell _ _ _ = W
  have j0 : RB W w.heap.size { s with given := false, start := 0 } := by rw [← hW]; exact blk_set (blk_set k0 14 _) 20 _
  have j1 : RB W (w.heap.size + 1) rzero := by rw [← hW]; exact blk_far (blk_far k1 (by simp) _) (by simp) _
  have HBW := Lib.hid (show Below w.heap.size w W from by rw [← hW]; have := HB.out; exact (by repeat (first | (with_reducible exact Below.refl _ _) | (with_reducible refine Below.drew ?_) | (with_reducible refine below_drewN ?_ _) | ((with_reducible refine Below.alloc ?_ ?_ _); rotate_left; (first | omega | (simp <;> omega)); rotate_right) | ((with_reducible refine Below.setCell ?_ ?_ _); rotate_left; (first | omega | (simp <;> omega)); rotate_right) | (with_reducible assumption) | (refine Below.trans ?_ (Below.mono (by assumption) ?_); rotate_left; (first | omega | (simp <;> omega)); rotate_right))))
  clear hW HB k0 k1 c14 f14 c20 f20
  go_wp2_with (first | (refine wpList_load_row rfl 54 _ rfl _ rfl 54 _ (0, 0) _ j0 Try.underlying54 rfl (by kernel_rfl) ?_) | (refine wpList_store_row rfl 54 _ _ rfl _ _ rfl rfl 54 _ j1 (by kernel_rfl) rfl (rag_one _) ?_))
  exact bodyPost_ret (results_cell_row rfl _ _ _ _ _ (0, 0) _ rfl (setRow_heap _ _ _ _ _ _ j1) Try.underlying54 rfl (by kernel_rfl)) rfl ⟨rfl, below_setRow HBW.out (by omega) _⟩
/-- a call that takes the pilot's value and gives one back -/
def RC (f : FuncId) (args : Array Value) (s : Plt.St) (W : World) : Prop := Calls Try.prog f args W fun e w' => e = .returned (.agg (rag s).toArray) ∧ Below W.heap.size W w'
def rchg (s : Plt.St) (x : Int) : Plt.St := if s.st = x then s else { s with st := x, since := s.now }
theorem rchange_any (s : Plt.St) (x : Int) (w : World) :
    Calls Try.prog 76 #[.agg (rag s).toArray, .int .i64 x] w fun e w' => e = .returned (.agg (rag (rchg s x)).toArray) ∧ Below w.heap.size w w' := by
  by_cases hx : s.st = x
  · have E := Lib.hid (show rchg s x = s by unfold rchg; rw [if_pos hx])
    have z1 : (s.st == x) = true := by rw [beq_iff_eq]; exact hx
    have z2 : (s.st != x) = false := by simp [hx]
    rw [E.out]
    clear hx
    go_enter Try.func76, Try.ntmps76
    go_upto_region 1 with fail
    generalize hV : World.alloc _ _ = V; have k0 : RB V w.heap.size s := (by rw [← hV]; exact blk_alloc (heap_new _ _) _); have k1 : RB V (w.heap.size + 1) rzero := (by rw [← hV]; exact heap_new' _ _ _ (by simp)); have HB := Lib.hid (show Below w.heap.size w V from by rw [← hV]; exact (by repeat (first | (with_reducible exact Below.refl _ _) | (with_reducible refine Below.drew ?_) | (with_reducible refine below_drewN ?_ _) | ((with_reducible refine Below.alloc ?_ ?_ _); rotate_left; (first | omega | (simp <;> omega)); rotate_right) | ((with_reducible refine Below.setCell ?_ ?_ _); rotate_left; (first | omega | (simp <;> omega)); rotate_right) | (with_reducible assumption) | (refine Below.trans ?_ (Below.mono (by assumption) ?_); rotate_left; (first | omega | (simp <;> omega)); rotate_right)))); clear hV
    have c11 := blk_cell k0 11 rfl
    have j0 := k0
    have j1 := k1
    have HBW := HB
    clear k0 k1 HB
    go_wp2_with (first | (refine wpList_load_row rfl 54 _ rfl _ rfl 54 _ (0, 0) _ j0 Try.underlying54 rfl (by kernel_rfl) ?_) | (refine wpList_store_row rfl 54 _ _ rfl _ _ rfl rfl 54 _ j1 (by kernel_rfl) rfl (rag_one _) ?_))
    exact bodyPost_ret (results_cell_row rfl _ _ _ _ _ (0, 0) _ rfl (setRow_heap _ _ _ _ _ _ j1) Try.underlying54 rfl (by kernel_rfl)) rfl ⟨rfl, below_setRow HBW.out (by omega) _⟩
  · have E := Lib.hid (show rchg s x = { s with st := x, since := s.now } by unfold rchg; rw [if_neg hx])
    have z1 : (s.st == x) = false := by rw [beq_eq_false_iff_ne]; exact hx
    have z2 : (s.st != x) = true := by simpa using hx
    have EN := Lib.hid (renter_any s x s.now)
    rw [E.out]
    clear hx
    go_enter Try.func76, Try.ntmps76
    go_upto_region 1 with fail
    generalize hV : World.alloc _ _ = V; have k0 : RB V w.heap.size s := (by rw [← hV]; exact blk_alloc (heap_new _ _) _); have k1 : RB V (w.heap.size + 1) rzero := (by rw [← hV]; exact heap_new' _ _ _ (by simp)); have HB := Lib.hid (show Below w.heap.size w V from by rw [← hV]; exact (by repeat (first | (with_reducible exact Below.refl _ _) | (with_reducible refine Below.drew ?_) | (with_reducible refine below_drewN ?_ _) | ((with_reducible refine Below.alloc ?_ ?_ _); rotate_left; (first | omega | (simp <;> omega)); rotate_right) | ((with_reducible refine Below.setCell ?_ ?_ _); rotate_left; (first | omega | (simp <;> omega)); rotate_right) | (with_reducible assumption) | (refine Below.trans ?_ (Below.mono (by assumption) ?_); rotate_left; (first | omega | (simp <;> omega)); rotate_right)))); clear hV
    have c11 := blk_cell k0 11 rfl
    have c16 := blk_cell k0 16 rfl
    have j0 := k0
    go_wp2_with (first | (refine wpList_load_row rfl 54 _ rfl _ rfl 54 _ (0, 0) _ j0 Try.underlying54 rfl (by kernel_rfl) ?_))
    refine (EN.out _).mono ?_
    rintro e w1 ⟨rfl, hb1⟩
    have i0 := blk_below k0 hb1 (lt_of_block k0)
    have j1 := blk_below k1 hb1 (lt_of_block k1)
    have HB1 := Lib.hid (HB.out.trans (hb1.mono HB.out.size))
    clear k0 k1 hb1 HB j0 c11 c16
    go_upto_region 3 with (refine wpList_store_row rfl 54 _ _ rfl _ _ rfl rfl 54 _ i0 (by kernel_rfl) rfl (rag_one _) ?_)
    generalize hW : World.setRow _ _ _ = W
    have j0 : RB W w.heap.size { s with st := x, since := s.now } := by rw [← hW]; exact setRow_heap _ _ _ _ _ _ i0
    have i1 : RB W (w.heap.size + 1) rzero := by rw [← hW]; exact (setRow_other _ _ _ _ (by omega)).trans j1
    have HBW := Lib.hid (show Below w.heap.size w W from by rw [← hW]; exact below_setRow HB1.out (Nat.le_refl _) _)
    clear hW j1 i0
    have j1 := i1
    clear i1
    go_wp2_with (first | (refine wpList_load_row rfl 54 _ rfl _ rfl 54 _ (0, 0) _ j0 Try.underlying54 rfl (by kernel_rfl) ?_) | (refine wpList_store_row rfl 54 _ _ rfl _ _ rfl rfl 54 _ j1 (by kernel_rfl) rfl (rag_one _) ?_))
    exact bodyPost_ret (results_cell_row rfl _ _ _ _ _ (0, 0) _ rfl (setRow_heap _ _ _ _ _ _ j1) Try.underlying54 rfl (by kernel_rfl)) rfl ⟨rfl, below_setRow HBW.out (by omega) _⟩
/-- a cell's struct among a function's results -/
theorem results_tct {P : Program} {fn : Func} {a p b : Tmp} {ty : TypeId} (h : fn.results = #[.tmp a, .cell p ty, .tmp b]) (tmps : Array Value) (w : World) (g : Nat) (t : TypeId) (cs : Array Value) (fr : Nat × Nat) (d : TypeDesc)
    (hp : tmps.getD p undef = .pointer (some ⟨g, 0, none⟩)) (hg : w.heap[g]? = some (.cells cs t fr))
    (hu : P.underlying ty = some d) (hd : (match d with | .struct _ | .array _ _ => true | _ => false) = true) (hi : (P.info? ty).map (·.size) = some cs.size) :
    (results fn tmps).run P w = .ok (.tuple #[tmps.getD a undef, .agg cs, tmps.getD b undef]) w := by
  have hp' : tmps[p]?.getD undef = .pointer (some ⟨g, 0, none⟩) := by simpa using hp
  simp [results, h, hp', asAddr, run_loadVar_row w g t ty cs fr d hg hu hd hi]
theorem results_ct {P : Program} {fn : Func} {p b : Tmp} {ty : TypeId} (h : fn.results = #[.cell p ty, .tmp b]) (tmps : Array Value) (w : World) (g : Nat) (t : TypeId) (cs : Array Value) (fr : Nat × Nat) (d : TypeDesc)
    (hp : tmps.getD p undef = .pointer (some ⟨g, 0, none⟩)) (hg : w.heap[g]? = some (.cells cs t fr))
    (hu : P.underlying ty = some d) (hd : (match d with | .struct _ | .array _ _ => true | _ => false) = true) (hi : (P.info? ty).map (·.size) = some cs.size) :
    (results fn tmps).run P w = .ok (.tuple #[.agg cs, tmps.getD b undef]) w := by
  have hp' : tmps[p]?.getD undef = .pointer (some ⟨g, 0, none⟩) := by simpa using hp
  simp [results, h, hp', asAddr, run_loadVar_row w g t ty cs fr d hg hu hd hi]
theorem results_ctt {P : Program} {fn : Func} {p a b : Tmp} {ty : TypeId} (h : fn.results = #[.cell p ty, .tmp a, .tmp b]) (tmps : Array Value) (w : World) (g : Nat) (t : TypeId) (cs : Array Value) (fr : Nat × Nat) (d : TypeDesc)
    (hp : tmps.getD p undef = .pointer (some ⟨g, 0, none⟩)) (hg : w.heap[g]? = some (.cells cs t fr))
    (hu : P.underlying ty = some d) (hd : (match d with | .struct _ | .array _ _ => true | _ => false) = true) (hi : (P.info? ty).map (·.size) = some cs.size) :
    (results fn tmps).run P w = .ok (.tuple #[.agg cs, tmps.getD a undef, tmps.getD b undef]) w := by
  have hp' : tmps[p]?.getD undef = .pointer (some ⟨g, 0, none⟩) := by simpa using hp
  simp [results, h, hp', asAddr, run_loadVar_row w g t ty cs fr d hg hu hd hi]
end Go.Proofs.Ytjidchaejicjaaa

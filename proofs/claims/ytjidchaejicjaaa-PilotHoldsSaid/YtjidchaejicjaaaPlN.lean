/- The reference's pilot: time, New. -/
import Derived.Test.YtjidchaejicjaaaPlM
import Derived.Test.YtjidchaejicjaaaPlF
import Derived.Deep.RegionHeld3
namespace Go.Proofs.Ytjidchaejicjaaa
open Go.RowKit
set_option maxHeartbeats 2000000
set_option maxRecDepth 100000
set_option linter.unusedSimpArgs false
set_option linter.unusedVariables false
attribute [local go_sem ↓] Go.wp_at_zero Go.wp_at_succ
theorem rtime_any (s : Plt.St) (l : Int) (w : World) :
    Calls Try.prog 63 #[.agg (rag s).toArray, .int .i64 l] w fun e w' => e = .returned (.int .i64 (Plt.timE s l)) ∧ Below w.heap.size w w' := by
  by_cases hi : -1073741824 ≤ l ∧ l ≤ 1073741824
  case neg =>
    have W := Lib.hid (fun W : World => rto_no l (-1073741824) 1073741824 W hi)
    have E := Lib.hid (show Plt.timE s l = 3 by unfold Plt.timE; rw [if_neg (fun h => hi (Ck.Clk.inB_iff.1 h.1))])
    clear hi
    go_enter Try.func63, Try.ntmps63
    go_upto_region 1 with fail
    generalize hV : World.alloc _ _ = V; have k0 : RB V w.heap.size s := (by rw [← hV]; exact heap_new _ _); have HB := Lib.hid (show Below w.heap.size w V from by rw [← hV]; exact (by repeat (first | (with_reducible exact Below.refl _ _) | (with_reducible refine Below.drew ?_) | (with_reducible refine below_drewN ?_ _) | ((with_reducible refine Below.alloc ?_ ?_ _); rotate_left; (first | omega | (simp <;> omega)); rotate_right) | ((with_reducible refine Below.setCell ?_ ?_ _); rotate_left; (first | omega | (simp <;> omega)); rotate_right) | (with_reducible assumption) | (refine Below.trans ?_ (Below.mono (by assumption) ?_); rotate_left; (first | omega | (simp <;> omega)); rotate_right)))); clear hV; have c12 : V.cell? ⟨w.heap.size, 12, none⟩ = some (.bool s.begun) := blk_cell k0 12 rfl; have c16 : V.cell? ⟨w.heap.size, 16, none⟩ = some (.int .i64 s.now) := blk_cell k0 16 rfl; clear k0
    go_wp2_with fail
    refine (W.out _).mono ?_
    rintro e w' ⟨rfl, rfl⟩
    go_wp2_with fail
    go_ret
    exact ⟨ret_int E.out.symm, HB.out⟩
  have W := Lib.hid (fun W : World => rto_yes l (-1073741824) 1073741824 W hi)
  have hi2 := Ck.Clk.inB_iff.2 hi
  cases hb : s.begun
  · have E := Lib.hid (show Plt.timE s l = 0 by unfold Plt.timE; rw [if_pos ⟨hi2, fun h => by rw [hb] at h; cases h⟩])
    have HBB := Lib.hid hb
    clear hi hi2 hb
    go_enter Try.func63, Try.ntmps63
    go_upto_region 1 with fail
    generalize hV : World.alloc _ _ = V; have k0 : RB V w.heap.size s := (by rw [← hV]; exact heap_new _ _); have HB := Lib.hid (show Below w.heap.size w V from by rw [← hV]; exact (by repeat (first | (with_reducible exact Below.refl _ _) | (with_reducible refine Below.drew ?_) | (with_reducible refine below_drewN ?_ _) | ((with_reducible refine Below.alloc ?_ ?_ _); rotate_left; (first | omega | (simp <;> omega)); rotate_right) | ((with_reducible refine Below.setCell ?_ ?_ _); rotate_left; (first | omega | (simp <;> omega)); rotate_right) | (with_reducible assumption) | (refine Below.trans ?_ (Below.mono (by assumption) ?_); rotate_left; (first | omega | (simp <;> omega)); rotate_right)))); clear hV; have c12 : V.cell? ⟨w.heap.size, 12, none⟩ = some (.bool s.begun) := blk_cell k0 12 rfl; have c16 : V.cell? ⟨w.heap.size, 16, none⟩ = some (.int .i64 s.now) := blk_cell k0 16 rfl; clear k0
    rw [HBB.out] at c12
    go_wp2_with fail
    refine (W.out _).mono ?_
    rintro e w' ⟨rfl, rfl⟩
    go_wp2_with fail
    go_ret
    exact ⟨ret_int E.out.symm, HB.out⟩
  · have HBB := Lib.hid hb
    by_cases hl : s.now ≤ l
    · have E := Lib.hid (show Plt.timE s l = 0 by unfold Plt.timE; rw [if_pos ⟨hi2, fun _ => hl⟩])
      have z1 : decide (l < s.now) = false := decide_eq_false (by omega)
      clear hi hi2 hb hl
      go_enter Try.func63, Try.ntmps63
      go_upto_region 1 with fail
      generalize hV : World.alloc _ _ = V; have k0 : RB V w.heap.size s := (by rw [← hV]; exact heap_new _ _); have HB := Lib.hid (show Below w.heap.size w V from by rw [← hV]; exact (by repeat (first | (with_reducible exact Below.refl _ _) | (with_reducible refine Below.drew ?_) | (with_reducible refine below_drewN ?_ _) | ((with_reducible refine Below.alloc ?_ ?_ _); rotate_left; (first | omega | (simp <;> omega)); rotate_right) | ((with_reducible refine Below.setCell ?_ ?_ _); rotate_left; (first | omega | (simp <;> omega)); rotate_right) | (with_reducible assumption) | (refine Below.trans ?_ (Below.mono (by assumption) ?_); rotate_left; (first | omega | (simp <;> omega)); rotate_right)))); clear hV; have c12 : V.cell? ⟨w.heap.size, 12, none⟩ = some (.bool s.begun) := blk_cell k0 12 rfl; have c16 : V.cell? ⟨w.heap.size, 16, none⟩ = some (.int .i64 s.now) := blk_cell k0 16 rfl; clear k0
      rw [HBB.out] at c12
      go_wp2_with fail
      refine (W.out _).mono ?_
      rintro e w' ⟨rfl, rfl⟩
      go_wp2_with fail
      go_ret
      exact ⟨ret_int E.out.symm, HB.out⟩
    · have E := Lib.hid (show Plt.timE s l = 3 by unfold Plt.timE; rw [if_neg (fun h => hl (h.2 hb))])
      have z1 : decide (l < s.now) = true := decide_eq_true (by omega)
      clear hi hi2 hb hl
      go_enter Try.func63, Try.ntmps63
      go_upto_region 1 with fail
      generalize hV : World.alloc _ _ = V; have k0 : RB V w.heap.size s := (by rw [← hV]; exact heap_new _ _); have HB := Lib.hid (show Below w.heap.size w V from by rw [← hV]; exact (by repeat (first | (with_reducible exact Below.refl _ _) | (with_reducible refine Below.drew ?_) | (with_reducible refine below_drewN ?_ _) | ((with_reducible refine Below.alloc ?_ ?_ _); rotate_left; (first | omega | (simp <;> omega)); rotate_right) | ((with_reducible refine Below.setCell ?_ ?_ _); rotate_left; (first | omega | (simp <;> omega)); rotate_right) | (with_reducible assumption) | (refine Below.trans ?_ (Below.mono (by assumption) ?_); rotate_left; (first | omega | (simp <;> omega)); rotate_right)))); clear hV; have c12 : V.cell? ⟨w.heap.size, 12, none⟩ = some (.bool s.begun) := blk_cell k0 12 rfl; have c16 : V.cell? ⟨w.heap.size, 16, none⟩ = some (.int .i64 s.now) := blk_cell k0 16 rfl; clear k0
      rw [HBB.out] at c12
      go_wp2_with fail
      refine (W.out _).mono ?_
      rintro e w' ⟨rfl, rfl⟩
      go_wp2_with fail
      go_ret
      exact ⟨ret_int E.out.symm, HB.out⟩
/-- the load of a whole struct in a region that draws, under facts that stay -/
theorem yields_load_row {Q : Program} {ops : Array Oper} {S : World → Prop} {o : Oper} {a : Act} (hw : Region.wanted o (yielded ops a.tmps) = true) (ty : TypeId) (x : Operand) (ho : o.op = .load ty x)
    (g : Nat) (hx : a.eval x = .pointer (some ⟨g, 0, none⟩)) (t : TypeId) (cs : Array Value) (fr : Nat × Nat) (d : TypeDesc) (hg : ∀ w, S w → w.heap[g]? = some (.cells cs t fr))
    (hu : Q.underlying ty = some d) (hd : (match d with | .struct _ | .array _ _ => true | _ => false) = true) (hi : (Q.info? ty).map (·.size) = some cs.size) : YieldsIf Q ops S o (.agg cs) a :=
  Or.inl ⟨hw, fun w hS => by
    unfold execOp
    simp only [ho, hx, Instr.loadAt, Instr.sureAddr, Sem.run_bind, Sem.run_pure, Result.andThen_ok, run_loadVar_row w g t ty cs fr d (hg w hS) hu hd hi]⟩
/-- behind the reference's take -/
def RTPost (R : Plt.St × Bool) (w : World) (e : Ending) (w' : World) : Prop := e = .returned (.tuple #[.agg (rag R.1).toArray, .bool R.2]) ∧ Below w.heap.size w w'
theorem z45 (s : Plt.St) : ((s.st == 4) = true ∧ (s.st == 5) = false) ∨ ((s.st == 4) = false ∧ (s.st == 5) = true) ∨ ((s.st == 4) = false ∧ (s.st == 5) = false) := by
  by_cases h : s.st = 4
  · left; exact ⟨by rw [h]; rfl, by rw [h]; rfl⟩
  · right
    by_cases g : s.st = 5
    · left; exact ⟨by rw [g]; rfl, by rw [g]; rfl⟩
    · right; exact ⟨by rw [beq_eq_false_iff_ne]; exact h, by rw [beq_eq_false_iff_ne]; exact g⟩
theorem ent_rchg (s : Plt.St) (x : Int) (h : Plt.fgt x = true → s.st ≠ x → s.given = false ∧ s.start = 0) : Plt.ent s x s.now = rchg s x := by
  unfold Plt.ent rchg
  split
  · rfl
  · rename_i hne
    cases hf : Plt.fgt x
    · rfl
    · obtain ⟨h1, h2⟩ := h hf hne
      obtain ⟨id, lost, ret, desc, late, every, d, r, cs, lo, hi, st, begun, loaded, given, asked, now, heard, since, prog, start, reports, rep, q⟩ := s
      simp only at h1 h2
      subst h1 h2
      rfl
theorem ent_fg (s : Plt.St) (x : Int) (hf : Plt.fgt x = true) (hne : s.st ≠ x) : Plt.ent s x s.now = { rchg s x with given := false, start := 0 } := by
  unfold Plt.ent rchg
  rw [if_neg hne, if_neg hne, hf]
  rfl
theorem ent_no (s : Plt.St) (x : Int) (hf : Plt.fgt x = false) : Plt.ent s x s.now = rchg s x := by
  unfold Plt.ent rchg
  rw [hf]
  rfl
end Go.Proofs.Ytjidchaejicjaaa

/- A pilot's block and its clock's; none, enter, check, has, and what it shows. -/
import Derived.Test.YtjidchaejicjaaaPlP
import Derived.Handy
import Derived.Test.YtjidchaejicjaaaCkC
import Derived.Test.YtjidchaejicjaaaCkD
import Derived.Test.YtjidchaejicjaaaFrC
namespace Go.Proofs.Ytjidchaejicjaaa
open Go.RowKit
set_option maxHeartbeats 4000000
set_option maxRecDepth 100000
set_option linter.unusedSimpArgs false
set_option linter.unusedVariables false
attribute [local go_sem ↓] Go.wp_at_zero Go.wp_at_succ
/-- block i holds cells of type e -/
def Ty (w : World) (i : Nat) (e : TypeId) : Prop := ∃ cs, w.heap[i]? = some (.cells cs e (0, 0))
theorem Ty.ne {w : World} {i j : Nat} {e f : TypeId} (h : Ty w i e) (g : Ty w j f) (hne : e ≠ f) : i ≠ j := by
  rintro rfl
  obtain ⟨a, ha⟩ := h
  obtain ⟨c, hc⟩ := g
  rw [ha] at hc
  injection hc with hc
  injection hc with _ hc
  exact hne hc
theorem Keeps.set1 {w w' : World} {b : Nat} (h : Keeps (fun i => i = b) w w') (o : Nat) (u : Value) : Keeps (fun i => i = b) w (w'.setCell ⟨b, o, none⟩ u) := h.setCell (.inl rfl) u
/-- a pilot's cells; its clock is block c -/
def pcl (s : Plt.St) (c : Nat) : List Value := [.int .i64 s.id, .int .i64 s.lost, .int .i64 s.ret, .int .i64 s.desc, .int .i64 s.late, .int .i64 s.every, .pointer (some ⟨c, 0, none⟩), .int .i64 s.st, .bool s.begun, .bool s.loaded, .bool s.given, .bool s.asked, .int .i64 s.now, .int .i64 s.heard, .int .i64 s.since, .int .i64 s.prog, .int .i64 s.start, .int .i64 s.reports, .int .i64 s.rep]
structure IsP (w : World) (base b c : Nat) (s : Plt.St) : Prop where
  blk : w.heap[b]? = some (.cells (pcl s c).toArray 76 (0, 0))
  clk : Ck.IsClk w c s.d s.r true s.cs s.lo s.hi
  ge : base ≤ b ∧ base ≤ c
section
variable {w w' : World} {base b c : Nat} {s : Plt.St}
theorem IsP.lt (h : IsP w base b c s) : b < w.heap.size ∧ c < w.heap.size := ⟨lt_of_block h.blk, Ck.clk_lt h.clk⟩
theorem IsP.ne (h : IsP w base b c s) : b ≠ c := Ty.ne ⟨_, h.blk⟩ ⟨_, h.clk⟩ (by decide)
theorem IsP.away (h : IsP w base b c s) {i : Nat} {e : TypeId} (g : Ty w i e) (h1 : e ≠ 76) (h2 : e ≠ 100) : i ≠ b ∧ i ≠ c := ⟨g.ne ⟨_, h.blk⟩ h1, g.ne ⟨_, h.clk⟩ h2⟩
theorem IsP.kept {S : Nat → Prop} (h : IsP w base b c s) (k : Keeps S w w') (hb : ¬ S b) (hc : ¬ S c) : IsP w' base b c s := ⟨blk_keep h.blk k hb, blk_keep h.clk k hc, h.ge⟩
theorem IsP.below {B : Nat} (h : IsP w base b c s) (k : Below B w w') (hB : w.heap.size ≤ B) : IsP w' base b c s :=
  ⟨blk_below h.blk k (by have := h.lt; omega), Ck.clk_below h.clk k (by have := h.lt; omega), h.ge⟩
theorem IsP.lower {B : Nat} (h : IsP w base b c s) (hB : B ≤ base) : IsP w B b c s := ⟨h.blk, h.clk, by have := h.ge; omega⟩
theorem IsP.alloc (h : IsP w base b c s) (o : Obj) : IsP (w.alloc o) base b c s := ⟨blk_alloc h.blk o, blk_alloc h.clk o, h.ge⟩
theorem IsP.drewN (h : IsP w base b c s) (q : Nat) : IsP (w.drewN q) base b c s := ⟨h.blk, h.clk, h.ge⟩
/-- the clock's block alone has stayed -/
theorem IsP.clk_kept (h : IsP w base b c s) (k : Keeps (fun i => i = b) w w') : Ck.IsClk w' c s.d s.r true s.cs s.lo s.hi := blk_keep h.clk k (fun e => h.ne e.symm)
theorem pnone_any (h : IsP w base b c s) (hs : Plt.Inv s) :
    Calls Try.prog 34 #[.pointer (some ⟨b, 0, none⟩)] w fun e w' => e = .returned (.bool false) ∧ w = w' := by
  have c0 : w.cell? ⟨b, 0, none⟩ = some (.int .i64 s.id) := blk_cell h.blk 0 rfl
  have z : (s.id == 0) = false := by rw [beq_eq_false_iff_ne]; have := hs.id; omega
  clear h hs
  go_enter Try.func34, Try.ntmps34
  go_wp2_with fail
  go_ret
  exact ⟨rfl, rfl⟩
theorem pnone_nil (w : World) :
    Calls Try.prog 34 #[.pointer none] w fun e w' => e = .returned (.bool true) ∧ w = w' := by
  go_enter Try.func34, Try.ntmps34
  go_wp2_with fail
  go_ret
  exact ⟨rfl, rfl⟩
theorem pwithin_any (n a b : Int) (w : World) :
    Calls Try.prog 33 #[.int .i64 n, .int .i64 a, .int .i64 b] w fun e w' => e = .returned (.bool (Ck.Clk.inB n a b)) ∧ w = w' := by
  by_cases h : a ≤ n
  all_goals
    go_enter Try.func33, Try.ntmps33
    go_wp2_with fail
    go_ret
    exact ⟨ret_bool (by simp [Ck.Clk.inB, h]; try omega), rfl⟩
theorem rto_any (n a b : Int) (w : World) :
    Calls Try.prog 27 #[.int .i64 n, .int .i64 a, .int .i64 b] w fun e w' => e = .returned (.bool (Ck.Clk.inB n a b)) ∧ w = w' := by
  by_cases h : a ≤ n
  all_goals
    go_enter Try.func27, Try.ntmps27
    go_wp2_with fail
    go_ret
    exact ⟨ret_bool (by simp [Ck.Clk.inB, h]; try omega), rfl⟩
theorem enter_any (h : IsP w base b c s) (x t : Int) :
    Calls Try.prog 54 #[.pointer (some ⟨b, 0, none⟩), .int .i64 x, .int .i64 t] w fun e w' => e = .returned (.tuple #[]) ∧ IsP w' base b c (Plt.ent s x t) ∧ Keeps (fun i => i = b) w w' := by
  have H := Lib.hid h
  have hk := h.blk
  simp only [pcl] at hk
  clear h
  have ca_0 := blk_cell hk 0 rfl; have fa_0 := blk_free hk 0; have ca_1 := blk_cell hk 1 rfl; have fa_1 := blk_free hk 1; have ca_2 := blk_cell hk 2 rfl; have fa_2 := blk_free hk 2; have ca_3 := blk_cell hk 3 rfl; have fa_3 := blk_free hk 3; have ca_4 := blk_cell hk 4 rfl; have fa_4 := blk_free hk 4; have ca_5 := blk_cell hk 5 rfl; have fa_5 := blk_free hk 5; have ca_6 := blk_cell hk 6 rfl; have fa_6 := blk_free hk 6; have ca_7 := blk_cell hk 7 rfl; have fa_7 := blk_free hk 7; have ca_8 := blk_cell hk 8 rfl; have fa_8 := blk_free hk 8; have ca_9 := blk_cell hk 9 rfl; have fa_9 := blk_free hk 9; have ca_10 := blk_cell hk 10 rfl; have fa_10 := blk_free hk 10; have ca_11 := blk_cell hk 11 rfl; have fa_11 := blk_free hk 11; have ca_12 := blk_cell hk 12 rfl; have fa_12 := blk_free hk 12; have ca_13 := blk_cell hk 13 rfl; have fa_13 := blk_free hk 13; have ca_14 := blk_cell hk 14 rfl; have fa_14 := blk_free hk 14; have ca_15 := blk_cell hk 15 rfl; have fa_15 := blk_free hk 15; have ca_16 := blk_cell hk 16 rfl; have fa_16 := blk_free hk 16; have ca_17 := blk_cell hk 17 rfl; have fa_17 := blk_free hk 17; have ca_18 := blk_cell hk 18 rfl; have fa_18 := blk_free hk 18; have la := lt_of_block hk
  by_cases hx : s.st = x
  · have E := Lib.hid (show Plt.ent s x t = s by unfold Plt.ent; rw [if_pos hx])
    have z : (s.st == x) = true := by rw [beq_iff_eq]; exact hx
    clear hx
    go_enter Try.func54, Try.ntmps54
    go_wp2_with fail
    go_returns
    exact ⟨rfl, by rw [E.out]; exact H.out, Keeps.refl _ _⟩
  · have z : (s.st == x) = false := by rw [beq_eq_false_iff_ne]; exact hx
    have E := Lib.hid (show Plt.ent s x t = { s with st := x, since := t, given := if Plt.fgt x then false else s.given, start := if Plt.fgt x then 0 else s.start } by unfold Plt.ent; rw [if_neg hx])
    clear hx
    cases hf : Plt.fgt x
    · have hf' := hf
      unfold Plt.fgt at hf'
      simp only [Bool.or_eq_false_iff, decide_eq_false_iff_not] at hf'
      have z1 : (x == 1) = false := by rw [beq_eq_false_iff_ne]; exact hf'.1.1
      have z2 : (x == 2) = false := by rw [beq_eq_false_iff_ne]; exact hf'.1.2
      have z7 : (x == 7) = false := by rw [beq_eq_false_iff_ne]; exact hf'.2
      have HF := Lib.hid hf
      clear hf hf'
      go_enter Try.func54, Try.ntmps54
      go_wp2_with fail
      go_returns
      refine ⟨rfl, ?_, by (repeat (first | with_reducible exact Keeps.refl _ _ | (with_reducible refine Keeps.set1 ?_ _ _) | (with_reducible refine Keeps.drew ?_) | (with_reducible refine Keeps.drewN ?_ _) | (with_reducible refine Keeps.alloc ?_ _)))⟩
      rw [E.out, HF.out]
      exact ⟨by simp only [pcl]; exact (by apply Eq.trans; (repeat (first | (with_reducible assumption) | (with_reducible apply blk_set) | ((with_reducible apply blk_far); rotate_left; (first | omega | (simp <;> omega)); rotate_right) | (with_reducible apply blk_drew) | (with_reducible apply blk_drewN) | ((with_reducible apply heap_new'); (first | rfl | (simp <;> fail))) | (with_reducible apply blk_alloc))); (first | with_reducible rfl | (simp <;> fail) | rfl)), H.out.clk_kept (by (repeat (first | with_reducible exact Keeps.refl _ _ | (with_reducible refine Keeps.set1 ?_ _ _) | (with_reducible refine Keeps.drew ?_) | (with_reducible refine Keeps.drewN ?_ _) | (with_reducible refine Keeps.alloc ?_ _)))), H.out.ge⟩
    · have hf' := hf
      unfold Plt.fgt at hf'
      simp only [Bool.or_eq_true, decide_eq_true_eq] at hf'
      have HF := Lib.hid hf
      clear hf
      have key : x = 1 ∨ x = 2 ∨ x = 7 := by omega
      clear hf'
      rcases key with rfl | rfl | rfl
      all_goals
        go_enter Try.func54, Try.ntmps54
        go_wp2_with fail
        go_returns
        refine ⟨rfl, ?_, by (repeat (first | with_reducible exact Keeps.refl _ _ | (with_reducible refine Keeps.set1 ?_ _ _) | (with_reducible refine Keeps.drew ?_) | (with_reducible refine Keeps.drewN ?_ _) | (with_reducible refine Keeps.alloc ?_ _)))⟩
        rw [E.out, HF.out]
        exact ⟨by simp only [pcl]; exact (by apply Eq.trans; (repeat (first | (with_reducible assumption) | (with_reducible apply blk_set) | ((with_reducible apply blk_far); rotate_left; (first | omega | (simp <;> omega)); rotate_right) | (with_reducible apply blk_drew) | (with_reducible apply blk_drewN) | ((with_reducible apply heap_new'); (first | rfl | (simp <;> fail))) | (with_reducible apply blk_alloc))); (first | with_reducible rfl | (simp <;> fail) | rfl)), H.out.clk_kept (by (repeat (first | with_reducible exact Keeps.refl _ _ | (with_reducible refine Keeps.set1 ?_ _ _) | (with_reducible refine Keeps.drew ?_) | (with_reducible refine Keeps.drewN ?_ _) | (with_reducible refine Keeps.alloc ?_ _)))), H.out.ge⟩
theorem check_any (h : IsP w base b c s) (l : Int) :
    Calls Try.prog 36 #[.pointer (some ⟨b, 0, none⟩), .int .i64 l] w fun e w' => e = .returned (.int .i64 (Plt.timE s l)) ∧ w = w' := by
  have c8 : w.cell? ⟨b, 8, none⟩ = some (.bool s.begun) := blk_cell h.blk 8 rfl
  have c12 : w.cell? ⟨b, 12, none⟩ = some (.int .i64 s.now) := blk_cell h.blk 12 rfl
  have E := Lib.hid (rfl : Plt.timE s l = Plt.timE s l)
  clear h
  cases hi : Ck.Clk.inB l (-1073741824) 1073741824
  · have W := Lib.hid (fun w => by have := pwithin_any l (-1073741824) 1073741824 w; rw [hi] at this; exact this)
    have HI := Lib.hid hi
    clear hi
    go_enter Try.func36, Try.ntmps36
    go_wp2_with (refine (W.out _).mono ?_; rintro e w' ⟨rfl, rfl⟩)
    go_ret
    exact ⟨ret_int (by unfold Plt.timE; rw [if_neg (fun h => by have := h.1; rw [HI.out] at this; cases this)]), rfl⟩
  · have W := Lib.hid (fun w => by have := pwithin_any l (-1073741824) 1073741824 w; rw [hi] at this; exact this)
    have HI := Lib.hid hi
    clear hi
    cases hb : s.begun
    · rw [hb] at c8
      have HB := Lib.hid hb
      clear hb
      go_enter Try.func36, Try.ntmps36
      go_wp2_with (refine (W.out _).mono ?_; rintro e w' ⟨rfl, rfl⟩)
      go_ret
      exact ⟨ret_int (by unfold Plt.timE; rw [if_pos ⟨HI.out, fun e => by rw [HB.out] at e; cases e⟩]), rfl⟩
    · rw [hb] at c8
      have HB := Lib.hid hb
      clear hb
      by_cases hl : s.now ≤ l
      · have z : decide (l < s.now) = false := decide_eq_false (by omega)
        have HL := Lib.hid hl
        clear hl
        go_enter Try.func36, Try.ntmps36
        go_wp2_with (refine (W.out _).mono ?_; rintro e w' ⟨rfl, rfl⟩)
        go_ret
        exact ⟨ret_int (by unfold Plt.timE; rw [if_pos ⟨HI.out, fun _ => HL.out⟩]), rfl⟩
      · have z : decide (l < s.now) = true := decide_eq_true (by omega)
        have HL := Lib.hid hl
        clear hl
        go_enter Try.func36, Try.ntmps36
        go_wp2_with (refine (W.out _).mono ?_; rintro e w' ⟨rfl, rfl⟩)
        go_ret
        exact ⟨ret_int (by unfold Plt.timE; rw [if_neg (fun h => absurd (h.2 HB.out) (by have := HL.out; omega))]), rfl⟩
end
end Go.Proofs.Ytjidchaejicjaaa

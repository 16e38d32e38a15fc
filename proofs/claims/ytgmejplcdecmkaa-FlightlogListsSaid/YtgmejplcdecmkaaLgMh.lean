/- few of slices of any length; the guards' consequences. -/
import Derived.Test.YtgmejplcdecmkaaLgMg
namespace Go.Proofs.Ytgmejplcdecmkaa
open Go.RowKit
set_option maxHeartbeats 4000000
set_option maxRecDepth 100000
set_option linter.unusedSimpArgs false
set_option linter.unusedVariables false
attribute [local go_sem ↓] Go.wp_at_zero Go.wp_at_succ
theorem few_all (A : Option Addr) (n cap most B : Nat) (l : List AV) (w : World) (h : Ra w B A n l) (hn : n ≤ 9223372036854775807) (hm : most ≤ 1000) :
    Calls Try.prog 28 #[.slice A n cap, .int .i64 most] w fun e w' => e = .returned (.bool (fewB l most)) ∧ w = w' := by
  by_cases hnm : most < n
  · have hl := h.1
    have E := Lib.hid (show fewB l most = false by unfold fewB; rw [decide_eq_false (by omega)]; rfl)
    clear h hl
    go_enter Try.func28, Try.ntmps28
    go_wp2_with fail
    go_ret
    exact ⟨ret_bool E.out.symm, rfl⟩
  · exact few_any A n cap most B l w h (by omega) hm
theorem few_yes {l : List AV} {most : Nat} (hf : fewB l most = true) : l.length ≤ most ∧ ∀ y ∈ l, y.x.f.d.length ≤ 100 := by
  unfold fewB at hf
  simp only [Bool.and_eq_true, decide_eq_true_eq, List.all_eq_true] at hf
  exact ⟨hf.1, fun y hy => by have := hf.2 y hy; unfold okG at this; exact of_decide_eq_true this⟩
theorem room_len {A : Option Addr} {n cap : Nat} (h : Room A n cap) : n ≤ 9223372036854775807 := by
  have h1 := h.1
  have h2 := h.2.1
  unfold maxLen at h2
  omega
/-- act after act of one log and its reference, in a loop of the law -/
theorem LJ.start {w w1 : World} {p : Nat} (h : Lg.IsLg w1 w.heap.size p none 0 [] (fun i => w.heap.size ≤ i)) : Lg.LJ w1 w.heap.size p none 0 [] (fun i => w.heap.size ≤ i) none [] (fun _ => False) := ⟨h, Lg.IsJ.nil _ _, fun _ h => h.elim, rfl, Lg.Good.nil⟩
end Go.Proofs.Ytgmejplcdecmkaa
/- Last, Replay and At of a log and of the reference, each said in one form for all arguments. -/
namespace Go.Proofs.Ytgmejplcdecmkaa
open Go.RowKit
set_option maxHeartbeats 4000000
set_option maxRecDepth 100000
set_option linter.unusedSimpArgs false
set_option linter.unusedVariables false
namespace Lg
/-- a log and its reference, when blocks that are new since have been written -/
theorem LJ.cut {w : World} {base p c : Nat} {A A2 : Option Addr} {vs us : List RV} {X XJ : Nat → Prop} (h : LJ w base p A c vs X A2 us XJ) : LJ w base p A c vs (fun i => X i ∧ i < w.heap.size) A2 us (fun i => XJ i ∧ i < w.heap.size) :=
  ⟨h.lg.mono (fun i hi hx => ⟨hx, hi⟩), h.j.mono (fun i hi hx => ⟨hx, hi⟩), fun i hi => h.dis i hi.1, h.eq, h.good⟩
theorem LJ.wrote {S : Nat → Prop} {w W W' : World} {base p c : Nat} {A A2 : Option Addr} {vs us : List RV} {X XJ : Nat → Prop} (h : LJ w base p A c vs X A2 us XJ) (hb : Below w.heap.size w W) (k : Keeps S W W') (hS : ∀ i, S i → w.heap.size ≤ i) : LJ W' base p A c vs (fun i => X i ∧ i < w.heap.size) A2 us (fun i => XJ i ∧ i < w.heap.size) := by
  have g := h.cut.below hb
  refine ⟨g.lg.kept k (fun i hi hs => ?_) (fun i hi _ hs => ?_), g.j.keep k (fun i hi hs => ?_), g.dis, g.eq, g.good⟩
  · have h1 := (h.lg.two_lt hi).2
    have h2 := hS i hs
    omega
  · have h1 := hi.2
    have h2 := hS i hs
    omega
  · have h1 := hi.2
    have h2 := hS i hs
    omega
theorem ofE_two {a : Int} (h : ofE a ≠ 0) : ofE a = 2 := by
  unfold ofE at h ⊢
  split
  · rename_i h1; rw [if_pos h1] at h; exact absurd rfl h
  · rfl
/-- what Last says -/
structure L5 where
  (x y z u e : Int)
def lastT (K : List Rc) (a t : Int) : L5 :=
  if ofE a = 0 then (if 0 ≤ t ∧ t ≤ 3600000 then (match lastAt K a t K.length with | none => ⟨0, 0, 0, 0, 9⟩ | some i => ⟨(K.getD i r0).x, (K.getD i r0).y, (K.getD i r0).z, (K.getD i r0).t, 0⟩) else ⟨0, 0, 0, 0, 3⟩) else ⟨0, 0, 0, 0, 2⟩
def L5.val (v : L5) : Value := .tuple #[.agg #[.int .i64 v.x, .int .i64 v.y, .int .i64 v.z], .int .i64 v.u, .int .i64 v.e]
theorem lastAt_lt {K : List Rc} {a t : Int} : ∀ {n i : Nat}, lastAt K a t n = some i → i < n
  | 0, i, h => by cases h
  | n + 1, i, h => by
    rw [lastAt] at h
    split at h
    · cases h; omega
    · have := lastAt_lt h; omega
theorem lastP {a t : Int} {vs : List RV} {e : Ending} (ha : ofE a = 0) (ht : 0 ≤ t ∧ t ≤ 3600000) (h : LastPost a t vs e) : e = .returned (lastT (xs vs) a t).val := by
  unfold lastT
  rw [if_pos ha, if_pos ht, xs_len]
  rcases h with ⟨h1, h2⟩ | ⟨i, h1, h2⟩
  · rw [h1, h2]; rfl
  · rw [h1, h2]
    have := lastAt_lt h1
    simp only [L5.val]
    rw [xs_at this]
/-- what Replay says -/
def replX (K : List Rc) (a : Int) : List Rc := if ofE a = 0 then cmp (stL K a K.length) else []
end Lg
theorem last_all {w : World} {base p c : Nat} {X : Nat → Prop} {A : Option Addr} {vs : List Lg.RV} (h : Lg.IsLg w base p A c vs X) (hn : vs.length ≤ 1000000) (a t : Int) :
    Calls Try.prog 31 #[.pointer (some ⟨p, 0, none⟩), .int .i64 a, .int .i64 t] w fun e w' => e = .returned (Lg.lastT (Lg.xs vs) a t).val ∧ Below w.heap.size w w' := by
  by_cases ha : Lg.ofE a = 0
  · by_cases ht : 0 ≤ t ∧ t ≤ 3600000
    · exact (last_any h hn a t ha ht).mono (fun e w' hp => ⟨Lg.lastP ha ht hp.1, hp.2⟩)
    · refine (last_t ⟨p, 0, none⟩ a t ha ht w).mono (fun e w' hp => ⟨?_, hp.2⟩)
      rw [hp.1]; unfold Lg.lastT; rw [if_pos ha, if_neg ht]; rfl
  · refine (last_a ⟨p, 0, none⟩ a t (Lg.ofE_two ha) w).mono (fun e w' hp => ⟨?_, hp.2⟩)
    rw [hp.1]; unfold Lg.lastT; rw [if_neg ha]; rfl
theorem rlast_all {A : Option Addr} {n c : Nat} {vs : List Lg.RV} {w : World} (h : Lg.Rr w w.heap.size A n vs) (hn : n ≤ 1000000) (a t : Int) :
    Calls Try.prog 32 #[.slice A n c, .int .i64 a, .int .i64 t] w fun e w' => e = .returned (Lg.lastT (Lg.xs vs) a t).val ∧ Below w.heap.size w w' := by
  by_cases ha : Lg.ofE a = 0
  · by_cases ht : 0 ≤ t ∧ t ≤ 3600000
    · exact (rlast_any h hn a t ha ht).mono (fun e w' hp => ⟨Lg.lastP ha ht hp.1, hp.2⟩)
    · refine (rlast_t A n c a t ha ht w).mono (fun e w' hp => ⟨?_, hp.2⟩)
      rw [hp.1]; unfold Lg.lastT; rw [if_pos ha, if_neg ht]; rfl
  · refine (rlast_a A n c a t (Lg.ofE_two ha) w).mono (fun e w' hp => ⟨?_, hp.2⟩)
    rw [hp.1]; unfold Lg.lastT; rw [if_neg ha]; rfl
/-- behind Replay, whatever is asked -/
def ReplAll (K : List Lg.Rc) (a : Int) (w : World) (e : Ending) (w' : World) : Prop :=
  ∃ A' n' c' us, e = .returned (.tuple #[.slice A' n' c', .int .i64 (Lg.ofE a)]) ∧ n' ≤ 1000000 ∧ Lg.Rr w' w'.heap.size A' n' us ∧ Lg.xs us = Lg.replX K a ∧ Below w.heap.size w w'
theorem cpt_len : ∀ (l : List Lg.Rc) (s : Int), (Lg.cpt s l).length ≤ l.length
  | [], _ => Nat.le_refl _
  | r :: l, s => by
    rw [Lg.cpt]
    split
    · have := cpt_len l s; simp only [List.length_cons]; omega
    · have := cpt_len l r.s; simp only [List.length_cons]; omega
theorem cmp_len (l : List Lg.Rc) : (Lg.cmp l).length ≤ l.length := by
  cases l with
  | nil => exact Nat.le_refl _
  | cons r l => have := cpt_len l r.s; simp only [Lg.cmp, List.length_cons]; omega
theorem stL_len (l : List Lg.Rc) (a : Int) : ∀ n, (Lg.stL l a n).length ≤ n
  | 0 => Nat.le_refl _
  | n + 1 => by
    have := stL_len l a n
    rw [Lg.stL]
    split
    · rw [List.length_append, List.length_singleton]; omega
    · omega
theorem replay_all {w : World} {base p c : Nat} {X : Nat → Prop} {A : Option Addr} {vs : List Lg.RV} (h : Lg.IsLg w base p A c vs X) (hg : Lg.Good (Lg.xs vs)) (a : Int) :
    Calls Try.prog 33 #[.pointer (some ⟨p, 0, none⟩), .int .i64 a] w fun e w' => ReplAll (Lg.xs vs) a w e w' := by
  by_cases ha : Lg.ofE a = 0
  · refine (replay_yes h (Lg.good_vs hg) (Lg.good_rv hg) (Lg.good_rd hg) a ha).mono ?_
    rintro e w' ⟨A', c', us, he, hr, hl, hx, hb⟩
    have hxx : Lg.xs us = Lg.replX (Lg.xs vs) a := by unfold Lg.replX; rw [if_pos ha, Lg.xs_len]; exact hx
    have hle : us.length ≤ 1000000 := by
      have h1 := congrArg List.length hx
      rw [Lg.xs_len] at h1
      have h2 := cmp_len (Lg.stL (Lg.xs vs) a vs.length)
      have h3 := stL_len (Lg.xs vs) a vs.length
      have h4 := Lg.good_vs hg
      omega
    exact ⟨A', us.length, c', us, by rw [he, ha], hle, ⟨Rds.of_row hr, fun y hy => (hl y hy).ok _ _⟩, hxx, hb⟩
  · refine (replay_no ⟨p, 0, none⟩ a (Lg.ofE_two ha) w).mono ?_
    rintro e w' ⟨he, hb⟩
    exact ⟨none, 0, 0, [], by rw [he, Lg.ofE_two ha], by omega, Lg.Rr.nil _ _ _, by unfold Lg.replX; rw [if_neg ha]; rfl, hb⟩
theorem rrepl_all {A : Option Addr} {n c : Nat} {vs : List Lg.RV} {w : World} (h : Lg.Rr w w.heap.size A n vs) (hn : n ≤ 1000000) (a : Int) :
    Calls Try.prog 34 #[.slice A n c, .int .i64 a] w fun e w' => ReplAll (Lg.xs vs) a w e w' := by
  by_cases ha : Lg.ofE a = 0
  · refine (rrep_yes h hn a ha).mono ?_
    rintro e w' ⟨A', c', he, hr, hb⟩
    have hl : vs.length = n := h.len
    have hx : Lg.xs (Lg.replF a vs n) = Lg.cmp (Lg.stL (Lg.xs vs) a vs.length) := by rw [← hl]; exact Lg.replF_cmp a vs
    have hle : (Lg.replF a vs n).length ≤ 1000000 := by
      have h1 := congrArg List.length hx
      rw [Lg.xs_len] at h1
      have h2 := cmp_len (Lg.stL (Lg.xs vs) a vs.length)
      have h3 := stL_len (Lg.xs vs) a vs.length
      omega
    exact ⟨A', _, c', _, by rw [he, ha], hle, ⟨Rds.of_row hr, fun y hy => (h.2 y (Lg.replF_mem a vs n (by omega) y hy)).up hb⟩, by unfold Lg.replX; rw [if_pos ha, Lg.xs_len]; exact hx, hb⟩
  · refine (rrep_no A n c a (Lg.ofE_two ha) w).mono ?_
    rintro e w' ⟨he, hb⟩
    exact ⟨none, 0, 0, [], by rw [he, Lg.ofE_two ha], by omega, Lg.Rr.nil _ _ _, by unfold Lg.replX; rw [if_neg ha]; rfl, hb⟩
end Go.Proofs.Ytgmejplcdecmkaa

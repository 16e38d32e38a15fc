/- The reference's link: New, draw, Next. -/
import Derived.Test.YtgdpoiapkaahfaaLkB
import Derived.Test.YtgdpoiapkaahfaaRbs
import Derived.Test.YtgdpoiapkaahfaaLinkQ
import Derived.StillTailTactics
namespace Go.Proofs.Ytgdpoiapkaahfaa
open Go.RowKit
set_option maxHeartbeats 8000000
set_option maxRecDepth 100000
set_option linter.unusedSimpArgs false
set_option linter.unusedVariables false
attribute [local go_sem ↓] Go.wp_at_zero Go.wp_at_succ
/-- a message of the reference -/
structure RM where
  t : Int
  A : Option Addr
  c : Nat
  d : List Int
def RM.msg (m : RM) : Lnk.Msg := (m.t, m.d)
def rmc (m : RM) : List Value := [.int .i64 m.t, .slice m.A m.d.length m.c]
def rmcs (l : List RM) : List Value := l.flatMap rmc
def RMGood (w : World) (B : Nat) (l : List RM) : Prop := ∀ m ∈ l, Rd w B m.A m.d.length m.d ∧ m.d.length ≤ m.c ∧ m.c ≤ maxLen ∧ (m.A = none → m.d.length = 0)
/-- the slice at A of n messages reads u; all of it lies in blocks of X -/
def RWay (w : World) (X : Nat → Prop) (A : Option Addr) (n : Nat) (u : List Lnk.Msg) : Prop :=
  ∃ rl : List RM, rl.map RM.msg = u ∧ Rds w w.heap.size 2 A n (rmcs rl) ∧ RMGood w w.heap.size rl ∧ (∀ a, A = some a → 0 < n → X a.block) ∧ (∀ m ∈ rl, ∀ a, m.A = some a → 0 < m.d.length → X a.block)
section
variable {w w' : World} {B B' n : Nat} {A : Option Addr} {u : List Lnk.Msg} {l k : List RM} {X Y : Nat → Prop}
theorem rmcs_cons (m : RM) (l : List RM) : rmcs (m :: l) = .int .i64 m.t :: .slice m.A m.d.length m.c :: rmcs l := rfl
theorem rmcs_append : rmcs (l ++ k) = rmcs l ++ rmcs k := List.flatMap_append
theorem length_rmcs : ∀ l : List RM, (rmcs l).length = l.length * 2
  | [] => rfl
  | m :: l => by rw [rmcs_cons]; simp only [List.length_cons, length_rmcs l]; omega
theorem rmcs_at : ∀ {l : List RM} {j : Nat} {m : RM}, l[j]? = some m → (rmcs l)[j * 2]? = some (.int .i64 m.t) ∧ (rmcs l)[j * 2 + 1]? = some (.slice m.A m.d.length m.c)
  | [], j, m, h => by simp at h
  | x :: l, 0, m, h => by simp at h; subst h; exact ⟨rfl, rfl⟩
  | x :: l, j + 1, m, h => by
    have := rmcs_at (l := l) (j := j) (m := m) (by simpa using h)
    rw [rmcs_cons, show (j + 1) * 2 = j * 2 + 1 + 1 by omega]
    simpa using this
theorem rmcs_take : ∀ (l : List RM) (j : Nat), (rmcs l).take (j * 2) = rmcs (l.take j)
  | [], j => by simp [rmcs]
  | m :: l, 0 => by simp [rmcs]
  | m :: l, j + 1 => by
    rw [rmcs_cons, show (j + 1) * 2 = j * 2 + 1 + 1 by omega, List.take_succ_cons, List.take_succ_cons, rmcs_take l j, List.take_succ_cons, rmcs_cons]
theorem rmcs_drop : ∀ (l : List RM) (j : Nat), (rmcs l).drop (j * 2) = rmcs (l.drop j)
  | [], j => by simp [rmcs]
  | m :: l, 0 => by simp [rmcs]
  | m :: l, j + 1 => by
    rw [rmcs_cons, show (j + 1) * 2 = j * 2 + 1 + 1 by omega, List.drop_succ_cons, List.drop_succ_cons, rmcs_drop l j, List.drop_succ_cons]
theorem rmcs_one (l : List RM) : ∀ v ∈ rmcs l, v.oneCell' = true := by
  intro v hv
  simp only [rmcs, List.mem_flatMap] at hv
  obtain ⟨m, _, hm⟩ := hv
  simp [rmc] at hm
  rcases hm with rfl | rfl <;> rfl
theorem RMGood.below (h : RMGood w B l) (k : Below B' w w') (hB : B ≤ B') : RMGood w' B l := fun m hm => ⟨(h m hm).1.below k hB, (h m hm).2⟩
theorem RMGood.more (h : RMGood w B l) (hB : B ≤ B') : RMGood w B' l := fun m hm => ⟨(h m hm).1.more hB, (h m hm).2⟩
theorem RMGood.nil (w : World) (B : Nat) : RMGood w B [] := fun m hm => by cases hm
theorem RMGood.append (h : RMGood w B l) (g : RMGood w B k) : RMGood w B (l ++ k) := fun m hm => (List.mem_append.1 hm).elim (h m) (g m)
theorem RMGood.sub (h : RMGood w B l) (hs : ∀ m ∈ k, m ∈ l) : RMGood w B k := fun m hm => h m (hs m hm)
theorem Rds.keepX {S : Nat → Prop} {size : Nat} {xs : List Value} (h : Rds w w.heap.size size A n xs) (k : Keeps S w w') (hS : ∀ a, A = some a → 0 < n → ¬ S a.block) : Rds w' w'.heap.size size A n xs :=
  ⟨h.1, fun hn => by
    obtain ⟨b, o, e, hb, hc⟩ := h.2 hn
    exact ⟨b, o, e, Nat.lt_of_lt_of_le hb k.size, fun j u hu => (World.cell?_of_block (k.block b hb (hS _ e hn))).trans (hc j u hu)⟩⟩
theorem RMGood.keepX {S : Nat → Prop} (h : RMGood w w.heap.size l) (k : Keeps S w w') (hS : ∀ m ∈ l, ∀ a, m.A = some a → 0 < m.d.length → ¬ S a.block) : RMGood w' w'.heap.size l := fun m hm => by
  obtain ⟨h1, h2⟩ := h m hm
  refine ⟨⟨h1.1, h1.2.1, fun hn => ?_⟩, h2⟩
  obtain ⟨b, o, e, hb, hc⟩ := h1.2.2 hn
  exact ⟨b, o, e, Nat.lt_of_lt_of_le hb k.size, fun i hi => (World.cell?_of_block (k.block b hb (hS m hm _ e hn))).trans (hc i hi)⟩
theorem RWay.keep {S : Nat → Prop} (h : RWay w X A n u) (k : Keeps S w w') (hS : ∀ i, X i → ¬ S i) : RWay w' X A n u := by
  obtain ⟨rl, h1, h2, h3, h4, h5⟩ := h
  exact ⟨rl, h1, h2.keepX k (fun a ha hn => hS _ (h4 a ha hn)), h3.keepX k (fun m hm a ha hn => hS _ (h5 m hm a ha hn)), h4, h5⟩
theorem RWay.below (h : RWay w X A n u) (k : Below B w w') (hB : ∀ i, X i → i < B) : RWay w' X A n u :=
  h.keep (S := fun i => B ≤ i) ⟨k.os, k.tape, k.output, k.size, fun i _ hi => k.block i (by omega)⟩ (fun i hi => by have := hB i hi; omega)
theorem RWay.mono (h : RWay w X A n u) (hX : ∀ i, X i → Y i) : RWay w Y A n u := by
  obtain ⟨rl, h1, h2, h3, h4, h5⟩ := h
  exact ⟨rl, h1, h2, h3, fun a ha hn => hX _ (h4 a ha hn), fun m hm a ha hn => hX _ (h5 m hm a ha hn)⟩
theorem RWay.bound (h : RWay w X A n u) : RWay w (fun i => X i ∧ i < w.heap.size) A n u := by
  obtain ⟨rl, h1, h2, h3, h4, h5⟩ := h
  refine ⟨rl, h1, h2, h3, fun a ha hn => ⟨h4 a ha hn, ?_⟩, fun m hm a ha hn => ⟨h5 m hm a ha hn, ?_⟩⟩
  · obtain ⟨b, o, e, hb, _⟩ := h2.2 hn
    rw [ha] at e; injection e with e; rw [e]; exact hb
  · obtain ⟨b, o, e, hb, _⟩ := (h3 m hm).1.2.2 hn
    rw [ha] at e; injection e with e; rw [e]; exact hb
theorem RWay.nil (w : World) (X : Nat → Prop) (A : Option Addr) : RWay w X A 0 [] := ⟨[], rfl, Rds.nil _ _ _ _, RMGood.nil _ _, fun _ _ h => absurd h (by omega), fun m hm => by cases hm⟩
theorem RWay.len (h : RWay w X A n u) : u.length = n := by
  obtain ⟨rl, h1, h2, _⟩ := h
  have := h2.1
  rw [length_rmcs] at this
  rw [← h1, List.length_map]; omega
end
/-- the cells of the reference's link -/
def rll (r : Lnk.Ru) (s : Lnk.St) (A : Option Addr) (n c : Nat) : List Value := [.int .i64 r.loss, .int .i64 r.twice, .int .i64 r.least, .int .i64 r.most, .int .i64 r.seed, .int .u64 s.x, .int .i64 s.now, .slice A n c, .int .i64 s.sent, .int .i64 s.lost, .int .i64 s.dbl]
def rlv (r : Lnk.Ru) (s : Lnk.St) (A : Option Addr) (n c : Nat) : Value := .agg (rll r s A n c).toArray
theorem rnew_no (r : Lnk.Ru) (w : World) (hv : Lnk.vld r = false) :
    Calls Try.prog 28 #[.agg (rul r).toArray] w fun e w' => e = .returned (.tuple #[rlv ⟨0, 0, 0, 0, 0⟩ ⟨0, 0, [], 0, 0, 0⟩ none 0 0, .int .i64 2]) ∧ Below w.heap.size w w' := by
  have V := Lib.hid (fun W : World => hv ▸ rlvalid_any r W)
  clear hv
  obtain ⟨lo, tw, le, mo, se⟩ := r
  simp only [rul, rlv, rll] at *
  go_enter Try.func28, Try.ntmps28
  go_wp2_with fail
  refine (V.out _).mono ?_
  rintro e w1 ⟨rfl, hb1⟩
  have hz1 := hb1.size; try simp at hz1
  have h0 := blk_below (q := w.heap.size) (by repeat (first | (with_reducible assumption) | ((with_reducible apply blk_far); rotate_left; (first | omega | (simp <;> omega)); rotate_right) | (with_reducible apply blk_drew) | (with_reducible apply blk_drewN) | (with_reducible exact heap_new _ _) | ((with_reducible apply heap_new'); (first | rfl | (simp <;> fail))) | (with_reducible apply blk_alloc))) hb1 (by first | omega | (simp; done) | (simp; omega))
  have h1 := blk_below (q := w.heap.size + 1) (by repeat (first | (with_reducible assumption) | ((with_reducible apply blk_far); rotate_left; (first | omega | (simp <;> omega)); rotate_right) | (with_reducible apply blk_drew) | (with_reducible apply blk_drewN) | (with_reducible exact heap_new _ _) | ((with_reducible apply heap_new'); (first | rfl | (simp <;> fail))) | (with_reducible apply blk_alloc))) hb1 (by first | omega | (simp; done) | (simp; omega))
  have HB1 := (show Below w.heap.size w w1 from (by repeat (first | (with_reducible exact Below.refl _ _) | (with_reducible refine Below.drew ?_) | (with_reducible refine below_drewN ?_ _) | ((with_reducible refine Below.alloc ?_ ?_ _); rotate_left; (first | omega | (simp <;> omega)); rotate_right) | ((with_reducible refine Below.setCell ?_ ?_ _); rotate_left; (first | omega | (simp <;> omega)); rotate_right) | (with_reducible assumption) | (refine Below.trans ?_ (Below.mono (by assumption) ?_); rotate_left; (first | omega | (simp <;> omega)); rotate_right))))
  have ca_0 := blk_cell h1 0 rfl; have fa_0 := blk_free h1 0; have ca_1 := blk_cell h1 1 rfl; have fa_1 := blk_free h1 1; have ca_2 := blk_cell h1 2 rfl; have fa_2 := blk_free h1 2; have ca_3 := blk_cell h1 3 rfl; have fa_3 := blk_free h1 3; have ca_4 := blk_cell h1 4 rfl; have fa_4 := blk_free h1 4; have ca_5 := blk_cell h1 5 rfl; have fa_5 := blk_free h1 5; have ca_6 := blk_cell h1 6 rfl; have fa_6 := blk_free h1 6; have ca_7 := blk_cell h1 7 rfl; have fa_7 := blk_free h1 7; have ca_8 := blk_cell h1 8 rfl; have fa_8 := blk_free h1 8; have ca_9 := blk_cell h1 9 rfl; have fa_9 := blk_free h1 9; have ca_10 := blk_cell h1 10 rfl; have fa_10 := blk_free h1 10; have la := lt_of_block h1
  go_wp2_with fail
  refine bodyPost_ret (v := .tuple #[.agg #[.int .i64 0, .int .i64 0, .int .i64 0, .int .i64 0, .int .i64 0, .int .u64 0, .int .i64 0, .slice none 0 0, .int .i64 0, .int .i64 0, .int .i64 0], .int .i64 2]) ?_ rfl ⟨rfl, (by repeat (first | (with_reducible exact Below.refl _ _) | (with_reducible refine Below.drew ?_) | (with_reducible refine below_drewN ?_ _) | ((with_reducible refine Below.alloc ?_ ?_ _); rotate_left; (first | omega | (simp <;> omega)); rotate_right) | ((with_reducible refine Below.setCell ?_ ?_ _); rotate_left; (first | omega | (simp <;> omega)); rotate_right) | (with_reducible assumption) | (refine Below.trans ?_ (Below.mono (by assumption) ?_); rotate_left; (first | omega | (simp <;> omega)); rotate_right)))⟩
  simp [results, Try.results28, go_sem, *]
theorem rnew_yes (r : Lnk.Ru) (w : World) (hv : Lnk.vld r = true) (hse : r.seed ≤ 9223372036854775807) :
    Calls Try.prog 28 #[.agg (rul r).toArray] w fun e w' => e = .returned (.tuple #[rlv r (Lnk.new r) none 0 0, .int .i64 0]) ∧ Below w.heap.size w w' := by
  have V := Lib.hid (fun W : World => hv ▸ rlvalid_any r W)
  rw [Lnk.vld_iff] at hv
  obtain ⟨_, _, _, _, h5⟩ := hv
  obtain ⟨lo, tw, le, mo, se⟩ := r
  simp only [rul, rlv, rll, Lnk.new] at *
  have hw : IntKind.u64.wrap se = se := by rw [IntKind.wrap_u64]; omega
  go_enter Try.func28, Try.ntmps28
  go_wp2_with fail
  refine (V.out _).mono ?_
  rintro e w1 ⟨rfl, hb1⟩
  have hz1 := hb1.size; try simp at hz1
  have h0 := blk_below (q := w.heap.size) (by repeat (first | (with_reducible assumption) | ((with_reducible apply blk_far); rotate_left; (first | omega | (simp <;> omega)); rotate_right) | (with_reducible apply blk_drew) | (with_reducible apply blk_drewN) | (with_reducible exact heap_new _ _) | ((with_reducible apply heap_new'); (first | rfl | (simp <;> fail))) | (with_reducible apply blk_alloc))) hb1 (by first | omega | (simp; done) | (simp; omega))
  have h1 := blk_below (q := w.heap.size + 1) (by repeat (first | (with_reducible assumption) | ((with_reducible apply blk_far); rotate_left; (first | omega | (simp <;> omega)); rotate_right) | (with_reducible apply blk_drew) | (with_reducible apply blk_drewN) | (with_reducible exact heap_new _ _) | ((with_reducible apply heap_new'); (first | rfl | (simp <;> fail))) | (with_reducible apply blk_alloc))) hb1 (by first | omega | (simp; done) | (simp; omega))
  have HB1 := (show Below w.heap.size w w1 from (by repeat (first | (with_reducible exact Below.refl _ _) | (with_reducible refine Below.drew ?_) | (with_reducible refine below_drewN ?_ _) | ((with_reducible refine Below.alloc ?_ ?_ _); rotate_left; (first | omega | (simp <;> omega)); rotate_right) | ((with_reducible refine Below.setCell ?_ ?_ _); rotate_left; (first | omega | (simp <;> omega)); rotate_right) | (with_reducible assumption) | (refine Below.trans ?_ (Below.mono (by assumption) ?_); rotate_left; (first | omega | (simp <;> omega)); rotate_right))))
  have cb_0 := blk_cell h0 0 rfl; have fb_0 := blk_free h0 0; have cb_1 := blk_cell h0 1 rfl; have fb_1 := blk_free h0 1; have cb_2 := blk_cell h0 2 rfl; have fb_2 := blk_free h0 2; have cb_3 := blk_cell h0 3 rfl; have fb_3 := blk_free h0 3; have cb_4 := blk_cell h0 4 rfl; have fb_4 := blk_free h0 4; have lb := lt_of_block h0
  have ca_0 := blk_cell h1 0 rfl; have fa_0 := blk_free h1 0; have ca_1 := blk_cell h1 1 rfl; have fa_1 := blk_free h1 1; have ca_2 := blk_cell h1 2 rfl; have fa_2 := blk_free h1 2; have ca_3 := blk_cell h1 3 rfl; have fa_3 := blk_free h1 3; have ca_4 := blk_cell h1 4 rfl; have fa_4 := blk_free h1 4; have ca_5 := blk_cell h1 5 rfl; have fa_5 := blk_free h1 5; have ca_6 := blk_cell h1 6 rfl; have fa_6 := blk_free h1 6; have ca_7 := blk_cell h1 7 rfl; have fa_7 := blk_free h1 7; have ca_8 := blk_cell h1 8 rfl; have fa_8 := blk_free h1 8; have ca_9 := blk_cell h1 9 rfl; have fa_9 := blk_free h1 9; have ca_10 := blk_cell h1 10 rfl; have fa_10 := blk_free h1 10; have la := lt_of_block h1
  go_wp2_with fail
  refine bodyPost_ret (v := .tuple #[.agg #[.int .i64 lo, .int .i64 tw, .int .i64 le, .int .i64 mo, .int .i64 se, .int .u64 se, .int .i64 0, .slice none 0 0, .int .i64 0, .int .i64 0, .int .i64 0], .int .i64 0]) ?_ rfl ⟨rfl, (by repeat (first | (with_reducible exact Below.refl _ _) | (with_reducible refine Below.drew ?_) | (with_reducible refine below_drewN ?_ _) | ((with_reducible refine Below.alloc ?_ ?_ _); rotate_left; (first | omega | (simp <;> omega)); rotate_right) | ((with_reducible refine Below.setCell ?_ ?_ _); rotate_left; (first | omega | (simp <;> omega)); rotate_right) | (with_reducible assumption) | (refine Below.trans ?_ (Below.mono (by assumption) ?_); rotate_left; (first | omega | (simp <;> omega)); rotate_right)))⟩
  simp [results, Try.results28, go_sem, *]
theorem dr_two (x : Int) : wrap64 (Lnk.nx x / 8589934592) = Lnk.dr x := by
  have := Lnk.dr_bd x
  unfold Lnk.dr at this ⊢
  exact IntWalk.wrap64_in _ ⟨by omega, by omega⟩
theorem dr_three (x : Int) : wrap64 (IntKind.u64.wrap ((Lnk.nx x).tdiv 8589934592)) = Lnk.dr x := by
  have h1 := Lnk.nx_bd x
  have h2 := Lnk.dr_bd x
  rw [Int.tdiv_eq_ediv_of_nonneg h1.1]
  unfold Lnk.dr at h2 ⊢
  rw [show IntKind.u64.wrap (Lnk.nx x / 8589934592) = Lnk.nx x / 8589934592 by rw [IntKind.wrap_u64]; omega]
  exact IntWalk.wrap64_in _ ⟨by omega, by omega⟩
theorem rdraw_any (r : Lnk.Ru) (s : Lnk.St) (A : Option Addr) (n c : Nat) (w : World) :
    Calls Try.prog 45 #[rlv r s A n c] w fun e w' => e = .returned (.tuple #[rlv r { s with x := Lnk.nx s.x } A n c, .int .i64 (Lnk.dr s.x)]) ∧ Below w.heap.size w w' := by
  have N := Lib.hid (nx_two s.x)
  have D := Lib.hid (dr_three s.x)
  obtain ⟨lo, tw, le, mo, se⟩ := r
  obtain ⟨x, now, u, sent, lost, dbl⟩ := s
  simp only [rlv, rll] at *
  go_enter Try.func45, Try.ntmps45
  go_wp2_with fail
  rw [N.out]
  obtain ⟨W, hW⟩ : ∃ W : World, W = (w.alloc (.cells #[.int .i64 lo, .int .i64 tw, .int .i64 le, .int .i64 mo, .int .i64 se, .int .u64 (Lnk.nx x), .int .i64 now, .slice A n c, .int .i64 sent, .int .i64 lost, .int .i64 dbl] 28)).alloc (.cells #[.int .i64 0, .int .i64 0, .int .i64 0, .int .i64 0, .int .i64 0, .int .u64 0, .int .i64 0, .slice none 0 0, .int .i64 0, .int .i64 0, .int .i64 0] 28) := ⟨_, rfl⟩
  rw [← hW]
  have h0 : W.heap[w.heap.size]? = some (.cells #[.int .i64 lo, .int .i64 tw, .int .i64 le, .int .i64 mo, .int .i64 se, .int .u64 (Lnk.nx x), .int .i64 now, .slice A n c, .int .i64 sent, .int .i64 lost, .int .i64 dbl] 28 (0, 0)) := by rw [hW]; exact (by repeat (first | (with_reducible assumption) | ((with_reducible apply blk_far); rotate_left; (first | omega | (simp <;> omega)); rotate_right) | (with_reducible apply blk_drew) | (with_reducible apply blk_drewN) | (with_reducible exact heap_new _ _) | ((with_reducible apply heap_new'); (first | rfl | (simp <;> fail))) | (with_reducible apply blk_alloc)))
  have h1 : W.heap[w.heap.size + 1]? = some (.cells #[.int .i64 0, .int .i64 0, .int .i64 0, .int .i64 0, .int .i64 0, .int .u64 0, .int .i64 0, .slice none 0 0, .int .i64 0, .int .i64 0, .int .i64 0] 28 (0, 0)) := by rw [hW]; exact (by repeat (first | (with_reducible assumption) | ((with_reducible apply blk_far); rotate_left; (first | omega | (simp <;> omega)); rotate_right) | (with_reducible apply blk_drew) | (with_reducible apply blk_drewN) | (with_reducible exact heap_new _ _) | ((with_reducible apply heap_new'); (first | rfl | (simp <;> fail))) | (with_reducible apply blk_alloc)))
  have HB : Below w.heap.size w W := by rw [hW]; exact (by repeat (first | (with_reducible exact Below.refl _ _) | (with_reducible refine Below.drew ?_) | (with_reducible refine below_drewN ?_ _) | ((with_reducible refine Below.alloc ?_ ?_ _); rotate_left; (first | omega | (simp <;> omega)); rotate_right) | ((with_reducible refine Below.setCell ?_ ?_ _); rotate_left; (first | omega | (simp <;> omega)); rotate_right) | (with_reducible assumption) | (refine Below.trans ?_ (Below.mono (by assumption) ?_); rotate_left; (first | omega | (simp <;> omega)); rotate_right)))
  clear hW
  have ca_0 := blk_cell h0 0 rfl; have fa_0 := blk_free h0 0; have ca_1 := blk_cell h0 1 rfl; have fa_1 := blk_free h0 1; have ca_2 := blk_cell h0 2 rfl; have fa_2 := blk_free h0 2; have ca_3 := blk_cell h0 3 rfl; have fa_3 := blk_free h0 3; have ca_4 := blk_cell h0 4 rfl; have fa_4 := blk_free h0 4; have ca_5 := blk_cell h0 5 rfl; have fa_5 := blk_free h0 5; have ca_6 := blk_cell h0 6 rfl; have fa_6 := blk_free h0 6; have ca_7 := blk_cell h0 7 rfl; have fa_7 := blk_free h0 7; have ca_8 := blk_cell h0 8 rfl; have fa_8 := blk_free h0 8; have ca_9 := blk_cell h0 9 rfl; have fa_9 := blk_free h0 9; have ca_10 := blk_cell h0 10 rfl; have fa_10 := blk_free h0 10; have la := lt_of_block h0
  have cb_0 := blk_cell h1 0 rfl; have fb_0 := blk_free h1 0; have cb_1 := blk_cell h1 1 rfl; have fb_1 := blk_free h1 1; have cb_2 := blk_cell h1 2 rfl; have fb_2 := blk_free h1 2; have cb_3 := blk_cell h1 3 rfl; have fb_3 := blk_free h1 3; have cb_4 := blk_cell h1 4 rfl; have fb_4 := blk_free h1 4; have cb_5 := blk_cell h1 5 rfl; have fb_5 := blk_free h1 5; have cb_6 := blk_cell h1 6 rfl; have fb_6 := blk_free h1 6; have cb_7 := blk_cell h1 7 rfl; have fb_7 := blk_free h1 7; have cb_8 := blk_cell h1 8 rfl; have fb_8 := blk_free h1 8; have cb_9 := blk_cell h1 9 rfl; have fb_9 := blk_free h1 9; have cb_10 := blk_cell h1 10 rfl; have fb_10 := blk_free h1 10; have lb := lt_of_block h1
  clear h0
  go_region
  all_goals go_wp2_with fail
  rw [D.out]
  refine bodyPost_ret (v := .tuple #[.agg #[.int .i64 lo, .int .i64 tw, .int .i64 le, .int .i64 mo, .int .i64 se, .int .u64 (Lnk.nx x), .int .i64 now, .slice A n c, .int .i64 sent, .int .i64 lost, .int .i64 dbl], .int .i64 (Lnk.dr x)]) ?_ rfl ⟨rfl, (by repeat (first | (with_reducible exact Below.refl _ _) | (with_reducible refine Below.drew ?_) | (with_reducible refine below_drewN ?_ _) | ((with_reducible refine Below.alloc ?_ ?_ _); rotate_left; (first | omega | (simp <;> omega)); rotate_right) | ((with_reducible refine Below.setCell ?_ ?_ _); rotate_left; (first | omega | (simp <;> omega)); rotate_right) | (with_reducible assumption) | (refine Below.trans ?_ (Below.mono (by assumption) ?_); rotate_left; (first | omega | (simp <;> omega)); rotate_right)))⟩
  simp [results, Try.results45, go_sem, *]
theorem rnext_none (r : Lnk.Ru) (s : Lnk.St) (A : Option Addr) (c : Nat) (w : World) :
    Calls Try.prog 36 #[rlv r s A 0 c] w fun e w' => e = .returned (.tuple #[.int .i64 0, .int .i64 9]) ∧ Below w.heap.size w w' := by
  obtain ⟨lo, tw, le, mo, se⟩ := r
  obtain ⟨x, now, u, sent, lost, dbl⟩ := s
  simp only [rlv, rll] at *
  go_enter Try.func36, Try.ntmps36
  go_wp2_with fail
  go_ret2
  exact ⟨rfl, (by repeat (first | (with_reducible exact Below.refl _ _) | (with_reducible refine Below.drew ?_) | (with_reducible refine below_drewN ?_ _) | ((with_reducible refine Below.alloc ?_ ?_ _); rotate_left; (first | omega | (simp <;> omega)); rotate_right) | ((with_reducible refine Below.setCell ?_ ?_ _); rotate_left; (first | omega | (simp <;> omega)); rotate_right) | (with_reducible assumption) | (refine Below.trans ?_ (Below.mono (by assumption) ?_); rotate_left; (first | omega | (simp <;> omega)); rotate_right)))⟩
/-- the least time of a list -/
def leastT : Int → List Lnk.Msg → Int
  | a, [] => a
  | a, m :: l => leastT (min a m.1) l
theorem leastT_snoc (a : Int) (l : List Lnk.Msg) (m : Lnk.Msg) : leastT a (l ++ [m]) = min (leastT a l) m.1 := by
  induction l generalizing a with
  | nil => rfl
  | cons x l ih => exact ih _
theorem least_srt : ∀ (u : List Lnk.Msg) (m : Lnk.Msg) (l : List Lnk.Msg), u.head? = some m → Lnk.srt u = l → (match l with | [] => (0 : Int) | x :: _ => x.1) = leastT m.1 u := by
  intro u
  refine Lnk.rev_ind (P := fun u => ∀ (m : Lnk.Msg) (l : List Lnk.Msg), u.head? = some m → Lnk.srt u = l → (match l with | [] => (0 : Int) | x :: _ => x.1) = leastT m.1 u) (by simp) ?_ u
  intro u y ih m l hm hl
  rw [leastT_snoc]
  cases u with
  | nil =>
    simp at hm
    subst hm
    rw [← hl]
    simp [Lnk.srt, Lnk.ins, leastT]
  | cons z u =>
    have hz : z = m := by simpa using hm
    subst hz
    have h0 := ih z (Lnk.srt (z :: u)) rfl rfl
    rw [← h0, ← hl, Lnk.srt_snoc]
    cases hs : Lnk.srt (z :: u) with
    | nil => have := Lnk.length_srt (z :: u); rw [hs] at this; simp at this
    | cons a t =>
      by_cases hc : a.1 ≤ y.1
      · rw [Lnk.ins_le _ hc]
        show a.1 = min a.1 y.1
        omega
      · rw [Lnk.ins_gt _ hc]
        show y.1 = min a.1 y.1
        omega
end Go.Proofs.Ytgdpoiapkaahfaa

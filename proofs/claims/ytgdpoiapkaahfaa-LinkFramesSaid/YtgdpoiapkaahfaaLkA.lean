/- A link in memory; draw, none, put. -/
import Derived.Test.YtgdpoiapkaahfaaLinkP
import Derived.Test.YtgdpoiapkaahfaaIns
namespace Go.Proofs.Ytgdpoiapkaahfaa
open Go.RowKit
set_option maxHeartbeats 4000000
set_option maxRecDepth 100000
set_option linter.unusedSimpArgs false
set_option linter.unusedVariables false
attribute [local go_sem ↓] Go.wp_at_zero Go.wp_at_succ
/-- the cells of messages on their way -/
def mcell (m : Lnk.Msg) : List Value := [.int .i64 m.1, .string (strOfNums m.2)]
def mcells (l : List Lnk.Msg) : List Value := l.flatMap mcell
theorem mcells_cons (m : Lnk.Msg) (l : List Lnk.Msg) : mcells (m :: l) = .int .i64 m.1 :: .string (strOfNums m.2) :: mcells l := rfl
theorem mcells_append (l k : List Lnk.Msg) : mcells (l ++ k) = mcells l ++ mcells k := List.flatMap_append
theorem length_mcells : ∀ l : List Lnk.Msg, (mcells l).length = l.length * 2
  | [] => rfl
  | m :: l => by rw [mcells_cons]; simp only [List.length_cons, length_mcells l]; omega
theorem mcells_at : ∀ (l : List Lnk.Msg) (j : Nat) (h : j < l.length), (mcells l)[j * 2]? = some (.int .i64 l[j].1) ∧ (mcells l)[j * 2 + 1]? = some (.string (strOfNums l[j].2))
  | m :: l, 0, h => ⟨rfl, rfl⟩
  | m :: l, j + 1, h => by
    have := mcells_at l j (by simpa using h)
    rw [mcells_cons, show (j + 1) * 2 = j * 2 + 1 + 1 by omega]
    simpa using this
theorem mcells_take : ∀ (l : List Lnk.Msg) (j : Nat), (mcells l).take (j * 2) = mcells (l.take j)
  | [], j => by simp [mcells]
  | m :: l, 0 => by simp [mcells]
  | m :: l, j + 1 => by
    rw [mcells_cons, show (j + 1) * 2 = j * 2 + 1 + 1 by omega, List.take_succ_cons, List.take_succ_cons, mcells_take l j, List.take_succ_cons, mcells_cons]
theorem mcells_drop : ∀ (l : List Lnk.Msg) (j : Nat), (mcells l).drop (j * 2) = mcells (l.drop j)
  | [], j => by simp [mcells]
  | m :: l, 0 => by simp [mcells]
  | m :: l, j + 1 => by
    rw [mcells_cons, show (j + 1) * 2 = j * 2 + 1 + 1 by omega, List.drop_succ_cons, List.drop_succ_cons, mcells_drop l j, List.drop_succ_cons]
theorem mcells_one (l : List Lnk.Msg) : ∀ v ∈ mcells l, v.oneCell' = true := by
  intro v hv
  simp only [mcells, List.mem_flatMap] at hv
  obtain ⟨m, _, hm⟩ := hv
  simp [mcell] at hm
  rcases hm with rfl | rfl <;> rfl
/-- the cells of a link -/
def lkl (r : Lnk.Ru) (s : Lnk.St) (A : Option Addr) (c : Nat) : List Value := [.bool true, .int .i64 r.loss, .int .i64 r.twice, .int .i64 r.least, .int .i64 r.most, .int .i64 r.seed, .int .u64 s.x, .int .i64 s.now, .slice A s.u.length c, .int .i64 s.sent, .int .i64 s.lost, .int .i64 s.dbl]
/-- block b is a link; its messages, sorted, lie at A -/
structure IsLk (w : World) (base b : Nat) (A : Option Addr) (c : Nat) (r : Lnk.Ru) (s : Lnk.St) : Prop where
  blk : w.heap[b]? = some (.cells (lkl r s A c).toArray 77 (0, 0))
  row : Row w base 87 2 A s.u.length c (mcells (Lnk.srt s.u))
  ge : base ≤ b
/-- the blocks of a link -/
def Two (b : Nat) (A : Option Addr) (i : Nat) : Prop := i = b ∨ blkOf A = some i
section
variable {w w' : World} {base b c : Nat} {A : Option Addr} {r : Lnk.Ru} {s : Lnk.St}
theorem IsLk.ne (h : IsLk w base b A c r s) {g : Nat} (hg : blkOf A = some g) : g ≠ b := by
  rintro rfl
  rcases h.row.2 with ⟨rfl, _⟩ | ⟨g', o, cur, rfl, _, hh, _⟩
  · cases hg
  · simp [blkOf] at hg
    subst hg
    rw [h.blk] at hh
    injection hh with hh
    injection hh with _ ht
    exact absurd ht (by decide)
theorem IsLk.lt (h : IsLk w base b A c r s) : b < w.heap.size := lt_of_block h.blk
theorem IsLk.kept {S : Nat → Prop} (h : IsLk w base b A c r s) (k : Keeps S w w') (hS : ∀ i, Two b A i → ¬ S i) : IsLk w' base b A c r s :=
  ⟨blk_keep h.blk k (hS b (.inl rfl)), h.row.kept k (fun g hg => hS g (.inr hg)), h.ge⟩
theorem IsLk.below {B : Nat} (h : IsLk w base b A c r s) (k : Below B w w') (hB : w.heap.size ≤ B) : IsLk w' base b A c r s :=
  h.kept (S := fun _ => False) ⟨k.os, k.tape, k.output, k.size, fun i hi _ => k.block i (by omega)⟩ (fun _ _ h => h)
theorem IsLk.alloc (h : IsLk w base b A c r s) (o : Obj) : IsLk (w.alloc o) base b A c r s := ⟨blk_alloc h.blk o, h.row.alloc o, h.ge⟩
theorem IsLk.drew (h : IsLk w base b A c r s) : IsLk w.drew base b A c r s := ⟨h.blk, h.row, h.ge⟩
theorem IsLk.drewN (h : IsLk w base b A c r s) (k : Nat) : IsLk (w.drewN k) base b A c r s := ⟨h.blk, h.row, h.ge⟩
theorem IsLk.far (h : IsLk w base b A c r s) {p : Addr} (hp : ∀ i, Two b A i → i ≠ p.block) (u : Value) : IsLk (w.setCell p u) base b A c r s :=
  ⟨blk_far h.blk (hp b (.inl rfl)) u, h.row.far (fun g hg => hp g (.inr hg)) u, h.ge⟩
theorem IsLk.two (h : IsLk w base b A c r s) : ∀ i, Two b A i → i < w.heap.size := by
  rintro i (rfl | hi)
  · exact h.lt
  · exact (h.row.lt hi).2
theorem IsLk.two_ge (h : IsLk w base b A c r s) : ∀ i, Two b A i → base ≤ i := by
  rintro i (rfl | hi)
  · exact h.ge
  · exact (h.row.lt hi).1
end
theorem none_made (b : Nat) (cs : List Value) (w : World) (h : w.heap[b]? = some (.cells cs.toArray 77 (0, 0))) (h0 : cs[0]? = some (.bool true)) :
    Calls Try.prog 37 #[.pointer (some ⟨b, 0, none⟩)] w fun e w' => e = .returned (.bool false) ∧ w = w' := by
  have c0 := blk_cell h 0 h0
  clear h h0
  go_enter Try.func37, Try.ntmps37
  go_wp2_with fail
  go_ret
  exact ⟨rfl, rfl⟩
theorem none_zero (b : Nat) (cs : List Value) (w : World) (h : w.heap[b]? = some (.cells cs.toArray 77 (0, 0))) (h0 : cs[0]? = some (.bool false)) :
    Calls Try.prog 37 #[.pointer (some ⟨b, 0, none⟩)] w fun e w' => e = .returned (.bool true) ∧ w = w' := by
  have c0 := blk_cell h 0 h0
  clear h h0
  go_enter Try.func37, Try.ntmps37
  go_wp2_with fail
  go_ret
  exact ⟨rfl, rfl⟩
theorem none_nil (w : World) : Calls Try.prog 37 #[.pointer none] w fun e w' => e = .returned (.bool true) ∧ w = w' := by
  go_enter Try.func37, Try.ntmps37
  go_wp2_with fail
  go_ret
  exact ⟨rfl, rfl⟩
theorem nx_two (x : Int) : IntKind.u64.wrap (IntKind.u64.wrap (6364136223846793005 * x) + 1442695040888963407) = Lnk.nx x := by
  unfold Lnk.nx
  simp only [IntKind.wrap_u64]
  omega
theorem draw_any (b : Nat) (x lim : Int) (w : World) (hc : w.cell? ⟨b, 6, none⟩ = some (.int .u64 x)) (hf : w.frozen? ⟨b, 6, none⟩ = false) (hl : 0 < lim) (hl2 : lim ≤ 1000000) :
    Calls Try.prog 38 #[.pointer (some ⟨b, 0, none⟩), .int .i64 lim] w fun e w' => e = .returned (.int .i64 (Lnk.dr x % lim)) ∧ w' = w.setCell ⟨b, 6, none⟩ (.int .u64 (Lnk.nx x)) := by
  have N := Lib.hid (nx_two x)
  go_enter Try.func38, Try.ntmps38
  go_wp2_with fail
  go_ret
  rw [N.out]
  refine ⟨ret_int ?_, rfl⟩
  have := Lnk.dr_bd x
  unfold Lnk.dr at this ⊢
  rw [IntWalk.wrap64_in _ ⟨by omega, by omega⟩, Int.tmod_eq_emod_of_nonneg this.1]
theorem draw_lk (base b c : Nat) (A : Option Addr) (r : Lnk.Ru) (s : Lnk.St) (lim : Int) (w : World) (h : IsLk w base b A c r s) (hl : 0 < lim) (hl2 : lim ≤ 1000000) :
    Calls Try.prog 38 #[.pointer (some ⟨b, 0, none⟩), .int .i64 lim] w fun e w' => e = .returned (.int .i64 (Lnk.dr s.x % lim)) ∧ w' = w.setCell ⟨b, 6, none⟩ (.int .u64 (Lnk.nx s.x)) ∧ IsLk w' base b A c r { s with x := Lnk.nx s.x } := by
  refine (draw_any b s.x lim w (blk_cell h.blk 6 rfl) (blk_free h.blk 6) hl hl2).mono ?_
  rintro e w' ⟨rfl, rfl⟩
  refine ⟨rfl, rfl, ?_, h.row.far (fun g hg => h.ne hg) _, h.ge⟩
  have := blk_set h.blk 6 (.int .u64 (Lnk.nx s.x))
  rw [List.setIfInBounds_toArray] at this
  exact this
/-- the link's messages put: the state's sorted list with one message more -/
theorem mcells_put (r : Lnk.Ru) (s : Lnk.St) (m : Lnk.Msg) {i : Nat} (hi : i ≤ s.u.length) (h1 : ∀ (h : 0 < i), ∀ x, (Lnk.srt s.u)[i - 1]? = some x → x.1 ≤ m.1) (h2 : ∀ j x, (Lnk.srt s.u)[j]? = some x → i ≤ j → m.1 < x.1) :
    (mcells (Lnk.srt s.u)).take (i * 2) ++ (mcell m ++ (mcells (Lnk.srt s.u)).drop (i * 2)) = mcells (Lnk.srt (s.u ++ [m])) := by
  rw [Lnk.srt_snoc, Lnk.ins_find (Lnk.sorted_srt s.u) (i := i) (by rw [Lnk.length_srt]; exact hi) (fun h => h1 h _ (List.getElem?_eq_getElem (by rw [Lnk.length_srt]; omega))) (fun j h hj => h2 j _ (List.getElem?_eq_getElem h) hj),
    mcells_take, mcells_drop, mcells_append]
  rfl
end Go.Proofs.Ytgdpoiapkaahfaa

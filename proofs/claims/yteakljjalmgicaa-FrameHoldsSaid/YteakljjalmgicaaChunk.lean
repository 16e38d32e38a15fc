/- slices.Chunk on bytes, four at a time: the contract of the function that it returns. -/
import Derived.Test.YteakljjalmgicaaRF
namespace Go.Proofs.Yteakljjalmgicaa
open Go.RowKit Go.Shelf
attribute [local go_sem] Oper.semAt_some
set_option maxHeartbeats 4000000
set_option linter.unusedSimpArgs false
set_option linter.unusedVariables false
/-- what a round that goes on keeps: the blocks below p, and two blocks more -/
def KpC (p q r : Nat) (A B : World) : Prop := Below p A B ∧ B.heap[q]? = A.heap[q]? ∧ B.heap[r]? = A.heap[r]?
theorem KpC.t {p q r : Nat} {A B C : World} (h : KpC p q r A B) (k : KpC p q r B C) : KpC p q r A C := ⟨h.1.trans k.1, k.2.1.trans h.2.1, k.2.2.trans h.2.2⟩
theorem chunk_new (A : Option Addr) (n cap : Nat) (w : World) : Calls Try.prog 37 #[.slice A n cap, .int .i64 4] w
    fun e w' => e = .returned (.func (.func 40) #[] #[.pointer (some ⟨w.heap.size, 0, none⟩), .pointer (some ⟨w.heap.size + 1, 0, none⟩)]) ∧ w' = (w.alloc (.cells #[.slice A n cap] 23)).alloc (.cells #[.int .i64 4] 3) := by
  go_enter Try.func37, Try.ntmps37
  go_wp2_with fail
  go_ret
  exact ⟨rfl, rfl⟩
theorem fin_take (m k : Nat) (h : k < m) : (List.finRange m).take (k + 1) = (List.finRange m).take k ++ [⟨k, h⟩] := by
  rw [List.take_succ_eq_append_getElem (by simpa using h)]
  simp
set_option maxRecDepth 100000 in
theorem chunk1 (n l p q r : Nat) (A : Option Addr) (b o m cap : Nat) (hm : 4 * m ≤ 140737488355328) (hcap : 4 * m ≤ cap) (hcm : cap ≤ 9223372036854775807) (hA : 0 < m → A = some ⟨b, o, none⟩) (J Jx : List (Fin m) → World → Prop)
    (hY : ∀ pre x W, J pre W → pre.length < m → YieldAt Fence.wide (n - 1) Try.prog l #[.slice (some ⟨b, o + 4 * x.1, none⟩) 4 4] W fun e W' =>
      (e = .returned (.bool true) ∧ J (pre ++ [x]) W' ∧ KpC p q r W W') ∨ (e = .returned (.bool false) ∧ Jx (pre ++ [x]) W'))
    (W : World) (hq : W.heap[q]? = some (.cells #[.slice A (4 * m) cap] 23 (0, 0))) (hr : W.heap[r]? = some (.cells #[.int .i64 4] 3 (0, 0))) (h0 : J [] W)
    (hJ : ∀ s W, J s W → J s W.drew) :
    CallsIn Fence.wide n Try.prog 40 #[.func (.yield l) #[] #[], .pointer (some ⟨q, 0, none⟩), .pointer (some ⟨r, 0, none⟩)] W fun e W' => (∃ v, e = .returned v) ∧
      ((∃ ys, ys = List.finRange m ∧ J ys W') ∨ (∃ pre, pre <+: List.finRange m ∧ Jx pre W')) := by
  refine callsIn_of_wp Try.func40 rfl trivial ?_ rfl
  simp only [Try.ntmps40, List.size_toArray, List.length_cons, List.length_nil, Nat.reduceAdd, Nat.reduceSub, Array.replicate_succ, Array.replicate_zero, List.push_toArray, List.append_toArray, List.nil_append, List.cons_append]
  gi_wp2
  gi_loopw [4] (fun i wr => ∃ k : Nat, k ≤ m ∧ i = .int .i64 ((4 * k : Nat) : Int) ∧ J ((List.finRange m).take k) wr ∧ wr.heap[q]? = some (.cells #[.slice A (4 * m) cap] 23 (0, 0)) ∧ wr.heap[r]? = some (.cells #[.int .i64 4] 3 (0, 0)))
    (fun i _ => 4 * m - (intOf i).toNat)
  case atStart => exact ⟨0, Nat.zero_le _, rfl, h0, hq, hr⟩
  case round =>
    obtain ⟨k, hk, rfl, hJs, hq1, hr1⟩ := hrel
    have cq := blk_cell (l := [_]) hq1 0 rfl
    have cr := blk_cell (l := [_]) hr1 0 rfl
    by_cases hlt : k < m
    · have eA := hA (by omega)
      subst eA
      have e1 : (4 * (k : Int)) < 4 * (m : Int) := by omega
      have e2 : (0 : Int) ≤ 4 * (k : Int) := by omega
      have e3 : (4 * (m : Int)) ≤ (cap : Int) := by omega
      have ht := fin_take m k hlt
      obtain ⟨fn, tmps, assign, body, hy, hR⟩ := hY _ ⟨k, hlt⟩ wr.drew (hJ _ _ hJs) (by simp; omega)
      have HR := Lib.hid hR
      have HT := Lib.hid ht
      clear hR ht
      dsimp only at hy
      gi_wp2
      refine wpIn_wide.2 ?_
      go_region_held3 (fun w' => w'.cell? ⟨q, 0, none⟩ = some (.slice (some ⟨b, o, none⟩) (4 * m) cap) ∧ w'.cell? ⟨r, 0, none⟩ = some (.int .i64 4)) (refine ⟨?_, ?_⟩ <;> (first | (with_reducible assumption) | (simp only [World.cell?_drew]; with_reducible assumption))) (first | fail)
      gi_wp2
      refine ⟨fun h => (by simp [Fence.wide] at h), HR.out.mono ?_⟩
      rintro e W3 (⟨rfl, hJ3, hk3⟩ | ⟨rfl, hJx3⟩)
      · have hq3 := hk3.2.1.trans (show wr.drew.heap[q]? = _ from hq1)
        have hr3 := hk3.2.2.trans (show wr.drew.heap[r]? = _ from hr1)
        have dq := blk_cell (l := [_]) hq3 0 rfl
        have dr := blk_cell (l := [_]) hr3 0 rfl
        clear cq cr
        gi_wp2
        go_roundw
        case rel => exact ⟨k + 1, by omega, by simp; omega, by rw [HT.out]; exact hJ3, hq3, hr3⟩
        case measure => simp [intOf]; omega
      · gi_wp2
        refine bodyPost_ret (results_none rfl _ _ _) rfl ?_
        exact ⟨⟨_, rfl⟩, .inr ⟨_, by rw [← HT.out]; exact List.take_prefix _ _, hJx3⟩⟩
    · obtain rfl : k = m := by omega
      gi_wp2
      go_end0
      exact ⟨⟨_, rfl⟩, .inl ⟨_, by rw [List.take_of_length_le (by simp)], hJs⟩⟩
end Go.Proofs.Yteakljjalmgicaa

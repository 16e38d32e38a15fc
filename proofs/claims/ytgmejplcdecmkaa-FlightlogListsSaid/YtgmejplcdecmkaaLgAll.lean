/- All: the iterator over the records. -/
import Derived.Test.YtgmejplcdecmkaaLgIt
import Derived.Test.YtgmejplcdecmkaaLgN
namespace Go.Proofs.Ytgmejplcdecmkaa
open Go.RowKit Go.Shelf
attribute [local go_sem] Oper.semAt_some
set_option maxHeartbeats 4000000
set_option maxRecDepth 100000
set_option linter.unusedSimpArgs false
set_option linter.unusedVariables false
namespace Lg
/-- a number and a record -/
abbrev NR := Nat × RV
def encNR (x : NR) : Array Value := #[.int .i64 x.1, x.2.val]
/-- what a round of All is handed -/
def PrA (vs : List RV) (pre : List NR) (x : NR) (W : World) : Prop := x.1 = pre.length ∧ x.2.x = (vs.getD pre.length rv0).x ∧ Ok W W.heap.size x.2
theorem PrA.own (B : Nat) (vs : List RV) (pre : List NR) : OwnFrom B (PrA vs pre) := fun s X Y row hs hg hr => ⟨hs.1, hs.2.1, ok_own B (fun _ => True) s.2 X Y row hs.2.2 hg hr⟩
end Lg
theorem all1_seq (m n0 B : Nat) (A : Option Addr) (n c : Nat) (vs : List Lg.RV) (w : World) (hm : 1 ≤ m) (hn : n ≤ 1000000) (hn0 : n0 ≤ w.heap.size) (hbox : w.heap[B]? = some (.cells #[.slice A n c] 40 (0, 0))) (hR : Lg.Rr w n0 A n vs) (hd : ∀ y ∈ vs, y.x.f.d.length ≤ 1000) :
    SeqP Fence.wide m Try.prog 53 #[.pointer (some ⟨B, 0, none⟩)] Lg.encNR (Lg.PrA vs) (fun A B => Below n0 A B) (fun ys => ys.length = n) (fun ys => ys.length ≤ n) n w := by
  intro l J Jx W hW hJ hJx hY h0
  have hbx := blk_below hbox hW (lt_of_block hbox)
  have HR := Lib.hid (hR.below hW hn0)
  have HL := Lib.hid hR.len
  have HD := Lib.hid hd
  have HJ := Lib.hid hJ
  have HY := Lib.hid hY
  have c0 := blk_cell (l := [_]) hbx 0 rfl
  have hW0 := hW.size
  clear hJx hY hR hd hJ hbox hW hbx
  refine callsIn_of_wp Try.func53 rfl trivial ?_ rfl
  simp only [Try.ntmps53, List.size_toArray, List.length_cons, List.length_nil, Nat.reduceAdd, Nat.reduceSub, Array.replicate_succ, Array.replicate_zero, List.push_toArray, List.append_toArray, List.nil_append, List.cons_append]
  gi_wp2
  gi_loopw [7] (fun i wr => ∃ (k : Nat) (pre : List Lg.NR), k ≤ n ∧ i = .int .i64 k ∧ pre.length = k ∧ J pre wr ∧ Hid (Below n0 W wr)) (fun i _ => n - (intOf i).toNat)
  case atStart => exact ⟨0, [], Nat.zero_le _, rfl, rfl, h0, Lib.hid (Below.refl _ _)⟩
  case round =>
    obtain ⟨k, pre, hk, rfl, hpl, hJs, HB⟩ := hrel
    by_cases hlt : k < n
    · have HRw := (HR.out.below HB.out (Nat.le_refl _))
      obtain ⟨b, o, rfl, hbl, hcl, hok⟩ := HRw.at_ hlt
      have hzr : n0 ≤ wr.heap.size := Nat.le_trans (Nat.le_trans hn0 hW0) HB.out.size
      have hdl := HD.out (vs.getD k Lg.rv0) (by simp [List.getD, List.getElem?_eq_getElem (show k < vs.length by rw [HL.out]; exact hlt)])
      have HX := Lib.hid (show (vs.getD pre.length Lg.rv0) = vs.getD k Lg.rv0 by rw [hpl])
      have l1 := Lg.RV.len (vs.getD k Lg.rv0)
      have on1 := rv_ones (vs.getD k Lg.rv0)
      generalize vs.getD k Lg.rv0 = v at *
      have z1 : v.cells.toArray.size = 13 := l1
      have OW := Lib.hid (fun (V : World) (hV : Below n0 wr V) => lown_any v V ((hok.below hV (Nat.le_refl _)).more (Nat.le_trans hzr hV.size)) hdl)
      have kn : (k : Int) < (n : Int) := by omega
      clear hok HRw HD
      have kx := setRow_heap (wr.alloc (.cells #[.int .i64 0, .int .i64 0, .int .i64 0, .int .i64 0, .int .i64 0, .int .i64 0, .int .i64 0, .int .i64 0, .int .i64 0, .int .i64 0, .int .i64 0, .slice none 0 0, .int .u32 0] 32 (0, 0))) wr.heap.size #[.int .i64 0, .int .i64 0, .int .i64 0, .int .i64 0, .int .i64 0, .int .i64 0, .int .i64 0, .int .i64 0, .int .i64 0, .int .i64 0, .int .i64 0, .slice none 0 0, .int .u32 0] v.cells.toArray 32 (0, 0) (heap_new wr (.cells #[.int .i64 0, .int .i64 0, .int .i64 0, .int .i64 0, .int .i64 0, .int .i64 0, .int .i64 0, .int .i64 0, .int .i64 0, .int .i64 0, .int .i64 0, .slice none 0 0, .int .u32 0] 32 (0, 0)))
      have bx : Below wr.heap.size wr ((wr.alloc (.cells #[.int .i64 0, .int .i64 0, .int .i64 0, .int .i64 0, .int .i64 0, .int .i64 0, .int .i64 0, .int .i64 0, .int .i64 0, .int .i64 0, .int .i64 0, .slice none 0 0, .int .u32 0] 32 (0, 0))).setRow wr.heap.size v.cells.toArray) := below_setRow ((Below.refl wr.heap.size wr).alloc (Nat.le_refl _) _) (Nat.le_refl _) _
      gi_wp2_with (first | (refine wpListIn_load_at rfl 32 _ rfl b (o + k * 13) rfl _ _ hcl Try.underlying32 rfl (by rw [l1]; kernel_rfl) ?_) | (refine wpListIn_store_row rfl 32 _ _ rfl _ _ rfl rfl 32 _ (heap_new wr (.cells #[.int .i64 0, .int .i64 0, .int .i64 0, .int .i64 0, .int .i64 0, .int .i64 0, .int .i64 0, .int .i64 0, .int .i64 0, .int .i64 0, .int .i64 0, .slice none 0 0, .int .u32 0] 32 (0, 0))) (by rw [z1]; kernel_rfl) z1.symm on1 ?_) | (refine wpListIn_load_row rfl 32 _ rfl wr.heap.size rfl 32 _ (0, 0) _ kx Try.underlying32 rfl (by rw [z1]; kernel_rfl) ?_))
      refine ⟨trivial, callsIn_wide.2 ((OW.out _ (bx.mono hzr)).mono ?_)⟩
      rintro e W2 ⟨A1, c1, rfl, o2, hb2⟩
      have B2 : Below wr.heap.size wr W2 := bx.trans (hb2.mono bx.size)
      have hJ2 : J pre W2 := own_grows HJ.out (s := pre) hJs B2
      obtain ⟨fn, tmps, assign, body, hy, hR⟩ := HY.out pre (k, ⟨v.x, A1, c1⟩) W2 hJ2 ⟨hpl.symm, by rw [HX.out], Lg.Dt.ok (Lg.Dt.of_own (X := fun _ => True) (x := v.x) o2 (fun _ _ => trivial))⟩ (by omega)
      have HR2 := Lib.hid hR
      have HB2 := Lib.hid (HB.out.trans (B2.mono hzr))
      simp only [Lg.encNR] at hy
      clear hR hJ2 o2 hb2 kx bx hcl hJs B2
      gi_wp2
      refine HR2.out.mono ?_
      rintro e W3 (⟨rfl, hJ3, hk3, _⟩ | ⟨rfl, hJx3, _⟩)
      · have HB3 := Lib.hid (HB2.out.trans hk3)
        have HL3 := Lib.hid (show (pre ++ [((k, ⟨v.x, A1, c1⟩) : Lg.NR)]).length = k + 1 by rw [List.length_append, hpl]; rfl)
        clear hk3
        gi_wp2
        go_roundw
        case rel => exact ⟨k + 1, _, by omega, by simp, HL3.out, hJ3, HB3⟩
        case measure => simp [intOf]; omega
      · gi_wp2
        refine bodyPost_ret (results_none rfl _ _ _) rfl ?_
        exact ⟨⟨_, rfl⟩, .inr ⟨_, by rw [List.length_append, hpl]; exact hlt, hJx3⟩⟩
    · obtain rfl : k = n := by omega
      gi_wp2
      go_end0
      exact ⟨⟨_, rfl⟩, .inl ⟨pre, hpl, hJs⟩⟩
open Lg (IsLg)
/-- All of a log: the function, and the box that it holds -/
theorem all_any {w : World} {base p c : Nat} {X : Nat → Prop} {A : Option Addr} {vs : List Lg.RV} (h : IsLg w base p A c vs X) (hn : vs.length ≤ 1000000) :
    Calls Try.prog 25 #[.pointer (some ⟨p, 0, none⟩)] w fun e w' => ∃ B, e = .returned (.func (.func 53) #[] #[.pointer (some ⟨B, 0, none⟩)]) ∧ w.heap.size ≤ B ∧ w'.heap[B]? = some (.cells #[.slice A vs.length vs.length] 40 (0, 0)) ∧ Below w.heap.size w w' := by
  have c0 := (World.cell?_alloc_lt w (.cells #[.slice none 0 0] 40 (0, 0)) ⟨p, 0, none⟩ h.lt).trans (show w.cell? ⟨p, 0, none⟩ = some (.slice A vs.length c) from blk_cell (l := [_]) h.blk 0 rfl)
  have ca := fun (o : Obj) => (World.cell?_alloc_lt w o ⟨p, 0, none⟩ h.lt).trans (show w.cell? ⟨p, 0, none⟩ = some (.slice A vs.length c) from blk_cell (l := [_]) h.blk 0 rfl)
  have hp := h.lt
  have hle := h.row.le
  have hx : (A = none → vs.length = 0 ∧ c = 0) := fun e => by
    rcases h.row.2 with ⟨_, h1, h2⟩ | ⟨g, o, cur, e', _⟩
    · exact ⟨h1, h2⟩
    · rw [e] at e'; cases e'
  have hone : ∀ a, A = some a → a.spot = none := fun a e => by
    rcases h.row.2 with ⟨e', _⟩ | ⟨g, o, cur, e', _⟩
    · rw [e] at e'; cases e'
    · rw [e] at e'; injection e' with e'; rw [e']
  have hcm := hle.2
  unfold maxLen at hcm
  have hb := heap_new w (.cells #[.slice none 0 0] 40 (0, 0))
  clear h
  generalize vs.length = n at *
  have hnc := hle.1
  have i1 : ((n : Nat) : Int) ≤ (c : Int) := by omega
  clear hle
  have hfz := blk_free hb 0
  have hne : p ≠ w.heap.size := by omega
  cases A with
  | none =>
    obtain ⟨rfl, rfl⟩ := hx rfl
    go_enter Try.func25, Try.ntmps25
    go_upto_region 3 with fail
    go_region_held3 (fun w' => w'.cell? ⟨p, 0, none⟩ = some (.slice none 0 0)) (first | (simp [go_sem, *]; done) | go_keep) (first | fail)
    go_wp2_with fail
    go_ret
    refine ⟨w.heap.size, rfl, Nat.le_refl _, ?_, (by repeat (first | (with_reducible exact Below.refl _ _) | (with_reducible refine Below.drew ?_) | (with_reducible refine below_drewN ?_ _) | ((with_reducible refine Below.alloc ?_ ?_ _); rotate_left; (first | omega | (simp <;> omega)); rotate_right) | ((with_reducible refine Below.setCell ?_ ?_ _); rotate_left; (first | omega | (simp <;> omega)); rotate_right) | (with_reducible assumption) | (refine Below.trans ?_ (Below.mono (by assumption) ?_); rotate_left; (first | omega | (simp <;> omega)); rotate_right)))⟩
    exact (by apply Eq.trans; (repeat (first | (with_reducible assumption) | (with_reducible apply blk_set) | ((with_reducible apply blk_far); rotate_left; (first | omega | (simp <;> omega)); rotate_right) | (with_reducible apply blk_drew) | (with_reducible apply blk_drewN) | ((with_reducible apply heap_new'); (first | rfl | (simp <;> fail))) | (with_reducible apply blk_alloc))); (first | with_reducible rfl | (simp <;> fail) | rfl))
  | some a =>
    go_enter Try.func25, Try.ntmps25
    go_upto_region 3 with fail
    go_region_held3 (fun w' => w'.cell? ⟨p, 0, none⟩ = some (.slice (some a) n c)) (first | (simp [go_sem, *]; done) | go_keep) (first | fail)
    go_wp2_with fail
    go_ret
    refine ⟨w.heap.size, rfl, Nat.le_refl _, ?_, (by repeat (first | (with_reducible exact Below.refl _ _) | (with_reducible refine Below.drew ?_) | (with_reducible refine below_drewN ?_ _) | ((with_reducible refine Below.alloc ?_ ?_ _); rotate_left; (first | omega | (simp <;> omega)); rotate_right) | ((with_reducible refine Below.setCell ?_ ?_ _); rotate_left; (first | omega | (simp <;> omega)); rotate_right) | (with_reducible assumption) | (refine Below.trans ?_ (Below.mono (by assumption) ?_); rotate_left; (first | omega | (simp <;> omega)); rotate_right)))⟩
    exact (by apply Eq.trans; (repeat (first | (with_reducible assumption) | (with_reducible apply blk_set) | ((with_reducible apply blk_far); rotate_left; (first | omega | (simp <;> omega)); rotate_right) | (with_reducible apply blk_drew) | (with_reducible apply blk_drewN) | ((with_reducible apply heap_new'); (first | rfl | (simp <;> fail))) | (with_reducible apply blk_alloc))); (first | with_reducible rfl | (simp <;> fail) | rfl))
theorem all_nil (w : World) : Calls Try.prog 25 #[.pointer none] w fun e w' => ∃ B, e = .returned (.func (.func 53) #[] #[.pointer (some ⟨B, 0, none⟩)]) ∧ w.heap.size ≤ B ∧ w'.heap[B]? = some (.cells #[.slice none 0 0] 40 (0, 0)) ∧ Below w.heap.size w w' := by
  go_enter Try.func25, Try.ntmps25
  go_wp2_with fail
  go_ret
  exact ⟨w.heap.size, rfl, Nat.le_refl _, heap_new _ _, (by repeat (first | (with_reducible exact Below.refl _ _) | (with_reducible refine Below.drew ?_) | (with_reducible refine below_drewN ?_ _) | ((with_reducible refine Below.alloc ?_ ?_ _); rotate_left; (first | omega | (simp <;> omega)); rotate_right) | ((with_reducible refine Below.setCell ?_ ?_ _); rotate_left; (first | omega | (simp <;> omega)); rotate_right) | (with_reducible assumption) | (refine Below.trans ?_ (Below.mono (by assumption) ?_); rotate_left; (first | omega | (simp <;> omega)); rotate_right)))⟩
end Go.Proofs.Ytgmejplcdecmkaa

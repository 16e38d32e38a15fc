/- The reference's station: its memory; time, may, after, Missing, Next. -/
import Derived.Test.YtiidkmnagfhgiaaStR
import Derived.Test.YtiidkmnagfhgiaaRPut
namespace Go.Proofs.Ytiidkmnagfhgiaa
open Go.RowKit
set_option maxHeartbeats 8000000
set_option maxRecDepth 100000
set_option linter.unusedSimpArgs false
set_option linter.unusedVariables false
attribute [local go_sem ↓] Go.wp_at_zero Go.wp_at_succ
theorem Rof.keptT {P : Nat → Prop} {w w' : World} {base : Nat} {v : Value} {l : List Fr} (h : Rof w base v l) (k : Keeps P w w') (hP : ∀ i, P i → i < w.heap.size → ∃ e, Ty w i e ∧ e ≠ 40 ∧ e ≠ 5) : Rof w' base v l := by
  obtain ⟨vs, g1, g2, g3⟩ := h
  have hk : ∀ i : Nat, i < w.heap.size → (∀ e, Ty w i e → e = 40 ∨ e = 5) → w'.heap[i]? = w.heap[i]? := fun i hi he => k.block i hi (fun hp => by
    obtain ⟨e, h1, h2, h3⟩ := hP i hp hi
    rcases he e h1 with h4 | h4
    · exact h2 h4
    · exact h3 h4)
  have hty : ∀ (i : Nat) (e f : TypeId), Ty w i e → Ty w i f → e = f := fun i e f h1 h2 => by
    by_cases hh : e = f
    · exact hh
    · exact absurd rfl (h1.ne h2 hh)
  refine ⟨vs, g1, ⟨g2.1, ?_⟩, fun y hy => ⟨⟨(g3 y hy).1.1, ?_⟩, (g3 y hy).2⟩⟩
  · rcases g2.2 with h1 | ⟨g, c, cur, h1, h2, h3, h4⟩
    · exact .inl h1
    · exact .inr ⟨g, c, cur, h1, h2, (hk g (lt_of_block h3) (fun e he => .inl (hty g e _ he ⟨_, h3⟩))).trans h3, h4⟩
  · rcases (g3 y hy).1.2 with h1 | ⟨g, c, cur, h1, h2, h3, h4⟩
    · exact .inl h1
    · exact .inr ⟨g, c, cur, h1, h2, (hk g (lt_of_block h3) (fun e he => .inr (hty g e _ he ⟨_, h3⟩))).trans h3, h4⟩
/-- the cells of the reference's station -/
def rsl (s : Stn.St) (D : Option Addr) (dc : Nat) (A : Option Addr) (ac : Nat) (S : Option Addr) (sc : Nat) : List Value := [.int .i64 s.again, .int .i64 s.st, .int .i64 s.now, .int .i64 s.seq, .bool s.some, .int .i64 s.prog, .int .i64 s.cmd, .slice D (Stn.data s).length dc, .int .i64 s.sent, .slice A s.n ac, .slice S s.n sc]
def bools (l : List Bool) : List Value := l.map (Value.bool ·)
structure IsR (w : World) (D : Option Addr) (dc : Nat) (A : Option Addr) (ac : Nat) (S : Option Addr) (sc : Nat) (s : Stn.St) : Prop where
  dr : Row w 0 5 1 D (Stn.data s).length dc (bv (Stn.data s))
  ar : Row w 0 4 1 A s.n ac (bools s.ack)
  sr : Row w 0 84 3 S s.n sc (repcs s.seen)
section
variable {w w' : World} {D A S : Option Addr} {dc ac sc : Nat} {s : Stn.St}
theorem IsR.below {B : Nat} (h : IsR w D dc A ac S sc s) (k : Below B w w') (hB : w.heap.size ≤ B) : IsR w' D dc A ac S sc s := ⟨h.dr.below k hB, h.ar.below k hB, h.sr.below k hB⟩
theorem IsR.alloc (h : IsR w D dc A ac S sc s) (o : Obj) : IsR (w.alloc o) D dc A ac S sc s := ⟨h.dr.alloc o, h.ar.alloc o, h.sr.alloc o⟩
theorem IsR.drew (h : IsR w D dc A ac S sc s) : IsR w.drew D dc A ac S sc s := ⟨h.dr, h.ar, h.sr⟩
theorem IsR.drewN (h : IsR w D dc A ac S sc s) (q : Nat) : IsR (w.drewN q) D dc A ac S sc s := ⟨h.dr, h.ar, h.sr⟩
/-- its blocks are of three kinds; what turns other blocks leaves them -/
theorem IsR.kept {P : Nat → Prop} (h : IsR w D dc A ac S sc s) (k : Keeps P w w') (h1 : ∀ g, blkOf D = some g → ¬ P g) (h2 : ∀ g, blkOf A = some g → ¬ P g) (h3 : ∀ g, blkOf S = some g → ¬ P g) : IsR w' D dc A ac S sc s :=
  ⟨h.dr.kept k h1, h.ar.kept k h2, h.sr.kept k h3⟩
theorem IsR.keptT {P : Nat → Prop} (h : IsR w D dc A ac S sc s) (k : Keeps P w w') (hP : ∀ i, P i → i < w.heap.size → ∃ e, Ty w i e ∧ e ≠ 5 ∧ e ≠ 4 ∧ e ≠ 84) : IsR w' D dc A ac S sc s := by
  refine h.kept k (fun g hg hh => ?_) (fun g hg hh => ?_) (fun g hg hh => ?_)
  · obtain ⟨e, he, h1, _, _⟩ := hP g hh (h.dr.lt hg).2
    exact he.ne (h.dr.ty hg) h1 rfl
  · obtain ⟨e, he, _, h1, _⟩ := hP g hh (h.ar.lt hg).2
    exact he.ne (h.ar.ty hg) h1 rfl
  · obtain ⟨e, he, _, _, h1⟩ := hP g hh (h.sr.lt hg).2
    exact he.ne (h.sr.ty hg) h1 rfl
/-- a store into another block -/
theorem IsR.far (h : IsR w D dc A ac S sc s) {b o : Nat} {e : TypeId} (hb : Ty w b e) (h1 : e ≠ 5) (h2 : e ≠ 4) (h3 : e ≠ 84) (u : Value) : IsR (w.setCell ⟨b, o, none⟩ u) D dc A ac S sc s :=
  ⟨h.dr.far (p := ⟨b, o, none⟩) (fun g hg => (h.dr.ty hg).ne hb (fun e => h1 e.symm)) u, h.ar.far (p := ⟨b, o, none⟩) (fun g hg => (h.ar.ty hg).ne hb (fun e => h2 e.symm)) u, h.sr.far (p := ⟨b, o, none⟩) (fun g hg => (h.sr.ty hg).ne hb (fun e => h3 e.symm)) u⟩
end
theorem rtime_any (s : Stn.St) (D : Option Addr) (dl dc : Nat) (A : Option Addr) (al ac : Nat) (S : Option Addr) (sl sc : Nat) (now : Int) (w : World) :
    Calls Try.prog 53 #[.agg #[.int .i64 s.again, .int .i64 s.st, .int .i64 s.now, .int .i64 s.seq, .bool s.some, .int .i64 s.prog, .int .i64 s.cmd, .slice D dl dc, .int .i64 s.sent, .slice A al ac, .slice S sl sc], .int .i64 now] w fun e w' => e = .returned (.int .i64 (Stn.timeE s now)) ∧ Below w.heap.size w w' := by
  by_cases h1 : now < s.now
  · have E := Lib.hid (show Stn.timeE s now = 3 by unfold Stn.timeE; rw [if_neg (by omega)])
    go_enter Try.func53, Try.ntmps53
    go_wp2_with fail
    go_ret
    exact ⟨ret_int E.out.symm, (by repeat (first | (with_reducible exact Below.refl _ _) | (with_reducible refine Below.drew ?_) | (with_reducible refine below_drewN ?_ _) | ((with_reducible refine Below.alloc ?_ ?_ _); rotate_left; (first | omega | (simp <;> omega)); rotate_right) | ((with_reducible refine Below.setCell ?_ ?_ _); rotate_left; (first | omega | (simp <;> omega)); rotate_right) | (with_reducible assumption) | (refine Below.trans ?_ (Below.mono (by assumption) ?_); rotate_left; (first | omega | (simp <;> omega)); rotate_right)))⟩
  · by_cases h2 : 3600000 < now
    · have E := Lib.hid (show Stn.timeE s now = 3 by unfold Stn.timeE; rw [if_neg (by omega)])
      go_enter Try.func53, Try.ntmps53
      go_wp2_with fail
      go_ret
      exact ⟨ret_int E.out.symm, (by repeat (first | (with_reducible exact Below.refl _ _) | (with_reducible refine Below.drew ?_) | (with_reducible refine below_drewN ?_ _) | ((with_reducible refine Below.alloc ?_ ?_ _); rotate_left; (first | omega | (simp <;> omega)); rotate_right) | ((with_reducible refine Below.setCell ?_ ?_ _); rotate_left; (first | omega | (simp <;> omega)); rotate_right) | (with_reducible assumption) | (refine Below.trans ?_ (Below.mono (by assumption) ?_); rotate_left; (first | omega | (simp <;> omega)); rotate_right)))⟩
    · have E := Lib.hid (show Stn.timeE s now = 0 by unfold Stn.timeE; rw [if_pos (by omega)])
      go_enter Try.func53, Try.ntmps53
      go_wp2_with fail
      go_ret
      exact ⟨ret_int E.out.symm, (by repeat (first | (with_reducible exact Below.refl _ _) | (with_reducible refine Below.drew ?_) | (with_reducible refine below_drewN ?_ _) | ((with_reducible refine Below.alloc ?_ ?_ _); rotate_left; (first | omega | (simp <;> omega)); rotate_right) | ((with_reducible refine Below.setCell ?_ ?_ _); rotate_left; (first | omega | (simp <;> omega)); rotate_right) | (with_reducible assumption) | (refine Below.trans ?_ (Below.mono (by assumption) ?_); rotate_left; (first | omega | (simp <;> omega)); rotate_right)))⟩
theorem rafter_any (k : Int) (w : World) : Calls Try.prog 54 #[.int .i64 k] w fun e w' => e = .returned (.tuple #[.int .i64 (Stn.given k), .int .i64 (Stn.full k)]) ∧ w = w' := by
  by_cases h1 : k = 1
  · subst h1
    go_enter Try.func54, Try.ntmps54
    go_wp2_with fail
    go_ret2
    exact ⟨rfl, rfl⟩
  by_cases h2 : k = 2
  · subst h2
    go_enter Try.func54, Try.ntmps54
    go_wp2_with fail
    go_ret2
    exact ⟨rfl, rfl⟩
  by_cases h3 : k = 3
  · subst h3
    go_enter Try.func54, Try.ntmps54
    go_wp2_with fail
    go_ret2
    exact ⟨rfl, rfl⟩
  by_cases h4 : k = 4
  · subst h4
    go_enter Try.func54, Try.ntmps54
    go_wp2_with fail
    go_ret2
    exact ⟨rfl, rfl⟩
  by_cases h5 : k = 5
  · subst h5
    go_enter Try.func54, Try.ntmps54
    go_wp2_with fail
    go_ret2
    exact ⟨rfl, rfl⟩
  have z1 : (k == 1) = false := by rw [beq_eq_false_iff_ne]; exact h1
  have z2 : (k == 2) = false := by rw [beq_eq_false_iff_ne]; exact h2
  have z3 : (k == 3) = false := by rw [beq_eq_false_iff_ne]; exact h3
  have z4 : (k == 4) = false := by rw [beq_eq_false_iff_ne]; exact h4
  have z5 : (k == 5) = false := by rw [beq_eq_false_iff_ne]; exact h5
  have E := Lib.hid (show Stn.given k = 8 ∧ Stn.full k = 9 by simp only [Stn.given, Stn.full, if_neg h1, if_neg h2, if_neg h3, if_neg h4, if_neg h5, and_self])
  clear h1 h2 h3 h4 h5
  go_enter Try.func54, Try.ntmps54
  go_wp2_with fail
  go_ret2
  rw [E.out.1, E.out.2]
  exact ⟨rfl, rfl⟩
theorem rmay_any (k s : Int) (w : World) (hk : 1 ≤ k ∧ k ≤ 6) (hs : 0 ≤ s ∧ s ≤ 9) : Calls Try.prog 58 #[.int .i64 k, .int .i64 s] w fun e w' => e = .returned (.bool (Stn.may k s)) ∧ w = w' := by
  have hk' : k = 1 ∨ k = 2 ∨ k = 3 ∨ k = 4 ∨ k = 5 ∨ k = 6 := by omega
  have hs' : s = 0 ∨ s = 1 ∨ s = 2 ∨ s = 3 ∨ s = 4 ∨ s = 5 ∨ s = 6 ∨ s = 7 ∨ s = 8 ∨ s = 9 := by omega
  clear hk hs
  rcases hk' with rfl | rfl | rfl | rfl | rfl | rfl <;> rcases hs' with rfl | rfl | rfl | rfl | rfl | rfl | rfl | rfl | rfl | rfl
  all_goals
    go_enter Try.func58, Try.ntmps58
    go_wp2_with fail
    go_ret
    exact ⟨rfl, rfl⟩
theorem missFrom_append : ∀ (l m : List Bool) (lo : Nat), Stn.missFrom lo (l ++ m) = Stn.missFrom lo l ++ Stn.missFrom (lo + l.length) m
  | [], m, lo => by simp [Stn.missFrom]
  | a :: l, m, lo => by
    simp only [List.cons_append, Stn.missFrom, missFrom_append l m (lo + 1), List.length_cons]
    rw [show lo + 1 + l.length = lo + (l.length + 1) by omega]
    split <;> simp
theorem missFrom_take (l : List Bool) (i : Nat) (h : i < l.length) : Stn.missFrom 1 (l.take (i + 1)) = Stn.missFrom 1 (l.take i) ++ (if l[i] then [] else [i + 1]) := by
  rw [List.take_succ_eq_append_getElem h, missFrom_append, List.length_take, Nat.min_eq_left (by omega)]
  cases l[i] <;> simp [Stn.missFrom] <;> omega
theorem missFrom_len : ∀ (l : List Bool) (lo : Nat), (Stn.missFrom lo l).length ≤ l.length
  | [], _ => by simp [Stn.missFrom]
  | a :: l, lo => by
    unfold Stn.missFrom
    have := missFrom_len l (lo + 1)
    split
    · simp; omega
    · simp; omega
theorem rmissing_any (s : Stn.St) (hs : Stn.Inv s) (D : Option Addr) (dl dc : Nat) (A : Option Addr) (ac : Nat) (S : Option Addr) (sl sc : Nat) (w : World) (ha : Row w 0 4 1 A s.n ac (bools s.ack)) :
    Calls Try.prog 39 #[.agg #[.int .i64 s.again, .int .i64 s.st, .int .i64 s.now, .int .i64 s.seq, .bool s.some, .int .i64 s.prog, .int .i64 s.cmd, .slice D dl dc, .int .i64 s.sent, .slice A s.n ac, .slice S sl sc]] w (ClPost 3 1 (Stn.miss s).length ((Stn.miss s).map (fun (i : Nat) => .int .i64 i)) w) := by
  obtain ⟨i0, hi0, hz0, hz1, hz2⟩ := info_parts info_in
  have HA := Lib.hid ha
  have hal := hs.ack
  have hn := hs.n
  have HAL := Lib.hid hal
  have HC := Lib.hid hs.cmd
  clear ha hs hal
  go_enter Try.func39, Try.ntmps39
  go_wp2_with fail
  have k0 : (w.alloc (.cells #[.int .i64 s.again, .int .i64 s.st, .int .i64 s.now, .int .i64 s.seq, .bool s.some, .int .i64 s.prog, .int .i64 s.cmd, .slice D dl dc, .int .i64 s.sent, .slice A s.n ac, .slice S sl sc] 29)).heap[w.heap.size]? = _ := heap_new _ _
  have K0 := Lib.hid k0
  clear k0
  by_cases hc : s.cmd = 0
  · have E := Lib.hid (show Stn.miss s = [] by unfold Stn.miss; rw [if_pos hc])
    have HC0 := Lib.hid hc
    go_loop [3, 4] (fun s3 s4 => ∃ i : Nat, s4 = .int .i64 i ∧ i ≤ s.n ∧ s3 = .slice none 0 0) (fun _ s4 => s.n - (intOf s4).toNat)
    case atStart => exact ⟨0, by go_num, by omega, rfl⟩
    case round =>
      obtain ⟨i, rfl, hi, rfl⟩ := hrel
      by_cases hlt : i < s.n
      · have hin : (i : Int) < (s.n : Int) := by omega
        go_wp2_with fail
        go_round
        case rel => first | exact ⟨i + 1, by go_num, by omega⟩ | exact ⟨i + 1, by go_num, by omega, rfl⟩
        case measure => simp [intOf]; omega
      · go_wp2_with fail
        go_ret
        rw [E.out]
        exact ⟨none, 0, rfl, Row.nil _ _ _ _, (by repeat (first | (with_reducible exact Below.refl _ _) | (with_reducible refine Below.drew ?_) | (with_reducible refine below_drewN ?_ _) | ((with_reducible refine Below.alloc ?_ ?_ _); rotate_left; (first | omega | (simp <;> omega)); rotate_right) | ((with_reducible refine Below.setCell ?_ ?_ _); rotate_left; (first | omega | (simp <;> omega)); rotate_right) | (with_reducible assumption) | (refine Below.trans ?_ (Below.mono (by assumption) ?_); rotate_left; (first | omega | (simp <;> omega)); rotate_right)))⟩
  · have z : (s.cmd != 0) = true := by simpa using hc
    have E := Lib.hid (miss_cmd s hc)
    clear hc
    go_loopw [3, 4] (fun s3 s4 wr => ∃ (i : Nat) (l : List Nat), s4 = .int .i64 i ∧ i ≤ s.n ∧ Hid (l = Stn.missFrom 1 (s.ack.take i)) ∧ l.length ≤ i ∧ wr.ownsRow (w.heap.size + 1) 3 1 s3 l.length (l.map (fun (i : Nat) => .int .i64 i)) ∧ Below (w.heap.size + 1) (w.alloc (.cells #[.int .i64 s.again, .int .i64 s.st, .int .i64 s.now, .int .i64 s.seq, .bool s.some, .int .i64 s.prog, .int .i64 s.cmd, .slice D dl dc, .int .i64 s.sent, .slice A s.n ac, .slice S sl sc] 29)) wr) (fun _ s4 _ => s.n - (intOf s4).toNat)
    case atStart => exact ⟨0, [], by go_num, by omega, Lib.hid (by simp [Stn.missFrom]), by simp, World.ownsRow_nil _ _ _ _, Below.refl _ _⟩
    case round =>
      obtain ⟨i, l, rfl, hi, HL, hll, hown, hB⟩ := hrel
      have hzr := hB.size
      simp at hzr
      have kr := blk_below (q := w.heap.size) K0.out hB (by omega)
      have KR := Lib.hid kr
      have ca_0 := blk_cell kr 0 rfl; have fa_0 := blk_free kr 0; have ca_1 := blk_cell kr 1 rfl; have fa_1 := blk_free kr 1; have ca_2 := blk_cell kr 2 rfl; have fa_2 := blk_free kr 2; have ca_3 := blk_cell kr 3 rfl; have fa_3 := blk_free kr 3; have ca_4 := blk_cell kr 4 rfl; have fa_4 := blk_free kr 4; have ca_5 := blk_cell kr 5 rfl; have fa_5 := blk_free kr 5; have ca_6 := blk_cell kr 6 rfl; have fa_6 := blk_free kr 6; have ca_7 := blk_cell kr 7 rfl; have fa_7 := blk_free kr 7; have ca_8 := blk_cell kr 8 rfl; have fa_8 := blk_free kr 8; have ca_9 := blk_cell kr 9 rfl; have fa_9 := blk_free kr 9; have ca_10 := blk_cell kr 10 rfl; have fa_10 := blk_free kr 10; have la := lt_of_block kr
      clear kr
      obtain ⟨A3, c3, rfl⟩ := own_formS hown
      have HOW := Lib.hid hown
      have HB := Lib.hid hB
      have HB0 := Lib.hid (show Below w.heap.size w wr from ((Below.refl _ w).alloc (Nat.le_refl _) _).trans (HB.out.mono (by omega)))
      clear hown hB
      by_cases hlt : i < s.n
      · obtain ⟨g, o, cur, rfl, _, hg, _, _, _, _, _, hcell, _⟩ := HA.out.some_ (by omega)
        obtain ⟨x, hx⟩ : ∃ x, s.ack[i]? = some x := ⟨_, List.getElem?_eq_getElem (by rw [HAL.out]; exact hlt)⟩
        have k1 := hcell i (.bool x) (by rw [bools, List.getElem?_map, hx]; rfl)
        have d1 := ((bcell HB0.out).1 g (o + i) hg).trans k1
        have hin : (i : Int) < (s.n : Int) := by omega
        have hmt := missFrom_take s.ack i (by rw [HAL.out]; exact hlt)
        rw [show s.ack[i]'(by rw [HAL.out]; exact hlt) = x by have := hx; rw [List.getElem?_eq_getElem (by rw [HAL.out]; exact hlt)] at this; injection this] at hmt
        have HMT := Lib.hid hmt
        clear hcell k1 hx hmt
        cases x
        · go_wp2_with (at_builtin; refine wpList_append_any _ rfl (.tmp 23) (.tmp 26) _ rfl (w.heap.size + 1) 3 i0 _ 1 8 Try.underlying46 hi0 hz0 hz1 hz2 rfl (by omega) _ l.length _ rfl (HOW.out.alloc _) (wr.heap.size + 1) (some ⟨wr.heap.size, 0, none⟩) 1 1 [.int .i64 ((i : Int) + 1)] rfl (Reads.newN wr #[.int .i64 ((i : Int) + 1)] 3 1 1 rfl) (by simp [Value.oneCell']) (by simp only [maxLen]; omega) (by omega) (by simp; omega) ?_; intro v1 w7 hown1 hg1 hat1; have HO1 := Lib.hid hown1; have HG1 := Lib.hid hg1; clear hown1 hg1 hat1)
          have HN := Lib.hid (show Below (w.heap.size + 1) (w.alloc (.cells #[.int .i64 s.again, .int .i64 s.st, .int .i64 s.now, .int .i64 s.seq, .bool s.some, .int .i64 s.prog, .int .i64 s.cmd, .slice D dl dc, .int .i64 s.sent, .slice (some ⟨g, o, none⟩) s.n ac, .slice S sl sc] 29)) w7 from (HB.out.alloc (by omega) _).grown HG1.out (by simp; omega) (fun g hg => (HOW.out.lt g hg).1))
          go_roundw
          case rel => exact ⟨i + 1, l ++ [i + 1], by go_num, by omega, Lib.hid (by rw [HMT.out, HL.out]; rfl), by simp; omega, by simpa using HO1.out, HN.out⟩
          case measure => simp [intOf]; omega
        · go_wp2_with fail
          go_roundw
          case rel => exact ⟨i + 1, l, by go_num, by omega, Lib.hid (by rw [HMT.out, HL.out]; simp), by omega, HOW.out, HB.out⟩
          case measure => simp [intOf]; omega
      · obtain rfl : i = s.n := by omega
        have e := HL.out
        rw [List.take_of_length_le (by rw [HAL.out]; exact Nat.le_refl _), ← E.out] at e
        have HE := Lib.hid e
        clear e
        go_wp2_with fail
        go_ret
        rw [← HE.out]
        exact ⟨A3, c3, rfl, (Row.of_own HOW.out).more (by omega), HB0.out⟩
end Go.Proofs.Ytiidkmnagfhgiaa

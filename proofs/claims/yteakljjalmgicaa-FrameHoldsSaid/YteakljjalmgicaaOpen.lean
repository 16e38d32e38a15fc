/- Could bytes be the beginning of a frame? -/
import Derived.Test.YteakljjalmgicaaMisc
namespace Go.Proofs.Yteakljjalmgicaa
open Go.RowKit
set_option maxHeartbeats 4000000
set_option linter.unusedSimpArgs false
set_option linter.unusedVariables false
section
variable {w w' : World} {B : Nat} {A : Option Addr} {n cap : Nat} {l : List Int}
theorem Rd.sub {b o : Nat} (h : Rd w B (some ⟨b, o, none⟩) n l) (lo m : Nat) (hm : lo + m ≤ n) : Rd w B (some ⟨b, o + lo, none⟩) m ((l.drop lo).take m) := by
  obtain ⟨hl, hb, hr⟩ := h
  refine ⟨by simp; omega, fun x hx => hb x (List.mem_of_mem_drop (List.mem_of_mem_take hx)), fun hn => ?_⟩
  obtain ⟨b', o', e, hbl, hc⟩ := hr (by omega)
  injection e with e
  injection e with e1 e2
  subst e1; subst e2
  refine ⟨_, _, rfl, hbl, fun i hi => ?_⟩
  rw [Nat.add_assoc, hc (lo + i) (by omega)]
  congr 2
  simp [List.getD, List.getElem?_take, List.getElem?_drop, hi]
theorem Rd.take (h : Rd w B A n l) (m : Nat) (hm : m ≤ n) : Rd w B A m (l.take m) := by
  obtain ⟨hl, hb, hr⟩ := h
  refine ⟨by simp; omega, fun x hx => hb x (List.mem_of_mem_take hx), fun hn => ?_⟩
  obtain ⟨b', o', e, hbl, hc⟩ := hr (by omega)
  refine ⟨_, _, e, hbl, fun i hi => ?_⟩
  rw [hc i (by omega)]
  congr 2
  simp [List.getD, List.getElem?_take, hi]
theorem Rd.of_block {q : Nat} {t : TypeId} (h : w.heap[q]? = some (.cells (bv l).toArray t (0, 0))) (hq : q < B) (hb : By l) : Rd w B (some ⟨q, 0, none⟩) l.length l := by
  refine ⟨rfl, hb, fun hn => ⟨q, 0, rfl, hq, fun i hi => ?_⟩⟩
  rw [Nat.zero_add]
  exact blk_cell h i (by simp [bv, List.getElem?_eq_getElem hi, List.getD])
end
namespace Frm
/-- could bytes be the beginning of a frame, and are they fewer than it has -/
def opB (l : List Int) : Bool := decide ((0 < l.length → l.getD 0 0 = 213) ∧ (1 < l.length → l.getD 1 0 = 76) ∧ (8 ≤ l.length → l.getD 7 0 ≤ 64 ∧ (l.length : Int) < 10 + l.getD 7 0))
end Frm
theorem quiet_add {P : Program} {f : FuncId} {args : Array Value} {w : World} {a n : Nat} {v : Value}
    (h : Calls P f args (w.drewN (a + n)) fun e w' => e = .returned v ∧ ∃ m, w' = (w.drewN (a + n)).drewN m) :
    Calls P f args (w.drewN (a + n)) fun e w'' => e = .returned v ∧ ∃ m, w'' = w.drewN (a + m) :=
  h.mono fun _ _ ⟨he, m, hm⟩ => ⟨he, n + m, by rw [hm, World.drewN_drewN, Nat.add_assoc]⟩
theorem equal_is (A C : Option Addr) (n m cap caq : Nat) (l k : List Int) (r : Bool) (w : World) (hn : n ≤ 140737488355328) (hm : m ≤ 140737488355328) (h : Rd w w.heap.size A n l) (g : Rd w w.heap.size C m k) (e : decide (l = k) = r) :
    Calls Try.prog 38 #[.slice A n cap, .slice C m caq] w fun e w' => e = .returned (.bool r) ∧ ∃ q, w' = w.drewN q := by
  have := equal_any A C n m cap caq l k w hn hm h g
  rw [e] at this
  exact this
theorem open_start (l : List Int) (k : Nat) (hk : k = min l.length 2) (h : l.take k = [213, 76].take k) : (0 < l.length → l.getD 0 0 = 213) ∧ (1 < l.length → l.getD 1 0 = 76) := by
  subst hk
  rcases l with _ | ⟨x, _ | ⟨y, t⟩⟩ <;> simp_all
theorem open_start' (l : List Int) (k : Nat) (hk : k = min l.length 2) (h : ¬ l.take k = [213, 76].take k) : ¬ ((0 < l.length → l.getD 0 0 = 213) ∧ (1 < l.length → l.getD 1 0 = 76)) := by
  subst hk
  rcases l with _ | ⟨x, _ | ⟨y, t⟩⟩ <;> simp_all
theorem open_any (A : Option Addr) (n cap : Nat) (l : List Int) (w : World) (hn : n ≤ 140737488355328) (hcap : n ≤ cap) (hcm : cap ≤ 9223372036854775807) (h : Rd w w.heap.size A n l) :
    Calls Try.prog 33 #[.slice A n cap] w fun e w' => e = .returned (.bool (Frm.opB l)) ∧ Below w.heap.size w w' := by
  obtain ⟨k, hk, hk'⟩ : ∃ k : Nat, k = min l.length 2 ∧ ((n = 0 ∧ k = 0) ∨ (n = 1 ∧ k = 1) ∨ (2 ≤ n ∧ k = 2)) := ⟨_, rfl, by have := h.1; omega⟩
  have hkn : k ≤ n := by omega
  have hk2 : k ≤ 2 := by omega
  have HR := Lib.hid (fun (r : Bool) (W : World) (q caq : Nat) (hW : W.heap[q]? = some (.cells #[.int .u8 213, .int .u8 76] 61 (0, 0))) (hB : Below w.heap.size w W) (e : decide (l.take k = [213, 76].take k) = r) =>
    equal_is A (some ⟨q, 0, none⟩) k k cap caq (l.take k) ([213, 76].take k) r W (by omega) (by omega) (((h.take k hkn).below hB (Nat.le_refl _)).more hB.size)
      ((Rd.of_block (l := [213, 76]) hW (lt_of_block hW) (by intro x hx; simp at hx; omega)).take k hk2) e)
  have HLen := h.1
  by_cases hs : l.take k = [213, 76].take k
  · have hst := open_start l k hk hs
    have HQ := Lib.hid (fun (W : World) (q caq : Nat) hW hB => HR.out true W q caq hW hB (decide_eq_true hs))
    clear hs hk HR
    by_cases h8 : n < 8
    · have E := Lib.hid (show Frm.opB l = true by
        rw [Frm.opB, decide_eq_true_iff]
        exact ⟨hst.1, hst.2, fun hh => by omega⟩)
      clear hst h HLen
      rcases hk' with ⟨rfl, rfl⟩ | ⟨rfl, rfl⟩ | ⟨h2, rfl⟩
      · go_enter Try.func33, Try.ntmps33
        go_wp2_with fail
        refine (start_any _).mono ?_
        rintro e w1 ⟨rfl, hb1⟩
        have hz1 := hb1.size
        go_wp2_with fail
        have HB := (show Below w.heap.size w (w1.alloc (.cells #[.int .u8 213, .int .u8 76] 61)) from (by repeat (first | (with_reducible exact Below.refl _ _) | (with_reducible refine Below.drew ?_) | (with_reducible refine below_drewN ?_ _) | ((with_reducible refine Below.alloc ?_ ?_ _); rotate_left; (first | omega | (simp <;> omega)); rotate_right) | ((with_reducible refine Below.setCell ?_ ?_ _); rotate_left; (first | omega | (simp <;> omega)); rotate_right) | (with_reducible assumption) | (refine Below.trans ?_ (Below.mono (by assumption) ?_); rotate_left; (first | omega | (simp <;> omega)); rotate_right))))
        go_quiet ((go_at_call 38; exact Calls.quiet_of (HQ.out _ w1.heap.size 2 (blk_drewN (heap_new _ _) _) (below_drewN HB _))))
        go_wp2_with fail
        go_ret
        exact ⟨ret_bool (by first | exact E.out.symm | (rw [E.out]; simp; omega) | (rw [E.out]; simp)), (by repeat (first | (with_reducible exact Below.refl _ _) | (with_reducible refine Below.drew ?_) | (with_reducible refine below_drewN ?_ _) | ((with_reducible refine Below.alloc ?_ ?_ _); rotate_left; (first | omega | (simp <;> omega)); rotate_right) | ((with_reducible refine Below.setCell ?_ ?_ _); rotate_left; (first | omega | (simp <;> omega)); rotate_right) | (with_reducible assumption) | (refine Below.trans ?_ (Below.mono (by assumption) ?_); rotate_left; (first | omega | (simp <;> omega)); rotate_right)))⟩
      · go_enter Try.func33, Try.ntmps33
        go_wp2_with fail
        refine (start_any _).mono ?_
        rintro e w1 ⟨rfl, hb1⟩
        have hz1 := hb1.size
        go_wp2_with fail
        have HB := (show Below w.heap.size w (w1.alloc (.cells #[.int .u8 213, .int .u8 76] 61)) from (by repeat (first | (with_reducible exact Below.refl _ _) | (with_reducible refine Below.drew ?_) | (with_reducible refine below_drewN ?_ _) | ((with_reducible refine Below.alloc ?_ ?_ _); rotate_left; (first | omega | (simp <;> omega)); rotate_right) | ((with_reducible refine Below.setCell ?_ ?_ _); rotate_left; (first | omega | (simp <;> omega)); rotate_right) | (with_reducible assumption) | (refine Below.trans ?_ (Below.mono (by assumption) ?_); rotate_left; (first | omega | (simp <;> omega)); rotate_right))))
        go_quiet ((go_at_call 38; exact Calls.quiet_of (HQ.out _ w1.heap.size 2 (blk_drewN (heap_new _ _) _) (below_drewN HB _))))
        go_wp2_with fail
        go_ret
        exact ⟨ret_bool (by first | exact E.out.symm | (rw [E.out]; simp; omega) | (rw [E.out]; simp)), (by repeat (first | (with_reducible exact Below.refl _ _) | (with_reducible refine Below.drew ?_) | (with_reducible refine below_drewN ?_ _) | ((with_reducible refine Below.alloc ?_ ?_ _); rotate_left; (first | omega | (simp <;> omega)); rotate_right) | ((with_reducible refine Below.setCell ?_ ?_ _); rotate_left; (first | omega | (simp <;> omega)); rotate_right) | (with_reducible assumption) | (refine Below.trans ?_ (Below.mono (by assumption) ?_); rotate_left; (first | omega | (simp <;> omega)); rotate_right)))⟩
      · rcases Nat.lt_or_ge 2 n with h3 | h3
        · go_enter Try.func33, Try.ntmps33
          go_wp2_with fail
          refine (start_any _).mono ?_
          rintro e w1 ⟨rfl, hb1⟩
          have hz1 := hb1.size
          go_wp2_with fail
          have HB := (show Below w.heap.size w (w1.alloc (.cells #[.int .u8 213, .int .u8 76] 61)) from (by repeat (first | (with_reducible exact Below.refl _ _) | (with_reducible refine Below.drew ?_) | (with_reducible refine below_drewN ?_ _) | ((with_reducible refine Below.alloc ?_ ?_ _); rotate_left; (first | omega | (simp <;> omega)); rotate_right) | ((with_reducible refine Below.setCell ?_ ?_ _); rotate_left; (first | omega | (simp <;> omega)); rotate_right) | (with_reducible assumption) | (refine Below.trans ?_ (Below.mono (by assumption) ?_); rotate_left; (first | omega | (simp <;> omega)); rotate_right))))
          go_quiet ((go_at_call 38; exact Calls.quiet_of (HQ.out _ w1.heap.size 2 (blk_drewN (heap_new _ _) _) (below_drewN HB _))))
          go_wp2_with fail
          go_ret
          exact ⟨ret_bool (by first | exact E.out.symm | (rw [E.out]; simp; omega) | (rw [E.out]; simp)), (by repeat (first | (with_reducible exact Below.refl _ _) | (with_reducible refine Below.drew ?_) | (with_reducible refine below_drewN ?_ _) | ((with_reducible refine Below.alloc ?_ ?_ _); rotate_left; (first | omega | (simp <;> omega)); rotate_right) | ((with_reducible refine Below.setCell ?_ ?_ _); rotate_left; (first | omega | (simp <;> omega)); rotate_right) | (with_reducible assumption) | (refine Below.trans ?_ (Below.mono (by assumption) ?_); rotate_left; (first | omega | (simp <;> omega)); rotate_right)))⟩
        · obtain rfl : n = 2 := by omega
          go_enter Try.func33, Try.ntmps33
          go_wp2_with fail
          refine (start_any _).mono ?_
          rintro e w1 ⟨rfl, hb1⟩
          have hz1 := hb1.size
          go_wp2_with fail
          have HB := (show Below w.heap.size w (w1.alloc (.cells #[.int .u8 213, .int .u8 76] 61)) from (by repeat (first | (with_reducible exact Below.refl _ _) | (with_reducible refine Below.drew ?_) | (with_reducible refine below_drewN ?_ _) | ((with_reducible refine Below.alloc ?_ ?_ _); rotate_left; (first | omega | (simp <;> omega)); rotate_right) | ((with_reducible refine Below.setCell ?_ ?_ _); rotate_left; (first | omega | (simp <;> omega)); rotate_right) | (with_reducible assumption) | (refine Below.trans ?_ (Below.mono (by assumption) ?_); rotate_left; (first | omega | (simp <;> omega)); rotate_right))))
          go_quiet ((go_at_call 38; exact Calls.quiet_of (HQ.out _ w1.heap.size 2 (blk_drewN (heap_new _ _) _) (below_drewN HB _))))
          go_wp2_with fail
          go_ret
          exact ⟨ret_bool (by first | exact E.out.symm | (rw [E.out]; simp; omega) | (rw [E.out]; simp)), (by repeat (first | (with_reducible exact Below.refl _ _) | (with_reducible refine Below.drew ?_) | (with_reducible refine below_drewN ?_ _) | ((with_reducible refine Below.alloc ?_ ?_ _); rotate_left; (first | omega | (simp <;> omega)); rotate_right) | ((with_reducible refine Below.setCell ?_ ?_ _); rotate_left; (first | omega | (simp <;> omega)); rotate_right) | (with_reducible assumption) | (refine Below.trans ?_ (Below.mono (by assumption) ?_); rotate_left; (first | omega | (simp <;> omega)); rotate_right)))⟩
    · have h8' : 8 ≤ n := by omega
      clear h8
      obtain ⟨b, o, rfl, hbl, hc⟩ := h.2.2 (by omega)
      have c7 := hc 7 (by omega)
      have hb7 := h.2.1.at_ 7
      obtain rfl : k = 2 := by omega
      have EE := Lib.hid (show ∀ y : Int, l.getD 7 0 = y → Frm.opB l = decide (y ≤ 64 ∧ (n : Int) < 10 + y) from fun y hy => by
        rw [Frm.opB, hy, HLen]
        rw [decide_eq_decide]
        exact ⟨fun hh => hh.2.2 h8', fun hh => ⟨fun _ => hst.1 (by omega), fun _ => hst.2 (by omega), fun _ => hh⟩⟩)
      obtain ⟨y, hy⟩ : ∃ y, l.getD 7 0 = y := ⟨_, rfl⟩
      rw [hy] at c7 hb7
      have EY := Lib.hid (EE.out y hy)
      obtain ⟨y0, y1⟩ := hb7
      clear EE hst h HLen hc hy hk'
      rcases Int.lt_or_le 64 y with g1 | g1
      · have E := Lib.hid (EY.out.trans (show decide (y ≤ 64 ∧ (n : Int) < 10 + y) = false from decide_eq_false (by omega)))
        clear EY
        go_enter Try.func33, Try.ntmps33
        go_wp2_with fail
        refine (start_any _).mono ?_
        rintro e w1 ⟨rfl, hb1⟩
        have hz1 := hb1.size
        have c7' := ((bcell hb1).1 b (o + 7) hbl).trans c7; have hbl1 : b < w1.heap.size := Nat.lt_of_lt_of_le hbl hz1
        go_wp2_with fail
        have HB := (show Below w.heap.size w (w1.alloc (.cells #[.int .u8 213, .int .u8 76] 61)) from (by repeat (first | (with_reducible exact Below.refl _ _) | (with_reducible refine Below.drew ?_) | (with_reducible refine below_drewN ?_ _) | ((with_reducible refine Below.alloc ?_ ?_ _); rotate_left; (first | omega | (simp <;> omega)); rotate_right) | ((with_reducible refine Below.setCell ?_ ?_ _); rotate_left; (first | omega | (simp <;> omega)); rotate_right) | (with_reducible assumption) | (refine Below.trans ?_ (Below.mono (by assumption) ?_); rotate_left; (first | omega | (simp <;> omega)); rotate_right))))
        go_quiet ((go_at_call 38; exact Calls.quiet_of (HQ.out _ w1.heap.size 2 (blk_drewN (heap_new _ _) _) (below_drewN HB _))))
        go_wp2_with fail
        go_ret
        exact ⟨ret_bool (by first | exact E.out.symm | (rw [E.out]; simp; omega) | (rw [E.out]; simp)), (by repeat (first | (with_reducible exact Below.refl _ _) | (with_reducible refine Below.drew ?_) | (with_reducible refine below_drewN ?_ _) | ((with_reducible refine Below.alloc ?_ ?_ _); rotate_left; (first | omega | (simp <;> omega)); rotate_right) | ((with_reducible refine Below.setCell ?_ ?_ _); rotate_left; (first | omega | (simp <;> omega)); rotate_right) | (with_reducible assumption) | (refine Below.trans ?_ (Below.mono (by assumption) ?_); rotate_left; (first | omega | (simp <;> omega)); rotate_right)))⟩
      · rcases Int.lt_or_le (n : Int) (10 + y) with g2 | g2
        · have E := Lib.hid (EY.out.trans (show decide (y ≤ 64 ∧ (n : Int) < 10 + y) = true from decide_eq_true (by omega)))
          clear EY
          go_enter Try.func33, Try.ntmps33
          go_wp2_with fail
          refine (start_any _).mono ?_
          rintro e w1 ⟨rfl, hb1⟩
          have hz1 := hb1.size
          have c7' := ((bcell hb1).1 b (o + 7) hbl).trans c7; have hbl1 : b < w1.heap.size := Nat.lt_of_lt_of_le hbl hz1
          go_wp2_with fail
          have HB := (show Below w.heap.size w (w1.alloc (.cells #[.int .u8 213, .int .u8 76] 61)) from (by repeat (first | (with_reducible exact Below.refl _ _) | (with_reducible refine Below.drew ?_) | (with_reducible refine below_drewN ?_ _) | ((with_reducible refine Below.alloc ?_ ?_ _); rotate_left; (first | omega | (simp <;> omega)); rotate_right) | ((with_reducible refine Below.setCell ?_ ?_ _); rotate_left; (first | omega | (simp <;> omega)); rotate_right) | (with_reducible assumption) | (refine Below.trans ?_ (Below.mono (by assumption) ?_); rotate_left; (first | omega | (simp <;> omega)); rotate_right))))
          go_quiet ((go_at_call 38; exact Calls.quiet_of (HQ.out _ w1.heap.size 2 (blk_drewN (heap_new _ _) _) (below_drewN HB _))))
          go_wp2_with fail
          go_ret
          exact ⟨ret_bool (by first | exact E.out.symm | (rw [E.out]; simp; omega) | (rw [E.out]; simp)), (by repeat (first | (with_reducible exact Below.refl _ _) | (with_reducible refine Below.drew ?_) | (with_reducible refine below_drewN ?_ _) | ((with_reducible refine Below.alloc ?_ ?_ _); rotate_left; (first | omega | (simp <;> omega)); rotate_right) | ((with_reducible refine Below.setCell ?_ ?_ _); rotate_left; (first | omega | (simp <;> omega)); rotate_right) | (with_reducible assumption) | (refine Below.trans ?_ (Below.mono (by assumption) ?_); rotate_left; (first | omega | (simp <;> omega)); rotate_right)))⟩
        · have E := Lib.hid (EY.out.trans (show decide (y ≤ 64 ∧ (n : Int) < 10 + y) = false from decide_eq_false (by omega)))
          clear EY
          go_enter Try.func33, Try.ntmps33
          go_wp2_with fail
          refine (start_any _).mono ?_
          rintro e w1 ⟨rfl, hb1⟩
          have hz1 := hb1.size
          have c7' := ((bcell hb1).1 b (o + 7) hbl).trans c7; have hbl1 : b < w1.heap.size := Nat.lt_of_lt_of_le hbl hz1
          go_wp2_with fail
          have HB := (show Below w.heap.size w (w1.alloc (.cells #[.int .u8 213, .int .u8 76] 61)) from (by repeat (first | (with_reducible exact Below.refl _ _) | (with_reducible refine Below.drew ?_) | (with_reducible refine below_drewN ?_ _) | ((with_reducible refine Below.alloc ?_ ?_ _); rotate_left; (first | omega | (simp <;> omega)); rotate_right) | ((with_reducible refine Below.setCell ?_ ?_ _); rotate_left; (first | omega | (simp <;> omega)); rotate_right) | (with_reducible assumption) | (refine Below.trans ?_ (Below.mono (by assumption) ?_); rotate_left; (first | omega | (simp <;> omega)); rotate_right))))
          go_quiet ((go_at_call 38; exact Calls.quiet_of (HQ.out _ w1.heap.size 2 (blk_drewN (heap_new _ _) _) (below_drewN HB _))))
          go_wp2_with fail
          go_ret
          exact ⟨ret_bool (by first | exact E.out.symm | (rw [E.out]; simp; omega) | (rw [E.out]; simp)), (by repeat (first | (with_reducible exact Below.refl _ _) | (with_reducible refine Below.drew ?_) | (with_reducible refine below_drewN ?_ _) | ((with_reducible refine Below.alloc ?_ ?_ _); rotate_left; (first | omega | (simp <;> omega)); rotate_right) | ((with_reducible refine Below.setCell ?_ ?_ _); rotate_left; (first | omega | (simp <;> omega)); rotate_right) | (with_reducible assumption) | (refine Below.trans ?_ (Below.mono (by assumption) ?_); rotate_left; (first | omega | (simp <;> omega)); rotate_right)))⟩
  · have E := Lib.hid (show Frm.opB l = false by
      have := open_start' l k hk hs
      rw [Frm.opB, decide_eq_false_iff_not]
      exact fun hh => this ⟨hh.1, hh.2.1⟩)
    have HQ := Lib.hid (fun (W : World) (q caq : Nat) hW hB => HR.out false W q caq hW hB (decide_eq_false hs))
    clear hs hk HR h HLen
    rcases hk' with ⟨rfl, rfl⟩ | ⟨rfl, rfl⟩ | ⟨h2, rfl⟩
    · go_enter Try.func33, Try.ntmps33
      go_wp2_with fail
      refine (start_any _).mono ?_
      rintro e w1 ⟨rfl, hb1⟩
      have hz1 := hb1.size
      go_wp2_with fail
      have HB := (show Below w.heap.size w (w1.alloc (.cells #[.int .u8 213, .int .u8 76] 61)) from (by repeat (first | (with_reducible exact Below.refl _ _) | (with_reducible refine Below.drew ?_) | (with_reducible refine below_drewN ?_ _) | ((with_reducible refine Below.alloc ?_ ?_ _); rotate_left; (first | omega | (simp <;> omega)); rotate_right) | ((with_reducible refine Below.setCell ?_ ?_ _); rotate_left; (first | omega | (simp <;> omega)); rotate_right) | (with_reducible assumption) | (refine Below.trans ?_ (Below.mono (by assumption) ?_); rotate_left; (first | omega | (simp <;> omega)); rotate_right))))
      go_quiet ((go_at_call 38; exact Calls.quiet_of (HQ.out _ w1.heap.size 2 (blk_drewN (heap_new _ _) _) (below_drewN HB _))))
      go_wp2_with fail
      go_ret
      exact ⟨ret_bool (by first | exact E.out.symm | (rw [E.out]; simp; omega) | (rw [E.out]; simp)), (by repeat (first | (with_reducible exact Below.refl _ _) | (with_reducible refine Below.drew ?_) | (with_reducible refine below_drewN ?_ _) | ((with_reducible refine Below.alloc ?_ ?_ _); rotate_left; (first | omega | (simp <;> omega)); rotate_right) | ((with_reducible refine Below.setCell ?_ ?_ _); rotate_left; (first | omega | (simp <;> omega)); rotate_right) | (with_reducible assumption) | (refine Below.trans ?_ (Below.mono (by assumption) ?_); rotate_left; (first | omega | (simp <;> omega)); rotate_right)))⟩
    · go_enter Try.func33, Try.ntmps33
      go_wp2_with fail
      refine (start_any _).mono ?_
      rintro e w1 ⟨rfl, hb1⟩
      have hz1 := hb1.size
      go_wp2_with fail
      have HB := (show Below w.heap.size w (w1.alloc (.cells #[.int .u8 213, .int .u8 76] 61)) from (by repeat (first | (with_reducible exact Below.refl _ _) | (with_reducible refine Below.drew ?_) | (with_reducible refine below_drewN ?_ _) | ((with_reducible refine Below.alloc ?_ ?_ _); rotate_left; (first | omega | (simp <;> omega)); rotate_right) | ((with_reducible refine Below.setCell ?_ ?_ _); rotate_left; (first | omega | (simp <;> omega)); rotate_right) | (with_reducible assumption) | (refine Below.trans ?_ (Below.mono (by assumption) ?_); rotate_left; (first | omega | (simp <;> omega)); rotate_right))))
      go_quiet ((go_at_call 38; exact Calls.quiet_of (HQ.out _ w1.heap.size 2 (blk_drewN (heap_new _ _) _) (below_drewN HB _))))
      go_wp2_with fail
      go_ret
      exact ⟨ret_bool (by first | exact E.out.symm | (rw [E.out]; simp; omega) | (rw [E.out]; simp)), (by repeat (first | (with_reducible exact Below.refl _ _) | (with_reducible refine Below.drew ?_) | (with_reducible refine below_drewN ?_ _) | ((with_reducible refine Below.alloc ?_ ?_ _); rotate_left; (first | omega | (simp <;> omega)); rotate_right) | ((with_reducible refine Below.setCell ?_ ?_ _); rotate_left; (first | omega | (simp <;> omega)); rotate_right) | (with_reducible assumption) | (refine Below.trans ?_ (Below.mono (by assumption) ?_); rotate_left; (first | omega | (simp <;> omega)); rotate_right)))⟩
    · rcases Nat.lt_or_ge 2 n with h3 | h3
      · go_enter Try.func33, Try.ntmps33
        go_wp2_with fail
        refine (start_any _).mono ?_
        rintro e w1 ⟨rfl, hb1⟩
        have hz1 := hb1.size
        go_wp2_with fail
        have HB := (show Below w.heap.size w (w1.alloc (.cells #[.int .u8 213, .int .u8 76] 61)) from (by repeat (first | (with_reducible exact Below.refl _ _) | (with_reducible refine Below.drew ?_) | (with_reducible refine below_drewN ?_ _) | ((with_reducible refine Below.alloc ?_ ?_ _); rotate_left; (first | omega | (simp <;> omega)); rotate_right) | ((with_reducible refine Below.setCell ?_ ?_ _); rotate_left; (first | omega | (simp <;> omega)); rotate_right) | (with_reducible assumption) | (refine Below.trans ?_ (Below.mono (by assumption) ?_); rotate_left; (first | omega | (simp <;> omega)); rotate_right))))
        go_quiet ((go_at_call 38; exact Calls.quiet_of (HQ.out _ w1.heap.size 2 (blk_drewN (heap_new _ _) _) (below_drewN HB _))))
        go_wp2_with fail
        go_ret
        exact ⟨ret_bool (by first | exact E.out.symm | (rw [E.out]; simp; omega) | (rw [E.out]; simp)), (by repeat (first | (with_reducible exact Below.refl _ _) | (with_reducible refine Below.drew ?_) | (with_reducible refine below_drewN ?_ _) | ((with_reducible refine Below.alloc ?_ ?_ _); rotate_left; (first | omega | (simp <;> omega)); rotate_right) | ((with_reducible refine Below.setCell ?_ ?_ _); rotate_left; (first | omega | (simp <;> omega)); rotate_right) | (with_reducible assumption) | (refine Below.trans ?_ (Below.mono (by assumption) ?_); rotate_left; (first | omega | (simp <;> omega)); rotate_right)))⟩
      · obtain rfl : n = 2 := by omega
        go_enter Try.func33, Try.ntmps33
        go_wp2_with fail
        refine (start_any _).mono ?_
        rintro e w1 ⟨rfl, hb1⟩
        have hz1 := hb1.size
        go_wp2_with fail
        have HB := (show Below w.heap.size w (w1.alloc (.cells #[.int .u8 213, .int .u8 76] 61)) from (by repeat (first | (with_reducible exact Below.refl _ _) | (with_reducible refine Below.drew ?_) | (with_reducible refine below_drewN ?_ _) | ((with_reducible refine Below.alloc ?_ ?_ _); rotate_left; (first | omega | (simp <;> omega)); rotate_right) | ((with_reducible refine Below.setCell ?_ ?_ _); rotate_left; (first | omega | (simp <;> omega)); rotate_right) | (with_reducible assumption) | (refine Below.trans ?_ (Below.mono (by assumption) ?_); rotate_left; (first | omega | (simp <;> omega)); rotate_right))))
        go_quiet ((go_at_call 38; exact Calls.quiet_of (HQ.out _ w1.heap.size 2 (blk_drewN (heap_new _ _) _) (below_drewN HB _))))
        go_wp2_with fail
        go_ret
        exact ⟨ret_bool (by first | exact E.out.symm | (rw [E.out]; simp; omega) | (rw [E.out]; simp)), (by repeat (first | (with_reducible exact Below.refl _ _) | (with_reducible refine Below.drew ?_) | (with_reducible refine below_drewN ?_ _) | ((with_reducible refine Below.alloc ?_ ?_ _); rotate_left; (first | omega | (simp <;> omega)); rotate_right) | ((with_reducible refine Below.setCell ?_ ?_ _); rotate_left; (first | omega | (simp <;> omega)); rotate_right) | (with_reducible assumption) | (refine Below.trans ?_ (Below.mono (by assumption) ?_); rotate_left; (first | omega | (simp <;> omega)); rotate_right)))⟩
end Go.Proofs.Yteakljjalmgicaa

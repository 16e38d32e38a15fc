/- Contracts of the clock under true exchanges. -/
import Derived.Test.YtfbkbpoabajgdaaShow
import Derived.Test.YtfbkbpoabajgdaaHoldsP
namespace Go.Proofs.Ytfbkbpoabajgdaa
open Go.RowKit
set_option maxHeartbeats 4000000
set_option linter.unusedSimpArgs false
set_option linter.unusedVariables false
theorem lE_02 (o r t : Int) : lE o r t = 0 ∨ lE o r t = 2 := by unfold lE; split <;> simp
theorem lE_ok {o r t : Int} (h : lE o r t = 0) : (-3600000 ≤ o ∧ o ≤ 3600000) ∧ (-100000 ≤ r ∧ r ≤ 100000) ∧ (0 ≤ t ∧ t ≤ 3600000) ∧ lV o r t = Clk.L o r t := by
  unfold lE at h
  split at h
  · rename_i c
    have c' := c
    simp only [Bool.and_eq_true, Clk.inB_iff] at c
    exact ⟨c.1.1, c.1.2, c.2, by rw [lV, if_pos c']; rfl⟩
  · omega
theorem rl_no {o r t : Int} (h : lE o r t ≠ 0) (w : World) : ∃ v : Int, Calls Try.prog 11 #[.int .i64 o, .int .i64 r, .int .i64 t] w fun e w' => e = .returned (.tuple #[.int .i64 v, .int .i64 2]) ∧ w = w' :=
  ⟨lV o r t, by
    have e := (lE_02 o r t).resolve_left h
    have := rlocal_any o r t w
    rw [e] at this
    exact this⟩
theorem rl_no' {o r t : Int} (h : lE o r t ≠ 0) : ∃ v : Int, ∀ w : World, Calls Try.prog 11 #[.int .i64 o, .int .i64 r, .int .i64 t] w fun e w' => e = .returned (.tuple #[.int .i64 v, .int .i64 2]) ∧ w = w' :=
  ⟨lV o r t, fun w => by
    have e := (lE_02 o r t).resolve_left h
    have := rlocal_any o r t w
    rw [e] at this
    exact this⟩
theorem rl_yes {o r t : Int} (h : lE o r t = 0) (w : World) : Calls Try.prog 11 #[.int .i64 o, .int .i64 r, .int .i64 t] w fun e w' => e = .returned (.tuple #[.int .i64 (Clk.L o r t), .int .i64 0]) ∧ w = w' := by
  have := rlocal_any o r t w
  rw [h, (lE_ok h).2.2.2] at this
  exact this
theorem sinv_kn {o rt d now r lo hi : Int} (ho : -3600000 ≤ o ∧ o ≤ 3600000) (hd : 0 ≤ d) (hd' : d ≤ 100000) (hr : -d ≤ rt ∧ rt ≤ d) (k : Clk.Kn o rt d now r lo hi) : SInv d r true lo hi := by
  obtain ⟨c0, c1, c2, c3, c4, c5, c6⟩ := k
  have b := Clk.L_bd (t := now) ho (show -100000 ≤ rt ∧ rt ≤ 100000 by omega) (by omega)
  subst c0
  exact ⟨by unfold Clk.CInv; omega, fun _ => c3⟩
/-- an exchange: what adding it does -/
theorem add_trip (b : Nat) {o rt d now r lo hi w0 p s y : Int} {m : Bool} (ho : -3600000 ≤ o ∧ o ≤ 3600000) (hd : 0 ≤ d) (hd' : d ≤ 100000) (hr : -d ≤ rt ∧ rt ≤ d) (hw : 0 ≤ w0) (hp : 0 ≤ p) (hs : 0 ≤ s) (hy : 0 ≤ y)
    (hn : 0 ≤ now) (hh : now + w0 + p + s + y ≤ 3600000) (c : SInv d r m lo hi) (k : m = true → Clk.Kn o rt d now r lo hi) :
    ∃ nl nh : Int, Clk.Kn o rt d (now + w0 + p + s + y) (Clk.L o rt (now + w0 + p + s + y)) nl nh ∧ now + w0 + p + s ≤ nl ∧
      (m = true → GLo lo hi d (Clk.L o rt (now + w0 + p + s + y) - r) ≤ nl ∧ nh ≤ GHi lo hi d (Clk.L o rt (now + w0 + p + s + y) - r) ∧ -100000000 ≤ Clk.L o rt (now + w0 + p + s + y) - r ∧ Clk.L o rt (now + w0 + p + s + y) - r ≤ 100000000) ∧
      ∀ W : World, IsClk W b d r true m lo hi → Calls Try.prog 21 #[.pointer (some ⟨b, 0, none⟩), .agg #[.int .i64 (Clk.L o rt (now + w0)), .int .i64 (now + w0 + p), .int .i64 (now + w0 + p + s), .int .i64 (Clk.L o rt (now + w0 + p + s + y))]] W
        fun e w' => e = .returned (.int .i64 0) ∧ IsClk w' b d (Clk.L o rt (now + w0 + p + s + y)) true true nl nh ∧ W.grownBy w' (some b) := by
  obtain ⟨t1, t2, t3⟩ := Clk.trip (r := r) (lo := lo) (hi := hi) (w := w0) (p := p) (s := s) (y := y) ho hd hd' hr hw hp hs hy hn hh k
  refine ⟨_, _, t2, t3, fun hm => ?_, fun W hk => ?_⟩
  · subst hm
    obtain ⟨c0, c1, c2, c3, c4, c5, c6⟩ := k rfl
    have hr' : -100000 ≤ rt ∧ rt ≤ 100000 := by omega
    have b2 := Clk.L_bd (t := now + w0 + p + s + y) ho hr' (by omega)
    have b3 := Clk.L_bd (t := now) ho hr' (by omega)
    have m2 := Clk.L_mono (o := o) (r := rt) (a := now) (b := now + w0 + p + s + y) (by omega) (by omega)
    subst c0
    have g : gOk lo hi d (Clk.L o rt (now + w0 + p + s + y) - Clk.L o rt now) = true := by simp [gOk, Clk.vB_iff, Clk.inB_iff]; omega
    rw [GLo, GHi, if_pos g, if_pos g]
    have ti := Clk.trip_in (d := d) (r := Clk.L o rt now) (lo := lo) (hi := hi) (a := Clk.L o rt (now + w0)) (g := now + w0 + p) (k := now + w0 + p + s) (h := Clk.L o rt (now + w0 + p + s + y))
    exact ⟨ti.1, ti.2, by omega, by omega⟩
  · refine (add_any b d r m lo hi _ _ _ _ W hk c.1).mono ?_
    rintro e w' ⟨rfl, h2, h3⟩
    rw [Clk.addR, Clk.addS, Clk.addLo, Clk.addHi, if_pos t1, if_pos t1, if_pos t1, if_pos t1] at h2
    exact ⟨by rw [t1], h2, h3⟩
theorem at_after (b : Nat) {o rt d now r lo hi x : Int} (ho : -3600000 ≤ o ∧ o ≤ 3600000) (hd : 0 ≤ d) (hd' : d ≤ 100000) (hr : -d ≤ rt ∧ rt ≤ d) (hx : now ≤ x) (hx' : x ≤ 3600000) (k : Clk.Kn o rt d now r lo hi) (W : World) (hk : IsClk W b d r true true lo hi) :
    Calls Try.prog 26 #[.pointer (some ⟨b, 0, none⟩), .int .i64 (Clk.L o rt x)] W fun e w' => e = .returned (.tuple #[.agg #[.int .i64 (Clk.gLo lo d (Clk.L o rt x - r)), .int .i64 (Clk.gHi hi d (Clk.L o rt x - r))], .int .i64 0]) ∧ Below W.heap.size W w' := by
  obtain ⟨t1, t2, t3, t4, t5, t6, t7⟩ := Clk.after_ ho hd hd' hr hx hx' k
  obtain ⟨⟨i1, i2, i3, i4, i5, i6, i7⟩, _⟩ := sinv_kn ho hd hd' hr k
  have := at_yes b d r lo hi (Clk.L o rt x) W hk i5 i6 i7 hd hd' i3 t1 t2
  rw [t3, t4, t5] at this
  exact this
/-- the four bounds afterwards -/
theorem after_bounds {o rt d now r lo hi x : Int} (ho : -3600000 ≤ o ∧ o ≤ 3600000) (hd : 0 ≤ d) (hd' : d ≤ 100000) (hr : -d ≤ rt ∧ rt ≤ d) (hx : now ≤ x) (hx' : x + 1 ≤ 3600000) (k : Clk.Kn o rt d now r lo hi) :
    Clk.gLo lo d (Clk.L o rt x - r) ≤ x ∧ x ≤ Clk.gHi hi d (Clk.L o rt x - r) ∧ Clk.gLo lo d (Clk.L o rt x - r) ≤ Clk.gLo lo d (Clk.L o rt (x + 1) - r) ∧ Clk.gHi hi d (Clk.L o rt x - r) ≤ Clk.gHi hi d (Clk.L o rt (x + 1) - r) := by
  obtain ⟨t1, t2, t3, t4, t5, t6, t7⟩ := Clk.after_ ho hd hd' hr hx (by omega) k
  have m := Clk.L_mono (o := o) (r := rt) (a := x) (b := x + 1) (by omega) (by omega)
  refine ⟨t6, t7, Clk.gLo_mono hd hd' (by omega) (by omega), ?_⟩
  have := Clk.vp_mono (d := d) hd hd' (a := Clk.L o rt x - r) (b := Clk.L o rt (x + 1) - r) (by omega)
  unfold Clk.gHi
  omega
/-- Sure, and the bounds there -/
theorem sure_after (b : Nat) {o rt d now r lo hi time : Int} (ho : -3600000 ≤ o ∧ o ≤ 3600000) (hd : 0 ≤ d) (hd' : d ≤ 100000) (hr : -d ≤ rt ∧ rt ≤ d) (ht : 0 ≤ time ∧ time ≤ 3600000) (k : Clk.Kn o rt d now r lo hi) :
    ∃ (m : Nat) (l1 h1 l2 h2 : Int), m ≤ 4000000 ∧ time ≤ l1 ∧ (0 < m → l2 < time) ∧ -1073741824 ≤ r ∧ r + m ≤ 1073741824 ∧
      (∀ W : World, IsClk W b d r true true lo hi → Calls Try.prog 22 #[.pointer (some ⟨b, 0, none⟩), .int .i64 time] W fun e w' => e = .returned (.tuple #[.int .i64 (r + m), .int .i64 0]) ∧ Below W.heap.size W w') ∧
      (∀ W : World, IsClk W b d r true true lo hi → Calls Try.prog 26 #[.pointer (some ⟨b, 0, none⟩), .int .i64 (r + m)] W fun e w' => e = .returned (.tuple #[.agg #[.int .i64 l1, .int .i64 h1], .int .i64 0]) ∧ Below W.heap.size W w') ∧
      (0 < m → ∀ W : World, IsClk W b d r true true lo hi → Calls Try.prog 26 #[.pointer (some ⟨b, 0, none⟩), .int .i64 (r + m - 1)] W fun e w' => e = .returned (.tuple #[.agg #[.int .i64 l2, .int .i64 h2], .int .i64 0]) ∧ Below W.heap.size W w') := by
  obtain ⟨m, s1, s2, s3, s4, s5, s6, s7⟩ := Clk.sure_ ho hd hd' hr ht k
  have c := (sinv_kn ho hd hd' hr k).1
  obtain ⟨i1, i2, i3, i4, i5, i6, i7⟩ := c
  refine ⟨m, Clk.rLo lo hi d m, Clk.rHi hi d m, Clk.rLo lo hi d (m - 1), Clk.rHi hi d (m - 1), s3, s6, fun h0 => (s7 h0).2, i3, s4, fun W hk => ?_, fun W hk => ?_, fun h0 W hk => ?_⟩
  · have := sure_any b d r true lo hi time W hk ⟨i1, i2, i3, i4, i5, i6, i7⟩
    rw [s1, s2] at this
    exact this
  · have := at_yes b d r lo hi (r + m) W hk i5 i6 i7 hd hd' i3 (by omega) s4
    rw [show r + (m : Int) - r = (m : Int) by omega, s5] at this
    exact this
  · have := at_yes b d r lo hi (r + m - 1) W hk i5 i6 i7 hd hd' i3 (by omega) (by omega)
    rw [show r + (m : Int) - 1 - r = (m : Int) - 1 by omega, (s7 h0).1] at this
    exact this
end Go.Proofs.Ytfbkbpoabajgdaa

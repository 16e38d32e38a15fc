/- A pilot: its next event; time passes. -/
import Derived.Test.YtjidchaejicjaaaPlA
namespace Go.Proofs.Ytjidchaejicjaaa
open Go.RowKit
set_option maxHeartbeats 4000000
set_option maxRecDepth 100000
set_option linter.unusedSimpArgs false
set_option linter.unusedVariables false
attribute [local go_sem ↓] Go.wp_at_zero Go.wp_at_succ
theorem run_mx {P : Program} {w : World} (ts : Array TypeId) (t : TypeId) (k k' : IntKind) (x y : Int) : (Builtin.max_ ts t #[.int k x, .int k' y]).run P w = .ok (.int k (max x y)) w := by
  simp [Builtin.max_, Builtin.max2]
  split <;> omega
theorem run_mn {P : Program} {w : World} (ts : Array TypeId) (t : TypeId) (k k' : IntKind) (x y : Int) : (Builtin.min_ ts t #[.int k x, .int k' y]).run P w = .ok (.int k (min x y)) w := by
  simp [Builtin.min_, Builtin.min2]
  split <;> omega
attribute [local go_sem high] run_mn run_mx
theorem ret_iib {a b c d : Int} {x y : Bool} (h : a = b) (g : c = d) (i : x = y) : Ending.returned (.tuple #[.int .i64 a, .int .i64 c, .bool x]) = .returned (.tuple #[.int .i64 b, .int .i64 d, .bool y]) := by rw [h, g, i]
section
variable {w w' : World} {base b c : Nat} {s : Plt.St}
theorem evt_eq {s : Plt.St} {a t : Int} {f : Bool} (h : Plt.evt s = (a, t, f)) : (Plt.evt s).1 = a ∧ (Plt.evt s).2.1 = t ∧ (Plt.evt s).2.2 = f := by rw [h]; exact ⟨rfl, rfl, rfl⟩
theorem event_any (h : IsP w base b c s) (hs : Plt.Inv s) :
    Calls Try.prog 50 #[.pointer (some ⟨b, 0, none⟩)] w fun e w' => e = .returned (.tuple #[.int .i64 (Plt.evt s).1, .int .i64 (Plt.evt s).2.1, .bool (Plt.evt s).2.2]) ∧ Below w.heap.size w w' := by
  have H := Lib.hid h
  have c1 : w.cell? ⟨b, 1, none⟩ = some (.int .i64 s.lost) := blk_cell h.blk 1 rfl
  have c2 : w.cell? ⟨b, 2, none⟩ = some (.int .i64 s.ret) := blk_cell h.blk 2 rfl
  have c3 : w.cell? ⟨b, 3, none⟩ = some (.int .i64 s.desc) := blk_cell h.blk 3 rfl
  have c4 : w.cell? ⟨b, 4, none⟩ = some (.int .i64 s.late) := blk_cell h.blk 4 rfl
  have c6 : w.cell? ⟨b, 6, none⟩ = some (.pointer (some ⟨c, 0, none⟩)) := blk_cell h.blk 6 rfl
  have c7 : w.cell? ⟨b, 7, none⟩ = some (.int .i64 s.st) := blk_cell h.blk 7 rfl
  have c13 : w.cell? ⟨b, 13, none⟩ = some (.int .i64 s.heard) := blk_cell h.blk 13 rfl
  have c14 : w.cell? ⟨b, 14, none⟩ = some (.int .i64 s.since) := blk_cell h.blk 14 rfl
  have c16 : w.cell? ⟨b, 16, none⟩ = some (.int .i64 s.start) := blk_cell h.blk 16 rfl
  have hblt := h.lt.1
  have h1 := hs.heard
  have h2 := hs.since
  have h3 := hs.lost
  have h4 := hs.ret
  have h5 := hs.desc
  have h6 := hs.start
  have h7 := hs.late
  have wl : IntKind.i64.wrap (s.heard + s.lost) = s.heard + s.lost := IntWalk.i64_in _ (by omega)
  have wr : IntKind.i64.wrap (s.heard + s.ret) = s.heard + s.ret := IntWalk.i64_in _ (by omega)
  have wd : IntKind.i64.wrap (s.since + s.desc) = s.since + s.desc := IntWalk.i64_in _ (by omega)
  have wt : IntKind.i64.wrap (s.start + s.late) = s.start + s.late := IntWalk.i64_in _ (by omega)
  have HW := Lib.hid (Plt.wat_bd hs)
  have SU := Lib.hid (fun (W : World) (hW : Ck.IsClk W c s.d s.r true s.cs s.lo s.hi) => Ck.sure_any c s.d s.r s.cs s.lo s.hi s.start W hW hs.clk)
  have AT := Lib.hid (fun (W : World) (x : Int) (hW : Ck.IsClk W c s.d s.r true s.cs s.lo s.hi) => Ck.at_any c s.d s.r s.cs s.lo s.hi x W hW hs.clk)
  have CK := Lib.hid h.clk
  clear h hs
  by_cases e2 : s.st = 2
  · have E := Lib.hid (evt_eq (show Plt.evt s = (s.heard + s.lost, 1, true) by unfold Plt.evt; rw [if_pos e2]))
    rw [e2] at c7
    clear e2
    go_enter Try.func50, Try.ntmps50
    go_wp2_with fail
    go_quiet (fail)
    go_wp2_with fail
    go_returns
    exact ⟨ret_iib E.out.1.symm E.out.2.1.symm E.out.2.2.symm, (by repeat (first | (with_reducible exact Below.refl _ _) | (with_reducible refine Below.drew ?_) | (with_reducible refine below_drewN ?_ _) | ((with_reducible refine Below.alloc ?_ ?_ _); rotate_left; (first | omega | (simp <;> omega)); rotate_right) | ((with_reducible refine Below.setCell ?_ ?_ _); rotate_left; (first | omega | (simp <;> omega)); rotate_right) | (with_reducible assumption) | (refine Below.trans ?_ (Below.mono (by assumption) ?_); rotate_left; (first | omega | (simp <;> omega)); rotate_right)))⟩
  by_cases e4 : s.st = 4
  · have E := Lib.hid (evt_eq (show Plt.evt s = (s.heard + s.lost, 5, true) by unfold Plt.evt; rw [if_neg e2, if_pos e4]))
    rw [e4] at c7
    clear e2 e4
    go_enter Try.func50, Try.ntmps50
    go_wp2_with fail
    go_quiet (fail)
    go_wp2_with fail
    go_returns
    exact ⟨ret_iib E.out.1.symm E.out.2.1.symm E.out.2.2.symm, (by repeat (first | (with_reducible exact Below.refl _ _) | (with_reducible refine Below.drew ?_) | (with_reducible refine below_drewN ?_ _) | ((with_reducible refine Below.alloc ?_ ?_ _); rotate_left; (first | omega | (simp <;> omega)); rotate_right) | ((with_reducible refine Below.setCell ?_ ?_ _); rotate_left; (first | omega | (simp <;> omega)); rotate_right) | (with_reducible assumption) | (refine Below.trans ?_ (Below.mono (by assumption) ?_); rotate_left; (first | omega | (simp <;> omega)); rotate_right)))⟩
  by_cases e5 : s.st = 5
  · have E := Lib.hid (evt_eq (show Plt.evt s = (max (s.heard + s.ret) s.since, 6, true) by unfold Plt.evt; rw [if_neg e2, if_neg e4, if_pos e5]))
    rw [e5] at c7
    clear e2 e4 e5
    go_enter Try.func50, Try.ntmps50
    go_wp2_with fail
    go_quiet (fail)
    go_wp2_with fail
    go_quiet (fail)
    go_wp2_with fail
    go_returns
    exact ⟨ret_iib E.out.1.symm E.out.2.1.symm E.out.2.2.symm, (by repeat (first | (with_reducible exact Below.refl _ _) | (with_reducible refine Below.drew ?_) | (with_reducible refine below_drewN ?_ _) | ((with_reducible refine Below.alloc ?_ ?_ _); rotate_left; (first | omega | (simp <;> omega)); rotate_right) | ((with_reducible refine Below.setCell ?_ ?_ _); rotate_left; (first | omega | (simp <;> omega)); rotate_right) | (with_reducible assumption) | (refine Below.trans ?_ (Below.mono (by assumption) ?_); rotate_left; (first | omega | (simp <;> omega)); rotate_right)))⟩
  by_cases e6 : s.st = 6
  · have E := Lib.hid (evt_eq (show Plt.evt s = (s.since + s.desc, 7, true) by unfold Plt.evt; rw [if_neg e2, if_neg e4, if_neg e5, if_pos e6]))
    rw [e6] at c7
    clear e2 e4 e5 e6
    go_enter Try.func50, Try.ntmps50
    go_wp2_with fail
    go_quiet (fail)
    go_wp2_with fail
    go_quiet (fail)
    go_wp2_with fail
    go_returns
    exact ⟨ret_iib E.out.1.symm E.out.2.1.symm E.out.2.2.symm, (by repeat (first | (with_reducible exact Below.refl _ _) | (with_reducible refine Below.drew ?_) | (with_reducible refine below_drewN ?_ _) | ((with_reducible refine Below.alloc ?_ ?_ _); rotate_left; (first | omega | (simp <;> omega)); rotate_right) | ((with_reducible refine Below.setCell ?_ ?_ _); rotate_left; (first | omega | (simp <;> omega)); rotate_right) | (with_reducible assumption) | (refine Below.trans ?_ (Below.mono (by assumption) ?_); rotate_left; (first | omega | (simp <;> omega)); rotate_right)))⟩
  by_cases e3 : s.st = 3
  · have EW := Lib.hid (show Plt.evt s = Plt.wev s by unfold Plt.evt; rw [if_neg e2, if_neg e4, if_neg e5, if_neg e6, if_pos e3])
    rw [e3] at c7
    clear e2 e3 e4 e5 e6
    have hm : max (Ck.Clk.suV s.d s.r s.cs s.lo s.start) s.since = Plt.wat s := rfl
    obtain ⟨u, hu⟩ : ∃ u, u = Ck.Clk.suE s.d s.r s.cs s.lo s.start := ⟨_, rfl⟩
    obtain ⟨x, hx⟩ : ∃ x, x = Ck.Clk.suV s.d s.r s.cs s.lo s.start := ⟨_, rfl⟩
    obtain ⟨y, hy⟩ : ∃ y, y = Plt.wat s := ⟨_, rfl⟩
    rw [← hx, ← hy] at hm
    by_cases hA : u ≠ 0 ∨ s.heard + s.lost ≤ y
    · have E := Lib.hid (evt_eq (show Plt.evt s = (s.heard + s.lost, 1, true) by rw [EW.out]; unfold Plt.wev; rw [if_pos (by rw [← hu, ← hy]; exact hA)]))
      rw [← hu, ← hx] at SU
      clear EW AT hu hx hy HW
      by_cases hu0 : u = 0
      · have z1 : decide (s.heard + s.lost ≤ y) = true := decide_eq_true (by omega)
        subst hu0
        clear hA
        go_enter Try.func50, Try.ntmps50
        go_wp2_with fail
        go_quiet (fail)
        go_wp2_with fail
        go_region_held3 (fun w' => w'.cell? ⟨b, 6, none⟩ = some (.pointer (some ⟨c, 0, none⟩)) ∧ w'.cell? ⟨b, 16, none⟩ = some (.int .i64 s.start)) (first | (refine ⟨?_, ?_⟩ <;> simp [go_sem, *]; done) | go_keep) (first | (go_at_call 70; refine (SU.out _ (by first | exact CK.out | exact Ck.clk_drewN CK.out _ | exact CK.out)).mono ?_; rintro e w4 ⟨rfl, hb4⟩; have hz4 := hb4.size; (try simp at hz4); have H4 := Lib.hid (show IsP w4 base b c s by first | exact H.out.below hb4 (Nat.le_refl _) | exact (H.out.drewN _).below hb4 (Nat.le_refl _)); have e6 : w4.cell? ⟨b, 6, none⟩ = some (.pointer (some ⟨c, 0, none⟩)) := blk_cell H4.out.blk 6 rfl; have e16 : w4.cell? ⟨b, 16, none⟩ = some (.int .i64 s.start) := blk_cell H4.out.blk 16 rfl; have e14 : w4.cell? ⟨b, 14, none⟩ = some (.int .i64 s.since) := blk_cell H4.out.blk 14 rfl; have HB4 := Lib.hid (show Below w.heap.size w w4 from (by repeat (first | (with_reducible exact Below.refl _ _) | (with_reducible refine Below.drew ?_) | (with_reducible refine below_drewN ?_ _) | ((with_reducible refine Below.alloc ?_ ?_ _); rotate_left; (first | omega | (simp <;> omega)); rotate_right) | ((with_reducible refine Below.setCell ?_ ?_ _); rotate_left; (first | omega | (simp <;> omega)); rotate_right) | (with_reducible assumption) | (refine Below.trans ?_ (Below.mono (by assumption) ?_); rotate_left; (first | omega | (simp <;> omega)); rotate_right)))); clear hb4))
        go_wp2_with fail
        go_returns
        exact ⟨ret_iib E.out.1.symm E.out.2.1.symm E.out.2.2.symm, HB4.out⟩
      · have z1 : (u == 0) = false := by rw [beq_eq_false_iff_ne]; exact hu0
        have z2 : (u != 0) = true := by simpa using hu0
        clear hA hu0
        go_enter Try.func50, Try.ntmps50
        go_wp2_with fail
        go_quiet (fail)
        go_wp2_with fail
        go_region_held3 (fun w' => w'.cell? ⟨b, 6, none⟩ = some (.pointer (some ⟨c, 0, none⟩)) ∧ w'.cell? ⟨b, 16, none⟩ = some (.int .i64 s.start)) (first | (refine ⟨?_, ?_⟩ <;> simp [go_sem, *]; done) | go_keep) (first | (go_at_call 70; refine (SU.out _ (by first | exact CK.out | exact Ck.clk_drewN CK.out _ | exact CK.out)).mono ?_; rintro e w4 ⟨rfl, hb4⟩; have hz4 := hb4.size; (try simp at hz4); have H4 := Lib.hid (show IsP w4 base b c s by first | exact H.out.below hb4 (Nat.le_refl _) | exact (H.out.drewN _).below hb4 (Nat.le_refl _)); have e6 : w4.cell? ⟨b, 6, none⟩ = some (.pointer (some ⟨c, 0, none⟩)) := blk_cell H4.out.blk 6 rfl; have e16 : w4.cell? ⟨b, 16, none⟩ = some (.int .i64 s.start) := blk_cell H4.out.blk 16 rfl; have e14 : w4.cell? ⟨b, 14, none⟩ = some (.int .i64 s.since) := blk_cell H4.out.blk 14 rfl; have HB4 := Lib.hid (show Below w.heap.size w w4 from (by repeat (first | (with_reducible exact Below.refl _ _) | (with_reducible refine Below.drew ?_) | (with_reducible refine below_drewN ?_ _) | ((with_reducible refine Below.alloc ?_ ?_ _); rotate_left; (first | omega | (simp <;> omega)); rotate_right) | ((with_reducible refine Below.setCell ?_ ?_ _); rotate_left; (first | omega | (simp <;> omega)); rotate_right) | (with_reducible assumption) | (refine Below.trans ?_ (Below.mono (by assumption) ?_); rotate_left; (first | omega | (simp <;> omega)); rotate_right)))); clear hb4))
        go_wp2_with fail
        go_returns
        exact ⟨ret_iib E.out.1.symm E.out.2.1.symm E.out.2.2.symm, HB4.out⟩
    · have hn0 : u = 0 := by omega
      have hn1 : ¬ (s.heard + s.lost ≤ y) := fun h => hA (.inr h)
      have hA' := Lib.hid hA
      have EW2 := Lib.hid (show Plt.evt s = if Ck.aE s.d s.r s.cs s.hi (Plt.wat s) ≠ 0 ∨ s.start + s.late < Ck.aHi s.d s.r s.cs s.hi (Plt.wat s) then (Plt.wat s, 1, true) else (Plt.wat s, 4, true) by rw [EW.out]; unfold Plt.wev; rw [if_neg (by rw [← hu, ← hy]; exact hA)])
      rw [← hy] at EW2
      have AT := Lib.hid (fun (W : World) (hW : Ck.IsClk W c s.d s.r true s.cs s.lo s.hi) => AT.out W y hW)
      rw [← hu, ← hx, hn0] at SU
      have z1 : decide (s.heard + s.lost ≤ y) = false := decide_eq_false hn1
      clear EW hA hu hx hy HW hA' hn0 hn1
      obtain ⟨v, hv⟩ : ∃ v, v = Ck.aE s.d s.r s.cs s.hi y := ⟨_, rfl⟩
      obtain ⟨g, hg⟩ : ∃ g, g = Ck.aHi s.d s.r s.cs s.hi y := ⟨_, rfl⟩
      rw [← hv, ← hg] at AT EW2
      clear hv hg
      by_cases hv0 : v = 0
      · subst hv0
        by_cases hg0 : s.start + s.late < g
        · have E := Lib.hid (evt_eq (show Plt.evt s = (y, 1, true) by rw [EW2.out, if_pos (.inr hg0)]))
          have z2 : decide (s.start + s.late < g) = true := decide_eq_true hg0
          clear EW2 hg0
          go_enter Try.func50, Try.ntmps50
          go_wp2_with fail
          go_quiet (fail)
          go_wp2_with fail
          go_region_held3 (fun w' => w'.cell? ⟨b, 6, none⟩ = some (.pointer (some ⟨c, 0, none⟩)) ∧ w'.cell? ⟨b, 16, none⟩ = some (.int .i64 s.start)) (first | (refine ⟨?_, ?_⟩ <;> simp [go_sem, *]; done) | go_keep) (first | (go_at_call 70; refine (SU.out _ (by first | exact CK.out | exact Ck.clk_drewN CK.out _ | exact CK.out)).mono ?_; rintro e w4 ⟨rfl, hb4⟩; have hz4 := hb4.size; (try simp at hz4); have H4 := Lib.hid (show IsP w4 base b c s by first | exact H.out.below hb4 (Nat.le_refl _) | exact (H.out.drewN _).below hb4 (Nat.le_refl _)); have e6 : w4.cell? ⟨b, 6, none⟩ = some (.pointer (some ⟨c, 0, none⟩)) := blk_cell H4.out.blk 6 rfl; have e16 : w4.cell? ⟨b, 16, none⟩ = some (.int .i64 s.start) := blk_cell H4.out.blk 16 rfl; have e14 : w4.cell? ⟨b, 14, none⟩ = some (.int .i64 s.since) := blk_cell H4.out.blk 14 rfl; have HB4 := Lib.hid (show Below w.heap.size w w4 from (by repeat (first | (with_reducible exact Below.refl _ _) | (with_reducible refine Below.drew ?_) | (with_reducible refine below_drewN ?_ _) | ((with_reducible refine Below.alloc ?_ ?_ _); rotate_left; (first | omega | (simp <;> omega)); rotate_right) | ((with_reducible refine Below.setCell ?_ ?_ _); rotate_left; (first | omega | (simp <;> omega)); rotate_right) | (with_reducible assumption) | (refine Below.trans ?_ (Below.mono (by assumption) ?_); rotate_left; (first | omega | (simp <;> omega)); rotate_right)))); clear hb4))
          go_wp2_with fail
          refine (AT.out _ H4.out.clk).mono ?_; rintro e w5 ⟨rfl, hb5⟩; have H5 := Lib.hid (H4.out.below hb5 (Nat.le_refl _)); have g16 : w5.cell? ⟨b, 16, none⟩ = some (.int .i64 s.start) := blk_cell H5.out.blk 16 rfl; have g4 : w5.cell? ⟨b, 4, none⟩ = some (.int .i64 s.late) := blk_cell H5.out.blk 4 rfl; have hb5' : b ≠ w5.heap.size := (by have := hb5.size; omega); have HB5 := Lib.hid (show Below w.heap.size w w5 from HB4.out.trans (hb5.mono hz4)); clear hb5 hz4 e6 e16 e14
          go_wp2_with fail
          generalize hV : World.alloc _ _ = V; have kV : V.heap[w5.heap.size]? = some (.cells #[.int .i64 (Ck.aLo s.d s.r s.cs s.lo s.hi y), .int .i64 g] 47 (0, 0)) := (by rw [← hV]; exact heap_new _ _); have HV := (show IsP V base b c s by rw [← hV]; exact H5.out.alloc _); have q1 : V.cell? ⟨w5.heap.size, 1, none⟩ = some (.int .i64 g) := blk_cell kV 1 rfl; have v16 : V.cell? ⟨b, 16, none⟩ = some (.int .i64 s.start) := blk_cell HV.blk 16 rfl; have v4 : V.cell? ⟨b, 4, none⟩ = some (.int .i64 s.late) := blk_cell HV.blk 4 rfl; have HBV : Below w.heap.size w V := (by rw [← hV]; exact HB5.out.alloc (by have := HB5.out.size; omega) _); clear hV HV kV
          go_quiet (fail)
          go_wp2_with fail
          go_returns
          exact ⟨ret_iib E.out.1.symm E.out.2.1.symm E.out.2.2.symm, (by repeat (first | (with_reducible exact Below.refl _ _) | (with_reducible refine Below.drew ?_) | (with_reducible refine below_drewN ?_ _) | ((with_reducible refine Below.alloc ?_ ?_ _); rotate_left; (first | omega | (simp <;> omega)); rotate_right) | ((with_reducible refine Below.setCell ?_ ?_ _); rotate_left; (first | omega | (simp <;> omega)); rotate_right) | (with_reducible assumption) | (refine Below.trans ?_ (Below.mono (by assumption) ?_); rotate_left; (first | omega | (simp <;> omega)); rotate_right)))⟩
        · have E := Lib.hid (evt_eq (show Plt.evt s = (y, 4, true) by rw [EW2.out, if_neg (fun h => by rcases h with h | h; exact h rfl; exact hg0 h)]))
          have z2 : decide (s.start + s.late < g) = false := decide_eq_false hg0
          clear EW2 hg0
          go_enter Try.func50, Try.ntmps50
          go_wp2_with fail
          go_quiet (fail)
          go_wp2_with fail
          go_region_held3 (fun w' => w'.cell? ⟨b, 6, none⟩ = some (.pointer (some ⟨c, 0, none⟩)) ∧ w'.cell? ⟨b, 16, none⟩ = some (.int .i64 s.start)) (first | (refine ⟨?_, ?_⟩ <;> simp [go_sem, *]; done) | go_keep) (first | (go_at_call 70; refine (SU.out _ (by first | exact CK.out | exact Ck.clk_drewN CK.out _ | exact CK.out)).mono ?_; rintro e w4 ⟨rfl, hb4⟩; have hz4 := hb4.size; (try simp at hz4); have H4 := Lib.hid (show IsP w4 base b c s by first | exact H.out.below hb4 (Nat.le_refl _) | exact (H.out.drewN _).below hb4 (Nat.le_refl _)); have e6 : w4.cell? ⟨b, 6, none⟩ = some (.pointer (some ⟨c, 0, none⟩)) := blk_cell H4.out.blk 6 rfl; have e16 : w4.cell? ⟨b, 16, none⟩ = some (.int .i64 s.start) := blk_cell H4.out.blk 16 rfl; have e14 : w4.cell? ⟨b, 14, none⟩ = some (.int .i64 s.since) := blk_cell H4.out.blk 14 rfl; have HB4 := Lib.hid (show Below w.heap.size w w4 from (by repeat (first | (with_reducible exact Below.refl _ _) | (with_reducible refine Below.drew ?_) | (with_reducible refine below_drewN ?_ _) | ((with_reducible refine Below.alloc ?_ ?_ _); rotate_left; (first | omega | (simp <;> omega)); rotate_right) | ((with_reducible refine Below.setCell ?_ ?_ _); rotate_left; (first | omega | (simp <;> omega)); rotate_right) | (with_reducible assumption) | (refine Below.trans ?_ (Below.mono (by assumption) ?_); rotate_left; (first | omega | (simp <;> omega)); rotate_right)))); clear hb4))
          go_wp2_with fail
          refine (AT.out _ H4.out.clk).mono ?_; rintro e w5 ⟨rfl, hb5⟩; have H5 := Lib.hid (H4.out.below hb5 (Nat.le_refl _)); have g16 : w5.cell? ⟨b, 16, none⟩ = some (.int .i64 s.start) := blk_cell H5.out.blk 16 rfl; have g4 : w5.cell? ⟨b, 4, none⟩ = some (.int .i64 s.late) := blk_cell H5.out.blk 4 rfl; have hb5' : b ≠ w5.heap.size := (by have := hb5.size; omega); have HB5 := Lib.hid (show Below w.heap.size w w5 from HB4.out.trans (hb5.mono hz4)); clear hb5 hz4 e6 e16 e14
          go_wp2_with fail
          generalize hV : World.alloc _ _ = V; have kV : V.heap[w5.heap.size]? = some (.cells #[.int .i64 (Ck.aLo s.d s.r s.cs s.lo s.hi y), .int .i64 g] 47 (0, 0)) := (by rw [← hV]; exact heap_new _ _); have HV := (show IsP V base b c s by rw [← hV]; exact H5.out.alloc _); have q1 : V.cell? ⟨w5.heap.size, 1, none⟩ = some (.int .i64 g) := blk_cell kV 1 rfl; have v16 : V.cell? ⟨b, 16, none⟩ = some (.int .i64 s.start) := blk_cell HV.blk 16 rfl; have v4 : V.cell? ⟨b, 4, none⟩ = some (.int .i64 s.late) := blk_cell HV.blk 4 rfl; have HBV : Below w.heap.size w V := (by rw [← hV]; exact HB5.out.alloc (by have := HB5.out.size; omega) _); clear hV HV kV
          go_quiet (fail)
          go_wp2_with fail
          go_returns
          exact ⟨ret_iib E.out.1.symm E.out.2.1.symm E.out.2.2.symm, (by repeat (first | (with_reducible exact Below.refl _ _) | (with_reducible refine Below.drew ?_) | (with_reducible refine below_drewN ?_ _) | ((with_reducible refine Below.alloc ?_ ?_ _); rotate_left; (first | omega | (simp <;> omega)); rotate_right) | ((with_reducible refine Below.setCell ?_ ?_ _); rotate_left; (first | omega | (simp <;> omega)); rotate_right) | (with_reducible assumption) | (refine Below.trans ?_ (Below.mono (by assumption) ?_); rotate_left; (first | omega | (simp <;> omega)); rotate_right)))⟩
      · have E := Lib.hid (evt_eq (show Plt.evt s = (y, 1, true) by rw [EW2.out, if_pos (.inl hv0)]))
        have z2 : (v == 0) = false := by rw [beq_eq_false_iff_ne]; exact hv0
        have z3 : (v != 0) = true := by simpa using hv0
        clear EW2 hv0
        go_enter Try.func50, Try.ntmps50
        go_wp2_with fail
        go_quiet (fail)
        go_wp2_with fail
        go_region_held3 (fun w' => w'.cell? ⟨b, 6, none⟩ = some (.pointer (some ⟨c, 0, none⟩)) ∧ w'.cell? ⟨b, 16, none⟩ = some (.int .i64 s.start)) (first | (refine ⟨?_, ?_⟩ <;> simp [go_sem, *]; done) | go_keep) (first | (go_at_call 70; refine (SU.out _ (by first | exact CK.out | exact Ck.clk_drewN CK.out _ | exact CK.out)).mono ?_; rintro e w4 ⟨rfl, hb4⟩; have hz4 := hb4.size; (try simp at hz4); have H4 := Lib.hid (show IsP w4 base b c s by first | exact H.out.below hb4 (Nat.le_refl _) | exact (H.out.drewN _).below hb4 (Nat.le_refl _)); have e6 : w4.cell? ⟨b, 6, none⟩ = some (.pointer (some ⟨c, 0, none⟩)) := blk_cell H4.out.blk 6 rfl; have e16 : w4.cell? ⟨b, 16, none⟩ = some (.int .i64 s.start) := blk_cell H4.out.blk 16 rfl; have e14 : w4.cell? ⟨b, 14, none⟩ = some (.int .i64 s.since) := blk_cell H4.out.blk 14 rfl; have HB4 := Lib.hid (show Below w.heap.size w w4 from (by repeat (first | (with_reducible exact Below.refl _ _) | (with_reducible refine Below.drew ?_) | (with_reducible refine below_drewN ?_ _) | ((with_reducible refine Below.alloc ?_ ?_ _); rotate_left; (first | omega | (simp <;> omega)); rotate_right) | ((with_reducible refine Below.setCell ?_ ?_ _); rotate_left; (first | omega | (simp <;> omega)); rotate_right) | (with_reducible assumption) | (refine Below.trans ?_ (Below.mono (by assumption) ?_); rotate_left; (first | omega | (simp <;> omega)); rotate_right)))); clear hb4))
        go_wp2_with fail
        refine (AT.out _ H4.out.clk).mono ?_; rintro e w5 ⟨rfl, hb5⟩; have H5 := Lib.hid (H4.out.below hb5 (Nat.le_refl _)); have g16 : w5.cell? ⟨b, 16, none⟩ = some (.int .i64 s.start) := blk_cell H5.out.blk 16 rfl; have g4 : w5.cell? ⟨b, 4, none⟩ = some (.int .i64 s.late) := blk_cell H5.out.blk 4 rfl; have hb5' : b ≠ w5.heap.size := (by have := hb5.size; omega); have HB5 := Lib.hid (show Below w.heap.size w w5 from HB4.out.trans (hb5.mono hz4)); clear hb5 hz4 e6 e16 e14
        go_wp2_with fail
        generalize hV : World.alloc _ _ = V; have kV : V.heap[w5.heap.size]? = some (.cells #[.int .i64 (Ck.aLo s.d s.r s.cs s.lo s.hi y), .int .i64 g] 47 (0, 0)) := (by rw [← hV]; exact heap_new _ _); have HV := (show IsP V base b c s by rw [← hV]; exact H5.out.alloc _); have q1 : V.cell? ⟨w5.heap.size, 1, none⟩ = some (.int .i64 g) := blk_cell kV 1 rfl; have v16 : V.cell? ⟨b, 16, none⟩ = some (.int .i64 s.start) := blk_cell HV.blk 16 rfl; have v4 : V.cell? ⟨b, 4, none⟩ = some (.int .i64 s.late) := blk_cell HV.blk 4 rfl; have HBV : Below w.heap.size w V := (by rw [← hV]; exact HB5.out.alloc (by have := HB5.out.size; omega) _); clear hV HV kV
        go_quiet (fail)
        go_wp2_with fail
        go_returns
        exact ⟨ret_iib E.out.1.symm E.out.2.1.symm E.out.2.2.symm, (by repeat (first | (with_reducible exact Below.refl _ _) | (with_reducible refine Below.drew ?_) | (with_reducible refine below_drewN ?_ _) | ((with_reducible refine Below.alloc ?_ ?_ _); rotate_left; (first | omega | (simp <;> omega)); rotate_right) | ((with_reducible refine Below.setCell ?_ ?_ _); rotate_left; (first | omega | (simp <;> omega)); rotate_right) | (with_reducible assumption) | (refine Below.trans ?_ (Below.mono (by assumption) ?_); rotate_left; (first | omega | (simp <;> omega)); rotate_right)))⟩
  · have E := Lib.hid (evt_eq (show Plt.evt s = (0, 0, false) by unfold Plt.evt; rw [if_neg e2, if_neg e4, if_neg e5, if_neg e6, if_neg e3]))
    have z2 : (s.st == 2) = false := by rw [beq_eq_false_iff_ne]; exact e2
    have z3 : (s.st == 3) = false := by rw [beq_eq_false_iff_ne]; exact e3
    have z4 : (s.st == 4) = false := by rw [beq_eq_false_iff_ne]; exact e4
    have z5 : (s.st == 5) = false := by rw [beq_eq_false_iff_ne]; exact e5
    have z6 : (s.st == 6) = false := by rw [beq_eq_false_iff_ne]; exact e6
    clear e2 e3 e4 e5 e6
    go_enter Try.func50, Try.ntmps50
    go_wp2_with fail
    go_quiet (fail)
    go_wp2_with fail
    go_returns
    exact ⟨ret_iib E.out.1.symm E.out.2.1.symm E.out.2.2.symm, (by repeat (first | (with_reducible exact Below.refl _ _) | (with_reducible refine Below.drew ?_) | (with_reducible refine below_drewN ?_ _) | ((with_reducible refine Below.alloc ?_ ?_ _); rotate_left; (first | omega | (simp <;> omega)); rotate_right) | ((with_reducible refine Below.setCell ?_ ?_ _); rotate_left; (first | omega | (simp <;> omega)); rotate_right) | (with_reducible assumption) | (refine Below.trans ?_ (Below.mono (by assumption) ?_); rotate_left; (first | omega | (simp <;> omega)); rotate_right)))⟩
end
end Go.Proofs.Ytjidchaejicjaaa

/- Tick, New, Copy. -/
import Derived.Test.YtiidkmnagfhgiaaStH
namespace Go.Proofs.Ytiidkmnagfhgiaa
open Go.RowKit
set_option maxHeartbeats 8000000
set_option maxRecDepth 100000
set_option linter.unusedSimpArgs false
set_option linter.unusedVariables false
attribute [local go_sem ↓] Go.wp_at_zero Go.wp_at_succ
section
variable {w w' : World} {base b mc rc : Nat} {MA RA : Option Addr} {s : Stn.St}
/-- a store of a number into the station's own cells -/
theorem IsSt.set (h : IsSt w base b MA mc RA rc s) (o : Nat) (u : Value) (s' : Stn.St) (hl : (stl s MA mc RA rc).set o u = stl s' MA mc RA rc) (hm : Stn.miss s' = Stn.miss s) (hn : s'.n = s.n) (hr : s'.seen = s.seen) : IsSt (w.setCell ⟨b, o, Option.none⟩ u) base b MA mc RA rc s' := by
  refine ⟨?_, ?_, ?_, h.ge⟩
  · have := blk_set h.blk o u
    rw [List.setIfInBounds_toArray, hl] at this
    exact this
  · rw [hm]; exact h.mrow.far (fun g hg => h.mne hg) _
  · rw [hn, hr]; exact h.rrow.far (fun g hg => h.rne hg) _
theorem miss_now (s : Stn.St) (now : Int) : Stn.miss { s with now := now } = Stn.miss s := rfl
theorem tick_no (h : IsSt w base b MA mc RA rc s) (hs : Stn.Inv s) (now : Int) (ht : Stn.timeE s now ≠ 0) :
    Calls Try.prog 26 #[.pointer (some ⟨b, 0, none⟩), .int .i64 now] w (StPost base b MA RA rc s [] 3 w) := by
  have N := Lib.hid (h.none hs)
  have CH := Lib.hid (check_any h now)
  rw [(timeE_cases s now).resolve_left ht] at CH
  have H := Lib.hid h
  clear h hs ht
  go_enter Try.func26, Try.ntmps26
  go_wp2_with fail
  refine N.out.mono ?_
  rintro e w' ⟨rfl, rfl⟩
  go_wp2_with fail
  refine CH.out.mono ?_
  rintro e w' ⟨rfl, rfl⟩
  go_wp2_with fail
  go_ret2
  exact StPost.same H.out (Below.refl _ _) _
theorem tick_any (h : IsSt w base b MA mc RA rc s) (hs : Stn.Inv s) (now : Int) (hbase : base ≤ w.heap.size) :
    Calls Try.prog 26 #[.pointer (some ⟨b, 0, none⟩), .int .i64 now] w (StPost base b MA RA rc (Stn.tick s now) (Stn.tickF s now) (Stn.timeE s now) w) := by
  by_cases ht : Stn.timeE s now = 0
  · have N := Lib.hid (h.none hs)
    have CH := Lib.hid (check_any h now)
    rw [ht] at CH
    obtain ⟨hn1, hn2⟩ := Stn.timeE_ok ht
    have hb1 := hs.sent
    have hb2 := hs.again
    have hb3 := hs.now
    have h3 : IsSt (w.setCell ⟨b, 3, none⟩ (.int .i64 now)) base b MA mc RA rc { s with now := now } := h.set 3 _ _ rfl rfl rfl rfl
    have hi3 := Stn.inv_now hs ht
    have f3 := blk_free h.blk 3
    have c3 : w.cell? ⟨b, 3, none⟩ = some (.int .i64 s.now) := blk_cell h.blk 3 rfl
    have c1 : w.cell? ⟨b, 1, none⟩ = some (.int .i64 s.again) := blk_cell h.blk 1 rfl
    have c5 : w.cell? ⟨b, 5, none⟩ = some (.int .i64 s.sent) := blk_cell h.blk 5 rfl
    have f5 := blk_free h.blk 5
    have c9 : w.cell? ⟨b, 9, none⟩ = some (.slice MA (Stn.miss s).length mc) := blk_cell h.blk 9 rfl
    have hb := h.lt
    have HI3 := Lib.hid hi3
    have H3 := Lib.hid h3
    have hk3 : Keeps (Three b MA RA) w (w.setCell ⟨b, 3, none⟩ (.int .i64 now)) := (Keeps.refl _ _).setCell (.inl (.inl rfl)) _
    have HK3 := Lib.hid hk3
    rw [ht]
    by_cases hm : Stn.miss s = []
    · have E1 : Stn.tickYes s now = false := by unfold Stn.tickYes; rw [decide_eq_false (by simp [hm])]; rfl
      have E2 := Lib.hid (show Stn.tick s now = { s with now := now } by unfold Stn.tick; rw [if_pos ht, E1]; rfl)
      have E3 := Lib.hid (show Stn.tickF s now = [] by unfold Stn.tickF; rw [E1]; simp)
      rw [hm] at c9
      clear h hs ht h3 hi3 hm E1 hk3
      go_enter Try.func26, Try.ntmps26
      go_wp2_with fail
      refine N.out.mono ?_
      rintro e w' ⟨rfl, rfl⟩
      go_wp2_with fail
      refine CH.out.mono ?_
      rintro e w' ⟨rfl, rfl⟩
      go_wp2_with fail
      go_quiet (fail)
      go_wp2_with fail
      go_ret2
      rw [E2.out, E3.out]
      exact ⟨_, MA, mc, rfl, H3.out.drewN _, HK3.out.drewN _, Rof.nil _ _, .inl rfl⟩
    · have hl : 0 < (Stn.miss s).length := List.length_pos_iff.2 hm
      have z : (((Stn.miss s).length : Int) == 0) = false := by rw [beq_eq_false_iff_ne]; omega
      have W1 : IntKind.i64.wrap (now - s.sent) = now - s.sent := IntWalk.i64_in _ (by omega)
      by_cases ha : s.sent + s.again ≤ now
      · have E1 : Stn.tickYes s now = true := by unfold Stn.tickYes; rw [decide_eq_true hm, decide_eq_true ha]; rfl
        have E2 := Lib.hid (show Stn.tick s now = { s with now := now, sent := now } by unfold Stn.tick; rw [if_pos ht, E1]; rfl)
        have E3 := Lib.hid (show Stn.tickF s now = Stn.frames { s with now := now, sent := now } by unfold Stn.tickF; rw [if_pos ⟨ht, E1⟩, E2.out])
        have hc0 : s.cmd ≠ 0 := fun e => hm (by unfold Stn.miss; rw [if_pos e])
        have h5 : IsSt ((w.setCell ⟨b, 3, none⟩ (.int .i64 now)).setCell ⟨b, 5, none⟩ (.int .i64 now)) base b MA mc RA rc { s with now := now, sent := now } := h3.set 5 _ _ rfl rfl rfl rfl
        have hi5 : Stn.Inv { s with now := now, sent := now } := by
          have := Stn.inv_tick (now := now) hs
          rw [E2.out] at this
          exact this
        have H5 := Lib.hid h5
        have FR := Lib.hid (fun q => frames_any (h5.drewN q) hi5 hc0)
        have hk5 : Keeps (Three b MA RA) w ((w.setCell ⟨b, 3, none⟩ (.int .i64 now)).setCell ⟨b, 5, none⟩ (.int .i64 now)) := hk3.setCell (.inl (.inl rfl)) _
        have HK5 := Lib.hid hk5
        have zz : decide (now - s.sent < s.again) = false := by rw [decide_eq_false_iff_not]; omega
        clear h hs ht h3 hi3 hm E1 hk3 hk5 h5 hi5 ha hc0 hl
        go_enter Try.func26, Try.ntmps26
        go_wp2_with fail
        refine N.out.mono ?_
        rintro e w' ⟨rfl, rfl⟩
        go_wp2_with fail
        refine CH.out.mono ?_
        rintro e w' ⟨rfl, rfl⟩
        go_wp2_with fail
        go_quiet (fail)
        go_wp2_with fail
        refine (FR.out _).mono ?_
        rintro e w6 ⟨v, rfl, hR, hB6⟩
        have HR := Lib.hid hR
        have HB6 := Lib.hid hB6
        clear hR hB6
        go_wp2_with fail
        go_ret2
        rw [E2.out, E3.out]
        exact ⟨v, MA, mc, rfl, (H5.out.drewN _).below HB6.out (Nat.le_refl _), (HK5.out.drewN _).trans (Keeps.of_below (S := fun _ => False) HB6.out) (fun _ _ h => h.elim), HR.out.more (by simp [World.setCell]), .inl rfl⟩
      · have E1 : Stn.tickYes s now = false := by unfold Stn.tickYes; rw [decide_eq_false ha]; simp
        have E2 := Lib.hid (show Stn.tick s now = { s with now := now } by unfold Stn.tick; rw [if_pos ht, E1]; rfl)
        have E3 := Lib.hid (show Stn.tickF s now = [] by unfold Stn.tickF; rw [E1]; simp)
        have zz : decide (now - s.sent < s.again) = true := by rw [decide_eq_true_iff]; omega
        clear h hs ht h3 hi3 hm E1 hk3 ha hl
        go_enter Try.func26, Try.ntmps26
        go_wp2_with fail
        refine N.out.mono ?_
        rintro e w' ⟨rfl, rfl⟩
        go_wp2_with fail
        refine CH.out.mono ?_
        rintro e w' ⟨rfl, rfl⟩
        go_wp2_with fail
        go_quiet (fail)
        go_wp2_with fail
        go_ret2
        rw [E2.out, E3.out]
        exact ⟨_, MA, mc, rfl, H3.out.drewN _, HK3.out.drewN _, Rof.nil _ _, .inl rfl⟩
  · have E2 : Stn.tick s now = s := by unfold Stn.tick; rw [if_neg ht]
    have E3 : Stn.tickF s now = [] := by unfold Stn.tickF; rw [if_neg (fun h => ht h.1)]
    rw [E2, E3, (timeE_cases s now).resolve_left ht]
    exact tick_no h hs now ht
end
theorem snew_no (n again : Int) (w : World) (h : Stn.newE n again ≠ 0) : Calls Try.prog 18 #[.int .i64 n, .int .i64 again] w fun e w' => e = .returned (.tuple #[.pointer none, .int .i64 2]) ∧ w = w' := by
  have hh : ¬ (1 ≤ n ∧ n ≤ 64 ∧ 1 ≤ again ∧ again ≤ 60000) := fun hh => h (by unfold Stn.newE; rw [if_pos hh])
  clear h
  by_cases h1 : n < 1
  · clear hh
    go_enter Try.func18, Try.ntmps18
    go_wp2_with fail
    go_ret2
    exact ⟨rfl, rfl⟩
  by_cases h2 : 64 < n
  · clear hh
    go_enter Try.func18, Try.ntmps18
    go_wp2_with fail
    go_ret2
    exact ⟨rfl, rfl⟩
  by_cases h3 : again < 1
  · clear hh
    go_enter Try.func18, Try.ntmps18
    go_wp2_with fail
    go_ret2
    exact ⟨rfl, rfl⟩
  have h4 : 60000 < again := by omega
  clear hh
  go_enter Try.func18, Try.ntmps18
  go_wp2_with fail
  go_ret2
  exact ⟨rfl, rfl⟩
theorem made_reps (n : Nat) : (madeCells #[.bool false, .int .i64 0, .int .i64 0] (n * 3)).toList = repcs (List.replicate n (false, 0, 0)) := by
  apply List.ext_getElem?
  intro i
  by_cases hi : i < n * 3
  · have e := repcs_at (List.replicate n (false, 0, 0)) (i / 3) (i % 3) (by rw [List.length_replicate]; omega) (by omega)
    rw [show i / 3 * 3 + i % 3 = i by omega] at e
    rw [e]
    have h3 : i % 3 = 0 ∨ i % 3 = 1 ∨ i % 3 = 2 := by omega
    simp only [madeCells, Array.toList_map, Array.toList_range, List.getElem?_map, List.getElem?_range hi, Option.map_some, List.getElem_replicate]
    rcases h3 with h | h | h <;> rw [show (#[Value.bool false, Value.int .i64 0, Value.int .i64 0] : Array Value).size = 3 from rfl, h] <;> rfl
  · rw [List.getElem?_eq_none, List.getElem?_eq_none]
    · rw [length_repcs, List.length_replicate]; omega
    · rw [Array.length_toList, size_madeCells]; omega
/-- a station that is made -/
theorem snew_yes (n : Nat) (again : Int) (w : World) (h : Stn.newE n again = 0) : Calls Try.prog 18 #[.int .i64 n, .int .i64 again] w fun e w' => ∃ b RA, e = .returned (.tuple #[.pointer (some ⟨b, 0, none⟩), .int .i64 0]) ∧ IsSt w' w.heap.size b none 0 RA n (Stn.new n again) ∧ Below w.heap.size w w' := by
  obtain ⟨i0, hi0, hz0, hz1, hz2⟩ := info_parts info_rep
  have hh : 1 ≤ (n : Int) ∧ (n : Int) ≤ 64 ∧ 1 ≤ again ∧ again ≤ 60000 := by
    unfold Stn.newE at h
    split at h
    · assumption
    · omega
  obtain ⟨h1, h2, h3, h4⟩ := hh
  have hmk : ∀ W : World, (Instr.makeSlice 72 (.int .i64 (n : Int)) (.int .i64 (n : Int))).run Try.prog W = .ok (.slice (some ⟨W.heap.size, 0, none⟩) n n) (W.alloc (.cells (madeCells #[.bool false, .int .i64 0, .int .i64 0] (n * 3)) 88)) := fun W => by
    have := run_make (P := Try.prog) W 72 88 i0 _ Try.underlying72 hi0 hz0 .i64 .i64 n n (by omega) (Int.le_refl _) (by rw [hz2]; omega) (by omega)
    rw [hz1, Int.toNat_natCast] at this
    exact this
  clear h
  go_enter Try.func18, Try.ntmps18
  go_wp2_with fail
  go_ret2
  refine ⟨w.heap.size + 1, some ⟨w.heap.size, 0, none⟩, rfl, ⟨?_, ?_, ?_, ?_⟩, (by repeat (first | (with_reducible exact Below.refl _ _) | (with_reducible refine Below.drew ?_) | (with_reducible refine below_drewN ?_ _) | ((with_reducible refine Below.alloc ?_ ?_ _); rotate_left; (first | omega | (simp <;> omega)); rotate_right) | ((with_reducible refine Below.setCell ?_ ?_ _); rotate_left; (first | omega | (simp <;> omega)); rotate_right) | (with_reducible assumption) | (refine Below.trans ?_ (Below.mono (by assumption) ?_); rotate_left; (first | omega | (simp <;> omega)); rotate_right)))⟩
  · exact heap_new' _ _ _ (by simp)
  · exact Row.nil _ _ _ _
  · refine Row.of_block (blk_alloc (heap_new _ _) _) (Nat.le_refl _) (Nat.le_refl _) (by unfold maxLen; omega) (by rw [size_madeCells]; simp) ?_
    rw [List.drop_zero, made_reps, List.take_of_length_le (by rw [length_repcs, List.length_replicate]; exact Nat.le_refl _)]
    rfl
  · simp
theorem scopy_nil (w : World) : Calls Try.prog 15 #[.pointer none] w fun e w' => e = .returned (.pointer none) ∧ w = w' := by
  go_enter Try.func15, Try.ntmps15
  go_wp2_with fail
  go_ret
  exact ⟨rfl, rfl⟩
def SCopyPost (s : Stn.St) (w : World) (e : Ending) (w' : World) : Prop := ∃ b MA mc RA rc, e = .returned (.pointer (some ⟨b, 0, none⟩)) ∧ IsSt w' w.heap.size b MA mc RA rc s ∧ Below w.heap.size w w'
theorem scopy_any (w : World) (base b mc rc : Nat) (MA RA : Option Addr) (s : Stn.St) (h : IsSt w base b MA mc RA rc s) (hs : Stn.Inv s) :
    Calls Try.prog 15 #[.pointer (some ⟨b, 0, none⟩)] w (SCopyPost s w) := by
  have hB := h.blk
  unfold stl at hB
  have CM := Lib.hid (fun (W : World) (hW : IsSt W base b MA mc RA rc s) => clonei_any MA _ mc base _ W (by have := (miss_bd s hs).1; omega) hW.mrow (ints_one _))
  have CR := Lib.hid (fun (W : World) (hW : IsSt W base b MA mc RA rc s) => cloner_any RA _ rc base _ W (by have := hs.n; omega) hW.rrow (repcs_one _))
  have HL := Lib.hid h
  have hlt := h.lt
  have HE := Lib.hid (show ∀ (A : Option Addr) (c : Nat) (B : Option Addr) (d : Nat), (stl s A c B d) = [.int .i64 s.n, .int .i64 s.again, .int .i64 s.st, .int .i64 s.now, .int .i64 s.seq, .int .i64 s.sent, .bool s.some, .int .i64 s.prog, curV s, .slice A (Stn.miss s).length c, .slice B s.n d] from fun _ _ _ _ => rfl)
  obtain ⟨n, hn⟩ : ∃ n, n = (Stn.miss s).length := ⟨_, rfl⟩
  have hcs : curV s = .nilIface ∨ ∃ T v, curV s = .iface T v := by
    by_cases hc : s.cmd = 0
    · exact .inl (by unfold curV; rw [if_pos hc])
    · obtain ⟨T, v, _, _, _, _, h1, _⟩ := cmd_of s hs hc
      exact .inr ⟨T, v, h1⟩
  obtain ⟨cv, hcv⟩ : ∃ cv, cv = curV s := ⟨_, rfl⟩
  rw [← hcv] at hcs
  rw [← hn] at CM HE hB
  rw [← hcv] at HE hB
  have HN := Lib.hid hn
  have ca_0 := blk_cell hB 0 rfl; have fa_0 := blk_free hB 0; have ca_1 := blk_cell hB 1 rfl; have fa_1 := blk_free hB 1; have ca_2 := blk_cell hB 2 rfl; have fa_2 := blk_free hB 2; have ca_3 := blk_cell hB 3 rfl; have fa_3 := blk_free hB 3; have ca_4 := blk_cell hB 4 rfl; have fa_4 := blk_free hB 4; have ca_5 := blk_cell hB 5 rfl; have fa_5 := blk_free hB 5; have ca_6 := blk_cell hB 6 rfl; have fa_6 := blk_free hB 6; have ca_7 := blk_cell hB 7 rfl; have fa_7 := blk_free hB 7; have ca_8 := blk_cell hB 8 rfl; have fa_8 := blk_free hB 8; have ca_9 := blk_cell hB 9 rfl; have fa_9 := blk_free hB 9; have ca_10 := blk_cell hB 10 rfl; have fa_10 := blk_free hB 10; have la := lt_of_block hB
  have hne : w.heap.size ≠ b := by omega
  clear h hs hn hcv
  rcases hcs with rfl | ⟨T, v, rfl⟩
  all_goals
   go_enter Try.func15, Try.ntmps15
   go_wp2_with fail
   go_region_held3 (fun w' => w'.cell? ⟨b, 9, none⟩ = some (.slice MA n mc) ∧ w'.cell? ⟨b, 10, none⟩ = some (.slice RA s.n rc)) (first | (refine ⟨?_, ?_⟩ <;> simp [go_sem, *]; done) | go_keep) (first | (go_at_call 41; refine (CM.out _ (HL.out.below (B := w.heap.size) (by repeat (first | (with_reducible exact Below.refl _ _) | (with_reducible refine Below.drew ?_) | (with_reducible refine below_drewN ?_ _) | ((with_reducible refine Below.alloc ?_ ?_ _); rotate_left; (first | omega | (simp <;> omega)); rotate_right) | ((with_reducible refine Below.setCell ?_ ?_ _); rotate_left; (first | omega | (simp <;> omega)); rotate_right) | (with_reducible assumption) | (refine Below.trans ?_ (Below.mono (by assumption) ?_); rotate_left; (first | omega | (simp <;> omega)); rotate_right))) (Nat.le_refl _))).mono ?_; rintro e w4 ⟨A4, c4, rfl, hr4, hb4⟩; have hz4 := hb4.size; (try simp at hz4); have HB4 := Lib.hid (show Below w.heap.size w w4 from (by repeat (first | (with_reducible exact Below.refl _ _) | (with_reducible refine Below.drew ?_) | (with_reducible refine below_drewN ?_ _) | ((with_reducible refine Below.alloc ?_ ?_ _); rotate_left; (first | omega | (simp <;> omega)); rotate_right) | ((with_reducible refine Below.setCell ?_ ?_ _); rotate_left; (first | omega | (simp <;> omega)); rotate_right) | (with_reducible assumption) | (refine Below.trans ?_ (Below.mono (by assumption) ?_); rotate_left; (first | omega | (simp <;> omega)); rotate_right)))); have k4 := blk_below (q := w.heap.size) (by repeat (first | (with_reducible assumption) | ((with_reducible apply blk_far); rotate_left; (first | omega | (simp <;> omega)); rotate_right) | (with_reducible apply blk_drew) | (with_reducible apply blk_drewN) | (with_reducible exact heap_new _ _) | ((with_reducible apply heap_new'); (first | rfl | (simp <;> fail))) | (with_reducible apply blk_alloc))) hb4 (by first | omega | (simp; done) | (simp; omega)); have e9 : w4.cell? ⟨b, 9, none⟩ = some (.slice MA n mc) := ((bcell hb4).1 b _ (by first | omega | (simp; done) | (simp; omega))).trans (by simp [go_sem, *]); have e10 : w4.cell? ⟨b, 10, none⟩ = some (.slice RA s.n rc) := ((bcell hb4).1 b _ (by first | omega | (simp; done) | (simp; omega))).trans (by simp [go_sem, *]); have K4 := Lib.hid k4; have HR4 := Lib.hid (hr4.more (base' := w.heap.size) (by first | omega | (simp; done) | (simp; omega))); have hq4 : w.heap.size < w4.heap.size := (lt_of_block k4); clear hr4 hb4 k4) | (go_at_call 42; refine (CR.out _ (HL.out.below HB4.out (Nat.le_refl _))).mono ?_; rintro e w5 ⟨A5, c5, rfl, hr5, hb5⟩; have hz5 := hb5.size; (try simp at hz5); have HB5 := Lib.hid (show Below w.heap.size w w5 from (HB4.out.trans (hb5.mono (by omega)))); have k5 := blk_below (q := w.heap.size) K4.out hb5 (by first | omega | (simp; done) | (simp; omega)); have e9 : w5.cell? ⟨b, 9, none⟩ = some (.slice MA n mc) := ((bcell hb5).1 b _ (by first | omega | (simp; done) | (simp; omega))).trans (by simp [go_sem, *]); have e10 : w5.cell? ⟨b, 10, none⟩ = some (.slice RA s.n rc) := ((bcell hb5).1 b _ (by first | omega | (simp; done) | (simp; omega))).trans (by simp [go_sem, *]); have K5 := Lib.hid k5; have HR5 := Lib.hid (hr5.more (base' := w.heap.size) (by first | omega | (simp; done) | (simp; omega))); have HR45 := Lib.hid (HR4.out.below hb5 (Nat.le_refl _)); (have cz_0 := blk_cell k5 0 rfl; have fz_0 := blk_free k5 0; have cz_1 := blk_cell k5 1 rfl; have fz_1 := blk_free k5 1; have cz_2 := blk_cell k5 2 rfl; have fz_2 := blk_free k5 2; have cz_3 := blk_cell k5 3 rfl; have fz_3 := blk_free k5 3; have cz_4 := blk_cell k5 4 rfl; have fz_4 := blk_free k5 4; have cz_5 := blk_cell k5 5 rfl; have fz_5 := blk_free k5 5; have cz_6 := blk_cell k5 6 rfl; have fz_6 := blk_free k5 6; have cz_7 := blk_cell k5 7 rfl; have fz_7 := blk_free k5 7; have cz_8 := blk_cell k5 8 rfl; have fz_8 := blk_free k5 8; have cz_9 := blk_cell k5 9 rfl; have fz_9 := blk_free k5 9; have cz_10 := blk_cell k5 10 rfl; have fz_10 := blk_free k5 10; have lz := lt_of_block k5); clear hr5 hb5))
   go_wp2_with fail
   go_ret
   have hblk := blk_set (blk_set K5.out 9 (.slice A4 n c4)) 10 (.slice A5 s.n c5)
   simp only [List.setIfInBounds_toArray, List.set_cons_succ, List.set_cons_zero] at hblk
   have h4 : ∀ g, blkOf A4 = some g → g ≠ w.heap.size := fun g hg => (HR45.out.ty hg).ne ⟨_, K5.out⟩ (by decide)
   have h5 : ∀ g, blkOf A5 = some g → g ≠ w.heap.size := fun g hg => (HR5.out.ty hg).ne ⟨_, K5.out⟩ (by decide)
   refine ⟨w.heap.size, A4, c4, A5, c5, rfl, ⟨?_, ?_, ?_, Nat.le_refl _⟩, ?_⟩
   · rw [HE.out]; exact hblk
   · have := (HR45.out.far (p := ⟨w.heap.size, 9, none⟩) h4 (.slice A4 n c4)).far (p := ⟨w.heap.size, 10, none⟩) h4 (.slice A5 s.n c5)
     rw [HN.out] at this ⊢
     exact this
   · exact (HR5.out.far (p := ⟨w.heap.size, 9, none⟩) h5 _).far (p := ⟨w.heap.size, 10, none⟩) h5 _
   · exact (HB5.out.setCell (p := ⟨w.heap.size, 9, none⟩) (Nat.le_refl _) _).setCell (p := ⟨w.heap.size, 10, none⟩) (Nat.le_refl _) _
end Go.Proofs.Ytiidkmnagfhgiaa

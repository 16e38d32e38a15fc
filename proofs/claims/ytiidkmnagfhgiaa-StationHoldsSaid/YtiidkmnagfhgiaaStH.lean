/- Clone of numbers and of reports; Missing, Seen, Tick, New, Copy. -/
import Derived.Test.YtiidkmnagfhgiaaStG
namespace Go.Proofs.Ytiidkmnagfhgiaa
open Go.RowKit
set_option maxHeartbeats 8000000
set_option maxRecDepth 100000
set_option linter.unusedSimpArgs false
set_option linter.unusedVariables false
attribute [local go_sem ↓] Go.wp_at_zero Go.wp_at_succ
/-- what a clone is -/
def ClPost (t : TypeId) (size n : Nat) (xs : List Value) (w : World) (e : Ending) (w' : World) : Prop := ∃ A' c', e = .returned (.slice A' n c') ∧ Row w' w.heap.size t size A' n c' xs ∧ Below w.heap.size w w'
theorem clonei_any (A : Option Addr) (n c base : Nat) (xs : List Value) (w : World) (hn : n ≤ 1000000) (h : Row w base 3 1 A n c xs) (h1 : ∀ v ∈ xs, v.oneCell' = true) :
    Calls Try.prog 41 #[.slice A n c] w (ClPost 3 1 n xs w) := by
  obtain ⟨i0, hi0, hz0, hz1, hz2⟩ := info_parts info_in
  have hr := h.reads
  cases A with
  | none =>
    rcases h.2 with ⟨_, h0, h00⟩ | ⟨g, o, cur, he, _⟩
    · subst h0; subst h00
      have hx : xs = [] := List.eq_nil_of_length_eq_zero (by simpa using h.1)
      subst hx
      have kn := fun (W : World) => Lib.run_eql_slice_nil (P := Try.prog) W 46 3 none 0 0 0 0 Try.underlying46
      simp only [Option.isNone] at kn
      clear h hr
      go_enter Try.func41, Try.ntmps41
      go_wp2_with fail
      go_ret
      exact ⟨none, 0, rfl, Row.nil _ _ _ _, (by repeat (first | (with_reducible exact Below.refl _ _) | (with_reducible refine Below.drew ?_) | (with_reducible refine below_drewN ?_ _) | ((with_reducible refine Below.alloc ?_ ?_ _); rotate_left; (first | omega | (simp <;> omega)); rotate_right) | ((with_reducible refine Below.setCell ?_ ?_ _); rotate_left; (first | omega | (simp <;> omega)); rotate_right) | (with_reducible assumption) | (refine Below.trans ?_ (Below.mono (by assumption) ?_); rotate_left; (first | omega | (simp <;> omega)); rotate_right)))⟩
    · cases he
  | some a =>
    have kn := fun (W : World) => Lib.run_eql_slice_nil (P := Try.prog) W 46 3 (some a) n c 0 0 Try.underlying46
    simp only [Option.isNone] at kn
    clear h
    go_enter Try.func41, Try.ntmps41
    go_wp2_with (at_builtin; refine wpList_append_any _ rfl (.tmp 5) (.tmp 6) _ rfl w.heap.size 3 i0 _ 1 8 Try.underlying46 hi0 hz0 hz1 hz2 rfl (by omega) (.slice (some ⟨w.heap.size, 0, none⟩) 0 0) 0 [] rfl (World.ownsRow_lit w #[] 0 (Nat.le_refl _) (by unfold maxLen; omega) rfl) w.heap.size (some a) n c xs rfl (hr.alloc (Nat.le_refl _) _) h1 (by simp only [maxLen]; omega) (by omega) (by simp) ?_; intro v1 w1 hown1 hg1 hat1)
    go_ret
    simp only [Nat.zero_add, List.nil_append] at hown1
    obtain ⟨A', cap', rfl⟩ := own_formS hown1
    exact ⟨A', cap', rfl, Row.of_own hown1, ((Below.refl _ _).alloc (Nat.le_refl _) _).grown hg1 (by simp) (fun k hk => by simp [Value.ownBlock] at hk; omega)⟩
theorem info_rep : (Try.prog.info? 88).map (fun i => (i.zero, i.size, i.bytes)) = some (some (.agg #[.bool false, .int .i64 0, .int .i64 0]), 3, 24) := by kernel_rfl
theorem cloner_any (A : Option Addr) (n c base : Nat) (xs : List Value) (w : World) (hn : n ≤ 1000000) (h : Row w base 88 3 A n c xs) (h1 : ∀ v ∈ xs, v.oneCell' = true) :
    Calls Try.prog 42 #[.slice A n c] w (ClPost 88 3 n xs w) := by
  obtain ⟨i0, hi0, hz0, hz1, hz2⟩ := info_parts info_rep
  have hr := h.reads
  cases A with
  | none =>
    rcases h.2 with ⟨_, h0, h00⟩ | ⟨g, o, cur, he, _⟩
    · subst h0; subst h00
      have hx : xs = [] := List.eq_nil_of_length_eq_zero (by simpa using h.1)
      subst hx
      have kn := fun (W : World) => Lib.run_eql_slice_nil (P := Try.prog) W 72 88 none 0 0 0 0 Try.underlying72
      simp only [Option.isNone] at kn
      clear h hr
      go_enter Try.func42, Try.ntmps42
      go_wp2_with fail
      go_ret
      exact ⟨none, 0, rfl, Row.nil _ _ _ _, (by repeat (first | (with_reducible exact Below.refl _ _) | (with_reducible refine Below.drew ?_) | (with_reducible refine below_drewN ?_ _) | ((with_reducible refine Below.alloc ?_ ?_ _); rotate_left; (first | omega | (simp <;> omega)); rotate_right) | ((with_reducible refine Below.setCell ?_ ?_ _); rotate_left; (first | omega | (simp <;> omega)); rotate_right) | (with_reducible assumption) | (refine Below.trans ?_ (Below.mono (by assumption) ?_); rotate_left; (first | omega | (simp <;> omega)); rotate_right)))⟩
    · cases he
  | some a =>
    have kn := fun (W : World) => Lib.run_eql_slice_nil (P := Try.prog) W 72 88 (some a) n c 0 0 Try.underlying72
    simp only [Option.isNone] at kn
    clear h
    go_enter Try.func42, Try.ntmps42
    go_wp2_with (at_builtin; refine wpList_append_any _ rfl (.tmp 5) (.tmp 6) _ rfl w.heap.size 88 i0 _ 3 24 Try.underlying72 hi0 hz0 hz1 hz2 rfl (by omega) (.slice (some ⟨w.heap.size, 0, none⟩) 0 0) 0 [] rfl (World.ownsRow_lit w #[] 0 (Nat.le_refl _) (by unfold maxLen; omega) rfl) w.heap.size (some a) n c xs rfl (hr.alloc (Nat.le_refl _) _) h1 (by simp only [maxLen]; omega) (by omega) (by simp) ?_; intro v1 w1 hown1 hg1 hat1)
    go_ret
    simp only [Nat.zero_add, List.nil_append] at hown1
    obtain ⟨A', cap', rfl⟩ := own_formS hown1
    exact ⟨A', cap', rfl, Row.of_own hown1, ((Below.refl _ _).alloc (Nat.le_refl _) _).grown hg1 (by simp) (fun k hk => by simp [Value.ownBlock] at hk; omega)⟩
theorem ints_one (l : List Nat) : ∀ v ∈ l.map (fun (i : Nat) => Value.int .i64 i), v.oneCell' = true := by
  intro v hv
  simp only [List.mem_map] at hv
  obtain ⟨x, _, rfl⟩ := hv
  rfl
theorem repcs_one (l : List Stn.Rep) : ∀ v ∈ repcs l, v.oneCell' = true := by
  intro v hv
  simp only [repcs, List.mem_flatMap, repc, List.mem_cons, List.not_mem_nil, or_false] at hv
  obtain ⟨x, _, rfl | rfl | rfl⟩ := hv <;> rfl
theorem repcs_at : ∀ (l : List Stn.Rep) (i j : Nat) (h : i < l.length), j < 3 → (repcs l)[i * 3 + j]? = (repc l[i])[j]?
  | [], i, j, h, _ => by simp at h
  | v :: vs, 0, j, h, hj => by
    rw [repcs, List.flatMap_cons, List.getElem?_append_left (by simp [repc]; omega)]
    simp
  | v :: vs, i + 1, j, h, hj => by
    rw [repcs, List.flatMap_cons, List.getElem?_append_right (by simp [repc]; omega)]
    rw [show (i + 1) * 3 + j - (repc v).length = i * 3 + j by simp [repc]; omega]
    exact repcs_at vs i j (by simpa using h) hj
theorem length_repcs (l : List Stn.Rep) : (repcs l).length = l.length * 3 := by
  induction l with
  | nil => rfl
  | cons a l ih => rw [repcs, List.flatMap_cons, List.length_append, show l.flatMap repc = repcs l from rfl, ih]; simp [repc]; omega
section
variable {w w' : World} {base b mc rc : Nat} {MA RA : Option Addr} {s : Stn.St}
theorem missing_any (h : IsSt w base b MA mc RA rc s) (hs : Stn.Inv s) :
    Calls Try.prog 14 #[.pointer (some ⟨b, 0, none⟩)] w (ClPost 3 1 (Stn.miss s).length ((Stn.miss s).map (fun (i : Nat) => .int .i64 i)) w) := by
  have N := Lib.hid (h.none hs)
  have c9 : w.cell? ⟨b, 9, none⟩ = some (.slice MA (Stn.miss s).length mc) := blk_cell h.blk 9 rfl
  have CL := Lib.hid (clonei_any MA _ mc base _ w (by have := (miss_bd s hs).1; omega) h.mrow (ints_one _))
  obtain ⟨n, hn⟩ : ∃ n, n = (Stn.miss s).length := ⟨_, rfl⟩
  rw [← hn] at c9 CL ⊢
  clear h hs hn
  go_enter Try.func14, Try.ntmps14
  go_wp2_with fail
  refine N.out.mono ?_
  rintro e w' ⟨rfl, rfl⟩
  go_wp2_with fail
  refine CL.out.mono ?_
  rintro e w' ⟨A', c', rfl, hP⟩
  have HP := Lib.hid hP
  clear hP
  go_wp2_with fail
  go_ret
  exact ⟨A', c', rfl, HP.out⟩
/-- what Seen shows -/
def seenR (s : Stn.St) (a : Int) : Int × Int × Int :=
  if 1 ≤ a ∧ a ≤ s.n then (if (s.seen.getD (a.toNat - 1) (false, 0, 0)).1 then ((s.seen.getD (a.toNat - 1) (false, 0, 0)).2.1, (s.seen.getD (a.toNat - 1) (false, 0, 0)).2.2, 0) else (0, 0, 9)) else (0, 0, 2)
theorem seen_any (h : IsSt w base b MA mc RA rc s) (hs : Stn.Inv s) (a : Int) :
    Calls Try.prog 27 #[.pointer (some ⟨b, 0, none⟩), .int .i64 a] w fun e w' => e = .returned (.tuple #[.int .i64 (seenR s a).1, .int .i64 (seenR s a).2.1, .int .i64 (seenR s a).2.2]) ∧ Below w.heap.size w w' := by
  have N := Lib.hid (h.none hs)
  have c0 : w.cell? ⟨b, 0, none⟩ = some (.int .i64 s.n) := blk_cell h.blk 0 rfl
  have c10 : w.cell? ⟨b, 10, none⟩ = some (.slice RA s.n rc) := blk_cell h.blk 10 rfl
  have hn := hs.n
  have hb := h.lt
  by_cases ha : 1 ≤ a ∧ a ≤ s.n
  · obtain ⟨i, rfl⟩ : ∃ i : Nat, a = (i : Int) + 1 := ⟨(a - 1).toNat, by omega⟩
    have hi : i < s.n := by omega
    have hl := hs.seen
    obtain ⟨g, o, cur, rfl, hge, hg, _, _, _, _, _, hcell, _⟩ := h.rrow.some_ (by omega)
    obtain ⟨x, hx⟩ : ∃ x, x = s.seen[i]'(by omega) := ⟨_, rfl⟩
    have k0 := hcell (i * 3 + 0) (.bool x.1) (by rw [repcs_at _ _ _ (by omega) (by omega), ← hx]; rfl)
    have k1 := hcell (i * 3 + 1) (.int .i64 x.2.1) (by rw [repcs_at _ _ _ (by omega) (by omega), ← hx]; rfl)
    have k2 := hcell (i * 3 + 2) (.int .i64 x.2.2) (by rw [repcs_at _ _ _ (by omega) (by omega), ← hx]; rfl)
    have E := Lib.hid (show seenR s ((i : Int) + 1) = if x.1 then (x.2.1, x.2.2, 0) else (0, 0, 9) by
      unfold seenR
      rw [if_pos ha, show ((i : Int) + 1).toNat - 1 = i by omega, hx]
      simp [List.getD, List.getElem?_eq_getElem (show i < s.seen.length by omega)])
    simp only [← Nat.add_assoc, Nat.add_zero] at k0 k1 k2
    obtain ⟨x1, x2, x3⟩ := x
    simp only at k0 k1 k2 E
    have hin : (i : Int) < (s.n : Int) := by omega
    clear h hs hl hcell hx ha
    cases x1
    · rw [if_neg (by simp)] at E
      go_enter Try.func27, Try.ntmps27
      go_wp2_with fail
      refine N.out.mono ?_
      rintro e w' ⟨rfl, rfl⟩
      go_wp2_with fail
      go_ret3
      rw [E.out]
      exact ⟨rfl, (by repeat (first | (with_reducible exact Below.refl _ _) | (with_reducible refine Below.drew ?_) | (with_reducible refine below_drewN ?_ _) | ((with_reducible refine Below.alloc ?_ ?_ _); rotate_left; (first | omega | (simp <;> omega)); rotate_right) | ((with_reducible refine Below.setCell ?_ ?_ _); rotate_left; (first | omega | (simp <;> omega)); rotate_right) | (with_reducible assumption) | (refine Below.trans ?_ (Below.mono (by assumption) ?_); rotate_left; (first | omega | (simp <;> omega)); rotate_right)))⟩
    · rw [if_pos rfl] at E
      go_enter Try.func27, Try.ntmps27
      go_wp2_with fail
      refine N.out.mono ?_
      rintro e w' ⟨rfl, rfl⟩
      go_wp2_with fail
      go_quiet (fail)
      go_wp2_with fail
      go_ret3
      rw [E.out]
      exact ⟨rfl, (by repeat (first | (with_reducible exact Below.refl _ _) | (with_reducible refine Below.drew ?_) | (with_reducible refine below_drewN ?_ _) | ((with_reducible refine Below.alloc ?_ ?_ _); rotate_left; (first | omega | (simp <;> omega)); rotate_right) | ((with_reducible refine Below.setCell ?_ ?_ _); rotate_left; (first | omega | (simp <;> omega)); rotate_right) | (with_reducible assumption) | (refine Below.trans ?_ (Below.mono (by assumption) ?_); rotate_left; (first | omega | (simp <;> omega)); rotate_right)))⟩
  · have E := Lib.hid (show seenR s a = (0, 0, 2) by unfold seenR; rw [if_neg ha])
    clear h hs
    by_cases h1 : a < 1
    all_goals
      (try (have h2 : (s.n : Int) < a := by omega))
      clear ha
      go_enter Try.func27, Try.ntmps27
      go_wp2_with fail
      refine N.out.mono ?_
      rintro e w' ⟨rfl, rfl⟩
      go_wp2_with fail
      go_ret3
      rw [E.out]
      exact ⟨rfl, (by repeat (first | (with_reducible exact Below.refl _ _) | (with_reducible refine Below.drew ?_) | (with_reducible refine below_drewN ?_ _) | ((with_reducible refine Below.alloc ?_ ?_ _); rotate_left; (first | omega | (simp <;> omega)); rotate_right) | ((with_reducible refine Below.setCell ?_ ?_ _); rotate_left; (first | omega | (simp <;> omega)); rotate_right) | (with_reducible assumption) | (refine Below.trans ?_ (Below.mono (by assumption) ?_); rotate_left; (first | omega | (simp <;> omega)); rotate_right)))⟩
end
end Go.Proofs.Ytiidkmnagfhgiaa

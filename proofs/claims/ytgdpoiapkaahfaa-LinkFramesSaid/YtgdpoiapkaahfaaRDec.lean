/- The reference's Decode. -/
import Derived.Test.YtgdpoiapkaahfaaEnc
namespace Go.Proofs.Ytgdpoiapkaahfaa
open Go.RowKit
set_option maxRecDepth 100000
set_option maxHeartbeats 20000000
set_option linter.unusedSimpArgs false
set_option linter.unusedVariables false
namespace Frm
/-- the number of bytes of Data that an encoding names -/
def dm (l : List Int) : Nat := (l.getD 7 0).toNat
def dsum (l : List Int) : Nat := crcN ((l.drop 2).take (dm l + 6))
def dS (l : List Int) : Int := 256 * l.getD 5 0 + l.getD 6 0
def dd (l : List Int) : List Int := (l.drop 8).take (dm l)
/-- the error of a decoding -/
def dE (l : List Int) : Int :=
  if l.length < 10 then 4 else if ¬ (l.getD 0 0 = 213 ∧ l.getD 1 0 = 76 ∧ l.getD 7 0 ≤ 64) then 6 else if l.length < 10 + dm l then 4 else if 10 + dm l < l.length then 5 else
  if ((dsum l : Nat) : Int) ≠ 256 * l.getD (dm l + 8) 0 + l.getD (dm l + 9) 0 then 10 else if vd (l.getD 2 0) (l.getD 3 0) (l.getD 4 0) (dS l) (dm l) = false then 6 else 0
theorem dE_1 {l : List Int} (h : l.length < 10) : dE l = 4 := by rw [dE, if_pos h]
theorem dE_2 {l : List Int} (h : 10 ≤ l.length) (g : ¬ (l.getD 0 0 = 213 ∧ l.getD 1 0 = 76 ∧ l.getD 7 0 ≤ 64)) : dE l = 6 := by rw [dE, if_neg (by omega), if_pos g]
theorem dE_3 {l : List Int} (h : 10 ≤ l.length) (g : l.getD 0 0 = 213 ∧ l.getD 1 0 = 76 ∧ l.getD 7 0 ≤ 64) (k : l.length < 10 + dm l) : dE l = 4 := by rw [dE, if_neg (by omega), if_neg (by simpa using g), if_pos k]
theorem dE_4 {l : List Int} (h : 10 ≤ l.length) (g : l.getD 0 0 = 213 ∧ l.getD 1 0 = 76 ∧ l.getD 7 0 ≤ 64) (k : 10 + dm l < l.length) : dE l = 5 := by rw [dE, if_neg (by omega), if_neg (by simpa using g), if_neg (by omega), if_pos k]
theorem dE_5 {l : List Int} (g : l.getD 0 0 = 213 ∧ l.getD 1 0 = 76 ∧ l.getD 7 0 ≤ 64) (k : l.length = 10 + dm l) (c : ((dsum l : Nat) : Int) ≠ 256 * l.getD (dm l + 8) 0 + l.getD (dm l + 9) 0) : dE l = 10 := by
  rw [dE, if_neg (by omega), if_neg (by simpa using g), if_neg (by omega), if_neg (by omega), if_pos c]
theorem dE_6 {l : List Int} (g : l.getD 0 0 = 213 ∧ l.getD 1 0 = 76 ∧ l.getD 7 0 ≤ 64) (k : l.length = 10 + dm l) (c : ((dsum l : Nat) : Int) = 256 * l.getD (dm l + 8) 0 + l.getD (dm l + 9) 0) (v : vd (l.getD 2 0) (l.getD 3 0) (l.getD 4 0) (dS l) (dm l) = false) : dE l = 6 := by
  rw [dE, if_neg (by omega), if_neg (by simpa using g), if_neg (by omega), if_neg (by omega), if_neg (by simpa using c), if_pos v]
theorem dE_0 {l : List Int} (g : l.getD 0 0 = 213 ∧ l.getD 1 0 = 76 ∧ l.getD 7 0 ≤ 64) (k : l.length = 10 + dm l) (c : ((dsum l : Nat) : Int) = 256 * l.getD (dm l + 8) 0 + l.getD (dm l + 9) 0) (v : vd (l.getD 2 0) (l.getD 3 0) (l.getD 4 0) (dS l) (dm l) = true) : dE l = 0 := by
  rw [dE, if_neg (by omega), if_neg (by simpa using g), if_neg (by omega), if_neg (by omega), if_neg (by simpa using c), if_neg (by rw [v]; decide)]
end Frm
theorem cell_alloc_keep {W : World} {o : Obj} {p : Addr} {v : Value} (h : W.cell? p = some v) : (W.alloc o).cell? p = some v := (World.cell?_alloc_lt W o p (World.block_lt_of_cell? W p h)).trans h
theorem cell_drew_keep {W : World} {p : Addr} {v : Value} (h : W.cell? p = some v) : W.drew.cell? p = some v := h
theorem cell_set_keep {W : World} {p q : Addr} {u v : Value} (h : W.cell? p = some v) (hq : W.cell? q = none ∨ p.block ≠ q.block) : (W.setCell q u).cell? p = some v := by
  rcases hq with hq | hq
  · exact (World.cell?_setCell_other W q p u (fun e => by subst e; rw [h] at hq; cases hq)).trans h
  · exact (World.cell?_setCell_other W q p u (fun e => by subst e; exact hq rfl)).trans h
theorem Ow.far {w : World} {base : Nat} {A : Option Addr} {n cap : Nat} {l : List Int} {p : Addr} (h : Ow w base A n cap l) (hp : p.block < base) (u : Value) : Ow (w.setCell p u) base A n cap l :=
  h.grown (row := some p.block) ⟨rfl, rfl, rfl, by simp [World.setCell], fun i hi hne => Below.heap_setCell w p u i (fun e => hne (by rw [e]))⟩ (fun g e => by
    rcases h.form with ⟨e2, _⟩ | ⟨g', e2, hb, _⟩
    · rw [e2] at e; cases e
    · rw [e2] at e; injection e with e; injection e with e; subst e; intro hh; injection hh with hh; omega)
/-- what a decoding leaves -/
def DPost (w : World) (l : List Int) (e : Ending) (w' : World) : Prop :=
  (Frm.dE l ≠ 0 ∧ e = .returned (.tuple #[.agg #[.int .i64 0, .int .i64 0, .int .i64 0, .int .i64 0, .slice none 0 0], .int .i64 (Frm.dE l)]) ∧ Below w.heap.size w w') ∨
  (Frm.dE l = 0 ∧ ∃ A' cap', e = .returned (.tuple #[.agg #[.int .i64 (l.getD 2 0), .int .i64 (l.getD 3 0), .int .i64 (l.getD 4 0), .int .i64 (Frm.dS l), .slice A' (Frm.dm l) cap'], .int .i64 0]) ∧ Ow w' w.heap.size A' (Frm.dm l) cap' (Frm.dd l) ∧ Below w.heap.size w w')
theorem dpost_err {w w' : World} {l : List Int} {n : Int} (h : Frm.dE l = n) (hn : n ≠ 0) (hb : Below w.heap.size w w') : DPost w l (.returned (.tuple #[.agg #[.int .i64 0, .int .i64 0, .int .i64 0, .int .i64 0, .slice none 0 0], .int .i64 n])) w' :=
  .inl ⟨by omega, by rw [h], hb⟩
theorem rdec_any (A : Option Addr) (n cap : Nat) (l : List Int) (w : World) (hn : n ≤ 140737488355328) (hcap : n ≤ cap) (hcm : cap ≤ 9223372036854775807) (h : Rd w w.heap.size A n l) :
    Calls Try.prog 22 #[.slice A n cap] w fun e w' => DPost w l e w' := by
  have hl := h.1
  rcases Nat.lt_or_ge n 10 with h1 | h1
  · have E := Lib.hid (Frm.dE_1 (l := l) (by omega))
    clear h hl
    go_enter Try.func22, Try.ntmps22
    go_wp2_with fail
    refine bodyPost_ret (v := .tuple #[.agg #[.int .i64 0, .int .i64 0, .int .i64 0, .int .i64 0, .slice none 0 0], .int .i64 4]) ?_ rfl (dpost_err E.out (by decide) (by repeat (first | (with_reducible exact Below.refl _ _) | (with_reducible refine Below.drew ?_) | (with_reducible refine below_drewN ?_ _) | ((with_reducible refine Below.alloc ?_ ?_ _); rotate_left; (first | omega | (simp <;> omega)); rotate_right) | ((with_reducible refine Below.setCell ?_ ?_ _); rotate_left; (first | omega | (simp <;> omega)); rotate_right) | (with_reducible assumption) | (refine Below.trans ?_ (Below.mono (by assumption) ?_); rotate_left; (first | omega | (simp <;> omega)); rotate_right))))
    simp [results, Try.results22, go_sem]
  obtain ⟨b, o, rfl, hbl, hc⟩ := h.2.2 (by omega)
  have hby := h.2.1
  have k0 := hc 0 (by omega)
  rw [Nat.add_zero] at k0
  have k1 := hc 1 (by omega)
  have k7 := hc 7 (by omega)
  have b0 := hby.at_ 0
  have b1 := hby.at_ 1
  have b7 := hby.at_ 7
  by_cases g0 : l.getD 0 0 = 213
  rotate_left
  · have E := Lib.hid (Frm.dE_2 (l := l) (by omega) (fun hh => g0 hh.1))
    generalize l.getD 0 0 = x at k0 b0 g0
    have z := (show (x != 213) = true by simpa using g0)
    clear h hc hby k1 k7 b0 b1 b7 g0 hl
    go_enter Try.func22, Try.ntmps22
    go_wp2_with fail
    refine bodyPost_ret (v := .tuple #[.agg #[.int .i64 0, .int .i64 0, .int .i64 0, .int .i64 0, .slice none 0 0], .int .i64 6]) ?_ rfl (dpost_err E.out (by decide) (by repeat (first | (with_reducible exact Below.refl _ _) | (with_reducible refine Below.drew ?_) | (with_reducible refine below_drewN ?_ _) | ((with_reducible refine Below.alloc ?_ ?_ _); rotate_left; (first | omega | (simp <;> omega)); rotate_right) | ((with_reducible refine Below.setCell ?_ ?_ _); rotate_left; (first | omega | (simp <;> omega)); rotate_right) | (with_reducible assumption) | (refine Below.trans ?_ (Below.mono (by assumption) ?_); rotate_left; (first | omega | (simp <;> omega)); rotate_right))))
    simp [results, Try.results22, go_sem]
  by_cases g1 : l.getD 1 0 = 76
  rotate_left
  · have E := Lib.hid (Frm.dE_2 (l := l) (by omega) (fun hh => g1 hh.2.1))
    rw [g0] at k0
    generalize l.getD 1 0 = x at k1 b1 g1
    have z := (show (x != 76) = true by simpa using g1)
    clear h hc hby k7 b0 b1 b7 g0 g1 hl
    go_enter Try.func22, Try.ntmps22
    go_wp2_with fail
    refine bodyPost_ret (v := .tuple #[.agg #[.int .i64 0, .int .i64 0, .int .i64 0, .int .i64 0, .slice none 0 0], .int .i64 6]) ?_ rfl (dpost_err E.out (by decide) (by repeat (first | (with_reducible exact Below.refl _ _) | (with_reducible refine Below.drew ?_) | (with_reducible refine below_drewN ?_ _) | ((with_reducible refine Below.alloc ?_ ?_ _); rotate_left; (first | omega | (simp <;> omega)); rotate_right) | ((with_reducible refine Below.setCell ?_ ?_ _); rotate_left; (first | omega | (simp <;> omega)); rotate_right) | (with_reducible assumption) | (refine Below.trans ?_ (Below.mono (by assumption) ?_); rotate_left; (first | omega | (simp <;> omega)); rotate_right))))
    simp [results, Try.results22, go_sem]
  by_cases g7 : l.getD 7 0 ≤ 64
  rotate_left
  · have E := Lib.hid (Frm.dE_2 (l := l) (by omega) (fun hh => g7 hh.2.2))
    rw [g0] at k0
    rw [g1] at k1
    generalize l.getD 7 0 = x at k7 b7 g7
    have z : 64 < x := by omega
    clear h hc hby b0 b1 b7 g0 g1 g7 hl
    go_enter Try.func22, Try.ntmps22
    go_wp2_with fail
    refine bodyPost_ret (v := .tuple #[.agg #[.int .i64 0, .int .i64 0, .int .i64 0, .int .i64 0, .slice none 0 0], .int .i64 6]) ?_ rfl (dpost_err E.out (by decide) (by repeat (first | (with_reducible exact Below.refl _ _) | (with_reducible refine Below.drew ?_) | (with_reducible refine below_drewN ?_ _) | ((with_reducible refine Below.alloc ?_ ?_ _); rotate_left; (first | omega | (simp <;> omega)); rotate_right) | ((with_reducible refine Below.setCell ?_ ?_ _); rotate_left; (first | omega | (simp <;> omega)); rotate_right) | (with_reducible assumption) | (refine Below.trans ?_ (Below.mono (by assumption) ?_); rotate_left; (first | omega | (simp <;> omega)); rotate_right))))
    simp [results, Try.results22, go_sem]
  have G := Lib.hid (show l.getD 0 0 = 213 ∧ l.getD 1 0 = 76 ∧ l.getD 7 0 ≤ 64 from ⟨g0, g1, g7⟩)
  rw [g0] at k0
  rw [g1] at k1
  obtain ⟨m, hm⟩ : ∃ m : Nat, m = Frm.dm l := ⟨_, rfl⟩
  have hm7 : l.getD 7 0 = (m : Int) := by rw [hm, Frm.dm]; omega
  rw [hm7] at k7 g7
  clear b0 b1 b7 g0 g1
  rcases Nat.lt_or_ge n (10 + m) with q1 | q1
  · have E := Lib.hid (Frm.dE_3 (l := l) (by omega) G.out (by omega))
    clear h hc hby hl hm hm7 G
    go_enter Try.func22, Try.ntmps22
    go_wp2_with fail
    refine bodyPost_ret (v := .tuple #[.agg #[.int .i64 0, .int .i64 0, .int .i64 0, .int .i64 0, .slice none 0 0], .int .i64 4]) ?_ rfl (dpost_err E.out (by decide) (by repeat (first | (with_reducible exact Below.refl _ _) | (with_reducible refine Below.drew ?_) | (with_reducible refine below_drewN ?_ _) | ((with_reducible refine Below.alloc ?_ ?_ _); rotate_left; (first | omega | (simp <;> omega)); rotate_right) | ((with_reducible refine Below.setCell ?_ ?_ _); rotate_left; (first | omega | (simp <;> omega)); rotate_right) | (with_reducible assumption) | (refine Below.trans ?_ (Below.mono (by assumption) ?_); rotate_left; (first | omega | (simp <;> omega)); rotate_right))))
    simp [results, Try.results22, go_sem]
  rcases Nat.lt_or_ge (10 + m) n with q2 | q2
  · have E := Lib.hid (Frm.dE_4 (l := l) (by omega) G.out (by omega))
    clear h hc hby hl hm hm7 G
    go_enter Try.func22, Try.ntmps22
    go_wp2_with fail
    refine bodyPost_ret (v := .tuple #[.agg #[.int .i64 0, .int .i64 0, .int .i64 0, .int .i64 0, .slice none 0 0], .int .i64 5]) ?_ rfl (dpost_err E.out (by decide) (by repeat (first | (with_reducible exact Below.refl _ _) | (with_reducible refine Below.drew ?_) | (with_reducible refine below_drewN ?_ _) | ((with_reducible refine Below.alloc ?_ ?_ _); rotate_left; (first | omega | (simp <;> omega)); rotate_right) | ((with_reducible refine Below.setCell ?_ ?_ _); rotate_left; (first | omega | (simp <;> omega)); rotate_right) | (with_reducible assumption) | (refine Below.trans ?_ (Below.mono (by assumption) ?_); rotate_left; (first | omega | (simp <;> omega)); rotate_right))))
    simp [results, Try.results22, go_sem]
  obtain rfl : n = 10 + m := by omega
  have kc1 := hc (m + 8) (by omega)
  have kc2 := hc (m + 9) (by omega)
  have bc1 := hby.at_ (m + 8)
  have bc2 := hby.at_ (m + 9)
  have hsub := h.sub 2 (m + 6) (by omega)
  have RS := Lib.hid (fun (W : World) (hB : Below w.heap.size w W) => rsum_any (some ⟨b, o + 2, none⟩) (m + 6) (cap - 2) _ W (by omega) ((hsub.below hB (Nat.le_refl _)).more hB.size))
  have HS := Lib.hid (show ((Frm.dsum l : Nat) : Int) = ((Frm.crcN ((l.drop 2).take (m + 6)) : Nat) : Int) by rw [Frm.dsum, hm])
  generalize Frm.crcN ((l.drop 2).take (m + 6)) = c at RS HS
  obtain ⟨u, hu⟩ : ∃ u, l.getD (m + 8) 0 = u := ⟨_, rfl⟩
  obtain ⟨v, hv⟩ : ∃ v, l.getD (m + 9) 0 = v := ⟨_, rfl⟩
  rw [hu] at kc1 bc1
  rw [hv] at kc2 bc2
  by_cases hcc : (c : Int) = 256 * u + v
  rotate_left
  · have E := Lib.hid (Frm.dE_5 (l := l) G.out (by omega) (by rw [HS.out, ← hm, hu, hv]; exact hcc))
    have z := (show ((c : Int) != 256 * u + v) = true by simpa using hcc)
    clear h hc hby hl hm hm7 G hsub HS hu hv hcc
    go_enter Try.func22, Try.ntmps22
    go_wp2_with fail
    have HB := (show Below w.heap.size w (w.alloc (.cells #[.int .i64 0, .int .i64 0, .int .i64 0, .int .i64 0, .slice none 0 0] 40)) from (by repeat (first | (with_reducible exact Below.refl _ _) | (with_reducible refine Below.drew ?_) | (with_reducible refine below_drewN ?_ _) | ((with_reducible refine Below.alloc ?_ ?_ _); rotate_left; (first | omega | (simp <;> omega)); rotate_right) | ((with_reducible refine Below.setCell ?_ ?_ _); rotate_left; (first | omega | (simp <;> omega)); rotate_right) | (with_reducible assumption) | (refine Below.trans ?_ (Below.mono (by assumption) ?_); rotate_left; (first | omega | (simp <;> omega)); rotate_right))))
    have w1 : IntKind.i64.wrap (10 + (m : Int) - 2) = (m : Int) + 8 := by rw [IntWalk.i64_in _ (by omega)]; omega
    have w2 : IntKind.i64.wrap (10 + (m : Int) - 1) = (m : Int) + 9 := by rw [IntWalk.i64_in _ (by omega)]; omega
    have w3 : IntKind.i64.wrap (256 * u) = 256 * u := IntWalk.i64_in _ (by omega)
    have w4 : IntKind.i64.wrap (256 * u + v) = 256 * u + v := IntWalk.i64_in _ (by omega)
    go_quiet ((go_at_call 43; exact Calls.quiet_of (RS.out _ (below_drewN HB _))))
    go_wp2_with fail
    refine bodyPost_ret (v := .tuple #[.agg #[.int .i64 0, .int .i64 0, .int .i64 0, .int .i64 0, .slice none 0 0], .int .i64 10]) ?_ rfl (dpost_err E.out (by decide) (by repeat (first | (with_reducible exact Below.refl _ _) | (with_reducible refine Below.drew ?_) | (with_reducible refine below_drewN ?_ _) | ((with_reducible refine Below.alloc ?_ ?_ _); rotate_left; (first | omega | (simp <;> omega)); rotate_right) | ((with_reducible refine Below.setCell ?_ ?_ _); rotate_left; (first | omega | (simp <;> omega)); rotate_right) | (with_reducible assumption) | (refine Below.trans ?_ (Below.mono (by assumption) ?_); rotate_left; (first | omega | (simp <;> omega)); rotate_right))))
    simp [results, Try.results22, go_sem]
  obtain ⟨i0, hi0, hz0, hz1, hz2⟩ := info_parts info_u8
  have hd8 := h.sub 8 m (by omega)
  have HDD := Lib.hid (show (l.drop 8).take m = Frm.dd l by rw [Frm.dd, hm])
  rw [HDD.out] at hd8
  have HD8 := Lib.hid hd8
  have HC := Lib.hid (show ((Frm.dsum l : Nat) : Int) = 256 * l.getD (Frm.dm l + 8) 0 + l.getD (Frm.dm l + 9) 0 by rw [HS.out, ← hm, hu, hv]; exact hcc)
  have HM := Lib.hid hm
  have HL := Lib.hid hl
  have k2 := hc 2 (by omega)
  have b2 := hby.at_ 2
  obtain ⟨x2, hx2⟩ : ∃ x, l.getD 2 0 = x := ⟨_, rfl⟩
  rw [hx2] at k2 b2
  have X2 := Lib.hid hx2
  have k3 := hc 3 (by omega)
  have b3 := hby.at_ 3
  obtain ⟨x3, hx3⟩ : ∃ x, l.getD 3 0 = x := ⟨_, rfl⟩
  rw [hx3] at k3 b3
  have X3 := Lib.hid hx3
  have k4 := hc 4 (by omega)
  have b4 := hby.at_ 4
  obtain ⟨x4, hx4⟩ : ∃ x, l.getD 4 0 = x := ⟨_, rfl⟩
  rw [hx4] at k4 b4
  have X4 := Lib.hid hx4
  have k5 := hc 5 (by omega)
  have b5 := hby.at_ 5
  obtain ⟨x5, hx5⟩ : ∃ x, l.getD 5 0 = x := ⟨_, rfl⟩
  rw [hx5] at k5 b5
  have X5 := Lib.hid hx5
  have k6 := hc 6 (by omega)
  have b6 := hby.at_ 6
  obtain ⟨x6, hx6⟩ : ∃ x, l.getD 6 0 = x := ⟨_, rfl⟩
  rw [hx6] at k6 b6
  have X6 := Lib.hid hx6
  have z := (show ((c : Int) != 256 * u + v) = false by simpa using hcc)
  have hc1 : (c : Int) = 256 * u + v := hcc
  clear h hc hby hl hm hm7 hsub HS hu hv hcc hd8 hx2 hx3 hx4 hx5 hx6
  obtain ⟨y2, y2'⟩ := b2
  obtain ⟨y3, y3'⟩ := b3
  obtain ⟨y4, y4'⟩ := b4
  obtain ⟨y5, y5'⟩ := b5
  obtain ⟨y6, y6'⟩ := b6
  clear hc1
  have HB := (show Below w.heap.size w (w.alloc (.cells #[.int .i64 0, .int .i64 0, .int .i64 0, .int .i64 0, .slice none 0 0] 40)) from (by repeat (first | (with_reducible exact Below.refl _ _) | (with_reducible refine Below.drew ?_) | (with_reducible refine below_drewN ?_ _) | ((with_reducible refine Below.alloc ?_ ?_ _); rotate_left; (first | omega | (simp <;> omega)); rotate_right) | ((with_reducible refine Below.setCell ?_ ?_ _); rotate_left; (first | omega | (simp <;> omega)); rotate_right) | (with_reducible assumption) | (refine Below.trans ?_ (Below.mono (by assumption) ?_); rotate_left; (first | omega | (simp <;> omega)); rotate_right))))
  go_enter Try.func22, Try.ntmps22
  go_wp2_with fail
  have w1 : IntKind.i64.wrap (10 + (m : Int) - 2) = (m : Int) + 8 := by rw [IntWalk.i64_in _ (by omega)]; omega
  have w2 : IntKind.i64.wrap (10 + (m : Int) - 1) = (m : Int) + 9 := by rw [IntWalk.i64_in _ (by omega)]; omega
  have w3 : IntKind.i64.wrap (256 * u) = 256 * u := IntWalk.i64_in _ (by omega)
  have w4 : IntKind.i64.wrap (256 * u + v) = 256 * u + v := IntWalk.i64_in _ (by omega)
  go_quiet ((go_at_call 43; exact Calls.quiet_of (RS.out _ (below_drewN HB _))))
  clear w1 w2 w3 w4
  go_wp2_with fail
  obtain ⟨wq, hwq⟩ : ∃ wq : World, wq = ((w.alloc (.cells #[.int .i64 0, .int .i64 0, .int .i64 0, .int .i64 0, .slice none 0 0] 40))).drewN nq := ⟨_, rfl⟩
  have HQ : Below w.heap.size w wq := by rw [hwq]; exact below_drewN HB _
  have hF : wq.heap[w.heap.size]? = some (.cells #[.int .i64 0, .int .i64 0, .int .i64 0, .int .i64 0, .slice none 0 0] 40 (0, 0)) := by rw [hwq]; exact blk_drewN (heap_new _ _) _
  have hzq : wq.heap.size = w.heap.size + 1 := by rw [hwq]; simp
  rw [← hwq]
  clear hwq HB k0 k1 k7 kc1 kc2 z RS bc1 bc2 q1 q2
  have j2 := ((bcell HQ).1 b (o + 2) hbl).trans k2
  have j3 := ((bcell HQ).1 b (o + 3) hbl).trans k3
  have j4 := ((bcell HQ).1 b (o + 4) hbl).trans k4
  have j5 := ((bcell HQ).1 b (o + 5) hbl).trans k5
  have j6 := ((bcell HQ).1 b (o + 6) hbl).trans k6
  have hbq : b < wq.heap.size := by omega
  have w5 : IntKind.i64.wrap (256 * x5) = 256 * x5 := IntWalk.i64_in _ (by omega)
  have w6 : IntKind.i64.wrap (256 * x5 + x6) = 256 * x5 + x6 := IntWalk.i64_in _ (by omega)
  have HQH := Lib.hid HQ
  have HFH := Lib.hid hF
  have HZH := Lib.hid hzq
  clear k2 k3 k4 k5 k6 HQ hF hzq hbl
  have i2 : (2 : Int) < 10 + (m : Int) := by omega
  have i3 : (3 : Int) < 10 + (m : Int) := by omega
  have i4 : (4 : Int) < 10 + (m : Int) := by omega
  have i5 : (5 : Int) < 10 + (m : Int) := by omega
  have i6 : (6 : Int) < 10 + (m : Int) := by omega
  go_region_held3 (fun w' => w'.cell? ⟨b, o + 2, none⟩ = some (.int .u8 x2) ∧ w'.cell? ⟨b, o + 3, none⟩ = some (.int .u8 x3) ∧ w'.cell? ⟨b, o + 4, none⟩ = some (.int .u8 x4) ∧ w'.cell? ⟨b, o + 5, none⟩ = some (.int .u8 x5) ∧ w'.cell? ⟨b, o + 6, none⟩ = some (.int .u8 x6)) (refine ⟨?_, ?_, ?_, ?_, ?_⟩ <;> (first | (with_reducible assumption) | (simp only [World.cell?_drew]; with_reducible assumption) | (with_reducible apply cell_alloc_keep; with_reducible assumption) | go_keep)) (first | fail)
  clear w5 w6 i2 i3 i4 i5 i6
  have HQ := HQH.out
  have hF := HFH.out
  have hzq1 : w.heap.size < wq.heap.size := by rw [HZH.out]; omega
  have hlen : 10 + m - 2 - 8 = m := by omega
  have s1 : (8 : Int) ≤ 10 + (m : Int) - 2 := by omega
  have s2 : 10 + (m : Int) - 2 ≤ (cap : Int) := by omega
  go_wp2_with (at_builtin; refine wpList_append_any _ rfl (.const (.slice none 0 0)) (.tmp 89) _ rfl (wq.heap.size + 1) 5 i0 _ 1 1 Try.underlying37 hi0 hz0 hz1 hz2 rfl (by omega) (.slice none 0 0) 0 [] rfl (World.ownsRow_nil _ _ _ _) w.heap.size (some ⟨b, o + 8, none⟩) (10 + m - 2 - 8) (cap - 8) (bv (Frm.dd l)) rfl (hlen.symm ▸ ((((HD8.out.below HQ (Nat.le_refl _)).alloc (by omega) _).drew).reads)) (bv_one _) (by simp only [maxLen]; omega) (by omega) (by simp) ?_; intro v1 w3 hown1 hg1 hat1; obtain ⟨A1, cap1, hv1⟩ := own_form hown1; rw [hv1] at hown1 hat1 ⊢; clear hv1; have hX3 := blk_only (q := wq.heap.size) (blk_drew (heap_new wq _)) hg1 (by simp [Value.ownBlock]); have hF3 := blk_only (blk_drew (blk_alloc hF _)) hg1 (by simp [Value.ownBlock]); have cX_0 := blk_cell hX3 0 rfl; have fX_0 := blk_free hX3 0; have cX_1 := blk_cell hX3 1 rfl; have fX_1 := blk_free hX3 1; have cX_2 := blk_cell hX3 2 rfl; have fX_2 := blk_free hX3 2; have cX_3 := blk_cell hX3 3 rfl; have fX_3 := blk_free hX3 3; have cX_4 := blk_cell hX3 4 rfl; have fX_4 := blk_free hX3 4; have lX := lt_of_block hX3)
  have hw3 : Below w.heap.size w w3 := Below.grown (w := (wq.alloc (.cells #[.int .i64 x2, .int .i64 x3, .int .i64 x4, .int .i64 (256 * x5 + x6), .slice none 0 0] 40)).drew) (by repeat (first | (with_reducible exact Below.refl _ _) | (with_reducible refine Below.drew ?_) | (with_reducible refine below_drewN ?_ _) | ((with_reducible refine Below.alloc ?_ ?_ _); rotate_left; (first | omega | (simp <;> omega)); rotate_right) | ((with_reducible refine Below.setCell ?_ ?_ _); rotate_left; (first | omega | (simp <;> omega)); rotate_right) | (with_reducible assumption) | (refine Below.trans ?_ (Below.mono (by assumption) ?_); rotate_left; (first | omega | (simp <;> omega)); rotate_right))) hg1 (by simp; omega) (fun x hx => by simp [Value.ownBlock] at hx)
  obtain ⟨wy, hwy⟩ : ∃ wy : World, wy = w3.setCell ⟨wq.heap.size, 4, none⟩ (.slice A1 m cap1) := ⟨_, rfl⟩
  have hXY : wy.heap[wq.heap.size]? = some (.cells #[.int .i64 x2, .int .i64 x3, .int .i64 x4, .int .i64 (256 * x5 + x6), .slice A1 m cap1] 40 (0, 0)) := by rw [hwy]; exact (blk_set hX3 4 _).trans rfl
  have hFY : wy.heap[w.heap.size]? = some (.cells #[.int .i64 0, .int .i64 0, .int .i64 0, .int .i64 0, .slice none 0 0] 40 (0, 0)) := by rw [hwy]; exact blk_far hF3 (by simp; omega) _
  have hBY : Below w.heap.size w wy := by rw [hwy]; exact hw3.setCell (by simp; omega) _
  have hown2 := hown1
  rw [hlen, Nat.zero_add, List.nil_append] at hown2
  have ow : Ow wy (wq.heap.size + 1) A1 m cap1 (Frm.dd l) := by rw [hwy]; exact Ow.far ⟨hown2, HD8.out.2.1⟩ (by simp) _
  rw [← hwy]
  clear hwy hX3 hF3 hown1 hown2 hw3 hg1 hat1 cX_0 fX_0 cX_1 fX_1 cX_2 fX_2 cX_3 fX_3 cX_4 fX_4 s1 s2 lX HQ hF
  have hzy := hBY.size
  have hlX := lt_of_block hXY
  cases hvd : Frm.vd x2 x3 x4 (256 * x5 + x6) m
  · have V := Lib.hid (fun (W : World) => hvd ▸ rvalid_any x2 x3 x4 (256 * x5 + x6) A1 m cap1 W (by omega))
    have E := Lib.hid (Frm.dE_6 (l := l) G.out (by rw [HL.out, ← HM.out]) HC.out (by rw [X2.out, X3.out, X4.out, Frm.dS, X5.out, X6.out, ← HM.out]; exact hvd))
    clear hvd
    refine (V.out _).mono ?_
    rintro e w9 ⟨rfl, hb9⟩
    have hz9 := hb9.size
    have hF9 := blk_below hFY hb9 (by omega)
    have HB9 := (show Below w.heap.size w w9 from (by repeat (first | (with_reducible exact Below.refl _ _) | (with_reducible refine Below.drew ?_) | (with_reducible refine below_drewN ?_ _) | ((with_reducible refine Below.alloc ?_ ?_ _); rotate_left; (first | omega | (simp <;> omega)); rotate_right) | ((with_reducible refine Below.setCell ?_ ?_ _); rotate_left; (first | omega | (simp <;> omega)); rotate_right) | (with_reducible assumption) | (refine Below.trans ?_ (Below.mono (by assumption) ?_); rotate_left; (first | omega | (simp <;> omega)); rotate_right))))
    have cF_0 := blk_cell hF9 0 rfl; have fF_0 := blk_free hF9 0; have cF_1 := blk_cell hF9 1 rfl; have fF_1 := blk_free hF9 1; have cF_2 := blk_cell hF9 2 rfl; have fF_2 := blk_free hF9 2; have cF_3 := blk_cell hF9 3 rfl; have fF_3 := blk_free hF9 3; have cF_4 := blk_cell hF9 4 rfl; have fF_4 := blk_free hF9 4; have lF := lt_of_block hF9
    go_wp2_with fail
    refine bodyPost_ret (v := .tuple #[.agg #[.int .i64 0, .int .i64 0, .int .i64 0, .int .i64 0, .slice none 0 0], .int .i64 6]) ?_ rfl (dpost_err E.out (by decide) (by repeat (first | (with_reducible exact Below.refl _ _) | (with_reducible refine Below.drew ?_) | (with_reducible refine below_drewN ?_ _) | ((with_reducible refine Below.alloc ?_ ?_ _); rotate_left; (first | omega | (simp <;> omega)); rotate_right) | ((with_reducible refine Below.setCell ?_ ?_ _); rotate_left; (first | omega | (simp <;> omega)); rotate_right) | (with_reducible assumption) | (refine Below.trans ?_ (Below.mono (by assumption) ?_); rotate_left; (first | omega | (simp <;> omega)); rotate_right))))
    simp [results, Try.results22, go_sem, *]
  · have V := Lib.hid (fun (W : World) => hvd ▸ rvalid_any x2 x3 x4 (256 * x5 + x6) A1 m cap1 W (by omega))
    have E := Lib.hid (Frm.dE_0 (l := l) G.out (by rw [HL.out, ← HM.out]) HC.out (by rw [X2.out, X3.out, X4.out, Frm.dS, X5.out, X6.out, ← HM.out]; exact hvd))
    clear hvd
    refine (V.out _).mono ?_
    rintro e w9 ⟨rfl, hb9⟩
    have hz9 := hb9.size
    have hF9 := blk_below hFY hb9 (by omega)
    have hX9 := blk_below hXY hb9 hlX
    have ow9 := ow.below hb9 (Nat.le_refl _)
    have HB9 := (show Below w.heap.size w w9 from (by repeat (first | (with_reducible exact Below.refl _ _) | (with_reducible refine Below.drew ?_) | (with_reducible refine below_drewN ?_ _) | ((with_reducible refine Below.alloc ?_ ?_ _); rotate_left; (first | omega | (simp <;> omega)); rotate_right) | ((with_reducible refine Below.setCell ?_ ?_ _); rotate_left; (first | omega | (simp <;> omega)); rotate_right) | (with_reducible assumption) | (refine Below.trans ?_ (Below.mono (by assumption) ?_); rotate_left; (first | omega | (simp <;> omega)); rotate_right))))
    have cF_0 := blk_cell hF9 0 rfl; have fF_0 := blk_free hF9 0; have cF_1 := blk_cell hF9 1 rfl; have fF_1 := blk_free hF9 1; have cF_2 := blk_cell hF9 2 rfl; have fF_2 := blk_free hF9 2; have cF_3 := blk_cell hF9 3 rfl; have fF_3 := blk_free hF9 3; have cF_4 := blk_cell hF9 4 rfl; have fF_4 := blk_free hF9 4; have lF := lt_of_block hF9
    have cY_0 := blk_cell hX9 0 rfl; have fY_0 := blk_free hX9 0; have cY_1 := blk_cell hX9 1 rfl; have fY_1 := blk_free hX9 1; have cY_2 := blk_cell hX9 2 rfl; have fY_2 := blk_free hX9 2; have cY_3 := blk_cell hX9 3 rfl; have fY_3 := blk_free hX9 3; have cY_4 := blk_cell hX9 4 rfl; have fY_4 := blk_free hX9 4; have lY := lt_of_block hX9
    go_wp2_with fail
    refine bodyPost_ret (v := .tuple #[.agg #[.int .i64 x2, .int .i64 x3, .int .i64 x4, .int .i64 (256 * x5 + x6), .slice A1 m cap1], .int .i64 0]) ?_ rfl (.inr ⟨E.out, A1, cap1, ?_, ?_, (by repeat (first | (with_reducible exact Below.refl _ _) | (with_reducible refine Below.drew ?_) | (with_reducible refine below_drewN ?_ _) | ((with_reducible refine Below.alloc ?_ ?_ _); rotate_left; (first | omega | (simp <;> omega)); rotate_right) | ((with_reducible refine Below.setCell ?_ ?_ _); rotate_left; (first | omega | (simp <;> omega)); rotate_right) | (with_reducible assumption) | (refine Below.trans ?_ (Below.mono (by assumption) ?_); rotate_left; (first | omega | (simp <;> omega)); rotate_right)))⟩)
    · simp [results, Try.results22, go_sem, *]
    · rw [X2.out, X3.out, X4.out, Frm.dS, X5.out, X6.out, ← HM.out]
    · rw [← HM.out]
      refine Ow.more (base := wq.heap.size + 1) ?_ (by omega)
      exact Ow.far (Ow.far (Ow.far (Ow.far (Ow.far ow9 (by simp; omega) _) (by simp; omega) _) (by simp; omega) _) (by simp; omega) _) (by simp; omega) _
end Go.Proofs.Ytgdpoiapkaahfaa

/- Which rules are valid; New; what a link shows. -/
import Derived.Test.YtgdpoiapkaahfaaLkPut
import Derived.Test.YtgdpoiapkaahfaaVal
namespace Go.Proofs.Ytgdpoiapkaahfaa
open Go.RowKit
set_option maxHeartbeats 4000000
set_option maxRecDepth 100000
set_option linter.unusedSimpArgs false
set_option linter.unusedVariables false
theorem lwithin_any (n a b : Int) (w : World) :
    Calls Try.prog 29 #[.int .i64 n, .int .i64 a, .int .i64 b] w fun e w' => e = .returned (.bool (Frm.inB n a b)) ∧ w = w' := by
  by_cases h : a ≤ n
  all_goals
    go_enter Try.func29, Try.ntmps29
    go_wp2_with fail
    go_ret
    exact ⟨ret_bool (by simp [Frm.inB, h]; try omega), rfl⟩
theorem lwithin_yes (n a b : Int) (w : World) (h : a ≤ n ∧ n ≤ b) :
    Calls Try.prog 29 #[.int .i64 n, .int .i64 a, .int .i64 b] w fun e w' => e = .returned (.bool true) ∧ w = w' :=
  (lwithin_any n a b w).mono fun e w' ⟨h1, h2⟩ => ⟨by rw [h1, Frm.inB_iff.2 h], h2⟩
theorem lwithin_no (n a b : Int) (w : World) (h : ¬ (a ≤ n ∧ n ≤ b)) :
    Calls Try.prog 29 #[.int .i64 n, .int .i64 a, .int .i64 b] w fun e w' => e = .returned (.bool false) ∧ w = w' :=
  (lwithin_any n a b w).mono fun e w' ⟨h1, h2⟩ => ⟨by rw [h1, Frm.inB_no.2 h], h2⟩
theorem lto_any (n a b : Int) (w : World) :
    Calls Try.prog 30 #[.int .i64 n, .int .i64 a, .int .i64 b] w fun e w' => e = .returned (.bool (Frm.inB n a b)) ∧ w = w' := by
  by_cases h : a ≤ n
  all_goals
    go_enter Try.func30, Try.ntmps30
    go_wp2_with fail
    go_ret
    exact ⟨ret_bool (by simp [Frm.inB, h]; try omega), rfl⟩
theorem lto_yes (n a b : Int) (w : World) (h : a ≤ n ∧ n ≤ b) :
    Calls Try.prog 30 #[.int .i64 n, .int .i64 a, .int .i64 b] w fun e w' => e = .returned (.bool true) ∧ w = w' :=
  (lto_any n a b w).mono fun e w' ⟨h1, h2⟩ => ⟨by rw [h1, Frm.inB_iff.2 h], h2⟩
theorem lto_no (n a b : Int) (w : World) (h : ¬ (a ≤ n ∧ n ≤ b)) :
    Calls Try.prog 30 #[.int .i64 n, .int .i64 a, .int .i64 b] w fun e w' => e = .returned (.bool false) ∧ w = w' :=
  (lto_any n a b w).mono fun e w' ⟨h1, h2⟩ => ⟨by rw [h1, Frm.inB_no.2 h], h2⟩
def rul (r : Lnk.Ru) : List Value := [.int .i64 r.loss, .int .i64 r.twice, .int .i64 r.least, .int .i64 r.most, .int .i64 r.seed]
theorem vld_cases (r : Lnk.Ru) : (¬ (0 ≤ r.loss ∧ r.loss ≤ 1000) ∧ Lnk.vld r = false) ∨ ((0 ≤ r.loss ∧ r.loss ≤ 1000) ∧ ¬ (0 ≤ r.twice ∧ r.twice ≤ 1000) ∧ Lnk.vld r = false) ∨
    ((0 ≤ r.loss ∧ r.loss ≤ 1000) ∧ (0 ≤ r.twice ∧ r.twice ≤ 1000) ∧ ¬ (0 ≤ r.least ∧ r.least ≤ r.most) ∧ Lnk.vld r = false) ∨ ((0 ≤ r.loss ∧ r.loss ≤ 1000) ∧ (0 ≤ r.twice ∧ r.twice ≤ 1000) ∧ (0 ≤ r.least ∧ r.least ≤ r.most) ∧ 60000 < r.most ∧ Lnk.vld r = false) ∨
    ((0 ≤ r.loss ∧ r.loss ≤ 1000) ∧ (0 ≤ r.twice ∧ r.twice ≤ 1000) ∧ (0 ≤ r.least ∧ r.least ≤ r.most) ∧ r.most ≤ 60000 ∧ r.seed < 0 ∧ Lnk.vld r = false) ∨ ((0 ≤ r.loss ∧ r.loss ≤ 1000) ∧ (0 ≤ r.twice ∧ r.twice ≤ 1000) ∧ (0 ≤ r.least ∧ r.least ≤ r.most) ∧ r.most ≤ 60000 ∧ 0 ≤ r.seed ∧ Lnk.vld r = true) := by
  have no : ∀ p : Prop, (¬ ((0 ≤ r.loss ∧ r.loss ≤ 1000) ∧ (0 ≤ r.twice ∧ r.twice ≤ 1000) ∧ (0 ≤ r.least ∧ r.least ≤ r.most) ∧ r.most ≤ 60000 ∧ 0 ≤ r.seed)) → Lnk.vld r = false := fun _ h => by
    cases hv : Lnk.vld r
    · rfl
    · exact absurd (Lnk.vld_iff.1 hv) h
  by_cases a : 0 ≤ r.loss ∧ r.loss ≤ 1000
  · right
    by_cases b : 0 ≤ r.twice ∧ r.twice ≤ 1000
    · right
      by_cases c : 0 ≤ r.least ∧ r.least ≤ r.most
      · right
        by_cases d : 60000 < r.most
        · exact .inl ⟨a, b, c, d, no True (by omega)⟩
        · right
          by_cases e : r.seed < 0
          · exact .inl ⟨a, b, c, by omega, e, no True (by omega)⟩
          · exact .inr ⟨a, b, c, by omega, by omega, Lnk.vld_iff.2 ⟨a, b, c, by omega, by omega⟩⟩
      · exact .inl ⟨a, b, c, no True (fun h => c h.2.2.1)⟩
    · exact .inl ⟨a, b, no True (fun h => b h.2.1)⟩
  · exact .inl ⟨a, no True (fun h => a h.1)⟩
theorem lvalid_any (r : Lnk.Ru) (w : World) :
    Calls Try.prog 10 #[.agg (rul r).toArray] w fun e w' => e = .returned (.bool (Lnk.vld r)) ∧ Below w.heap.size w w' := by
  obtain ⟨lo, tw, le, mo, se⟩ := r
  rcases vld_cases ⟨lo, tw, le, mo, se⟩ with ⟨h1, E⟩ | ⟨h1, h2, E⟩ | ⟨h1, h2, h3, E⟩ | ⟨h1, h2, h3, h4, E⟩ | ⟨h1, h2, h3, h4, h5, E⟩ | ⟨h1, h2, h3, h4, h5, E⟩
  all_goals
    have HE := Lib.hid E
    clear E
    simp only [rul] at *
    try dsimp only at h1
    try dsimp only at h2
    try dsimp only at h3
    try dsimp only at h3'
    try dsimp only at h4
    try dsimp only at h5
    go_enter Try.func10, Try.ntmps10
    go_wp2_with (first | (refine (lwithin_yes _ _ _ _ (by omega)).mono ?_; rintro e w' ⟨rfl, rfl⟩) | (refine (lwithin_no _ _ _ _ (by omega)).mono ?_; rintro e w' ⟨rfl, rfl⟩))
    go_ret
    exact ⟨ret_bool (by first | exact HE.out.symm | (rw [HE.out]; simp; omega)), (by repeat (first | (with_reducible exact Below.refl _ _) | (with_reducible refine Below.drew ?_) | (with_reducible refine below_drewN ?_ _) | ((with_reducible refine Below.alloc ?_ ?_ _); rotate_left; (first | omega | (simp <;> omega)); rotate_right) | ((with_reducible refine Below.setCell ?_ ?_ _); rotate_left; (first | omega | (simp <;> omega)); rotate_right) | (with_reducible assumption) | (refine Below.trans ?_ (Below.mono (by assumption) ?_); rotate_left; (first | omega | (simp <;> omega)); rotate_right)))⟩
theorem rlvalid_any (r : Lnk.Ru) (w : World) :
    Calls Try.prog 11 #[.agg (rul r).toArray] w fun e w' => e = .returned (.bool (Lnk.vld r)) ∧ Below w.heap.size w w' := by
  obtain ⟨lo, tw, le, mo, se⟩ := r
  rcases vld_cases ⟨lo, tw, le, mo, se⟩ with ⟨h1, E⟩ | ⟨h1, h2, E⟩ | ⟨h1, h2, h3, E⟩ | ⟨h1, h2, h3, h4, E⟩ | ⟨h1, h2, h3, h4, h5, E⟩ | ⟨h1, h2, h3, h4, h5, E⟩
  case inr.inr.inl =>
    by_cases h0 : 0 ≤ le
    · have h3' : mo < le := by simp only at h3; omega
      clear h3
      have HE := Lib.hid E
      clear E
      simp only [rul] at *
      try dsimp only at h1
      try dsimp only at h2
      try dsimp only at h3
      try dsimp only at h3'
      try dsimp only at h4
      try dsimp only at h5
      go_enter Try.func11, Try.ntmps11
      go_wp2_with (first | (refine (lto_yes _ _ _ _ (by omega)).mono ?_; rintro e w' ⟨rfl, rfl⟩) | (refine (lto_no _ _ _ _ (by omega)).mono ?_; rintro e w' ⟨rfl, rfl⟩))
      go_ret
      exact ⟨ret_bool (by first | exact HE.out.symm | (rw [HE.out]; simp; omega)), (by repeat (first | (with_reducible exact Below.refl _ _) | (with_reducible refine Below.drew ?_) | (with_reducible refine below_drewN ?_ _) | ((with_reducible refine Below.alloc ?_ ?_ _); rotate_left; (first | omega | (simp <;> omega)); rotate_right) | ((with_reducible refine Below.setCell ?_ ?_ _); rotate_left; (first | omega | (simp <;> omega)); rotate_right) | (with_reducible assumption) | (refine Below.trans ?_ (Below.mono (by assumption) ?_); rotate_left; (first | omega | (simp <;> omega)); rotate_right)))⟩
    · have h3' : le < 0 := by omega
      clear h3 h0
      have HE := Lib.hid E
      clear E
      simp only [rul] at *
      try dsimp only at h1
      try dsimp only at h2
      try dsimp only at h3
      try dsimp only at h3'
      try dsimp only at h4
      try dsimp only at h5
      go_enter Try.func11, Try.ntmps11
      go_wp2_with (first | (refine (lto_yes _ _ _ _ (by omega)).mono ?_; rintro e w' ⟨rfl, rfl⟩) | (refine (lto_no _ _ _ _ (by omega)).mono ?_; rintro e w' ⟨rfl, rfl⟩))
      go_ret
      exact ⟨ret_bool (by first | exact HE.out.symm | (rw [HE.out]; simp; omega)), (by repeat (first | (with_reducible exact Below.refl _ _) | (with_reducible refine Below.drew ?_) | (with_reducible refine below_drewN ?_ _) | ((with_reducible refine Below.alloc ?_ ?_ _); rotate_left; (first | omega | (simp <;> omega)); rotate_right) | ((with_reducible refine Below.setCell ?_ ?_ _); rotate_left; (first | omega | (simp <;> omega)); rotate_right) | (with_reducible assumption) | (refine Below.trans ?_ (Below.mono (by assumption) ?_); rotate_left; (first | omega | (simp <;> omega)); rotate_right)))⟩
  all_goals
    have HE := Lib.hid E
    clear E
    simp only [rul] at *
    try dsimp only at h1
    try dsimp only at h2
    try dsimp only at h3
    try dsimp only at h3'
    try dsimp only at h4
    try dsimp only at h5
    go_enter Try.func11, Try.ntmps11
    go_wp2_with (first | (refine (lto_yes _ _ _ _ (by omega)).mono ?_; rintro e w' ⟨rfl, rfl⟩) | (refine (lto_no _ _ _ _ (by omega)).mono ?_; rintro e w' ⟨rfl, rfl⟩))
    go_ret
    exact ⟨ret_bool (by first | exact HE.out.symm | (rw [HE.out]; simp; omega)), (by repeat (first | (with_reducible exact Below.refl _ _) | (with_reducible refine Below.drew ?_) | (with_reducible refine below_drewN ?_ _) | ((with_reducible refine Below.alloc ?_ ?_ _); rotate_left; (first | omega | (simp <;> omega)); rotate_right) | ((with_reducible refine Below.setCell ?_ ?_ _); rotate_left; (first | omega | (simp <;> omega)); rotate_right) | (with_reducible assumption) | (refine Below.trans ?_ (Below.mono (by assumption) ?_); rotate_left; (first | omega | (simp <;> omega)); rotate_right)))⟩
theorem lnew_no (r : Lnk.Ru) (w : World) (hv : Lnk.vld r = false) :
    Calls Try.prog 24 #[.agg (rul r).toArray] w fun e w' => e = .returned (.tuple #[.pointer none, .int .i64 2]) ∧ Below w.heap.size w w' := by
  have V := Lib.hid (fun W : World => hv ▸ lvalid_any r W)
  clear hv
  obtain ⟨lo, tw, le, mo, se⟩ := r
  simp only [rul] at *
  go_enter Try.func24, Try.ntmps24
  go_wp2_with fail
  refine (V.out _).mono ?_
  rintro e w1 ⟨rfl, hb1⟩
  have hz1 := hb1.size; try simp at hz1
  go_wp2_with fail
  go_ret2
  exact ⟨rfl, (by repeat (first | (with_reducible exact Below.refl _ _) | (with_reducible refine Below.drew ?_) | (with_reducible refine below_drewN ?_ _) | ((with_reducible refine Below.alloc ?_ ?_ _); rotate_left; (first | omega | (simp <;> omega)); rotate_right) | ((with_reducible refine Below.setCell ?_ ?_ _); rotate_left; (first | omega | (simp <;> omega)); rotate_right) | (with_reducible assumption) | (refine Below.trans ?_ (Below.mono (by assumption) ?_); rotate_left; (first | omega | (simp <;> omega)); rotate_right)))⟩
/-- New makes a link -/
def NewPost (r : Lnk.Ru) (w : World) (e : Ending) (w' : World) : Prop :=
  ∃ b, e = .returned (.tuple #[.pointer (some ⟨b, 0, none⟩), .int .i64 0]) ∧ IsLk w' w.heap.size b none 0 r (Lnk.new r) ∧ Below w.heap.size w w'
theorem lnew_yes (r : Lnk.Ru) (w : World) (hv : Lnk.vld r = true) (hse : r.seed ≤ 9223372036854775807) :
    Calls Try.prog 24 #[.agg (rul r).toArray] w (NewPost r w) := by
  have V := Lib.hid (fun W : World => hv ▸ lvalid_any r W)
  rw [Lnk.vld_iff] at hv
  obtain ⟨_, _, _, _, h5⟩ := hv
  obtain ⟨lo, tw, le, mo, se⟩ := r
  simp only [rul] at *
  have hw : IntKind.u64.wrap se = se := by rw [IntKind.wrap_u64]; omega
  go_enter Try.func24, Try.ntmps24
  go_wp2_with fail
  refine (V.out _).mono ?_
  rintro e w1 ⟨rfl, hb1⟩
  have hz1 := hb1.size; try simp at hz1
  have h1 := blk_below (q := w.heap.size) (heap_new _ _) hb1 (by first | omega | (simp; done) | (simp; omega))
  have ca_0 := blk_cell h1 0 rfl; have fa_0 := blk_free h1 0; have ca_1 := blk_cell h1 1 rfl; have fa_1 := blk_free h1 1; have ca_2 := blk_cell h1 2 rfl; have fa_2 := blk_free h1 2; have ca_3 := blk_cell h1 3 rfl; have fa_3 := blk_free h1 3; have ca_4 := blk_cell h1 4 rfl; have fa_4 := blk_free h1 4; have la := lt_of_block h1
  go_wp2_with fail
  go_ret2
  refine ⟨w1.heap.size, rfl, ⟨heap_new _ _, Row.nil _ _ _ _, by omega⟩, (by repeat (first | (with_reducible exact Below.refl _ _) | (with_reducible refine Below.drew ?_) | (with_reducible refine below_drewN ?_ _) | ((with_reducible refine Below.alloc ?_ ?_ _); rotate_left; (first | omega | (simp <;> omega)); rotate_right) | ((with_reducible refine Below.setCell ?_ ?_ _); rotate_left; (first | omega | (simp <;> omega)); rotate_right) | (with_reducible assumption) | (refine Below.trans ?_ (Below.mono (by assumption) ?_); rotate_left; (first | omega | (simp <;> omega)); rotate_right)))⟩
theorem lnext_nil (w : World) : Calls Try.prog 26 #[.pointer none] w fun e w' => e = .returned (.tuple #[.int .i64 0, .int .i64 1]) ∧ w = w' := by
  go_enter Try.func26, Try.ntmps26
  go_wp2_with (refine (none_nil _).mono ?_; rintro e w' ⟨rfl, rfl⟩)
  go_ret2
  exact ⟨rfl, rfl⟩
theorem lnext_any (base b c : Nat) (A : Option Addr) (r : Lnk.Ru) (s : Lnk.St) (w : World) (h : IsLk w base b A c r s) (hn : s.u.length ≤ 1000) :
    Calls Try.prog 26 #[.pointer (some ⟨b, 0, none⟩)] w fun e w' => e = .returned (.tuple #[.int .i64 (Lnk.nextN s), .int .i64 (Lnk.nextE s)]) ∧ w = w' := by
  have N := Lib.hid (none_made b _ w h.blk rfl)
  have c8 : w.cell? ⟨b, 8, none⟩ = some (.slice A s.u.length c) := blk_cell h.blk 8 rfl
  have hlen := Lnk.length_srt s.u
  rcases hu : Lnk.srt s.u with _ | ⟨m, l⟩
  · rw [hu] at hlen
    have hl0 : s.u.length = 0 := hlen.symm
    have E1 := Lib.hid (show Lnk.nextN s = 0 by unfold Lnk.nextN; rw [hu])
    have E2 := Lib.hid (show Lnk.nextE s = 9 by unfold Lnk.nextE; rw [if_pos hl0])
    rw [hl0] at c8
    clear hlen hl0 hu h
    go_enter Try.func26, Try.ntmps26
    go_wp2_with (refine N.out.mono ?_; rintro e w' ⟨rfl, rfl⟩)
    go_ret2
    exact ⟨ret_ii E1.out.symm E2.out.symm, rfl⟩
  · rw [hu] at hlen
    have hl0 : 0 < s.u.length := by rw [← hlen]; simp
    have E1 := Lib.hid (show Lnk.nextN s = m.1 by unfold Lnk.nextN; rw [hu])
    have E2 := Lib.hid (show Lnk.nextE s = 0 by unfold Lnk.nextE; rw [if_neg (by omega)])
    obtain ⟨g, o, cur, rfl, hgb, hgl, hgg, hgn, hgc, hgf, hgt, hgx, hgz⟩ := h.row.some_ hl0
    have cx : w.cell? ⟨g, o, none⟩ = some (.int .i64 m.1) := hgx 0 _ (by rw [hu]; rfl)
    have z0 : ((s.u.length : Int) == 0) = false := by rw [beq_eq_false_iff_ne]; omega
    have z1 : (0 : Int) < (s.u.length : Int) := by omega
    clear hlen hgg hgt hgx hgz hu h
    go_enter Try.func26, Try.ntmps26
    go_wp2_with (refine N.out.mono ?_; rintro e w' ⟨rfl, rfl⟩)
    go_ret2
    exact ⟨ret_ii E1.out.symm E2.out.symm, rfl⟩
theorem lway_nil (w : World) : Calls Try.prog 17 #[.pointer none] w fun e w' => e = .returned (.int .i64 0) ∧ w = w' := by
  go_enter Try.func17, Try.ntmps17
  go_wp2_with (refine (none_nil _).mono ?_; rintro e w' ⟨rfl, rfl⟩)
  go_ret
  exact ⟨rfl, rfl⟩
theorem lway_any (base b c : Nat) (A : Option Addr) (r : Lnk.Ru) (s : Lnk.St) (w : World) (h : IsLk w base b A c r s) :
    Calls Try.prog 17 #[.pointer (some ⟨b, 0, none⟩)] w fun e w' => e = .returned (.int .i64 s.u.length) ∧ w = w' := by
  have N := Lib.hid (none_made b _ w h.blk rfl)
  have c8 : w.cell? ⟨b, 8, none⟩ = some (.slice A s.u.length c) := blk_cell h.blk 8 rfl
  clear h
  go_enter Try.func17, Try.ntmps17
  go_wp2_with (refine N.out.mono ?_; rintro e w' ⟨rfl, rfl⟩)
  go_ret
  exact ⟨rfl, rfl⟩
theorem lcounts_zero (b : Nat) (cs : List Value) (w : World) (h : w.heap[b]? = some (.cells cs.toArray 77 (0, 0))) (h0 : cs[0]? = some (.bool false)) :
    Calls Try.prog 25 #[.pointer (some ⟨b, 0, none⟩)] w fun e w' => e = .returned (.tuple #[.int .i64 0, .int .i64 0, .int .i64 0]) ∧ w = w' := by
  have N := Lib.hid (none_zero b _ w h h0)
  clear h h0
  go_enter Try.func25, Try.ntmps25
  go_wp2_with (refine N.out.mono ?_; rintro e w' ⟨rfl, rfl⟩)
  go_ret3
  exact ⟨rfl, rfl⟩
theorem lcounts_any (base b c : Nat) (A : Option Addr) (r : Lnk.Ru) (s : Lnk.St) (w : World) (h : IsLk w base b A c r s) :
    Calls Try.prog 25 #[.pointer (some ⟨b, 0, none⟩)] w fun e w' => e = .returned (.tuple #[.int .i64 s.sent, .int .i64 s.lost, .int .i64 s.dbl]) ∧ ∃ q, w' = w.drewN q := by
  have N := Lib.hid (none_made b _ w h.blk rfl)
  have c9 : w.cell? ⟨b, 9, none⟩ = some (.int .i64 s.sent) := blk_cell h.blk 9 rfl
  have c10 : w.cell? ⟨b, 10, none⟩ = some (.int .i64 s.lost) := blk_cell h.blk 10 rfl
  have c11 : w.cell? ⟨b, 11, none⟩ = some (.int .i64 s.dbl) := blk_cell h.blk 11 rfl
  clear h
  go_enter Try.func25, Try.ntmps25
  go_wp2_with (refine N.out.mono ?_; rintro e w' ⟨rfl, rfl⟩)
  go_quiet (fail)
  go_wp2_with fail
  go_ret3
  exact ⟨rfl, _, rfl⟩
end Go.Proofs.Ytgdpoiapkaahfaa

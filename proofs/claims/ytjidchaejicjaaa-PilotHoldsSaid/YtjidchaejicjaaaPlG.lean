/- Which rules are valid; a frame's number; New of both; what a pilot tells. -/
import Derived.Test.YtjidchaejicjaaaPlE
import Derived.Test.YtjidchaejicjaaaPlAS
namespace Go.Proofs.Ytjidchaejicjaaa
open Go.RowKit
set_option maxHeartbeats 8000000
set_option maxRecDepth 100000
set_option linter.unusedSimpArgs false
set_option linter.unusedVariables false
attribute [local go_sem ↓] Go.wp_at_zero Go.wp_at_succ
attribute [local go_sem high] run_mn run_mx
theorem inB_yes {n a b : Int} (h : a ≤ n ∧ n ≤ b) : Ck.Clk.inB n a b = true := Ck.Clk.inB_iff.2 h
theorem pwithin_yes (n a b : Int) (w : World) (h : a ≤ n ∧ n ≤ b) :
    Calls Try.prog 33 #[.int .i64 n, .int .i64 a, .int .i64 b] w fun e w' => e = .returned (.bool true) ∧ w = w' :=
  (pwithin_any n a b w).mono fun e w' ⟨h1, h2⟩ => ⟨by rw [h1, Ck.Clk.inB_iff.2 h], h2⟩
theorem pwithin_no (n a b : Int) (w : World) (h : ¬ (a ≤ n ∧ n ≤ b)) :
    Calls Try.prog 33 #[.int .i64 n, .int .i64 a, .int .i64 b] w fun e w' => e = .returned (.bool false) ∧ w = w' :=
  (pwithin_any n a b w).mono fun e w' ⟨h1, h2⟩ => ⟨by rw [h1, Ck.Clk.inB_no.2 h], h2⟩
theorem rto_yes (n a b : Int) (w : World) (h : a ≤ n ∧ n ≤ b) :
    Calls Try.prog 27 #[.int .i64 n, .int .i64 a, .int .i64 b] w fun e w' => e = .returned (.bool true) ∧ w = w' :=
  (rto_any n a b w).mono fun e w' ⟨h1, h2⟩ => ⟨by rw [h1, Ck.Clk.inB_iff.2 h], h2⟩
theorem rto_no (n a b : Int) (w : World) (h : ¬ (a ≤ n ∧ n ≤ b)) :
    Calls Try.prog 27 #[.int .i64 n, .int .i64 a, .int .i64 b] w fun e w' => e = .returned (.bool false) ∧ w = w' :=
  (rto_any n a b w).mono fun e w' ⟨h1, h2⟩ => ⟨by rw [h1, Ck.Clk.inB_no.2 h], h2⟩
theorem ru_cases (a b c d f : Int) : (¬ (1 ≤ a ∧ a ≤ 600000) ∧ Plt.ruOk a b c d f = false) ∨ ((1 ≤ a ∧ a ≤ 600000) ∧ ¬ (a ≤ b ∧ b ≤ 600000) ∧ Plt.ruOk a b c d f = false) ∨
    ((1 ≤ a ∧ a ≤ 600000) ∧ (a ≤ b ∧ b ≤ 600000) ∧ ¬ (1 ≤ c ∧ c ≤ 600000) ∧ Plt.ruOk a b c d f = false) ∨ ((1 ≤ a ∧ a ≤ 600000) ∧ (a ≤ b ∧ b ≤ 600000) ∧ (1 ≤ c ∧ c ≤ 600000) ∧ ¬ (0 ≤ d ∧ d ≤ 600000) ∧ Plt.ruOk a b c d f = false) ∨
    ((1 ≤ a ∧ a ≤ 600000) ∧ (a ≤ b ∧ b ≤ 600000) ∧ (1 ≤ c ∧ c ≤ 600000) ∧ (0 ≤ d ∧ d ≤ 600000) ∧ ¬ (1 ≤ f ∧ f ≤ 600000) ∧ Plt.ruOk a b c d f = false) ∨ ((1 ≤ a ∧ a ≤ 600000) ∧ (a ≤ b ∧ b ≤ 600000) ∧ (1 ≤ c ∧ c ≤ 600000) ∧ (0 ≤ d ∧ d ≤ 600000) ∧ (1 ≤ f ∧ f ≤ 600000) ∧ Plt.ruOk a b c d f = true) := by
  have no : (¬ ((1 ≤ a ∧ a ≤ 600000) ∧ (a ≤ b ∧ b ≤ 600000) ∧ (1 ≤ c ∧ c ≤ 600000) ∧ (0 ≤ d ∧ d ≤ 600000) ∧ (1 ≤ f ∧ f ≤ 600000))) → Plt.ruOk a b c d f = false := fun h => by
    cases hv : Plt.ruOk a b c d f
    · rfl
    · exact absurd (Plt.ruOk_iff.1 hv) h
  by_cases h1 : 1 ≤ a ∧ a ≤ 600000
  · right
    by_cases h2 : a ≤ b ∧ b ≤ 600000
    · right
      by_cases h3 : 1 ≤ c ∧ c ≤ 600000
      · right
        by_cases h4 : 0 ≤ d ∧ d ≤ 600000
        · right
          by_cases h5 : 1 ≤ f ∧ f ≤ 600000
          · exact .inr ⟨h1, h2, h3, h4, h5, Plt.ruOk_iff.2 ⟨h1, h2, h3, h4, h5⟩⟩
          · exact .inl ⟨h1, h2, h3, h4, h5, no (fun h => h5 h.2.2.2.2)⟩
        · exact .inl ⟨h1, h2, h3, h4, no (fun h => h4 h.2.2.2.1)⟩
      · exact .inl ⟨h1, h2, h3, no (fun h => h3 h.2.2.1)⟩
    · exact .inl ⟨h1, h2, no (fun h => h2 h.2.1)⟩
  · exact .inl ⟨h1, no (fun h => h1 h.1)⟩
theorem pvalid_any (a b c d f : Int) (w : World) :
    Calls Try.prog 20 #[.agg #[.int .i64 a, .int .i64 b, .int .i64 c, .int .i64 d, .int .i64 f]] w fun e w' => e = .returned (.bool (Plt.ruOk a b c d f)) ∧ Below w.heap.size w w' := by
  rcases ru_cases a b c d f with ⟨h1, E⟩ | ⟨h1, h2, E⟩ | ⟨h1, h2, h3, E⟩ | ⟨h1, h2, h3, h4, E⟩ | ⟨h1, h2, h3, h4, h5, E⟩ | ⟨h1, h2, h3, h4, h5, E⟩
  all_goals
    have HE := Lib.hid E
    clear E
    go_enter Try.func20, Try.ntmps20
    go_wp2_with (first | (refine (pwithin_yes _ _ _ _ (by omega)).mono ?_; rintro e w' ⟨rfl, rfl⟩) | (refine (pwithin_no _ _ _ _ (by omega)).mono ?_; rintro e w' ⟨rfl, rfl⟩))
    go_ret
    exact ⟨ret_bool HE.out.symm, (by repeat (first | (with_reducible exact Below.refl _ _) | (with_reducible refine Below.drew ?_) | (with_reducible refine below_drewN ?_ _) | ((with_reducible refine Below.alloc ?_ ?_ _); rotate_left; (first | omega | (simp <;> omega)); rotate_right) | ((with_reducible refine Below.setCell ?_ ?_ _); rotate_left; (first | omega | (simp <;> omega)); rotate_right) | (with_reducible assumption) | (refine Below.trans ?_ (Below.mono (by assumption) ?_); rotate_left; (first | omega | (simp <;> omega)); rotate_right)))⟩
theorem rpvalid_any (a b c d f : Int) (w : World) :
    Calls Try.prog 10 #[.agg #[.int .i64 a, .int .i64 b, .int .i64 c, .int .i64 d, .int .i64 f]] w fun e w' => e = .returned (.bool (Plt.ruOk a b c d f)) ∧ Below w.heap.size w w' := by
  rcases ru_cases a b c d f with ⟨h1, E⟩ | ⟨h1, h2, E⟩ | ⟨h1, h2, h3, E⟩ | ⟨h1, h2, h3, h4, E⟩ | ⟨h1, h2, h3, h4, h5, E⟩ | ⟨h1, h2, h3, h4, h5, E⟩
  all_goals
    have HE := Lib.hid E
    clear E
    go_enter Try.func10, Try.ntmps10
    go_wp2_with (first | (refine (rto_yes _ _ _ _ (by omega)).mono ?_; rintro e w' ⟨rfl, rfl⟩) | (refine (rto_no _ _ _ _ (by omega)).mono ?_; rintro e w' ⟨rfl, rfl⟩))
    go_ret
    exact ⟨ret_bool HE.out.symm, (by repeat (first | (with_reducible exact Below.refl _ _) | (with_reducible refine Below.drew ?_) | (with_reducible refine below_drewN ?_ _) | ((with_reducible refine Below.alloc ?_ ?_ _); rotate_left; (first | omega | (simp <;> omega)); rotate_right) | ((with_reducible refine Below.setCell ?_ ?_ _); rotate_left; (first | omega | (simp <;> omega)); rotate_right) | (with_reducible assumption) | (refine Below.trans ?_ (Below.mono (by assumption) ?_); rotate_left; (first | omega | (simp <;> omega)); rotate_right)))⟩
/-- k numbers of a frame, and where they lie -/
def GetYes (l : List Int) (k : Nat) (w : World) (e : Ending) (w' : World) : Prop :=
  ∃ g o c, e = .returned (.tuple #[.slice (some ⟨g, o, none⟩) k c, .int .i64 0]) ∧ (∀ i, i < k → w'.cell? ⟨g, o + i, none⟩ = some (.int .i64 (Frm.gnAt l i))) ∧ Below w.heap.size w w' ∧ w.heap.size ≤ g
def GetNo (l : List Int) (k : Nat) (w : World) (e : Ending) (w' : World) : Prop :=
  ∃ A c, e = .returned (.tuple #[.slice A 0 c, .int .i64 (Frm.gE l.length k)]) ∧ Below w.heap.size w w'
theorem gl_yes {l : List Int} {k : Nat} (h : l.length = 4 * k) : Frm.gL l l.length k = Frm.gn l k ∧ Frm.gE l.length k = 0 := by
  have ho : Frm.gOk l.length k = true := by simp [Frm.gOk]; omega
  unfold Frm.gL Frm.gE
  rw [if_pos ho, if_neg (by omega), if_neg (by omega), if_neg (by omega)]
  exact ⟨by simp, rfl⟩
theorem gl_no {l : List Int} {k : Nat} (h : l.length ≠ 4 * k) : Frm.gL l l.length k = [] ∧ Frm.gE l.length k ≠ 0 := by
  have ho : Frm.gOk l.length k = false := by simp [Frm.gOk]; omega
  unfold Frm.gL Frm.gE
  rw [if_neg (by rw [ho]; simp)]
  refine ⟨rfl, ?_⟩
  split
  · omega
  split
  · omega
  split
  · omega
  · omega
theorem gpost_yes {w w' : World} {l : List Int} {k : Nat} {e : Ending} (hl : l.length = 4 * k) (hk : 0 < k) (h : GuPost w l l.length k e w') : GetYes l k w e w' := by
  obtain ⟨A, c, he, ho, hb⟩ := h
  obtain ⟨h1, h2⟩ := gl_yes hl
  rw [h1, h2, Frm.gn_len] at he
  rw [h1, Frm.gn_len] at ho
  obtain ⟨g, o, rfl, hg, hc⟩ := ho.ri.2.2 hk
  refine ⟨g, o, c, he, fun i hi => ?_, hb, ?_⟩
  case refine_2 =>
    rcases ho.1.2 with ⟨_, h0⟩ | ⟨g', c', cur, e', hb', _⟩
    · omega
    · injection e' with e1
      injection e1 with e1
      injection e1 with e1
      omega
  rw [hc i hi]
  congr 2
  simp [Frm.gn, List.getD, hi]
theorem gpost_no {w w' : World} {l : List Int} {k : Nat} {e : Ending} (hl : l.length ≠ 4 * k) (h : GuPost w l l.length k e w') : GetNo l k w e w' := by
  obtain ⟨A, c, he, ho, hb⟩ := h
  obtain ⟨h1, h2⟩ := gl_no hl
  rw [h1] at he
  exact ⟨A, c, he, hb⟩
theorem getk_yes (A : Option Addr) (n cap k : Nat) (l : List Int) (w : World) (hl : l.length = 4 * k) (hn : n = l.length) (hk : 0 < k) (hk2 : k ≤ 100) (hcap : n ≤ cap) (hcm : cap ≤ 9223372036854775807) (h : Rd w w.heap.size A n l) :
    Calls Try.prog 58 #[.slice A n cap, .int .i64 k] w (GetYes l k w) := by
  subst hn
  exact (get_uni A _ cap k l w (by omega) hcap hcm (by omega) h).mono fun e w' hh => gpost_yes hl hk hh
theorem getk_no (A : Option Addr) (n cap k : Nat) (l : List Int) (w : World) (hl : l.length ≠ 4 * k) (hn : n = l.length) (hn2 : n ≤ 70368744177664) (hk2 : k ≤ 100) (hcap : n ≤ cap) (hcm : cap ≤ 9223372036854775807) (h : Rd w w.heap.size A n l) :
    Calls Try.prog 58 #[.slice A n cap, .int .i64 k] w (GetNo l k w) := by
  subst hn
  exact (get_uni A _ cap k l w hn2 hcap hcm (by omega) h).mono fun e w' hh => gpost_no hl hh
theorem rgetk_yes (A : Option Addr) (n cap k : Nat) (l : List Int) (w : World) (hl : l.length = 4 * k) (hn : n = l.length) (hk : 0 < k) (hk2 : k ≤ 100) (h : Rd w w.heap.size A n l) :
    Calls Try.prog 75 #[.slice A n cap, .int .i64 k] w (GetYes l k w) := by
  subst hn
  exact (rget_uni A _ cap k l w (by omega) (by omega) h).mono fun e w' hh => gpost_yes hl hk hh
/-- the number of a frame -/
theorem number_any (k f t s : Int) (A : Option Addr) (n cap : Nat) (l : List Int) (w : World) (hn : n = l.length) (hn2 : n ≤ 70368744177664) (hcap : n ≤ cap) (hcm : cap ≤ 9223372036854775807) (h : Rd w w.heap.size A n l) :
    Calls Try.prog 56 #[.agg #[.int .i64 k, .int .i64 f, .int .i64 t, .int .i64 s, .slice A n cap]] w fun e w' => e = .returned (.int .i64 (if l.length = 4 then Frm.gnAt l 0 else -1)) ∧ Below w.heap.size w w' := by
  by_cases hl : l.length = 4
  · have G := Lib.hid (fun (W : World) (hW : Rd W W.heap.size A n l) => getk_yes A n cap 1 l W hl hn (by omega) (by omega) hcap hcm hW)
    have HH := Lib.hid h
    have E := Lib.hid (show (if l.length = 4 then Frm.gnAt l 0 else (-1 : Int)) = Frm.gnAt l 0 from if_pos hl)
    rw [E.out]
    clear hl hn hn2 h
    go_enter Try.func56, Try.ntmps56
    go_wp2_with fail
    refine (G.out _ ((HH.out.below (B' := w.heap.size) (by repeat (first | (with_reducible exact Below.refl _ _) | (with_reducible refine Below.drew ?_) | (with_reducible refine below_drewN ?_ _) | ((with_reducible refine Below.alloc ?_ ?_ _); rotate_left; (first | omega | (simp <;> omega)); rotate_right) | ((with_reducible refine Below.setCell ?_ ?_ _); rotate_left; (first | omega | (simp <;> omega)); rotate_right) | (with_reducible assumption) | (refine Below.trans ?_ (Below.mono (by assumption) ?_); rotate_left; (first | omega | (simp <;> omega)); rotate_right))) (Nat.le_refl _)).more (by simp))).mono ?_
    rintro e w1 ⟨g, o, c, rfl, hc, hb, _⟩
    have c0 := hc 0 (by omega)
    simp only [Nat.add_zero] at c0
    have hz := hb.size
    try simp at hz
    have HB := Lib.hid (show Below w.heap.size w w1 from (by repeat (first | (with_reducible exact Below.refl _ _) | (with_reducible refine Below.drew ?_) | (with_reducible refine below_drewN ?_ _) | ((with_reducible refine Below.alloc ?_ ?_ _); rotate_left; (first | omega | (simp <;> omega)); rotate_right) | ((with_reducible refine Below.setCell ?_ ?_ _); rotate_left; (first | omega | (simp <;> omega)); rotate_right) | (with_reducible assumption) | (refine Below.trans ?_ (Below.mono (by assumption) ?_); rotate_left; (first | omega | (simp <;> omega)); rotate_right))))
    clear hc hb hz
    go_wp2_with fail
    go_ret
    exact ⟨rfl, HB.out⟩
  · have G := Lib.hid (fun (W : World) (hW : Rd W W.heap.size A n l) => getk_no A n cap 1 l W (by omega) hn hn2 (by omega) hcap hcm hW)
    have HH := Lib.hid h
    have E := Lib.hid (show (if l.length = 4 then Frm.gnAt l 0 else (-1 : Int)) = -1 from if_neg hl)
    rw [E.out]
    have hE : Frm.gE l.length (1 : Nat) ≠ 0 := (gl_no (l := l) (k := 1) (by omega)).2
    obtain ⟨x, hx⟩ : ∃ x, x = Frm.gE l.length (1 : Nat) := ⟨_, rfl⟩
    rw [← hx] at hE
    have z1 : (x == 0) = false := by rw [beq_eq_false_iff_ne]; exact hE
    have z2 : (x != 0) = true := by simpa using hE
    have G := Lib.hid (fun (W : World) (hW : Rd W W.heap.size A n l) => by have := G.out W hW; unfold GetNo at this; rw [← hx] at this; exact this)
    clear hl hn hn2 h hE hx
    go_enter Try.func56, Try.ntmps56
    go_wp2_with fail
    refine (G.out _ ((HH.out.below (B' := w.heap.size) (by repeat (first | (with_reducible exact Below.refl _ _) | (with_reducible refine Below.drew ?_) | (with_reducible refine below_drewN ?_ _) | ((with_reducible refine Below.alloc ?_ ?_ _); rotate_left; (first | omega | (simp <;> omega)); rotate_right) | ((with_reducible refine Below.setCell ?_ ?_ _); rotate_left; (first | omega | (simp <;> omega)); rotate_right) | (with_reducible assumption) | (refine Below.trans ?_ (Below.mono (by assumption) ?_); rotate_left; (first | omega | (simp <;> omega)); rotate_right))) (Nat.le_refl _)).more (by simp))).mono ?_
    rintro e w1 ⟨B, c, rfl, hb⟩
    have hz := hb.size
    try simp at hz
    have HB := Lib.hid (show Below w.heap.size w w1 from (by repeat (first | (with_reducible exact Below.refl _ _) | (with_reducible refine Below.drew ?_) | (with_reducible refine below_drewN ?_ _) | ((with_reducible refine Below.alloc ?_ ?_ _); rotate_left; (first | omega | (simp <;> omega)); rotate_right) | ((with_reducible refine Below.setCell ?_ ?_ _); rotate_left; (first | omega | (simp <;> omega)); rotate_right) | (with_reducible assumption) | (refine Below.trans ?_ (Below.mono (by assumption) ?_); rotate_left; (first | omega | (simp <;> omega)); rotate_right))))
    clear hb hz
    go_wp2_with fail
    go_ret
    exact ⟨rfl, HB.out⟩
end Go.Proofs.Ytjidchaejicjaaa

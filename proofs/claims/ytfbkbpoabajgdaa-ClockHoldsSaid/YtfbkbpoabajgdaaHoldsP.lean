/- Plain facts about true exchanges: no program in sight. -/
import Derived.Test.YtfbkbpoabajgdaaPlain
namespace Go.Proofs.Ytfbkbpoabajgdaa
namespace Clk
set_option linter.unusedVariables false
set_option linter.unusedSimpArgs false
/-- what a clock shows -/
def L (o r t : Int) : Int := o + t * (1000000 + r) / 1000000
theorem L_mono {o r a b : Int} (hr : -100000 ≤ r) (h : a ≤ b) : L o r a ≤ L o r b := by
  unfold L
  have := Int.ediv_le_ediv (c := 1000000) (by omega) (Int.mul_le_mul_of_nonneg_right h (show (0 : Int) ≤ 1000000 + r by omega))
  omega
theorem L_bd {o r t : Int} (ho : -3600000 ≤ o ∧ o ≤ 3600000) (hr : -100000 ≤ r ∧ r ≤ 100000) (ht : 0 ≤ t ∧ t ≤ 3600000) : o ≤ L o r t ∧ L o r t ≤ o + 3960000 := by
  have h0 : 0 ≤ t * (1000000 + r) := Int.mul_nonneg (by omega) (by omega)
  have h1 : t * (1000000 + r) ≤ 3600000 * 1100000 := Int.mul_le_mul (by omega) (by omega) (by omega) (by omega)
  unfold L
  omega
/-- between two times the clock has gone on by l: the least and the greatest time that has passed -/
theorem gone {o r d a b : Int} (hd : 0 ≤ d) (hd' : d ≤ 100000) (hr : -d ≤ r ∧ r ≤ d) (h : a ≤ b) :
    (L o r b - L o r a - 1) * 1000000 ≤ (b - a) * (1000000 + d) ∧ (b - a) * (1000000 - d) ≤ (L o r b - L o r a + 1) * 1000000 := by
  have h1 : (b - a) * r ≤ (b - a) * d := Int.mul_le_mul_of_nonneg_left hr.2 (by omega)
  have h2 : (b - a) * -d ≤ (b - a) * r := Int.mul_le_mul_of_nonneg_left hr.1 (by omega)
  have e1 : b * (1000000 + r) = b * 1000000 + b * r := Int.mul_add _ _ _
  have e2 : a * (1000000 + r) = a * 1000000 + a * r := Int.mul_add _ _ _
  have e3 : (b - a) * (1000000 + d) = (b - a) * 1000000 + (b - a) * d := Int.mul_add _ _ _
  have e4 : (b - a) * (1000000 - d) = (b - a) * 1000000 - (b - a) * d := Int.mul_sub _ _ _
  have e5 : (b - a) * r = b * r - a * r := Int.sub_mul _ _ _
  have e6 : (b - a) * -d = -((b - a) * d) := Int.mul_neg _ _
  unfold L
  rw [e1, e2, e3, e4]
  generalize b * r = x at *
  generalize a * r = y at *
  generalize (b - a) * d = z at *
  omega
theorem up_gone {o r d a b : Int} (hd : 0 ≤ d) (hd' : d ≤ 100000) (hr : -d ≤ r ∧ r ≤ d) (h : a ≤ b) : up d (L o r b - L o r a) ≤ b - a := by
  unfold up
  exact Int.ediv_le_of_le_mul (by omega) (gone hd hd' hr h).1
theorem vp_gone {o r d a b : Int} (hd : 0 ≤ d) (hd' : d ≤ 100000) (hr : -d ≤ r ∧ r ≤ d) (h : a ≤ b) : b - a ≤ vp d (L o r b - L o r a) := by
  unfold vp
  refine (Int.le_ediv_iff_mul_le (by omega)).2 ?_
  have := (gone (o := o) hd hd' hr h).2
  omega
theorem lo_gone {o r d a b lo : Int} (hd : 0 ≤ d) (hd' : d ≤ 100000) (hr : -d ≤ r ∧ r ≤ d) (h : a ≤ b) (hl : lo ≤ a) : gLo lo d (L o r b - L o r a) ≤ b := by
  have := up_gone (o := o) hd hd' hr h
  unfold gLo
  split <;> omega
theorem hi_gone {o r d a b hi : Int} (hd : 0 ≤ d) (hd' : d ≤ 100000) (hr : -d ≤ r ∧ r ≤ d) (h : a ≤ b) (hl : a ≤ hi) : b ≤ gHi hi d (L o r b - L o r a) := by
  have := vp_gone (o := o) hd hd' hr h
  unfold gHi
  omega
theorem vp_mono {d a b : Int} (hd : 0 ≤ d) (hd' : d ≤ 100000) (h : a ≤ b) : vp d a ≤ vp d b := by
  unfold vp
  exact Int.ediv_le_ediv (by omega) (by omega)
/-- growing by little does not fail -/
theorem r_small {lo hi d l : Int} (hd : 0 ≤ d) (hd' : d ≤ 100000) (hl : 0 ≤ l) (hl' : l ≤ 20000000) (hh : hi ≤ 20000000) : rLo lo hi d l = gLo lo d l ∧ rHi hi d l = gHi hi d l ∧ rE hi d l = 0 := by
  have := vp_ge d l hl hd hd'
  have g : gHi hi d l ≤ 1073741824 := by unfold gHi; omega
  rw [rLo, rHi, rE, if_pos g, if_pos g, if_pos g]
  exact ⟨rfl, rfl, rfl⟩
/-- what is known of the clock, and of the station's time: 'now' is the time of the last exchange -/
structure Kn (o rt d now r lo hi : Int) : Prop where
  at_ : r = L o rt now
  n0 : 0 ≤ now
  n1 : now ≤ 3600000
  l0 : 0 ≤ lo
  l1 : lo ≤ now
  h0 : now ≤ hi
  h1 : hi ≤ 20000000
/-- an exchange: what adding it leaves -/
theorem trip {o rt d now r lo hi w p s y : Int} {m : Bool} (ho : -3600000 ≤ o ∧ o ≤ 3600000) (hd : 0 ≤ d) (hd' : d ≤ 100000) (hr : -d ≤ rt ∧ rt ≤ d) (hw : 0 ≤ w) (hp : 0 ≤ p) (hs : 0 ≤ s) (hy : 0 ≤ y)
    (hn : 0 ≤ now) (hh : now + w + p + s + y ≤ 3600000) (k : m = true → Kn o rt d now r lo hi) :
    addE d r m lo hi (L o rt (now + w)) (now + w + p) (now + w + p + s) (L o rt (now + w + p + s + y)) = 0 ∧
    Kn o rt d (now + w + p + s + y) (L o rt (now + w + p + s + y)) (nLo d r m lo hi (now + w + p + s) (L o rt (now + w + p + s + y))) (nHi d r m hi (L o rt (now + w)) (now + w + p) (L o rt (now + w + p + s + y))) ∧
    now + w + p + s ≤ nLo d r m lo hi (now + w + p + s) (L o rt (now + w + p + s + y)) := by
  have hr' : -100000 ≤ rt ∧ rt ≤ 100000 := by omega
  have b1 := L_bd (t := now + w) ho hr' (by omega)
  have b2 := L_bd (t := now + w + p + s + y) ho hr' (by omega)
  have m1 := L_mono (o := o) (r := rt) (a := now + w) (b := now + w + p + s + y) (by omega) (by omega)
  have m2 := L_mono (o := o) (r := rt) (a := now) (b := now + w + p + s + y) (by omega) (by omega)
  have x : xOk (L o rt (now + w)) (now + w + p) (now + w + p + s) (L o rt (now + w + p + s + y)) = true := xOk_iff.2 ⟨by omega, by omega, by omega, by omega, by omega, by omega⟩
  have s1 := r_small (lo := now + w + p) (hi := now + w + p) hd hd' (l := L o rt (now + w + p + s + y) - L o rt (now + w)) (by omega) (by omega) (by omega)
  have g1 := hi_gone (o := o) hd hd' hr (a := now + w) (b := now + w + p + s + y) (hi := now + w + p) (by omega) (by omega)
  have v1 := vp_ge d (L o rt (now + w + p + s + y) - L o rt (now + w)) (by omega) hd hd'
  generalize hA : L o rt (now + w) = A at *
  cases m with
  | false =>
    simp only [nLo, nHi, Bool.false_eq_true, if_false]
    have e0 : nHi d r false hi A (now + w + p) (L o rt (now + w + p + s + y)) = gHi (now + w + p) d (L o rt (now + w + p + s + y) - A) := by simp [nHi, s1.2.1]
    rw [s1.2.1]
    refine ⟨addE_ok x (by simp) s1.2.2 (by rw [e0]; simp only [nLo]; simp; omega), ⟨rfl, by omega, by omega, by omega, by omega, g1, by unfold gHi; omega⟩, by omega⟩
  | true =>
    obtain ⟨c0, c1, c2, c3, c4, c5, c6⟩ := k rfl
    have b3 := L_bd (t := now) ho hr' (by omega)
    subst c0
    have s2 := r_small (lo := lo) (hi := hi) hd hd' (l := L o rt (now + w + p + s + y) - L o rt now) (by omega) (by omega) (by omega)
    have g2 := hi_gone (o := o) hd hd' hr (a := now) (b := now + w + p + s + y) (hi := hi) (by omega) (by omega)
    have g3 := lo_gone (o := o) hd hd' hr (a := now) (b := now + w + p + s + y) (lo := lo) (by omega) (by omega)
    have e1 : nLo d (L o rt now) true lo hi (now + w + p + s) (L o rt (now + w + p + s + y)) = max (gLo lo d (L o rt (now + w + p + s + y) - L o rt now)) (now + w + p + s) := by simp [nLo, s2.1]
    have e2 : nHi d (L o rt now) true hi A (now + w + p) (L o rt (now + w + p + s + y)) = min (gHi hi d (L o rt (now + w + p + s + y) - L o rt now)) (gHi (now + w + p) d (L o rt (now + w + p + s + y) - A)) := by simp [nHi, s2.2.1, s1.2.1]
    have g4 : gHi (now + w + p) d (L o rt (now + w + p + s + y) - A) ≤ 20000000 := by unfold gHi; omega
    rw [e1, e2]
    refine ⟨addE_ok x (fun _ => ⟨by omega, s2.2.2⟩) s1.2.2 (by rw [e1, e2]; omega), ⟨rfl, by omega, by omega, by omega, by omega, by omega, by omega⟩, by omega⟩
/-- the bounds after an exchange lie within those before, grown -/
theorem trip_in {d r lo hi a g k h : Int} : rLo lo hi d (h - r) ≤ nLo d r true lo hi k h ∧ nHi d r true hi a g h ≤ rHi hi d (h - r) := by
  unfold nLo nHi
  rw [if_pos rfl, if_pos rfl]
  omega
/-- afterwards -/
theorem after_ {o rt d now r lo hi x : Int} (ho : -3600000 ≤ o ∧ o ≤ 3600000) (hd : 0 ≤ d) (hd' : d ≤ 100000) (hr : -d ≤ rt ∧ rt ≤ d) (hx : now ≤ x) (hx' : x ≤ 3600000) (k : Kn o rt d now r lo hi) :
    r ≤ L o rt x ∧ L o rt x ≤ 1073741824 ∧ rLo lo hi d (L o rt x - r) = gLo lo d (L o rt x - r) ∧ rHi hi d (L o rt x - r) = gHi hi d (L o rt x - r) ∧ rE hi d (L o rt x - r) = 0 ∧ gLo lo d (L o rt x - r) ≤ x ∧ x ≤ gHi hi d (L o rt x - r) := by
  obtain ⟨c0, c1, c2, c3, c4, c5, c6⟩ := k
  have hr' : -100000 ≤ rt ∧ rt ≤ 100000 := by omega
  have b2 := L_bd (t := x) ho hr' (by omega)
  have b3 := L_bd (t := now) ho hr' (by omega)
  have m2 := L_mono (o := o) (r := rt) (a := now) (b := x) (by omega) (by omega)
  subst c0
  have s2 := r_small (lo := lo) (hi := hi) hd hd' (l := L o rt x - L o rt now) (by omega) (by omega) (by omega)
  have g2 := hi_gone (o := o) hd hd' hr (a := now) (b := x) (hi := hi) (by omega) (by omega)
  have g3 := lo_gone (o := o) hd hd' hr (a := now) (b := x) (lo := lo) (by omega) (by omega)
  exact ⟨by omega, by omega, s2.1, s2.2.1, s2.2.2, g3, g2⟩
theorem first_yes (p : Nat → Bool) : ∀ n, p n = true → ∃ m, m ≤ n ∧ p m = true ∧ ∀ t, t < m → p t = false
  | 0, h => ⟨0, Nat.le_refl _, h, fun t ht => absurd ht (Nat.not_lt_zero _)⟩
  | n + 1, h => by
    by_cases e : ∃ t, t ≤ n ∧ p t = true
    · obtain ⟨t, ht, hp⟩ := e
      have : ∀ k, k ≤ n → p k = true → ∃ m, m ≤ k ∧ p m = true ∧ ∀ t, t < m → p t = false := by
        intro k
        induction k using Nat.strongRecOn with
        | _ k ih =>
          intro hk hp
          by_cases e2 : ∃ u, u < k ∧ p u = true
          · obtain ⟨u, hu, hpu⟩ := e2
            obtain ⟨m, h1, h2, h3⟩ := ih u hu (by omega) hpu
            exact ⟨m, by omega, h2, h3⟩
          · refine ⟨k, Nat.le_refl _, hp, fun u hu => ?_⟩
            cases hq : p u with
            | false => rfl
            | true => exact absurd ⟨u, hu, hq⟩ e2
      obtain ⟨m, h1, h2, h3⟩ := this t ht hp
      exact ⟨m, by omega, h2, h3⟩
    · refine ⟨n + 1, Nat.le_refl _, h, fun t ht => ?_⟩
      cases hq : p t with
      | false => rfl
      | true => exact absurd ⟨t, by omega, hq⟩ e
/-- Sure: the smallest local time -/
theorem sure_ {o rt d now r lo hi time : Int} (ho : -3600000 ≤ o ∧ o ≤ 3600000) (hd : 0 ≤ d) (hd' : d ≤ 100000) (hr : -d ≤ rt ∧ rt ≤ d) (ht : 0 ≤ time ∧ time ≤ 3600000) (k : Kn o rt d now r lo hi) :
    ∃ m : Nat, suE d r true lo time = 0 ∧ suV d r true lo time = r + m ∧ m ≤ 4000000 ∧ r + m ≤ 1073741824 ∧ rE hi d m = 0 ∧ time ≤ rLo lo hi d m ∧ (0 < m → rE hi d (m - 1) = 0 ∧ rLo lo hi d (m - 1) < time) := by
  obtain ⟨c0, c1, c2, c3, c4, c5, c6⟩ := k
  have b3 := L_bd (t := now) ho (show -100000 ≤ rt ∧ rt ≤ 100000 by omega) (by omega)
  have big : suP d lo time 4000000 = true := by
    unfold suP gLo up
    rw [if_pos (by decide)]
    have : 3600000 ≤ ((4000000 : Nat) - 1 : Int) * 1000000 / (1000000 + d) := (Int.le_ediv_iff_mul_le (by omega)).2 (by omega)
    simp only [decide_eq_true_eq]
    omega
  obtain ⟨m, h1, h2, h3⟩ := first_yes _ _ big
  have hN : (suN r : Int) = 1073741824 - r + 1 := by unfold suN; omega
  have hm : suM d r lo time = m := cnt_eq _ m _ (by omega) h3 (fun t a _ => suP_mono hd hd' m t a h2)
  have k1 : inB time 0 3600000 = true := inB_iff.2 ht
  have e' : suE d r true lo time = 0 := by rw [suE, if_neg (by simp [k1]), if_neg (by simp), if_neg (by omega)]
  have s1 := r_small (lo := lo) (hi := hi) (l := m) hd hd' (by omega) (by omega) c6
  refine ⟨m, e', by rw [suV, if_pos e', hm], h1, by omega, s1.2.2, ?_, fun h0 => ?_⟩
  · rw [s1.1]; exact of_decide_eq_true h2
  · have s2 := r_small (lo := lo) (hi := hi) (l := (m : Int) - 1) hd hd' (by omega) (by omega) c6
    refine ⟨s2.2.2, ?_⟩
    rw [s2.1]
    have := of_decide_eq_false (h3 (m - 1) (by omega))
    rw [show ((m - 1 : Nat) : Int) = (m : Int) - 1 by omega] at this
    omega
end Clk
end Go.Proofs.Ytfbkbpoabajgdaa

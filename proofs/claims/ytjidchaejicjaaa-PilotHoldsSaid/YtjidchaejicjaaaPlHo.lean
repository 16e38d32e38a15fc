/- What a pilot's call does, as the theorem of stage 37 says it: plain. -/
import Derived.Test.YtjidchaejicjaaaPlAS
namespace Go.Proofs.Ytjidchaejicjaaa
set_option maxHeartbeats 4000000
set_option maxRecDepth 100000
set_option linter.unusedVariables false
set_option linter.unusedSimpArgs false
namespace Plt
namespace Ho
open Ck
theorem undue : ∀ (k : Nat) (s : St) (l : Int), rank s.st ≤ k → due (Plt.run k s l) l = false
  | 0, s, l, h => by
    show due s l = false
    cases hd : due s l
    · rfl
    · have := due_rank hd; omega
  | k + 1, s, l, h => by
    unfold Plt.run
    split
    · rename_i hd
      have := due_rank hd
      exact undue k _ l (by omega)
    · rename_i hd
      cases h2 : due s l
      · rfl
      · exact absurd h2 hd
theorem cnt_mono (p : Nat → Bool) : ∀ (n m : Nat), m ≤ n → Clk.cnt p m ≤ Clk.cnt p n
  | 0, m, h => by have : m = 0 := by omega
                  subst this; exact Nat.le_refl _
  | n + 1, m, h => by
    by_cases e : m = n + 1
    · subst e; exact Nat.le_refl _
    · have := cnt_mono p n m (by omega)
      show Clk.cnt p m ≤ Clk.cnt p n + _
      omega
/-- the first place that says yes -/
theorem cnt_at (p : Nat → Bool) (hm : ∀ a b, a ≤ b → p a = true → p b = true) (n : Nat) (h : Clk.cnt p n < n) : p (Clk.cnt p n) = true := by
  cases e : p (Clk.cnt p n)
  · exfalso
    have h1 : Clk.cnt p (Clk.cnt p n + 1) = Clk.cnt p n + 1 := by
      refine Clk.cnt_all p _ (fun t ht => ?_)
      cases e2 : p t
      · rfl
      · have := hm t (Clk.cnt p n) (by omega) e2
        rw [e] at this; cases this
    have h2 := cnt_mono p n (Clk.cnt p n + 1) (by omega)
    omega
  · rfl
/-- from the time on that the clock says, the station's time is surely reached -/
theorem sure_low {s : St} (c : Clk.CInv s.d s.r s.lo s.hi) (hE : Clk.suE s.d s.r s.cs s.lo s.start = 0) {t : Int} (ht : Clk.suV s.d s.r s.cs s.lo s.start ≤ t) (hA : aE s.d s.r s.cs s.hi t = 0) :
    s.start ≤ aLo s.d s.r s.cs s.lo s.hi t := by
  obtain ⟨c1, c2, c3, c4, c5, c6, c7⟩ := c
  have hok : aOk s.r s.cs t = true := by
    unfold aE at hA
    cases e : aOk s.r s.cs t
    · rw [e] at hA
      by_cases hc : s.cs = true <;> simp [hc] at hA
    · rfl
  have hr : Clk.rE s.hi s.d (t - s.r) = 0 := by unfold aE at hA; rw [hok] at hA; exact hA
  have hg : Clk.gHi s.hi s.d (t - s.r) ≤ 1073741824 := by
    unfold Clk.rE at hr
    split at hr
    · assumption
    · omega
  unfold aLo Clk.rLo
  rw [hok, if_pos rfl, if_pos hg]
  have hV : Clk.suV s.d s.r s.cs s.lo s.start = s.r + Clk.suM s.d s.r s.lo s.start := by unfold Clk.suV; rw [if_pos hE]
  have hlt : Clk.suM s.d s.r s.lo s.start < Clk.suN s.r := by
    have h1 := Clk.cnt_le (Clk.suP s.d s.lo s.start) (Clk.suN s.r)
    have h2 : Clk.suM s.d s.r s.lo s.start ≠ Clk.suN s.r := by
      intro hh
      unfold Clk.suE at hE
      split at hE
      · omega
      · split at hE
        · omega
        · first | omega | (rw [if_pos hh] at hE; omega)
    unfold Clk.suM at *
    omega
  have hp := cnt_at (Clk.suP s.d s.lo s.start) (fun a b hab => Clk.suP_mono c1 c2 a b hab) (Clk.suN s.r) hlt
  unfold Clk.suP at hp
  rw [decide_eq_true_eq] at hp
  have hp2 : s.start ≤ Clk.gLo s.lo s.d (Clk.suM s.d s.r s.lo s.start : Int) := hp
  have hm := Clk.gLo_mono (lo := s.lo) (d := s.d) (a := (Clk.suM s.d s.r s.lo s.start : Int)) (b := t - s.r) c1 c2 (by omega) (by omega)
  omega
/-- a flight that has begun as it should -/
def Fok (s : St) : Prop := aE s.d s.r s.cs s.hi s.since = 0 → s.start ≤ aLo s.d s.r s.cs s.lo s.hi s.since ∧ aHi s.d s.r s.cs s.hi s.since ≤ s.start + s.late
def J (z : Int) (s : St) : Prop := (s.st = 3 ∧ s.start = z) ∨ (s.st = 4 ∧ s.start = z ∧ Fok s) ∨ (s.st ≠ 3 ∧ s.st ≠ 4)
/-- what is always so, too -/
structure E (s : St) : Prop where
  giv : 3 ≤ s.st → s.st ≤ 6 → s.given = true
  now : s.begun = true → s.since ≤ s.now
  beg : s.begun = false → s.st = 0
theorem J.set {z l : Int} {s : St} (h : J z s) : J z { s with now := l } := h
theorem J.heard {z l : Int} {s : St} (h : J z s) : J z { s with heard := l } := h
theorem adv_J {z l : Int} {s : St} (hi : Inv s) (h : J z s) (hd : due s l = true) : J z (adv s) := by
  unfold due at hd
  simp only [Bool.and_eq_true, decide_eq_true_eq] at hd
  have hr := evt_rank hd.1
  have ha := adv_st hd.1
  by_cases h3 : s.st = 3
  · have hz : s.start = z := by
      rcases h with h | h | h
      · exact h.2
      · omega
      · exact absurd h3 h.1
    have ev : evt s = wev s := by unfold evt; rw [if_neg (by omega), if_neg (by omega), if_neg (by omega), if_neg (by omega), if_pos h3]
    unfold wev at ev
    split at ev
    · right; right
      rw [ha.1, ev]; exact ⟨by simp, by simp⟩
    · rename_i hn
      split at ev
      · right; right
        rw [ha.1, ev]; exact ⟨by simp, by simp⟩
      · rename_i hn2
        right; left
        have e : adv s = { s with st := 4, since := wat s, given := s.given, start := s.start } := by
          unfold adv ent
          rw [ev]
          simp only
          rw [if_neg (by omega)]
          rfl
        rw [e]
        refine ⟨rfl, hz, fun hA => ⟨?_, ?_⟩⟩
        · exact sure_low hi.clk (by omega) (by unfold wat; show _ ≤ max _ _; omega) hA
        · show aHi s.d s.r s.cs s.hi (wat s) ≤ s.start + s.late
          omega
  · right; right
    rw [ha.1]
    unfold evt at hr ⊢
    split
    · exact ⟨by simp, by simp⟩
    split
    · exact ⟨by simp, by simp⟩
    split
    · exact ⟨by simp, by simp⟩
    split
    · exact ⟨by simp, by simp⟩
    · exact absurd hd.1 (by unfold evt; rename_i a b c d; rw [if_neg a, if_neg b, if_neg c, if_neg d, if_neg h3]; simp)
theorem run_J : ∀ (k : Nat) {z l : Int} {s : St}, Inv s → l ≤ 1073741824 → J z s → J z (run k s l)
  | 0, _, _, _, _, _, h => h
  | k + 1, z, l, s, hi, hl, h => by
    unfold run
    split
    · rename_i hd
      exact run_J k (adv_inv hi hl hd) hl (adv_J hi h hd)
    · exact h
theorem pas_J {z l : Int} {s : St} (hi : Inv s) (he : E s) (hl : -1073741824 ≤ l ∧ l ≤ 1073741824) (h : J z s) : J z (pas s l) := by
  unfold pas
  refine run_J 4 (beg_inv hi hl) hl.2 ?_
  unfold beg
  split
  · exact h
  · rename_i hb
    have := he.beg (by simpa using hb)
    right; right
    exact ⟨by show s.st ≠ 3; omega, by show s.st ≠ 4; omega⟩
theorem adv_E {l : Int} {s : St} (he : E s) (hb : s.begun = true) (hn : s.now = l) (hd : due s l = true) : E (adv s) ∧ (adv s).begun = true ∧ (adv s).now = l := by
  unfold due at hd
  simp only [Bool.and_eq_true, decide_eq_true_eq] at hd
  have hr := evt_rank hd.1
  have ha := adv_st hd.1
  have hw := adv_now s
  refine ⟨⟨fun h3 h6 => ?_, fun _ => by rw [ha.2, hw.1, hn]; exact hd.2, fun h => by rw [hw.2.1, hb] at h; cases h⟩, hw.2.1.trans hb, hw.1.trans hn⟩
  rw [ha.1] at h3 h6
  have h4 : 4 ≤ (evt s).2.1 := by omega
  have hs3 : 3 ≤ s.st := by
    have := hr.2.1
    have h2 := hr.2.2.1
    have : ¬ s.st = 2 := by
      intro e
      have : evt s = (s.heard + s.lost, 1, true) := by unfold evt; rw [if_pos e]
      rw [this] at h4
      simp at h4
    omega
  have hg := he.giv hs3 (by omega)
  unfold adv ent
  rw [if_neg (fun e => hr.1 e.symm)]
  simp only
  have hf : fgt (evt s).2.1 = false := by
    unfold fgt
    simp only [Bool.or_eq_false_iff, decide_eq_false_iff_not]
    omega
  rw [hf]
  exact hg
theorem run_E : ∀ (k : Nat) {l : Int} {s : St}, E s → s.begun = true → s.now = l → E (run k s l)
  | 0, _, _, h, _, _ => h
  | k + 1, l, s, h, hb, hn => by
    unfold run
    split
    · rename_i hd
      obtain ⟨h1, h2, h3⟩ := adv_E h hb hn hd
      exact run_E k h1 h2 h3
    · exact h
theorem pas_E {l : Int} {s : St} (he : E s) (hn : s.begun = true → s.now ≤ l) : E (pas s l) := by
  unfold pas
  refine run_E 4 ?_ ?_ rfl
  · unfold Plt.beg
    split
    · rename_i hb
      exact ⟨he.giv, fun _ => by have h1 := he.now hb; have h2 := hn hb; show s.since ≤ l; omega, fun h => absurd (hb.symm.trans h) (by simp)⟩
    · exact ⟨he.giv, fun _ => Int.le_refl _, fun h => (by cases h)⟩
  · show (Plt.beg s l).begun = true
    unfold Plt.beg
    split
    · assumption
    · rfl
theorem ent_E {s : St} {x : Int} (he : E s) (hb : s.begun = true) (hx : 3 ≤ x → x ≤ 6 → 3 ≤ s.st ∧ s.st ≤ 6) : E (ent s x s.now) := by
  unfold ent
  split
  · exact he
  · refine ⟨fun h1 h2 => ?_, fun _ => Int.le_refl _, fun h => absurd (hb.symm.trans h) (by simp)⟩
    have h3 := hx h1 h2
    have hg := he.giv h3.1 h3.2
    have hf : fgt x = false := by
      unfold fgt
      have h1' : 3 ≤ x := h1
      have h2' : x ≤ 6 := h2
      simp only [Bool.or_eq_false_iff, decide_eq_false_iff_not]
      omega
    simp only [hf]
    exact hg
theorem take_E {s : St} {x : Fm} (he : E s) (hb : s.begun = true) : E (take s x).1 := by
  unfold take
  split
  · split
    · split
      · have h := ent_E (x := 1) he hb (by omega)
        exact ⟨h.giv, h.now, h.beg⟩
      · exact he
    · exact he
  split
  · split
    · exact ent_E he hb (by omega)
    · exact he
  split
  · split
    · rename_i hc
      have e3 : (ent s 3 s.now) = { s with st := 3, since := s.now, given := s.given, start := s.start } := by
        unfold ent
        rw [if_neg (by omega)]
        rfl
      simp only
      rw [e3]
      exact ⟨fun _ _ => rfl, fun _ => Int.le_refl _, fun h => absurd (hb.symm.trans h) (by simp)⟩
    · exact he
  split
  · split
    · split
      · exact ent_E he hb (by omega)
      split
      · exact ent_E he hb (by omega)
      · exact he
    · exact he
  split
  · split
    · exact ent_E he hb (by omega)
    · exact he
  split
  · split
    · split
      · exact ent_E he hb (by omega)
      split
      · exact ent_E he hb (by omega)
      · exact he
    · exact he
  split
  · split
    · exact ⟨he.giv, he.now, he.beg⟩
    · exact he
  · exact he
/-- the states behind the events -/
theorem run_st : ∀ (k : Nat) (s : St) (l : Int), (run k s l).st = s.st ∨ (due s l = true ∧ ((run k s l).st = 1 ∨ 4 ≤ (run k s l).st) ∧ (s.st = 6 → (run k s l).st = 7) ∧ ((run k s l).st = 4 → s.st = 3) ∧ (s.st = 5 → 6 ≤ (run k s l).st) ∧ (s.st = 4 → 5 ≤ (run k s l).st) ∧ (s.st = 2 → (run k s l).st = 1) ∧ 2 ≤ s.st ∧ s.st ≤ 6)
  | 0, s, l => .inl rfl
  | k + 1, s, l => by
    cases hd : due s l
    · left
      unfold run
      rw [if_neg (by rw [hd]; simp)]
    · right
      refine ⟨rfl, ?_⟩
      have e : run (k + 1) s l = run k (adv s) l := by show (if due s l then run k (adv s) l else s) = _; rw [if_pos hd]
      rw [e]
      have hd1 := hd
      unfold due at hd1
      simp only [Bool.and_eq_true, decide_eq_true_eq] at hd1
      have ha := (adv_st hd1.1).1
      have hr := evt_rank hd1.1
      have h6 : s.st = 6 → (evt s).2.1 = 7 := fun h => by unfold evt; rw [if_neg (by omega), if_neg (by omega), if_neg (by omega), if_pos h]
      have h5 : s.st = 5 → (evt s).2.1 = 6 := fun h => by unfold evt; rw [if_neg (by omega), if_neg (by omega), if_pos h]
      have h4 : s.st = 4 → (evt s).2.1 = 5 := fun h => by unfold evt; rw [if_neg (by omega), if_pos h]
      have h2 : s.st = 2 → (evt s).2.1 = 1 := fun h => by unfold evt; rw [if_pos h]
      have he1 := hr.1
      rcases run_st k (adv s) l with h | ⟨hd2, a1, a2, a3, a4, a5, a6, a7⟩
      · rw [h, ha]
        exact ⟨hr.2.2.2.2, h6, by omega, by omega, by omega, h2, hr.2.2.1, hr.2.2.2.1⟩
      · have hd3 := hd2
        unfold due at hd3
        simp only [Bool.and_eq_true, decide_eq_true_eq] at hd3
        have hrr := evt_rank hd3.1
        rw [ha] at a2 a3 a4 a5 a6 a7 hrr
        exact ⟨a1, by omega, by omega, by omega, by omega, by omega, hr.2.2.1, hr.2.2.2.1⟩
theorem pas_st (s : St) (l : Int) : (pas s l).st = s.st ∨ (((pas s l).st = 1 ∨ 4 ≤ (pas s l).st) ∧ (s.st = 6 → (pas s l).st = 7) ∧ ((pas s l).st = 4 → s.st = 3) ∧ (s.st = 5 → 6 ≤ (pas s l).st) ∧ (s.st = 4 → 5 ≤ (pas s l).st) ∧ (s.st = 2 → (pas s l).st = 1) ∧ 2 ≤ s.st ∧ s.st ≤ 6) := by
  have e : ({ beg s l with now := l } : St).st = s.st := by show (beg s l).st = s.st; unfold beg; split <;> rfl
  have := run_st 4 { beg s l with now := l } l
  rw [e] at this
  unfold pas
  rcases this with h | ⟨_, h⟩
  · exact .inl h
  · exact .inr h
/-- nothing is due behind the time that has passed -/
theorem pas_due (s : St) (l : Int) : due (pas s l) l = false := undue 4 _ l (rank_le _)
theorem quiet {s : St} {l : Int} (hd : due s l = false) (hs : s.since ≤ l) : ((s.st = 2 ∨ s.st = 3 ∨ s.st = 4) → l - s.heard < s.lost) ∧ (s.st = 5 → l - s.heard < s.ret) := by
  unfold due at hd
  refine ⟨fun h => ?_, fun h => ?_⟩
  · rcases h with h | h | h
    · have e : evt s = (s.heard + s.lost, 1, true) := by unfold evt; rw [if_pos h]
      rw [e] at hd
      simp only [Bool.true_and, decide_eq_false_iff_not] at hd
      omega
    · have ev : evt s = wev s := by unfold evt; rw [if_neg (by omega), if_neg (by omega), if_neg (by omega), if_neg (by omega), if_pos h]
      unfold wev at ev
      split at ev
      · rw [ev] at hd
        simp only [Bool.true_and, decide_eq_false_iff_not] at hd
        omega
      · rename_i hn
        split at ev
        · rw [ev] at hd
          simp only [Bool.true_and, decide_eq_false_iff_not] at hd
          omega
        · rw [ev] at hd
          simp only [Bool.true_and, decide_eq_false_iff_not] at hd
          omega
    · have e : evt s = (s.heard + s.lost, 5, true) := by unfold evt; rw [if_neg (by omega), if_pos h]
      rw [e] at hd
      simp only [Bool.true_and, decide_eq_false_iff_not] at hd
      omega
  · have e : evt s = (max (s.heard + s.ret) s.since, 6, true) := by unfold evt; rw [if_neg (by omega), if_neg (by omega), if_pos h]
    rw [e] at hd
    simp only [Bool.true_and, decide_eq_false_iff_not] at hd
    omega
/-- what no call changes -/
def rul (s : St) : Int × Int × Int × Int × Int := (s.lost, s.ret, s.desc, s.late, s.every)
theorem ent_rul (s : St) (x t : Int) : rul (ent s x t) = rul s := by unfold ent; split <;> rfl
theorem run_rul : ∀ (k : Nat) (s : St) (l : Int), rul (run k s l) = rul s
  | 0, _, _ => rfl
  | k + 1, s, l => by
    unfold run
    split
    · rw [run_rul k]; exact ent_rul _ _ _
    · rfl
theorem pas_rul (s : St) (l : Int) : rul (pas s l) = rul s := by
  unfold pas
  rw [run_rul]
  unfold beg
  split <;> rfl
theorem take_rul (s : St) (x : Fm) : rul (take s x).1 = rul s := by
  unfold take
  have h := ent_rul s
  repeat' split
  all_goals first | rfl | exact h _ _
theorem pas_heard (s : St) (l : Int) : (pas s l).heard = if s.begun = true then s.heard else l := by
  have h := run_same 4 { beg s l with now := l } l
  refine h.2.2.1.trans ?_
  show (beg s l).heard = _
  unfold beg
  split <;> rfl
/-- a call that goes through -/
structure Post (s s' : St) (k l : Int) : Prop where
  e : E s'
  begun : s'.begun = true
  heard : s'.heard = if k ≠ 0 ∨ s.begun = false then l else s.heard
  rul : rul s' = rul s
  now : s'.now = l
  wait : s'.st = 3 → s.st = 2 ∨ s.st = 3
  fly : s'.st = 4 → s.st = 4 ∨ s.st = 5 ∨ s.st = 3 ∨ (s.st = 2 ∧ k = 3)
  near : ((s'.st = 2 ∨ s'.st = 3 ∨ s'.st = 4) → l - s'.heard < s'.lost) ∧ (s'.st = 5 → l - s'.heard < s'.ret)
  down : s.st = 6 → s'.st ≠ 6 → s'.st ≠ 7 → k = 1
  good : s'.st = 4 → (s.st = 3 ∨ s.st = 2) → (k = 0 ∨ k = 3) → (s.st = 3 → s'.start = s.start) ∧ Fok s'
theorem tick_post {s : St} (hi : Inv s) (he : E s) {l : Int} (ht : timE s l = 0) : Post s (tick s l) 0 l := by
  obtain ⟨hl, hn⟩ := timE_ok ht
  have pe := pas_E he hn
  have ps := pas_same s l
  have ph := pas_heard s l
  have pr := pas_rul s l
  have pst := pas_st s l
  have pq := quiet (pas_due s l) (by have := pe.now ps.2.1; rw [ps.1] at this; exact this)
  have pj := fun h => pas_J (z := s.start) hi he hl h
  obtain ⟨u, hu⟩ : ∃ u, u = pas s l := ⟨_, rfl⟩
  have key : Post s u 0 l := by
    rw [← hu] at pe ps ph pr pst pq pj
    refine ⟨pe, ps.2.1, ?_, pr, ps.1, by omega, by omega, pq, by omega, fun h4 h32 _ => ?_⟩
    · rw [ph]
      cases s.begun <;> simp
    · have h3 : s.st = 3 := by
        rcases h32 with h | h
        · exact h
        · omega
      rcases pj (.inl ⟨h3, rfl⟩) with h | h | h
      · omega
      · exact ⟨fun _ => h.2.1, h.2.2⟩
      · exact absurd h4 h.2
  unfold tick
  rw [← hu]
  split
  · exact key
  · exact ⟨⟨key.e.giv, key.e.now, key.e.beg⟩, key.begun, key.heard, key.rul, key.now, key.wait, key.fly, key.near, key.down, fun a b c => key.good a b c⟩
theorem take_st (s : St) (x : Fm) : (take s x).1.st = s.st ∨ (x.k = 1 ∧ (take s x).1.st = 1 ∧ (s.st = 0 ∨ s.st = 1 ∨ s.st = 7)) ∨ (x.k = 2 ∧ (take s x).1.st = 2 ∧ (s.st = 1 ∨ s.st = 2)) ∨ (x.k = 3 ∧ (take s x).1.st = 3 ∧ s.st = 2) ∨
    (x.k = 4 ∧ ((take s x).1.st = 2 ∧ s.st = 3 ∨ (take s x).1.st = 5 ∧ s.st = 4)) ∨ (x.k = 5 ∧ (take s x).1.st = 4 ∧ (s.st = 4 ∨ s.st = 5)) ∨ (x.k = 6 ∧ ((take s x).1.st = 1 ∧ (s.st = 2 ∨ s.st = 3) ∨ (take s x).1.st = 6 ∧ (s.st = 4 ∨ s.st = 5))) := by
  have es : ∀ x t, (ent s x t).st = x := fun x t => by unfold ent; split <;> simp_all
  unfold take
  split
  · split
    · split
      · right; left; exact ⟨by assumption, es _ _, by assumption⟩
      · exact .inl rfl
    · exact .inl rfl
  split
  · split
    · rename_i h; right; right; left; exact ⟨by assumption, es _ _, h.1⟩
    · exact .inl rfl
  split
  · split
    · rename_i h; right; right; right; left; exact ⟨by assumption, es _ _, h.1⟩
    · exact .inl rfl
  split
  · split
    · split
      · right; right; right; right; left; exact ⟨by assumption, .inl ⟨es _ _, by assumption⟩⟩
      split
      · right; right; right; right; left; exact ⟨by assumption, .inr ⟨es _ _, by assumption⟩⟩
      · exact .inl rfl
    · exact .inl rfl
  split
  · split
    · rename_i h; right; right; right; right; right; left; exact ⟨by assumption, es _ _, h.2⟩
    · exact .inl rfl
  split
  · split
    · split
      · right; right; right; right; right; right; exact ⟨by assumption, .inl ⟨es _ _, by assumption⟩⟩
      split
      · right; right; right; right; right; right; exact ⟨by assumption, .inr ⟨es _ _, by assumption⟩⟩
      · exact .inl rfl
    · exact .inl rfl
  split
  · split
    · exact .inl rfl
    · exact .inl rfl
  · exact .inl rfl
/-- an order to start: a flight that begins behind it is right -/
theorem take_J {s : St} {x : Fm} (hk : x.k = 3) {z : Int} (h : J z s) : ∃ y, J y (take s x).1 ∧ (s.st ≠ 2 → y = z) := by
  unfold take
  rw [if_neg (by omega), if_neg (by omega), if_pos hk]
  split
  · rename_i hc
    have e3 : (ent s 3 s.now).st = 3 := by unfold ent; split <;> simp_all
    exact ⟨x.n, .inl ⟨e3, rfl⟩, fun h => absurd hc.1 h⟩
  · exact ⟨z, h, fun _ => rfl⟩
theorem recv_post {s : St} (hi : Inv s) (he : E s) {l : Int} (ht : timE s l = 0) {x : Fm} (hx : -1 ≤ x.n ∧ x.n ≤ 4294967295) (hk : x.k ≠ 0) : Post s (recv s l x) x.k l := by
  obtain ⟨hl, hn⟩ := timE_ok ht
  have ip := pas_inv hi hl
  have pe := pas_E he hn
  have ps := pas_same s l
  have pr := pas_rul s l
  have pst := pas_st s l
  have pj := fun h => pas_J (z := s.start) hi he hl h
  obtain ⟨u, hu⟩ : ∃ u, u = ({ pas s l with heard := l } : St) := ⟨_, rfl⟩
  have ue : E u := by rw [hu]; exact ⟨pe.giv, pe.now, pe.beg⟩
  have ui : Inv u := by rw [hu]; exact heard_inv ip hl
  have ub : u.begun = true := by rw [hu]; exact ps.2.1
  have un : u.now = l := by rw [hu]; exact ps.1
  have uh : u.heard = l := by rw [hu]
  have ur : rul u = rul s := by rw [hu]; exact pr
  have us : u.st = (pas s l).st := by rw [hu]
  have uj : J s.start s → J s.start u := fun h => by rw [hu]; exact pj h
  have e : recv s l x = pas (take u x).1 l := by rw [hu]; rfl
  rw [e]
  clear pj pr ps pe ip e
  have te := take_E (x := x) ue ub
  have ti := take_inv ui hx
  have ts := take_same u x
  have tr := take_rul u x
  have tst := take_st u x
  have tj := fun (h3 : x.k = 3) (h : J s.start u) => take_J h3 h
  obtain ⟨v, hv⟩ : ∃ v, v = (take u x).1 := ⟨_, rfl⟩
  rw [← hv] at te ti ts tr tst tj ⊢
  have vb : v.begun = true := ts.2.1.trans ub
  have vn : v.now = l := ts.1.trans un
  have vh : v.heard = l := ts.2.2.1.trans uh
  have pe := pas_E (l := l) te (fun _ => by omega)
  have ps := pas_same v l
  have ph := pas_heard v l
  have pr := pas_rul v l
  have pst2 := pas_st v l
  have pj := fun z (h : J z v) => pas_J (z := z) ti te hl h
  have pq := quiet (pas_due v l) (by have := pe.now ps.2.1; rw [ps.1] at this; exact this)
  rw [vb, if_pos rfl, vh] at ph
  have us' := us
  rw [← us] at pst
  refine ⟨pe, ps.2.1, by rw [ph, if_pos (.inl hk)], pr.trans (tr.trans ur), ps.1, by omega, by omega, pq, by omega, fun h4 h32 hk0 => ?_⟩
  have h3 : x.k = 3 := by omega
  have js : J s.start s := by
    rcases h32 with h | h
    · exact .inl ⟨h, rfl⟩
    · exact .inr (.inr (by omega))
  obtain ⟨y, hy, hz⟩ := tj h3 (uj js)
  rcases pj y hy with h | h | h
  · omega
  · refine ⟨fun hs3 => ?_, h.2.2⟩
    rw [h.2.1]
    exact hz (by omega)
  · exact absurd h4 h.2
theorem new_E {id lost ret desc late every d : Int} : E (new id lost ret desc late every d) :=
  ⟨fun h => by have : (3 : Int) ≤ 0 := h; omega, fun h => (by cases h), fun _ => rfl⟩
end Ho
end Plt
end Go.Proofs.Ytjidchaejicjaaa

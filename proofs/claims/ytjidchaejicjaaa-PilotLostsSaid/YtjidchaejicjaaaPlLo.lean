/- A pilot that hears nothing any more: plain. -/
import Derived.Test.YtjidchaejicjaaaPlAS
namespace Go.Proofs.Ytjidchaejicjaaa
set_option maxHeartbeats 4000000
set_option maxRecDepth 100000
set_option linter.unusedVariables false
set_option linter.unusedSimpArgs false
namespace Plt
namespace Lo
section
variable (L R D La E : Int)
def L0 : St := ⟨3, L, R, D, La, E, 0, 0, false, 0, 0, 0, false, false, false, false, 0, 0, 0, 0, 0, 0, 0, 0⟩
def L1 : St := ⟨3, L, R, D, La, E, 0, 0, false, 0, 0, 0, true, false, false, true, 0, 0, 0, 0, 0, 1, 0, 0⟩
def L2 : St := ⟨3, L, R, D, La, E, 0, 0, true, 1000, 1001, 0, true, false, false, false, 0, 0, 0, 0, 0, 1, 0, 0⟩
def L3 : St := ⟨3, L, R, D, La, E, 0, 0, true, 1000, 1001, 1, true, true, false, false, 0, 0, 0, 9, 0, 1, 0, 0⟩
def L4 : St := ⟨3, L, R, D, La, E, 0, 0, true, 1000, 1001, 2, true, true, false, false, 0, 0, 0, 9, 0, 1, 0, 0⟩
/-- it flies -/
def L5 : St := ⟨3, L, R, D, La, E, 0, 0, true, 1000, 1001, 4, true, true, true, false, 0, 0, 0, 9, 1000, 1, 0, 0⟩
/-- too late -/
def L6 : St := ⟨3, L, R, D, La, E, 0, 0, true, 1000, 1001, 1, true, true, false, false, 0, 0, 0, 9, 0, 1, 0, 0⟩
end
/-- nothing is due -/
theorem pas_stay {s : St} {l : Int} (hb : s.begun = true) (hd : due { s with now := l } l = false) : pas s l = { s with now := l } := by
  unfold pas
  rw [show beg s l = s by unfold beg; rw [if_pos hb]]
  exact run_stop hd
theorem due_armed {s : St} {l : Int} (h : s.st = 2) (hl : l < s.heard + s.lost) : due s l = false := by
  unfold due evt
  rw [if_pos h]
  simp only [Bool.true_and, decide_eq_false_iff_not]
  omega
theorem due_quiet {s : St} {l : Int} (h : s.st = 0 ∨ s.st = 1 ∨ s.st = 7) : due s l = false := by
  unfold due evt
  rw [if_neg (by omega), if_neg (by omega), if_neg (by omega), if_neg (by omega), if_neg (by omega)]
  rfl
theorem due_fly {s : St} {l : Int} (h : s.st = 4) (hl : l < s.heard + s.lost) : due s l = false := by
  unfold due evt
  rw [if_neg (by omega), if_pos h]
  simp only [Bool.true_and, decide_eq_false_iff_not]
  omega
section
variable {L R D La E : Int}
theorem s1 : tickS (L0 L R D La E) 0 = L1 L R D La E ∧ timE (L0 L R D La E) 0 = 0 := by
  have ht : timE (L0 L R D La E) 0 = 0 := rfl
  have hp : pas (L0 L R D La E) 0 = { L0 L R D La E with begun := true } := by
    unfold pas
    exact run_stop (due_quiet (Or.inl rfl))
  refine ⟨?_, ht⟩
  unfold tickS tick
  rw [if_pos ht, hp]
  rfl
theorem rcv_ok {s : St} {k q : Int} {l : List Int} (hs : s.id = 3) (hv : Frm.vd k 0 3 q (Frm.pn l).length = true) (ht : timE s 0 = 0) : rcvE s 0 ⟨k, 0, 3, q, Frm.pn l⟩ = 0 := by
  unfold rcvE
  rw [if_pos ⟨hv, hs.symm⟩]
  exact ht
theorem rcv_is {s t u : St} {x : Fr} (he : rcvE s 0 x = 0) (hp : pas s 0 = s) (hh : { s with heard := 0 } = s) (ht : (take s (fmOf x)).1 = t) (hq : pas t 0 = u) : rcvS s 0 x = u := by
  unfold rcvS
  rw [if_pos he]
  unfold recv
  rw [hp, hh, ht]
  exact hq
theorem s2 : rcvS (L1 L R D La E) 0 (Kn.beat 0 1000 1000) = L2 L R D La E ∧ rcvE (L1 L R D La E) 0 (Kn.beat 0 1000 1000) = 0 := by
  have he : rcvE (L1 L R D La E) 0 (Kn.beat 0 1000 1000) = 0 := rcv_ok rfl (by kernel_rfl) rfl
  refine ⟨rcv_is (t := L2 L R D La E) he (pas_stay rfl (due_quiet (Or.inl rfl))) rfl ?_ (pas_stay rfl (due_quiet (Or.inl rfl))), he⟩
  rfl
theorem s3 : rcvS (L2 L R D La E) 0 (Kn.ord 1 1 9) = L3 L R D La E ∧ rcvE (L2 L R D La E) 0 (Kn.ord 1 1 9) = 0 := by
  have he : rcvE (L2 L R D La E) 0 (Kn.ord 1 1 9) = 0 := rcv_ok rfl (by kernel_rfl) rfl
  refine ⟨rcv_is (t := L3 L R D La E) he (pas_stay rfl (due_quiet (Or.inl rfl))) rfl ?_ (pas_stay rfl (due_quiet (Or.inr (Or.inl rfl)))), he⟩
  rfl
theorem s4 (hL : 1 ≤ L) : rcvS (L3 L R D La E) 0 (Kn.ord 2 2 9) = L4 L R D La E ∧ rcvE (L3 L R D La E) 0 (Kn.ord 2 2 9) = 0 := by
  have he : rcvE (L3 L R D La E) 0 (Kn.ord 2 2 9) = 0 := rcv_ok rfl (by kernel_rfl) rfl
  refine ⟨rcv_is (t := L4 L R D La E) he (pas_stay rfl (due_quiet (Or.inr (Or.inl rfl)))) rfl ?_ (pas_stay rfl (due_armed rfl (show (0 : Int) < 0 + L by omega))), he⟩
  rfl
/-- the order to start: it waits for no time at all -/
def W5 (L R D La E : Int) : St := ⟨3, L, R, D, La, E, 0, 0, true, 1000, 1001, 3, true, true, true, false, 0, 0, 0, 9, 1000, 1, 0, 0⟩
theorem m0 : Ck.Clk.suM 0 0 1000 1000 = 0 := by
  unfold Ck.Clk.suM
  refine Ck.Clk.cnt_eq _ 0 _ (Nat.zero_le _) (fun t ht => absurd ht (by omega)) (fun t h1 _ => ?_)
  unfold Ck.Clk.suP Ck.Clk.gLo
  rw [decide_eq_true_eq]
  split
  · rw [Kn.up0]; omega
  · omega
theorem sE0 : Ck.Clk.suE 0 0 true 1000 1000 = 0 := by
  unfold Ck.Clk.suE
  rw [m0, if_neg (by decide +kernel), if_neg (by simp), if_neg (by decide +kernel)]
theorem sV0 : Ck.Clk.suV 0 0 true 1000 1000 = 0 := by
  unfold Ck.Clk.suV
  rw [sE0, m0]
  rfl
theorem evW5 (hL : 1 ≤ L) : evt (W5 L R D La E) = (0, if 2 ≤ La then 4 else 1, true) := by
  have hw : wat (W5 L R D La E) = 0 := by
    unfold wat
    show max (Ck.Clk.suV 0 0 true 1000 1000) 0 = 0
    rw [sV0]; rfl
  unfold evt
  have e0 : (W5 L R D La E).st = 3 := rfl
  rw [if_neg (by omega), if_neg (by omega), if_neg (by omega), if_neg (by omega), if_pos e0]
  unfold wev
  rw [hw]
  have h1 : ¬ (Ck.Clk.suE (W5 L R D La E).d (W5 L R D La E).r (W5 L R D La E).cs (W5 L R D La E).lo (W5 L R D La E).start ≠ 0 ∨ (W5 L R D La E).heard + (W5 L R D La E).lost ≤ 0) := by
    rintro (h | h)
    · exact h sE0
    · have : (0 : Int) + L ≤ 0 := h
      omega
  rw [if_neg h1]
  have e1 : Ck.aE (W5 L R D La E).d (W5 L R D La E).r (W5 L R D La E).cs (W5 L R D La E).hi 0 = 0 := by
    show Ck.aE 0 0 true 1001 0 = 0
    kernel_rfl
  have e2 : Ck.aHi (W5 L R D La E).d (W5 L R D La E).r (W5 L R D La E).cs (W5 L R D La E).hi 0 = 1002 := by
    show Ck.aHi 0 0 true 1001 0 = 1002
    kernel_rfl
  rw [e1, e2]
  have e3 : (W5 L R D La E).start + (W5 L R D La E).late = 1000 + La := rfl
  rw [e3]
  by_cases h : 2 ≤ La
  · rw [if_neg (by omega), if_pos h]
  · rw [if_pos (Or.inr (by omega)), if_neg h]
theorem s5 (hL : 1 ≤ L) : rcvS (L4 L R D La E) 0 (Kn.ord 3 3 1000) = (if 2 ≤ La then L5 L R D La E else L6 L R D La E) ∧ rcvE (L4 L R D La E) 0 (Kn.ord 3 3 1000) = 0 := by
  have he : rcvE (L4 L R D La E) 0 (Kn.ord 3 3 1000) = 0 := rcv_ok rfl (by kernel_rfl) rfl
  refine ⟨rcv_is (t := W5 L R D La E) he (pas_stay rfl (due_armed rfl (show (0 : Int) < 0 + L by omega))) rfl rfl ?_, he⟩
  unfold pas
  show run 4 (W5 L R D La E) 0 = _
  have hd : due (W5 L R D La E) 0 = true := by unfold due; rw [evW5 hL]; rfl
  rw [← run_due hd]
  unfold adv
  rw [evW5 hL]
  by_cases h : 2 ≤ La
  · rw [if_pos h, if_pos h]
    show run 4 (L5 L R D La E) 0 = _
    exact run_stop (due_fly rfl (show (0 : Int) < 0 + L by omega))
  · rw [if_neg h, if_neg h]
    show run 4 (L6 L R D La E) 0 = _
    exact run_stop (due_quiet (Or.inr (Or.inl rfl)))
end
/-- a flight with no news since 0: the state at time t -/
def at' (L R D t : Int) : Int := if t < L then 4 else if t < R then 5 else if t < R + D then 6 else 7
/-- how far it has come -/
structure Fl (L R D : Int) (s : St) (t : Int) : Prop where
  begun : s.begun = true
  heard : s.heard = 0
  lost : s.lost = L
  ret : s.ret = R
  desc : s.desc = D
  ph : (s.st = 4 ∧ s.since = 0) ∨ (s.st = 5 ∧ s.since = L) ∨ (s.st = 6 ∧ s.since = R) ∨ (s.st = 7 ∧ s.since = R + D ∧ s.given = false)
  le : s.since ≤ t
section
variable {L R D : Int}
theorem Fl.adv {s : St} {t : Int} (h : Fl L R D s t) (hR : L ≤ R) (hd : due s t = true) : Fl L R D (adv s) t := by
  have e : evt s = (if s.st = 4 then (L, 5, true) else if s.st = 5 then (R, 6, true) else if s.st = 6 then (R + D, 7, true) else (0, 0, false)) := by
    unfold evt
    rw [h.heard, h.lost, h.ret, h.desc]
    rcases h.ph with ⟨h1, h2⟩ | ⟨h1, h2⟩ | ⟨h1, h2⟩ | ⟨h1, h2, _⟩
    · simp [h1]
    · simp only [h1, h2]; simp; omega
    · simp [h1, h2]
    · simp [h1]
  have hdd := hd
  unfold due at hdd
  simp only [Bool.and_eq_true, decide_eq_true_eq] at hdd
  have hle := hdd.2
  unfold Plt.adv ent
  rcases h.ph with ⟨h1, h2⟩ | ⟨h1, h2⟩ | ⟨h1, h2⟩ | ⟨h1, h2, _⟩
  · rw [h1] at e
    simp at e
    rw [e] at hle ⊢
    rw [if_neg (by simp only; omega)]
    exact ⟨h.begun, h.heard, h.lost, h.ret, h.desc, .inr (.inl ⟨rfl, rfl⟩), hle⟩
  · rw [h1] at e
    simp at e
    rw [e] at hle ⊢
    rw [if_neg (by simp only; omega)]
    exact ⟨h.begun, h.heard, h.lost, h.ret, h.desc, .inr (.inr (.inl ⟨rfl, rfl⟩)), hle⟩
  · rw [h1] at e
    simp at e
    rw [e] at hle ⊢
    rw [if_neg (by simp only; omega)]
    exact ⟨h.begun, h.heard, h.lost, h.ret, h.desc, .inr (.inr (.inr ⟨rfl, rfl, rfl⟩)), hle⟩
  · exfalso
    rw [e, h1] at hdd
    simp at hdd
theorem Fl.run : ∀ (k : Nat) {s : St} {t : Int}, Fl L R D s t → L ≤ R → Fl L R D (run k s t) t
  | 0, s, t, h, _ => h
  | k + 1, s, t, h, hR => by
    unfold Plt.run
    split
    · rename_i hd; exact Fl.run k (h.adv hR hd) hR
    · exact h
theorem undue : ∀ (k : Nat) (s : St) (l : Int), rank s.st ≤ k → due (Plt.run k s l) l = false
  | 0, s, l, h => by
    show due s l = false
    cases hd : due s l
    · rfl
    · have := due_rank hd; omega
  | k + 1, s, l, h => by
    unfold Plt.run
    split
    · rename_i hd
      have := due_rank hd
      exact undue k _ l (by omega)
    · rename_i hd
      cases h2 : due s l
      · rfl
      · exact absurd h2 hd
theorem Fl.now {s : St} {t : Int} (h : Fl L R D s t) (hR : L ≤ R) (hD : 0 ≤ D) (hu : due s t = false) : s.st = at' L R D t := by
  unfold due evt at hu
  rw [h.heard, h.lost, h.ret, h.desc] at hu
  have hle := h.le
  unfold at'
  rcases h.ph with ⟨h1, h2⟩ | ⟨h1, h2⟩ | ⟨h1, h2⟩ | ⟨h1, h2, _⟩
  · simp [h1] at hu
    rw [h1, if_pos (by omega)]
  · simp only [h1, h2] at hu
    simp at hu
    rw [h1, if_neg (by omega), if_pos (by omega)]
  · simp [h1, h2] at hu
    rw [h1, if_neg (by omega), if_neg (by omega), if_pos (by omega)]
  · rw [h1, if_neg (by omega), if_neg (by omega), if_neg (by omega)]
/-- a tick of it -/
theorem Fl.tick {s : St} {t l : Int} (h : Fl L R D s t) (hR : L ≤ R) (hD : 0 ≤ D) (hn : s.now ≤ l) (ht : t ≤ l) (hl : -1073741824 ≤ l ∧ l ≤ 1073741824) :
    timE s l = 0 ∧ Fl L R D (tickS s l) l ∧ (tickS s l).st = at' L R D l ∧ (tickS s l).now = l ∧ (tickS s l).reports ≤ s.reports + 1 := by
  have hE : timE s l = 0 := by
    unfold timE
    rw [if_pos ⟨Ck.Clk.inB_iff.2 hl, fun _ => hn⟩]
  have h0 : Fl L R D ({ s with now := l } : St) l := ⟨h.begun, h.heard, h.lost, h.ret, h.desc, h.ph, Int.le_trans h.le ht⟩
  have hp : pas s l = Plt.run 4 { s with now := l } l := by
    unfold pas
    rw [show beg s l = s by unfold beg; rw [if_pos h.begun]]
  have h1 := h0.run 4 hR
  have h2 := undue 4 { s with now := l } l (rank_le _)
  have h3 := h1.now hR hD h2
  have h4 := pas_same s l
  rw [← hp] at h1 h3
  refine ⟨hE, ?_⟩
  unfold tickS Plt.tick
  rw [if_pos hE]
  split
  · exact ⟨h1, h3, h4.1, by rw [h4.2.2.1]; omega⟩
  · exact ⟨⟨h1.begun, h1.heard, h1.lost, h1.ret, h1.desc, h1.ph, h1.le⟩, h3, h4.1, by simp only; rw [h4.2.2.1]; exact Int.le_refl _⟩
end
end Lo
end Plt
end Go.Proofs.Ytjidchaejicjaaa

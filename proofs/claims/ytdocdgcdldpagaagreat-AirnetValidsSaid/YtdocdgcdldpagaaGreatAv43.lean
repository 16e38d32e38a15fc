import Derived.Test.YtdocdgcdldpagaaGreatAp
import Derived.Test.YtdocdgcdldpagaaGreatAv29
import Derived.Test.YtdocdgcdldpagaaGreatAv38
import Derived.Test.YtdocdgcdldpagaaGreatAv42
namespace Go.Proofs.YtdocdgcdldpagaaGreat
set_option linter.unusedVariables false
set_option linter.unusedSimpArgs false
set_option maxHeartbeats 4000000
namespace Ck.Clk
def bsr (p : Nat → Bool) : Nat → Nat → Nat → Nat
  | 0, lo, _ => lo
  | k + 1, lo, hi => if hi ≤ lo then lo else if p ((lo + hi) / 2) then bsr p k lo ((lo + hi) / 2) else bsr p k ((lo + hi) / 2 + 1) hi
theorem bsr_eq (p : Nat → Bool) (n : Nat) (mono : ∀ a b, a ≤ b → p a = true → p b = true) : ∀ (k lo hi : Nat), hi < lo + 2 ^ k → lo ≤ hi → hi ≤ n → (∀ t, t < lo → p t = false) → (∀ t, hi ≤ t → t < n → p t = true) → cnt p n = bsr p k lo hi
  | 0, lo, hi, h, h1, h2, h3, h4 => by
    rw [bsr]
    exact cnt_eq p lo n Cb h3 (fun t a b => h4 t Cb b)
  | k + 1, lo, hi, h, h1, h2, h3, h4 => by
    rw [bsr]
    by_cases e : hi ≤ lo
    · rw [if_pos e]
      exact cnt_eq p lo n Cb h3 (fun t a b => h4 t Cb b)
    · rw [if_neg e]
      have hp : 2 ^ (k + 1) = 2 ^ k + 2 ^ k := by rw [Nat.pow_succ]; omega
      by_cases hm : p ((lo + hi) / 2) = true
      · rw [if_pos hm]
        exact bsr_eq p n mono k lo ((lo + hi) / 2) Cb Cb Cb h3 (fun t a b => mono _ _ a hm)
      · rw [if_neg hm]
        refine bsr_eq p n mono k ((lo + hi) / 2 + 1) hi Cb Cb h2 (fun t ht => ?_) h4
        cases hq : p t
        · rfl
        · exact absurd (mono t _ Cb hq) hm
def suMF (d r lo time : Int) : Nat := if 0 ≤ d ∧ d ≤ 100000 ∧ suN r < 4294967296 then bsr (suP d lo time) 32 0 (suN r) else suM d r lo time
theorem suMF_eq : suMF = suM := by
  funext d r lo time
  unfold suMF
  split
  · rename_i h
    unfold suM
    rw [bsr_eq (suP d lo time) (suN r) (fun a b hab hp => suP_mono h.1 h.2.1 a b hab hp) 32 0 (suN r) (by have := h.2.2; rw [show (2 : Nat) ^ 32 = 4294967296 from rfl]; omega) Cb Cb (fun t ht => by omega) (fun t a b => by omega)]
  · rfl
def suEF (d r : Int) (s : Bool) (lo time : Int) : Int := if inB time 0 3600000 = false then 2 else if s = false then 9 else if suMF d r lo time = suN r then 3 else 0
def suVF (d r : Int) (s : Bool) (lo time : Int) : Int := if suEF d r s lo time = 0 then r + suMF d r lo time else 0
theorem suEF_eq : suEF = suE := by funext d r s lo t; unfold suEF suE; rw [suMF_eq]
theorem suVF_eq : suVF = suV := by funext d r s lo t; unfold suVF suV; rw [suMF_eq, suEF_eq]
end Ck.Clk
namespace Plt
open Ck
def watF (s : St) : Int := max (Clk.suVF s.d s.r s.cs s.lo s.start) s.since
def wevF (s : St) : Int × Int × Bool :=
  if Clk.suEF s.d s.r s.cs s.lo s.start ≠ 0 ∨ s.heard + s.lost ≤ watF s then (s.heard + s.lost, 1, true)
  else if aE s.d s.r s.cs s.hi (watF s) ≠ 0 ∨ s.start + s.late < aHi s.d s.r s.cs s.hi (watF s) then (watF s, 1, true) else (watF s, 4, true)
def evtF (s : St) : Int × Int × Bool :=
  if s.st = 2 then (s.heard + s.lost, 1, true) else if s.st = 4 then (s.heard + s.lost, 5, true) else if s.st = 5 then (max (s.heard + s.ret) s.since, 6, true)
  else if s.st = 6 then (s.since + s.desc, 7, true) else if s.st = 3 then wevF s else (0, 0, false)
theorem evtF_eq : evtF = evt := by
  funext s
  unfold evtF evt wevF wev watF wat
  rw [Clk.suVF_eq, Clk.suEF_eq]
section
variable (ev : St → Int × Int × Bool)
def runG : Nat → St → Int → St
  | 0, s, _ => s
  | k + 1, s, l => if (ev s).2.2 && decide ((ev s).1 ≤ l) then runG k (ent s (ev s).2.1 (ev s).1) l else s
def pasG (s : St) (l : Int) : St := runG ev 4 { beg s l with now := l } l
def recvG (s : St) (l : Int) (x : Fm) : St := pasG ev (take { pasG ev s l with heard := l } x).1 l
def recvAG (s : St) (l : Int) (x : Fm) : Bool := (take { pasG ev s l with heard := l } x).2
def tickG (s : St) (l : Int) : St := if asks (pasG ev s l) l then pasG ev s l else { pasG ev s l with q := (pasG ev s l).reports % 65536, asked := true, reports := (pasG ev s l).reports + 1, rep := l }
def tickFG (s : St) (l : Int) : List Fr := if timE s l = 0 ∧ asks (pasG ev s l) l = false then [⟨9, s.id, 0, s.reports % 65536, [(pasG ev s l).st]⟩] else []
def tickSG (s : St) (l : Int) : St := if timE s l = 0 then tickG ev s l else s
def rcvSG (s : St) (l : Int) (x : Fr) : St := if rcvE s l x = 0 then recvG ev s l (fmOf x) else s
def rcvFG (s : St) (l : Int) (x : Fr) : List Fr := if rcvE s l x = 0 ∧ recvAG ev s l (fmOf x) = true then [⟨8, s.id, 0, x.s, [x.k]⟩] else []
end
theorem runG_eq : runG evtF = run := by
  funext k
  induction k with
  | zero => rfl
  | succ k ih =>
    funext s l
    rw [runG, run, ih, evtF_eq]
    rfl
theorem pasG_eq : pasG evtF = pas := by funext s l; unfold pasG pas; rw [runG_eq]
theorem recvG_eq : recvG evtF = recv := by funext s l x; unfold recvG recv; rw [pasG_eq]
theorem recvAG_eq : recvAG evtF = recvA := by funext s l x; unfold recvAG recvA; rw [pasG_eq]
theorem tickG_eq : tickG evtF = tick := by funext s l; unfold tickG tick; rw [pasG_eq]
theorem tickFG_eq : tickFG evtF = tickF := by funext s l; unfold tickFG tickF; rw [pasG_eq]
theorem tickSG_eq : tickSG evtF = tickS := by funext s l; unfold tickSG tickS; rw [tickG_eq]
theorem rcvSG_eq : rcvSG evtF = rcvS := by funext s l x; unfold rcvSG rcvS; rw [recvG_eq]
theorem rcvFG_eq : rcvFG evtF = rcvF := by funext s l x; unfold rcvFG rcvF; rw [recvAG_eq]
end Plt
namespace Nt
section
variable (ev : Plt.St → Int × Int × Bool)
def fly1G (i : Nat) (s : St) (f : Fr) : St := sndL (put s i { at_ s i with p := Plt.rcvSG ev (at_ s i).p (lcl s i) f }) (Plt.rcvFG ev (at_ s i).p (lcl s i) f)
def flyTG (i : Nat) (s : St) : St := sndL (put s i { at_ s i with p := Plt.tickSG ev (at_ s i).p (lcl s i) }) (Plt.tickFG ev (at_ s i).p (lcl s i))
def flyG (s : St) (i : Nat) : St := note i (flyTG ev i ((rcv (Lnk.got (at_ s i).dn s.now)).foldl (fly1G ev i) (put s i { at_ s i with dn := Lnk.recv (at_ s i).dn s.now })))
def fliesG (s : St) : Nat → St
  | 0 => s
  | k + 1 => flyG ev (fliesG s k) k
def stepG (s : St) : St := if stepE s = 0 then fliesG ev (look (hears (step0 s) s.cr.length)) s.cr.length else s
def runKG : Nat → St → Int → St × Int
  | 0, s, _ => (s, 0)
  | k + 1, s, u => if s.now + s.r.step ≤ u then (if stepE s = 0 then runKG k (stepG ev s) u else (s, stepE s)) else (s, 0)
end
theorem fly1G_eq (i : Nat) : fly1G Plt.evtF i = fly1 i := by funext s f; unfold fly1G fly1; rw [Plt.rcvSG_eq, Plt.rcvFG_eq]
theorem flyTG_eq (i : Nat) : flyTG Plt.evtF i = flyT i := by funext s; unfold flyTG flyT; rw [Plt.tickSG_eq, Plt.tickFG_eq]
theorem flyG_eq : flyG Plt.evtF = fly := by funext s i; unfold flyG fly; rw [flyTG_eq, fly1G_eq]
theorem fliesG_eq : fliesG Plt.evtF = flies := by
  funext s k
  induction k with
  | zero => rfl
  | succ k ih => rw [fliesG, flies, ih, flyG_eq]
theorem stepG_eq : stepG Plt.evtF = step := by funext s; unfold stepG step; rw [fliesG_eq]
theorem runKG_eq : runKG Plt.evtF = runK := by
  funext k
  induction k with
  | zero => rfl
  | succ k ih =>
    funext s u
    rw [runKG, runK, ih, stepG_eq]
theorem runK_more : ∀ (k m : Nat) (s r : St) (u : Int), runK k s u = (r, 0) → u < r.now + r.r.step → runK (k + m) s u = (r, 0)
  | 0, m, s, r, u, h, hr => by
    have e : s = r := congrArg (·.1) h
    subst e
    cases m with
    | zero => exact h
    | succ m => rw [Nat.zero_add, runK, if_neg Cb]
  | k + 1, m, s, r, u, h, hr => by
    rw [show k + 1 + m = (k + m) + 1 by omega, runK]
    rw [runK] at h
    split at h
    · rename_i h1
      rw [if_pos h1]
      split at h
      · rename_i h2
        rw [if_pos h2]
        exact runK_more k m _ r u h hr
      · rename_i h2
        exact absurd (congrArg (·.2) h) h2
    · rename_i h1
      rw [if_neg h1]
      exact h
theorem run_by {s r : St} {u : Int} (k : Nat) (h0 : runE0 s u = 0) (h : runKG Plt.evtF k s u = (r, 0)) (hr : u < r.now + r.r.step) (hk : k ≤ 3600001) : run s u = (r, 0) := by
  unfold run
  rw [if_pos h0]
  rw [runKG_eq] at h
  have := runK_more k (3600001 - k) s r u h hr
  rw [show k + (3600001 - k) = 3600001 by omega] at this
  exact this
end Nt
end Go.Proofs.YtdocdgcdldpagaaGreat
namespace Go.Proofs.YtdocdgcdldpagaaGreat
set_option maxRecDepth 100000
namespace NKn
open Nt
def kr : Ru := ⟨2, 100, 10, 0, 1000, 5000, 2000, 50, 100, ⟨0, 0, 5, 5, 0⟩, ⟨0, 0, 5, 5, 0⟩, [0, 0], [0, 0]⟩
theorem vk : vld kr = true := by kernel_rfl
def K0 : St := ⟨kr, 0, 0, ⟨2, 100, 0, 0, 0, false, 0, 0, 0, 0, [false, false], [(false, (0, 0)), (false, (0, 0))]⟩, 0, [⟨⟨1, 1000, 5000, 2000, 50, 100, 0, 0, false, 0, 0, 0, false, false, false, false, 0, 0, 0, 0, 0, 0, 0, 0⟩, ⟨1, 0, [], 0, 0, 0⟩, ⟨1, 0, [], 0, 0, 0⟩, 0⟩, ⟨⟨2, 1000, 5000, 2000, 50, 100, 0, 0, false, 0, 0, 0, false, false, false, false, 0, 0, 0, 0, 0, 0, 0, 0⟩, ⟨2, 0, [], 0, 0, 0⟩, ⟨2, 0, [], 0, 0, 0⟩, 0⟩], [false, false, false], []⟩
theorem n0 : new kr = K0 := by kernel_rfl
def K1 : St := ⟨kr, 20, 2, ⟨2, 100, 0, 20, 0, false, 0, 0, 0, 0, [false, false], [(true, (0, 20)), (true, (0, 20))]⟩, 0, [⟨⟨1, 1000, 5000, 2000, 50, 100, 0, 0, false, 0, 0, 0, true, false, false, true, 20, 10, 10, 0, 0, 1, 10, 0⟩, ⟨11960119808228829710, 20, [], 1, 0, 0⟩, ⟨11960119808228829710, 20, [(25, [213, 76, 7, 0, 1, 0, 0, 8, 0, 0, 0, 20, 0, 0, 0, 20, 44, 15])], 1, 0, 0⟩, 0⟩, ⟨⟨2, 1000, 5000, 2000, 50, 100, 0, 0, false, 0, 0, 0, true, false, false, true, 20, 10, 10, 0, 0, 1, 10, 0⟩, ⟨12753995202142458627, 20, [], 1, 0, 0⟩, ⟨12753995202142458627, 20, [(25, [213, 76, 7, 0, 2, 0, 0, 8, 0, 0, 0, 20, 0, 0, 0, 20, 41, 144])], 1, 0, 0⟩, 0⟩], [false, false, false], []⟩
theorem r1 : run K0 20 = (K1, 0) := run_by 400 C7 C7 C1 (Nat.le_of_ble_eq_true C7)
def K2 : St := ⟨kr, 20, 2, ⟨2, 100, 1, 20, 1, true, 7, 1, 0, 20, [false, false], [(true, (0, 20)), (true, (0, 20))]⟩, 1, [⟨⟨1, 1000, 5000, 2000, 50, 100, 0, 0, false, 0, 0, 0, true, false, false, true, 20, 10, 10, 0, 0, 1, 10, 0⟩, ⟨11960119808228829710, 20, [], 1, 0, 0⟩, ⟨9232803539723513983, 20, [(25, [213, 76, 7, 0, 1, 0, 0, 8, 0, 0, 0, 20, 0, 0, 0, 20, 44, 15]), (25, [213, 76, 1, 0, 1, 0, 1, 4, 0, 0, 0, 7, 117, 238])], 2, 0, 0⟩, 0⟩, ⟨⟨2, 1000, 5000, 2000, 50, 100, 0, 0, false, 0, 0, 0, true, false, false, true, 20, 10, 10, 0, 0, 1, 10, 0⟩, ⟨12753995202142458627, 20, [], 1, 0, 0⟩, ⟨8119572962061839096, 20, [(25, [213, 76, 7, 0, 2, 0, 0, 8, 0, 0, 0, 20, 0, 0, 0, 20, 41, 144]), (25, [213, 76, 1, 0, 2, 0, 1, 4, 0, 0, 0, 7, 189, 155])], 2, 0, 0⟩, 0⟩], [false, false, false], [(20, (0, 1))]⟩
theorem r2 : doE K1 1 7 = 0 ∧ doS K1 1 7 = K2 := ⟨by kernel_rfl, by kernel_rfl⟩
def K3 : St := ⟨kr, 30, 3, ⟨2, 100, 1, 30, 1, true, 7, 1, 0, 20, [false, false], [(true, (0, 20)), (true, (0, 20))]⟩, 1, [⟨⟨1, 1000, 5000, 2000, 50, 100, 0, 30, true, 20, 41, 1, true, true, false, false, 30, 30, 30, 7, 0, 1, 10, 0⟩, ⟨9232803539723513983, 30, [(35, [213, 76, 8, 1, 0, 0, 1, 1, 1, 51, 227])], 2, 0, 0⟩, ⟨9232803539723513983, 30, [], 2, 0, 0⟩, 1⟩, ⟨⟨2, 1000, 5000, 2000, 50, 100, 0, 30, true, 20, 41, 1, true, true, false, false, 30, 30, 30, 7, 0, 1, 10, 0⟩, ⟨8119572962061839096, 30, [(35, [213, 76, 8, 2, 0, 0, 1, 1, 1, 253, 3])], 2, 0, 0⟩, ⟨8119572962061839096, 30, [], 2, 0, 0⟩, 1⟩], [false, false, false], [(20, (0, 1)), (30, (1, 1)), (30, (2, 1))]⟩
theorem r3 : run K2 30 = (K3, 0) := run_by 400 C7 C7 C1 (Nat.le_of_ble_eq_true C7)
def K4 : St := ⟨kr, 40, 4, ⟨2, 100, 2, 40, 1, true, 7, 1, 0, 20, [true, true], [(true, (0, 20)), (true, (0, 20))]⟩, 2, [⟨⟨1, 1000, 5000, 2000, 50, 100, 0, 30, true, 20, 41, 1, true, true, false, false, 40, 30, 30, 7, 0, 1, 10, 0⟩, ⟨9232803539723513983, 40, [], 2, 0, 0⟩, ⟨9232803539723513983, 40, [], 2, 0, 0⟩, 1⟩, ⟨⟨2, 1000, 5000, 2000, 50, 100, 0, 30, true, 20, 41, 1, true, true, false, false, 40, 30, 30, 7, 0, 1, 10, 0⟩, ⟨8119572962061839096, 40, [], 2, 0, 0⟩, ⟨8119572962061839096, 40, [], 2, 0, 0⟩, 1⟩], [false, false, false], [(20, (0, 1)), (30, (1, 1)), (30, (2, 1)), (40, (0, 2))]⟩
theorem r4 : run K3 40 = (K4, 0) := run_by 400 C7 C7 C1 (Nat.le_of_ble_eq_true C7)
def K5 : St := ⟨kr, 40, 4, ⟨2, 100, 3, 40, 2, true, 7, 2, 0, 40, [false, false], [(true, (0, 20)), (true, (0, 20))]⟩, 3, [⟨⟨1, 1000, 5000, 2000, 50, 100, 0, 30, true, 20, 41, 1, true, true, false, false, 40, 30, 30, 7, 0, 1, 10, 0⟩, ⟨9232803539723513983, 40, [], 2, 0, 0⟩, ⟨15490212636682683044, 40, [(45, [213, 76, 2, 0, 1, 0, 2, 4, 0, 0, 0, 7, 10, 193])], 3, 0, 0⟩, 1⟩, ⟨⟨2, 1000, 5000, 2000, 50, 100, 0, 30, true, 20, 41, 1, true, true, false, false, 40, 30, 30, 7, 0, 1, 10, 0⟩, ⟨8119572962061839096, 40, [], 2, 0, 0⟩, ⟨3627712048155926641, 40, [(45, [213, 76, 2, 0, 2, 0, 2, 4, 0, 0, 0, 7, 194, 180])], 3, 0, 0⟩, 1⟩], [false, false, false], [(20, (0, 1)), (30, (1, 1)), (30, (2, 1)), (40, (0, 2)), (40, (0, 3))]⟩
theorem r5 : doE K4 2 0 = 0 ∧ doS K4 2 0 = K5 := ⟨by kernel_rfl, by kernel_rfl⟩
def K6 : St := ⟨kr, 70, 7, ⟨2, 100, 4, 70, 2, true, 7, 2, 0, 40, [true, true], [(true, (0, 20)), (true, (0, 20))]⟩, 4, [⟨⟨1, 1000, 5000, 2000, 50, 100, 0, 30, true, 20, 41, 2, true, true, false, false, 70, 50, 50, 7, 0, 1, 10, 0⟩, ⟨15490212636682683044, 70, [], 3, 0, 0⟩, ⟨15490212636682683044, 70, [], 3, 0, 0⟩, 2⟩, ⟨⟨2, 1000, 5000, 2000, 50, 100, 0, 30, true, 20, 41, 2, true, true, false, false, 70, 50, 50, 7, 0, 1, 10, 0⟩, ⟨3627712048155926641, 70, [], 3, 0, 0⟩, ⟨3627712048155926641, 70, [], 3, 0, 0⟩, 2⟩], [false, false, false], [(20, (0, 1)), (30, (1, 1)), (30, (2, 1)), (40, (0, 2)), (40, (0, 3)), (50, (1, 2)), (50, (2, 2)), (60, (0, 4))]⟩
theorem r6 : run K5 70 = (K6, 0) := run_by 400 C7 C7 C1 (Nat.le_of_ble_eq_true C7)
def K7 : St := ⟨kr, 70, 7, ⟨2, 100, 5, 70, 3, true, 7, 3, 200, 70, [false, false], [(true, (0, 20)), (true, (0, 20))]⟩, 5, [⟨⟨1, 1000, 5000, 2000, 50, 100, 0, 30, true, 20, 41, 2, true, true, false, false, 70, 50, 50, 7, 0, 1, 10, 0⟩, ⟨15490212636682683044, 70, [], 3, 0, 0⟩, ⟨9882984339513518093, 70, [(75, [213, 76, 3, 0, 1, 0, 3, 4, 0, 0, 0, 200, 8, 135])], 4, 0, 0⟩, 2⟩, ⟨⟨2, 1000, 5000, 2000, 50, 100, 0, 30, true, 20, 41, 2, true, true, false, false, 70, 50, 50, 7, 0, 1, 10, 0⟩, ⟨3627712048155926641, 70, [], 3, 0, 0⟩, ⟨13029342691234231614, 70, [(75, [213, 76, 3, 0, 2, 0, 3, 4, 0, 0, 0, 200, 192, 242])], 4, 0, 0⟩, 2⟩], [false, false, false], [(20, (0, 1)), (30, (1, 1)), (30, (2, 1)), (40, (0, 2)), (40, (0, 3)), (50, (1, 2)), (50, (2, 2)), (60, (0, 4)), (70, (0, 5))]⟩
theorem r7 : doE K6 3 200 = 0 ∧ doS K6 3 200 = K7 := ⟨by kernel_rfl, by kernel_rfl⟩
def K8 : St := ⟨kr, 100, 10, ⟨2, 100, 6, 100, 3, true, 7, 3, 200, 70, [true, true], [(true, (0, 20)), (true, (0, 20))]⟩, 6, [⟨⟨1, 1000, 5000, 2000, 50, 100, 0, 30, true, 20, 41, 3, true, true, true, false, 100, 80, 80, 7, 200, 1, 10, 0⟩, ⟨9882984339513518093, 100, [], 4, 0, 0⟩, ⟨9882984339513518093, 100, [], 4, 0, 0⟩, 3⟩, ⟨⟨2, 1000, 5000, 2000, 50, 100, 0, 30, true, 20, 41, 3, true, true, true, false, 100, 80, 80, 7, 200, 1, 10, 0⟩, ⟨13029342691234231614, 100, [], 4, 0, 0⟩, ⟨13029342691234231614, 100, [], 4, 0, 0⟩, 3⟩], [false, false, false], [(20, (0, 1)), (30, (1, 1)), (30, (2, 1)), (40, (0, 2)), (40, (0, 3)), (50, (1, 2)), (50, (2, 2)), (60, (0, 4)), (70, (0, 5)), (80, (1, 3)), (80, (2, 3)), (90, (0, 6))]⟩
theorem r8 : run K7 100 = (K8, 0) := run_by 400 C7 C7 C1 (Nat.le_of_ble_eq_true C7)
def K9 : St := ⟨kr, 200, 20, ⟨2, 100, 6, 200, 3, true, 7, 3, 200, 70, [true, true], [(true, (3, 120)), (true, (3, 120))]⟩, 6, [⟨⟨1, 1000, 5000, 2000, 50, 100, 0, 130, true, 120, 141, 3, true, true, true, false, 200, 130, 80, 7, 200, 2, 110, 1⟩, ⟨4493283409665547658, 200, [], 5, 0, 0⟩, ⟨4493283409665547658, 200, [], 5, 0, 0⟩, 3⟩, ⟨⟨2, 1000, 5000, 2000, 50, 100, 0, 130, true, 120, 141, 3, true, true, true, false, 200, 130, 80, 7, 200, 2, 110, 1⟩, ⟨10590742840031716719, 200, [], 5, 0, 0⟩, ⟨10590742840031716719, 200, [], 5, 0, 0⟩, 3⟩], [false, false, false], [(20, (0, 1)), (30, (1, 1)), (30, (2, 1)), (40, (0, 2)), (40, (0, 3)), (50, (1, 2)), (50, (2, 2)), (60, (0, 4)), (70, (0, 5)), (80, (1, 3)), (80, (2, 3)), (90, (0, 6))]⟩
theorem r9 : run K8 200 = (K9, 0) := run_by 400 C7 C7 C1 (Nat.le_of_ble_eq_true C7)
def K10 : St := ⟨kr, 220, 22, ⟨2, 100, 6, 220, 3, true, 7, 3, 200, 70, [true, true], [(true, (3, 220)), (true, (3, 220))]⟩, 6, [⟨⟨1, 1000, 5000, 2000, 50, 100, 0, 130, true, 120, 141, 4, true, true, true, true, 220, 130, 211, 7, 200, 3, 210, 2⟩, ⟨10554199195565463083, 220, [], 6, 0, 0⟩, ⟨10554199195565463083, 220, [(225, [213, 76, 7, 0, 1, 0, 2, 8, 0, 0, 0, 220, 0, 0, 0, 220, 155, 84])], 6, 0, 0⟩, 4⟩, ⟨⟨2, 1000, 5000, 2000, 50, 100, 0, 130, true, 120, 141, 4, true, true, true, true, 220, 130, 211, 7, 200, 3, 210, 2⟩, ⟨3128282499199577172, 220, [], 6, 0, 0⟩, ⟨3128282499199577172, 220, [(225, [213, 76, 7, 0, 2, 0, 2, 8, 0, 0, 0, 220, 0, 0, 0, 220, 158, 203])], 6, 0, 0⟩, 4⟩], [false, false, false], [(20, (0, 1)), (30, (1, 1)), (30, (2, 1)), (40, (0, 2)), (40, (0, 3)), (50, (1, 2)), (50, (2, 2)), (60, (0, 4)), (70, (0, 5)), (80, (1, 3)), (80, (2, 3)), (90, (0, 6)), (220, (1, 4)), (220, (2, 4))]⟩
theorem r10 : run K9 220 = (K10, 0) := run_by 400 C7 C7 C1 (Nat.le_of_ble_eq_true C7)
def K11 : St := ⟨kr, 220, 22, ⟨2, 100, 6, 220, 3, true, 7, 3, 200, 70, [true, true], [(true, (3, 220)), (true, (3, 220))]⟩, 6, [⟨⟨1, 1000, 5000, 2000, 50, 100, 0, 130, true, 120, 141, 4, true, true, true, true, 220, 130, 211, 7, 200, 3, 210, 2⟩, ⟨10554199195565463083, 220, [], 6, 0, 0⟩, ⟨10554199195565463083, 220, [(225, [213, 76, 7, 0, 1, 0, 2, 8, 0, 0, 0, 220, 0, 0, 0, 220, 155, 84])], 6, 0, 0⟩, 4⟩, ⟨⟨2, 1000, 5000, 2000, 50, 100, 0, 130, true, 120, 141, 4, true, true, true, true, 220, 130, 211, 7, 200, 3, 210, 2⟩, ⟨3128282499199577172, 220, [], 6, 0, 0⟩, ⟨3128282499199577172, 220, [(225, [213, 76, 7, 0, 2, 0, 2, 8, 0, 0, 0, 220, 0, 0, 0, 220, 158, 203])], 6, 0, 0⟩, 4⟩], [false, true, false], [(20, (0, 1)), (30, (1, 1)), (30, (2, 1)), (40, (0, 2)), (40, (0, 3)), (50, (1, 2)), (50, (2, 2)), (60, (0, 4)), (70, (0, 5)), (80, (1, 3)), (80, (2, 3)), (90, (0, 6)), (220, (1, 4)), (220, (2, 4))]⟩
theorem r11 : cutS K10 1 true = K11 := by kernel_rfl
def K12 : St := ⟨kr, 3000, 300, ⟨2, 100, 6, 3000, 3, true, 7, 3, 200, 70, [true, true], [(true, (3, 220)), (true, (4, 2920))]⟩, 6, [⟨⟨1, 1000, 5000, 2000, 50, 100, 0, 230, true, 220, 241, 5, true, true, true, true, 3000, 230, 1230, 7, 200, 30, 2910, 29⟩, ⟨10554199195565463083, 3000, [], 6, 0, 0⟩, ⟨10554199195565463083, 3000, [], 6, 0, 0⟩, 5⟩, ⟨⟨2, 1000, 5000, 2000, 50, 100, 0, 2930, true, 2920, 2941, 4, true, true, true, false, 3000, 2930, 211, 7, 200, 30, 2910, 29⟩, ⟨17486007178400615779, 3000, [], 33, 0, 0⟩, ⟨17486007178400615779, 3000, [], 33, 0, 0⟩, 4⟩], [false, true, false], [(20, (0, 1)), (30, (1, 1)), (30, (2, 1)), (40, (0, 2)), (40, (0, 3)), (50, (1, 2)), (50, (2, 2)), (60, (0, 4)), (70, (0, 5)), (80, (1, 3)), (80, (2, 3)), (90, (0, 6)), (220, (1, 4)), (220, (2, 4)), (1230, (1, 5))]⟩
theorem r12 : run K11 3000 = (K12, 0) := run_by 400 C7 C7 C1 (Nat.le_of_ble_eq_true C7)
end NKn
end Go.Proofs.YtdocdgcdldpagaaGreat
namespace Go.Proofs.YtdocdgcdldpagaaGreat
open Go.RowKit
set_option maxHeartbeats 8000000
set_option maxRecDepth 100000
set_option linter.unusedSimpArgs false
set_option linter.unusedVariables false
attribute [local go_sem ↓] Go.wp_at_zero Go.wp_at_succ
section
variable {w w0 : World} {base b c k : Nat} {s : Nt.St}
theorem keeps_row {S : Nat → Prop} {w w' : World} (h : Keeps S w w') {g : Nat} (hg : S g ∨ w.heap.size ≤ g) (cs : Array Value) : Keeps S w (w'.setRow g cs) :=
  ⟨h.os, h.tape, h.output, by simpa [World.setRow] using h.size, fun i hi hn => (setRow_other w' g i cs (by
    rintro rfl
    rcases hg with hg | hg
    · exact hn hg
    · omega)).trans (h.block i hi hn)⟩
theorem ri2 {W : World} {q : Nat} (h : W.heap[q]? = some (.cells #[.int .i64 0, .int .i64 0] 3 (0, 0))) : Ri W W.heap.size (some ⟨q, 0, none⟩) 2 [0, 0] :=
  ⟨rfl, by intro x hx; simp at hx; omega, fun _ => ⟨q, 0, rfl, lt_of_block h, fun i hi => by
    rw [Nat.zero_add]
    match i, hi with
    | 0, _ => exact blk_cell (l := [_, _]) h 0 rfl
    | 1, _ => exact blk_cell (l := [_, _]) h 1 rfl⟩⟩
theorem sample_any (w : World) : Calls Tryz.prog 26 #[] w fun e w' => ∃ g h, e = .returned (rval NKn.kr (some ⟨g, 0, none⟩) 2 2 (some ⟨h, 0, none⟩) 2 2) ∧ Ri w' w'.heap.size (some ⟨g, 0, none⟩) 2 [0, 0] ∧ Ri w' w'.heap.size (some ⟨h, 0, none⟩) 2 [0, 0] ∧ Below w.heap.size w w' := by
  go_enter Tryz.func26, Tryz.ntmps26
  go_upto_region 2 with fail
  generalize hV : World.alloc _ _ = V
  have k0 : V.heap[w.heap.size]? = some (.cells #[.int .i64 0, .int .i64 0, .int .i64 0, .int .i64 0, .int .i64 0, .int .i64 0, .int .i64 0, .int .i64 0, .int .i64 0, .int .i64 0, .int .i64 0, .int .i64 0, .int .i64 0, .int .i64 0, .int .i64 0, .int .i64 0, .int .i64 0, .int .i64 0, .int .i64 0, .slice none 0 0, .slice none 0 0] 28 (0, 0)) := by rw [← hV]; exact blk_alloc (heap_new _ _) _
  have k1 : V.heap[w.heap.size + 1]? = some (.cells #[.int .i64 0, .int .i64 0, .int .i64 5, .int .i64 5, .int .i64 0] 25 (0, 0)) := by rw [← hV]; exact heap_new' _ _ _ C9
  have HB := Lib.hid (show Below w.heap.size w V from by rw [← hV]; exact ((Below.refl _ w).alloc (Nat.le_refl _) _).alloc C9 _)
  clear hV
  have s0 := blk_cell k1 0 rfl
  have s1 := blk_cell k1 1 rfl
  have s2 := blk_cell k1 2 rfl
  have s3 := blk_cell k1 3 rfl
  have s4 := blk_cell k1 4 rfl
  have hl0 := lt_of_block k0
  clear k1
  go_wp2_with (refine wpList_store_row rfl 28 _ _ rfl _ _ rfl rfl 28 _ (blk_alloc (blk_alloc k0 _) _) C7 rfl C7 ?_)
  have z2 := heap_new' (V.alloc (.cells #[.int .i64 0, .int .i64 0] 3)) (.cells #[.int .i64 0, .int .i64 0] 3) (V.heap.size + 1) C9
  refine bodyPost_ret (results_cs rfl _ _ w.heap.size 28 _ (0, 0) _ rfl (setRow_heap _ _ _ _ _ _ (blk_alloc (blk_alloc k0 _) _)) Tryz.underlying28 rfl C7) rfl ⟨V.heap.size, V.heap.size + 1, rfl, ?_, ?_, ?_⟩
  · exact ri2 (blk_keep (blk_alloc (heap_new V _) _) (keeps_row (Keeps.refl (fun q => q = w.heap.size) _) (.inl rfl) _) Cb)
  · exact ri2 (blk_keep z2 (keeps_row (Keeps.refl (fun q => q = w.heap.size) _) (.inl rfl) _) Cb)
  · exact below_setRow ((HB.out.alloc Cb _).alloc C6 _) (Nat.le_refl _) _
end
theorem are_true {w w0 : World} {base b c k : Nat} {s : Nt.St} (h : NK base b c k s w0 w) (h2 : s.cr.length = 2) (x y z : Int) (hx : s.st.st = x) (hy : (Nt.at_ s 0).p.st = y) (hz : (Nt.at_ s 1).p.st = z) :
    Calls Tryz.prog 29 #[.pointer (some ⟨b, 0, none⟩), .int .i64 x, .int .i64 y, .int .i64 z] w fun e w' => e = .returned (.bool true) ∧ w = w' := by
  have P1 := Lib.hid (show Calls Tryz.prog 22 #[.pointer (some ⟨b, 0, none⟩), .int .i64 1] w fun e w' => e = .returned (.tuple #[.int .i64 y, .int .i64 0]) ∧ w = w' from by rw [← hy]; exact nk_pilot h (i := 0) Cb)
  have P2 := Lib.hid (show Calls Tryz.prog 22 #[.pointer (some ⟨b, 0, none⟩), .int .i64 2] w fun e w' => e = .returned (.tuple #[.int .i64 z, .int .i64 0]) ∧ w = w' from by rw [← hz]; exact nk_pilot h (i := 1) Cb)
  have SS := Lib.hid (show Calls Tryz.prog 19 #[.pointer (some ⟨b, 0, none⟩)] w fun e w' => e = .returned (.int .i64 x) ∧ w = w' from by rw [← hx]; exact nk_station h)
  clear h hx hy hz
  go_enter Tryz.func29, Tryz.ntmps29
  go_upto_region 2 with (go_at_call 22; refine P1.out.mono ?_; rintro e w' ⟨rfl, rfl⟩)
  go_upto_region 3 with (go_at_call 22; refine P2.out.mono ?_; rintro e w' ⟨rfl, rfl⟩)
  go_wp2_with (go_at_call 19; refine SS.out.mono ?_; rintro e w' ⟨rfl, rfl⟩)
  go_ret
  exact ⟨rfl, rfl⟩
end Go.Proofs.YtdocdgcdldpagaaGreat
namespace Go.Proofs.YtdocdgcdldpagaaGreat
open Go.RowKit Go.Shelf
set_option maxHeartbeats 8000000
set_option maxRecDepth 100000
set_option linter.unusedSimpArgs false
set_option linter.unusedVariables false
attribute [local go_sem ↓] Go.wp_at_zero Go.wp_at_succ
theorem nfnil (n : Nat) (b : Array Value) (W : World) : (binOp .eql 43 (.func (.func n) #[] b) .nilFunc).run Tryz.prog W = .ok (.bool false) W := by kernel_rfl
theorem known_true (w : World) : Calls Tryz.prog 8 #[] w fun e w' => e = .returned (.bool true) ∧ Below w.heap.size w w' := by
  refine (callsIn_wide (n := 5)).1 (callsIn_of_wp_marks Tryz.func8 rfl trivial ?_ rfl)
  simp only [Tryz.ntmps8, List.size_toArray, List.length_cons, List.length_nil, Nat.reduceAdd, Nat.reduceSub, Array.replicate_succ, Array.replicate_zero, List.push_toArray, List.append_toArray, List.nil_append, List.cons_append]
  refine wpIn_wide.2 ?_
  go_upto_region 1 with fail
  generalize hW0 : World.alloc _ _ = W0
  have r0 : W0.heap[w.heap.size]? = some (.cells #[.bool false] 4 (0, 0)) := by rw [← hW0]; exact heap_new _ _
  have HB0 : Below w.heap.size w W0 := by rw [← hW0]; exact (Below.refl _ w).alloc (Nat.le_refl _) _
  clear hW0
  go_wp2_with fail
  refine (sample_any W0).mono ?_
  rintro _ W1 ⟨g, h, rfl, ri1, ri2, hb1⟩
  go_wp2_with fail
  refine (nnew_yes NKn.kr 2 (some ⟨g, 0, none⟩) 2 (some ⟨h, 0, none⟩) 2 W1 NKn.vk rfl rfl C9 C9 ri1 ri2).mono ?_
  rintro _ W2 ⟨b, m, rfl, hnet, hb2⟩
  rw [NKn.n0] at hnet
  have HK : NK W1.heap.size b 0 0 NKn.K0 W1 W2 := ⟨m, hnet, by rw [← NKn.n0]; exact Nt.NInv.new NKn.vk, hb2, hb2.size⟩
  have r0 := blk_below r0 hb1 (lt_of_block r0)
  have hr1 := lt_of_block r0
  have HB0 := Lib.hid (HB0.trans (hb1.mono HB0.size))
  have R1 := Lib.hid r0
  have hw1 := Lib.hid HB0.out.size
  clear hnet hb1 hb2 ri1 ri2 r0
  go_wp2_with fail
  refine (nk_runT HK Cb 20 NKn.r1).mono ?_
  rintro _ W3 ⟨rfl, HK⟩
  go_wp2_with fail
  refine (nk_now HK).mono ?_
  rintro _ _ ⟨rfl, rfl⟩
  go_wp2_with fail
  refine (nk_doT HK Cb 1 7 NKn.r2.1 NKn.r2.2).mono ?_
  rintro _ W4 ⟨rfl, HK⟩
  go_wp2_with fail
  refine (nk_station HK).mono ?_
  rintro _ _ ⟨rfl, rfl⟩
  go_wp2_with fail
  refine (nk_runT HK Cb 30 NKn.r3).mono ?_
  rintro _ W5 ⟨rfl, HK⟩
  go_wp2_with fail
  refine (are_true HK rfl 1 1 1 rfl rfl rfl).mono ?_
  rintro _ _ ⟨rfl, rfl⟩
  go_wp2_with fail
  refine (nk_runT HK Cb 40 NKn.r4).mono ?_
  rintro _ W6 ⟨rfl, HK⟩
  go_wp2_with fail
  refine (are_true HK rfl 2 1 1 rfl rfl rfl).mono ?_
  rintro _ _ ⟨rfl, rfl⟩
  go_wp2_with fail
  refine (nk_missing HK).mono ?_
  rintro _ W7 ⟨A0, c0, rfl, _, hbm⟩
  have HK := HK.below hbm
  clear hbm
  go_wp2_with fail
  refine (nk_doT HK Cb 2 0 NKn.r5.1 NKn.r5.2).mono ?_
  rintro _ W8 ⟨rfl, HK⟩
  go_wp2_with fail
  refine (nk_runT HK Cb 70 NKn.r6).mono ?_
  rintro _ W9 ⟨rfl, HK⟩
  go_wp2_with fail
  refine (are_true HK rfl 4 2 2 rfl rfl rfl).mono ?_
  rintro _ _ ⟨rfl, rfl⟩
  go_wp2_with fail
  refine (nk_doT HK Cb 3 200 NKn.r7.1 NKn.r7.2).mono ?_
  rintro _ W10 ⟨rfl, HK⟩
  go_wp2_with fail
  refine (nk_runT HK Cb 100 NKn.r8).mono ?_
  rintro _ W11 ⟨rfl, HK⟩
  go_wp2_with fail
  refine (are_true HK rfl 6 3 3 rfl rfl rfl).mono ?_
  rintro _ _ ⟨rfl, rfl⟩
  go_wp2_with fail
  refine (nk_runT HK Cb 200 NKn.r9).mono ?_
  rintro _ W12 ⟨rfl, HK⟩
  go_wp2_with fail
  refine (are_true HK rfl 6 3 3 rfl rfl rfl).mono ?_
  rintro _ _ ⟨rfl, rfl⟩
  go_wp2_with fail
  refine (nk_runT HK Cb 220 NKn.r10).mono ?_
  rintro _ W13 ⟨rfl, HK⟩
  go_wp2_with fail
  refine (are_true HK rfl 6 4 4 rfl rfl rfl).mono ?_
  rintro _ _ ⟨rfl, rfl⟩
  go_wp2_with fail
  refine (nk_cut HK 1 true C8 Bv).mono ?_
  rintro _ W14 ⟨rfl, HK⟩
  rw [NKn.r11] at HK
  go_wp2_with fail
  refine (nk_runT HK Cb 3000 NKn.r12).mono ?_
  rintro _ W15 ⟨rfl, HK⟩
  go_wp2_with fail
  refine (are_true HK rfl 6 5 4 rfl rfl rfl).mono ?_
  rintro _ _ ⟨rfl, rfl⟩
  go_upto_region 12 with fail
  generalize hWz : World.alloc _ _ = Wz
  obtain ⟨B1, hB1⟩ : ∃ q, q = W1.heap.size := ⟨_, rfl⟩
  obtain ⟨m12, _, _, HBn, hsn⟩ := HK
  have r0 := blk_below R1.out HBn hr1
  obtain ⟨z, hz⟩ : ∃ z, z = W15.heap.size := ⟨_, rfl⟩
  have HBz : Below w.heap.size w Wz := by rw [← hWz]; exact (HB0.out.trans (HBn.mono hw1.out)).alloc (Nat.le_trans hw1.out hsn) _
  have z25 : Wz.cell? ⟨z, 25, none⟩ = some (.slice none 0 0) := by rw [← hWz, hz]; exact blk_cell (heap_new _ _) 25 rfl
  have hzl : z < Wz.heap.size := by rw [← hWz, hz]; simp
  have r0 : Wz.heap[w.heap.size]? = some (.cells #[.bool false] 4 (0, 0)) := by rw [← hWz]; exact blk_alloc r0 _
  rw [← hz]
  have Z25 := Lib.hid (fun (W : World) (hW : Below Wz.heap.size Wz W) => (hW.cell (p := ⟨z, 25, none⟩) hzl).trans z25)
  clear hWz hB1 HBn hsn hz R1 HB0 hw1 hr1
  go_wp2_with fail
  refine (npilot_nil 1 _).mono ?_
  rintro _ _ ⟨rfl, rfl⟩
  go_wp2_with fail
  refine (nbounds_zero z 1 _ hzl z25).mono ?_
  rintro _ V1 ⟨rfl, hb1⟩
  go_upto_region 14 with fail
  generalize hV2 : World.alloc _ _ = V2
  have hb2 : Below Wz.heap.size Wz V2 := by rw [← hV2]; exact hb1.alloc hb1.size _
  clear hV2 hb1
  go_wp2_with fail
  refine (nall_nil V2).mono ?_
  rintro _ V3 ⟨bx, rfl, hbx1, hbx2, hb3⟩
  have B3 : Below Wz.heap.size Wz V3 := hb2.trans (hb3.mono hb2.size)
  have hfn := nfnil 91 #[.pointer (some ⟨bx, 0, none⟩)]
  go_upto_region 18 with fail
  clear hfn
  refine (wpIn_wide (n := 5)).1 ?_
  have hseq := evs_seq 4 V3.heap.size bx none 0 0 [] V3 Cb Cb (Nat.le_refl _) hbx2 Reads.none_ (fun a e => by cases e)
  have B3' := Lib.hid B3
  have HBZ := Lib.hid HBz
  have hrz := lt_of_block r0
  have hDw : ∀ D, V3.heap.size ≤ D → w.heap.size < D := fun D hD => by have := B3.size; omega
  have HDW := Lib.hid hDw
  have R0 := Lib.hid r0
  clear B3 hDw HBz r0 hb2 hb3 hbx1 hbx2 z25
  refine range_own (F := Fence.wide) rfl Cb (gf := 91) (lb := #[.pointer (some ⟨bx, 0, none⟩)]) rfl trivial (enters_of Tryz.func91 C7 rfl) hseq (fun h k => h.trans k)
    (fun V l' o o' hl h hc => (Below.refl _ V).grown (grownBy_putObj' V l' o') (by have := (Array.getElem?_eq_some_iff.1 h).1; omega) (fun k e => by cases e; omega)) (fun x => rfl)
    (fun pre V => Below V3.heap.size V3 V) (fun c pre V => False) (fun x a' V => True)
    ?hI ?hIx ?hPr ?hAx ?h0 ?assign ?body ?done ?stop
  case hI => exact ownFrom_below Cb Cb
  case hIx => exact fun c s X Y row hs _ _ => hs.elim
  case hPr => exact fun pre => Nt.PrE.own _ [] pre
  case hAx => exact fun a' s X Y row _ _ _ => trivial
  case h0 => exact Below.refl _ _
  case assign =>
    rintro l' pre x V K hBn hpr hK
    gi_wp2
    exact hK _ _ (KeepsFrom.refl _ V) (Below.refl _ _) hBn hpr trivial
  case body =>
    rintro l' pre x a' V _ _ _ hlt
    exact absurd hlt (Nat.not_lt_zero _)
  case stop =>
    rintro D c' pre V hD _ hf hK
    exact hf.elim
  case done =>
    rintro D ys V hD hys hBn hK
    have BV := B3'.out.trans (hBn.mono B3'.out.size)
    have zv := Z25.out V BV
    have r0 := blk_below R0.out BV hrz
    have hbw := HBZ.out.trans (BV.mono HBZ.out.size)
    have HBW := Lib.hid hbw
    clear hBn hys hseq B3' BV hbw R0 HBZ
    go_wp2_with fail
    refine (nstep_nil _).mono ?_
    rintro _ _ ⟨rfl, rfl⟩
    go_wp2_with fail
    refine (nrun_zero z _ zv 0).mono ?_
    rintro _ _ ⟨rfl, rfl⟩
    go_wp2_with fail
    refine (ndo_nil 1 0 _).mono ?_
    rintro _ _ ⟨rfl, rfl⟩
    go_wp2_with fail
    refine (ncut_zero z _ zv 1 true).mono ?_
    rintro _ _ ⟨rfl, rfl⟩
    go_wp2_with fail
    refine (nnow_nil _).mono ?_
    rintro _ _ ⟨rfl, rfl⟩
    go_wp2_with fail
    refine (nmissing_zero z _ zv).mono ?_
    rintro _ _ ⟨rfl, rfl⟩
    go_wp2_with fail
    refine (ncopy_nil _).mono ?_
    rintro _ _ ⟨rfl, rfl⟩
    have c0 := blk_cell (l := [_]) r0 0 rfl
    have f0 := blk_free r0 0
    go_wp2_with fail
    have hDl := HDW.out D hD
    have hne : D ≠ w.heap.size := by omega
    have rT := blk_set r0 0 (.bool true)
    have kT := blk_far hK (a := ⟨w.heap.size, 0, none⟩) hne (.bool true)
    have hB7 := HBW.out.setCell (p := ⟨w.heap.size, 0, none⟩) (Nat.le_refl _) (.bool true)
    refine ⟨by simp, .inl ⟨_, _, rfl, run_takeDeferred kT, ?_⟩⟩
    refine ⟨_, results_c1 rfl _ _ w.heap.size (.bool true) _ rfl (blk_cell (l := [_]) ((World.putObj_heap_other (fun e => hne e.symm)).trans rT) 0 rfl) Tryz.underlying4 rfl, rfl, ?_⟩
    exact hB7.grown (grownBy_putObj' _ _ _) (by have := (Array.getElem?_eq_some_iff.1 kT).1; omega) (fun k e => by cases e; omega)
end Go.Proofs.YtdocdgcdldpagaaGreat

/- A pilot's states and what its calls do to them: plain, no program in sight. -/
import Derived.Test.YtjidchaejicjaaaCkA
namespace Go.Proofs.Ytjidchaejicjaaa
set_option linter.unusedVariables false
set_option linter.unusedSimpArgs false
set_option maxHeartbeats 1000000
namespace Plt
open Ck
structure St where
  (id lost ret desc late every d r : Int)
  cs : Bool
  (lo hi st : Int)
  (begun loaded given asked : Bool)
  (now heard since prog start reports rep q : Int)
/-- when the clock says that the start has surely come -/
def wat (s : St) : Int := max (Clk.suV s.d s.r s.cs s.lo s.start) s.since
def wev (s : St) : Int × Int × Bool :=
  if Clk.suE s.d s.r s.cs s.lo s.start ≠ 0 ∨ s.heard + s.lost ≤ wat s then (s.heard + s.lost, 1, true)
  else if aE s.d s.r s.cs s.hi (wat s) ≠ 0 ∨ s.start + s.late < aHi s.d s.r s.cs s.hi (wat s) then (wat s, 1, true) else (wat s, 4, true)
/-- the next event: when, the state behind it, whether there is one -/
def evt (s : St) : Int × Int × Bool :=
  if s.st = 2 then (s.heard + s.lost, 1, true) else if s.st = 4 then (s.heard + s.lost, 5, true) else if s.st = 5 then (max (s.heard + s.ret) s.since, 6, true)
  else if s.st = 6 then (s.since + s.desc, 7, true) else if s.st = 3 then wev s else (0, 0, false)
def fgt (x : Int) : Bool := decide (x = 1) || decide (x = 2) || decide (x = 7)
def ent (s : St) (x t : Int) : St := if s.st = x then s else { s with st := x, since := t, given := if fgt x then false else s.given, start := if fgt x then 0 else s.start }
def adv (s : St) : St := ent s (evt s).2.1 (evt s).1
def due (s : St) (l : Int) : Bool := (evt s).2.2 && decide ((evt s).1 ≤ l)
def run : Nat → St → Int → St
  | 0, s, _ => s
  | k + 1, s, l => if due s l then run k (adv s) l else s
def beg (s : St) (l : Int) : St := if s.begun then s else { s with begun := true, heard := l, since := l }
def pas (s : St) (l : Int) : St := run 4 { beg s l with now := l } l
def timE (s : St) (l : Int) : Int := if Clk.inB l (-1073741824) 1073741824 = true ∧ (s.begun = true → s.now ≤ l) then 0 else 3
/-- a frame that comes in: its kind, its number, whether it has no data, its numbers if there are two, its Seq -/
structure Fm where
  (k seq n : Int)
  plain : Bool
  two : Bool
  (g b : Int)
def take (s : St) (x : Fm) : St × Bool :=
  if x.k = 1 then (if s.st = 0 ∨ s.st = 1 ∨ s.st = 7 then (if 0 ≤ x.n then ({ ent s 1 s.now with loaded := true, prog := x.n }, true) else (s, false)) else (s, false))
  else if x.k = 2 then (if (s.st = 1 ∨ s.st = 2) ∧ x.n = s.prog then (ent s 2 s.now, true) else (s, false))
  else if x.k = 3 then (if s.st = 2 ∧ (0 ≤ x.n ∧ x.n ≤ 3600000) ∧ s.cs = true then ({ ent s 3 s.now with given := true, start := x.n }, true) else (s, decide (3 ≤ s.st ∧ s.st ≤ 5 ∧ x.n = s.start)))
  else if x.k = 4 then (if x.plain = true then (if s.st = 3 then (ent s 2 s.now, true) else if s.st = 4 then (ent s 5 s.now, true) else (s, decide (s.st = 2 ∨ s.st = 5))) else (s, false))
  else if x.k = 5 then (if x.plain = true ∧ (s.st = 4 ∨ s.st = 5) then (ent s 4 s.now, true) else (s, false))
  else if x.k = 6 then (if x.plain = true then (if s.st = 2 ∨ s.st = 3 then (ent s 1 s.now, true) else if s.st = 4 ∨ s.st = 5 then (ent s 6 s.now, true) else (s, true)) else (s, false))
  else if x.k = 7 then (if x.two = true ∧ s.asked = true ∧ x.seq = (s.reports - 1) % 65536 then
      ({ s with r := Clk.addR s.d s.r s.cs s.lo s.hi s.rep x.g x.b s.now, cs := Clk.addS s.d s.r s.cs s.lo s.hi s.rep x.g x.b s.now, lo := Clk.addLo s.d s.r s.cs s.lo s.hi s.rep x.g x.b s.now, hi := Clk.addHi s.d s.r s.cs s.lo s.hi s.rep x.g x.b s.now, asked := false }, false) else (s, false))
  else (s, false)
/-- behind the times: a frame is taken -/
def recv (s : St) (l : Int) (x : Fm) : St := pas (take { pas s l with heard := l } x).1 l
def recvA (s : St) (l : Int) (x : Fm) : Bool := (take { pas s l with heard := l } x).2
def asks (s : St) (l : Int) : Bool := decide (0 < s.reports ∧ l - s.rep < s.every)
def tick (s : St) (l : Int) : St := if asks (pas s l) l then pas s l else { pas s l with q := (pas s l).reports % 65536, asked := true, reports := (pas s l).reports + 1, rep := l }
def next (s : St) : Int := max (if (evt s).2.2 then min (if 0 < s.reports then s.rep + s.every else s.now) (evt s).1 else if 0 < s.reports then s.rep + s.every else s.now) s.now
/-- what is always so -/
structure Inv (s : St) : Prop where
  id : 1 ≤ s.id ∧ s.id ≤ 64
  lost : 1 ≤ s.lost ∧ s.lost ≤ 600000
  ret : s.lost ≤ s.ret ∧ s.ret ≤ 600000
  desc : 1 ≤ s.desc ∧ s.desc ≤ 600000
  late : 0 ≤ s.late ∧ s.late ≤ 600000
  every : 1 ≤ s.every ∧ s.every ≤ 600000
  clk : Clk.CInv s.d s.r s.lo s.hi
  l0 : s.cs = true → 0 ≤ s.lo
  st : 0 ≤ s.st ∧ s.st ≤ 7
  now : -1073741824 ≤ s.now ∧ s.now ≤ 1073741824
  heard : -1073741824 ≤ s.heard ∧ s.heard ≤ 1073741824
  since : -1073741824 ≤ s.since ∧ s.since ≤ 1073741824
  rep : -1073741824 ≤ s.rep ∧ s.rep ≤ 1073741824
  prog : 0 ≤ s.prog ∧ s.prog ≤ 4294967295
  start : 0 ≤ s.start ∧ s.start ≤ 3600000
  load : s.st ≠ 0 → s.loaded = true
  giv : (s.st ≤ 2 ∨ s.st = 7) → s.given = false ∧ s.start = 0
  ask : s.asked = true → 1 ≤ s.reports ∧ s.q = (s.reports - 1) % 65536
  rp : 0 ≤ s.reports
theorem suV_bd {s : St} (h : Inv s) : -1073741824 ≤ Clk.suV s.d s.r s.cs s.lo s.start ∧ Clk.suV s.d s.r s.cs s.lo s.start ≤ 1073741824 := by
  have hr := h.clk
  unfold Clk.CInv at hr
  unfold Clk.suV
  by_cases e : Clk.suE s.d s.r s.cs s.lo s.start = 0
  · rw [if_pos e]
    have h1 := Clk.cnt_le (Clk.suP s.d s.lo s.start) (Clk.suN s.r)
    have h2 : Clk.suM s.d s.r s.lo s.start ≠ Clk.suN s.r := by
      intro hh
      unfold Clk.suE at e
      split at e
      · omega
      · split at e
        · omega
        · first | omega | (rw [if_pos hh] at e; omega)
    unfold Clk.suM Clk.suN at *
    omega
  · rw [if_neg e]; omega
theorem wat_bd {s : St} (h : Inv s) : -1073741824 ≤ wat s ∧ wat s ≤ 1073741824 ∧ s.since ≤ wat s := by
  have h1 := suV_bd h
  have h2 := h.since
  unfold wat
  omega
/-- an event's time, and the state behind it -/
theorem evt_bd {s : St} (h : Inv s) : -1073741824 ≤ (evt s).1 ∧ (evt s).1 ≤ 1074341824 ∧ 0 ≤ (evt s).2.1 ∧ (evt s).2.1 ≤ 7 := by
  have h1 := wat_bd h
  have h2 := h.heard
  have h3 := h.since
  have h4 := h.lost
  have h5 := h.ret
  have h6 := h.desc
  unfold evt wev
  split
  · simp only; omega
  split
  · simp only; omega
  split
  · simp only; omega
  split
  · simp only; omega
  split
  · split
    · simp only; omega
    split
    · simp only; omega
    · simp only; omega
  · simp only; omega
/-- the state behind an event is another one, and lower in rank -/
def rank (x : Int) : Nat := if x = 3 then 4 else if x = 4 then 3 else if x = 5 then 2 else if x = 6 then 1 else if x = 2 then 1 else 0
theorem evt_rank {s : St} (h : (evt s).2.2 = true) : (evt s).2.1 ≠ s.st ∧ rank (evt s).2.1 < rank s.st ∧ 2 ≤ s.st ∧ s.st ≤ 6 ∧ ((evt s).2.1 = 1 ∨ 4 ≤ (evt s).2.1) := by
  unfold evt wev at *
  split
  · rename_i e; rw [e]; simp only; decide
  split
  · rename_i e; rw [e]; simp only; decide
  split
  · rename_i e; rw [e]; simp only; decide
  split
  · rename_i e; rw [e]; simp only; decide
  split
  · rename_i e; rw [e]
    split
    · simp only; decide
    split
    · simp only; decide
    · simp only; decide
  · rename_i a b c d e
    rw [if_neg a, if_neg b, if_neg c, if_neg d, if_neg e] at h
    cases h
theorem adv_st {s : St} (h : (evt s).2.2 = true) : (adv s).st = (evt s).2.1 ∧ (adv s).since = (evt s).1 := by
  unfold adv ent
  rw [if_neg (fun e => (evt_rank h).1 e.symm)]
  exact ⟨rfl, rfl⟩
theorem ent_inv {s : St} (h : Inv s) {x t : Int} (hx : 1 ≤ x ∧ x ≤ 7) (ht : -1073741824 ≤ t ∧ t ≤ 1073741824) (hl : s.loaded = true) : Inv (ent s x t) := by
  unfold ent
  split
  · exact h
  · have hst := h.start
    refine ⟨h.id, h.lost, h.ret, h.desc, h.late, h.every, h.clk, h.l0, ⟨by simp only; omega, hx.2⟩, h.now, h.heard, ht, h.rep, h.prog, ?_, fun _ => hl, fun hh => ?_, h.ask, h.rp⟩
    · simp only; split <;> omega
    · have hf : fgt x = true := by
        simp only at hh
        unfold fgt
        have : x = 1 ∨ x = 2 ∨ x = 7 := by omega
        rcases this with e | e | e <;> rw [e] <;> rfl
      simp only [hf, if_true, and_self]
theorem adv_inv {s : St} (h : Inv s) {l : Int} (hl : l ≤ 1073741824) (hd : due s l = true) : Inv (adv s) := by
  unfold due at hd
  simp only [Bool.and_eq_true, decide_eq_true_eq] at hd
  have h1 := evt_bd h
  have h2 := evt_rank hd.1
  exact ent_inv h (by omega) (by omega) (h.load (by omega))
theorem adv_now (s : St) : (adv s).now = s.now ∧ (adv s).begun = s.begun ∧ (adv s).heard = s.heard ∧ (adv s).reports = s.reports ∧ (adv s).rep = s.rep ∧ (adv s).every = s.every := by
  unfold adv ent
  split <;> exact ⟨rfl, rfl, rfl, rfl, rfl, rfl⟩
theorem run_inv : ∀ (k : Nat) {s : St} {l : Int} (h : Inv s) (hl : l ≤ 1073741824), Inv (run k s l)
  | 0, s, l, h, _ => h
  | k + 1, s, l, h, hl => by
    unfold run
    split
    · rename_i hd; exact run_inv k (adv_inv h hl hd) hl
    · exact h
theorem rank_le (x : Int) : rank x ≤ 4 := by
  unfold rank
  repeat' split
  all_goals omega
theorem due_rank {s : St} {l : Int} (h : due s l = true) : rank (adv s).st < rank s.st := by
  unfold due at h
  simp only [Bool.and_eq_true, decide_eq_true_eq] at h
  rw [(adv_st h.1).1]
  exact (evt_rank h.1).2.1
/-- enough rounds are enough -/
theorem run_more : ∀ (k j : Nat) (s : St) (l : Int) (hk : rank s.st ≤ k) (hj : rank s.st ≤ j), run k s l = run j s l
  | 0, j, s, l, hk, hj => by
    cases j with
    | zero => rfl
    | succ j =>
      show s = run (j + 1) s l
      unfold run
      rw [if_neg (fun h => by have := due_rank h; omega)]
  | k + 1, 0, s, l, hk, hj => by
    show run (k + 1) s l = s
    unfold run
    rw [if_neg (fun h => by have := due_rank h; omega)]
  | k + 1, j + 1, s, l, hk, hj => by
    unfold run
    split
    · rename_i h
      have := due_rank h
      exact run_more k j _ _ (by omega) (by omega)
    · rfl
/-- one round more -/
theorem run_due {s : St} {l : Int} (h : due s l = true) : run 4 (adv s) l = run 4 s l := by
  have h1 := due_rank h
  have h2 := rank_le s.st
  have e : run 4 s l = run 3 (adv s) l := by
    show (if due s l then run 3 (adv s) l else s) = _
    rw [if_pos h]
  rw [e]
  exact run_more 4 3 _ _ (by omega) (by omega)
theorem run_stop {s : St} {l : Int} (h : due s l = false) : run 4 s l = s := by
  show (if due s l then run 3 (adv s) l else s) = _
  rw [if_neg (by rw [h]; simp)]
theorem evt_now (s : St) (n : Int) : evt { s with now := n } = evt s := rfl
theorem adv_setnow (s : St) (n : Int) : adv { s with now := n } = { adv s with now := n } := by
  unfold adv ent
  rw [evt_now]
  simp only
  split <;> rfl
theorem run_setnow : ∀ (k : Nat) (s : St) (n l : Int), run k { s with now := n } l = { run k s l with now := n }
  | 0, s, n, l => rfl
  | k + 1, s, n, l => by
    have hd : due { s with now := n } l = due s l := rfl
    unfold run
    rw [hd]
    split
    · rw [adv_setnow, run_setnow]
    · rfl
theorem beg_inv {s : St} (h : Inv s) {l : Int} (hl : -1073741824 ≤ l ∧ l ≤ 1073741824) : Inv { beg s l with now := l } := by
  unfold beg
  split
  · exact ⟨h.id, h.lost, h.ret, h.desc, h.late, h.every, h.clk, h.l0, h.st, hl, h.heard, h.since, h.rep, h.prog, h.start, h.load, h.giv, h.ask, h.rp⟩
  · exact ⟨h.id, h.lost, h.ret, h.desc, h.late, h.every, h.clk, h.l0, h.st, hl, hl, hl, h.rep, h.prog, h.start, h.load, h.giv, h.ask, h.rp⟩
theorem pas_inv {s : St} (h : Inv s) {l : Int} (hl : -1073741824 ≤ l ∧ l ≤ 1073741824) : Inv (pas s l) := run_inv 4 (beg_inv h hl) hl.2
theorem run_same : ∀ (k : Nat) (s : St) (l : Int), (run k s l).now = s.now ∧ (run k s l).begun = s.begun ∧ (run k s l).heard = s.heard ∧ (run k s l).reports = s.reports ∧ (run k s l).rep = s.rep ∧ (run k s l).every = s.every
  | 0, s, l => ⟨rfl, rfl, rfl, rfl, rfl, rfl⟩
  | k + 1, s, l => by
    have h := adv_now s
    unfold run
    split
    · have h2 := run_same k (adv s) l
      rw [h.1, h.2.1, h.2.2.1, h.2.2.2.1, h.2.2.2.2.1, h.2.2.2.2.2] at h2
      exact h2
    · exact ⟨rfl, rfl, rfl, rfl, rfl, rfl⟩
theorem pas_same (s : St) (l : Int) : (pas s l).now = l ∧ (pas s l).begun = true ∧ (pas s l).reports = s.reports ∧ (pas s l).rep = s.rep := by
  have h := run_same 4 { beg s l with now := l } l
  refine ⟨h.1, h.2.1.trans ?_, h.2.2.2.1.trans ?_, h.2.2.2.2.1.trans ?_⟩
  all_goals
    unfold beg
    split
  · assumption
  all_goals rfl
theorem heard_inv {s : St} (h : Inv s) {l : Int} (hl : -1073741824 ≤ l ∧ l ≤ 1073741824) : Inv { s with heard := l } :=
  ⟨h.id, h.lost, h.ret, h.desc, h.late, h.every, h.clk, h.l0, h.st, h.now, hl, h.since, h.rep, h.prog, h.start, h.load, h.giv, h.ask, h.rp⟩
theorem add_l0 {d r : Int} {s : Bool} {lo hi a g k h : Int} (l0 : s = true → 0 ≤ lo) (e : Clk.addS d r s lo hi a g k h = true) : 0 ≤ Clk.addLo d r s lo hi a g k h := by
  unfold Clk.addS at e
  unfold Clk.addLo
  by_cases hE : Clk.addE d r s lo hi a g k h = 0
  · rw [if_pos hE]
    have x : Clk.xOk a g k h = true := by
      cases hx : Clk.xOk a g k h with
      | true => rfl
      | false => rw [Clk.addE, if_pos hx] at hE; omega
    rw [Clk.xOk_iff] at x
    unfold Clk.nLo
    split <;> omega
  · rw [if_neg hE] at e ⊢
    exact l0 e
theorem take_inv {s : St} (h : Inv s) {x : Fm} (hx : -1 ≤ x.n ∧ x.n ≤ 4294967295) : Inv (take s x).1 := by
  have hn := h.now
  unfold take
  split
  · split
    · rename_i hs
      split
      · have h1 : Inv { s with loaded := true } := ⟨h.id, h.lost, h.ret, h.desc, h.late, h.every, h.clk, h.l0, h.st, h.now, h.heard, h.since, h.rep, h.prog, h.start, fun _ => rfl, h.giv, h.ask, h.rp⟩
        have h2 := ent_inv h1 (x := 1) (t := s.now) (by omega) hn rfl
        have e : ({ ent s 1 s.now with loaded := true, prog := x.n } : St) = { ent { s with loaded := true } 1 s.now with prog := x.n } := by
          unfold ent
          simp only
          split <;> rfl
        simp only
        rw [e]
        exact ⟨h2.id, h2.lost, h2.ret, h2.desc, h2.late, h2.every, h2.clk, h2.l0, h2.st, h2.now, h2.heard, h2.since, h2.rep, ⟨by assumption, hx.2⟩, h2.start, h2.load, h2.giv, h2.ask, h2.rp⟩
      · exact h
    · exact h
  split
  · split
    · exact ent_inv h (by omega) hn (h.load (by omega))
    · exact h
  split
  · split
    · rename_i hc
      have h2 := ent_inv h (x := 3) (t := s.now) (by omega) hn (h.load (by omega))
      have e3 : (ent s 3 s.now).st = 3 := by unfold ent; split <;> simp_all
      exact ⟨h2.id, h2.lost, h2.ret, h2.desc, h2.late, h2.every, h2.clk, h2.l0, h2.st, h2.now, h2.heard, h2.since, h2.rep, h2.prog, hc.2.1, h2.load, fun hh => by simp only [e3] at hh; omega, h2.ask, h2.rp⟩
    · exact h
  split
  · split
    · split
      · exact ent_inv h (by omega) hn (h.load (by omega))
      split
      · exact ent_inv h (by omega) hn (h.load (by omega))
      · exact h
    · exact h
  split
  · split
    · exact ent_inv h (by omega) hn (h.load (by omega))
    · exact h
  split
  · split
    · split
      · exact ent_inv h (by omega) hn (h.load (by omega))
      split
      · exact ent_inv h (by omega) hn (h.load (by omega))
      · exact h
    · exact h
  split
  · split
    · exact ⟨h.id, h.lost, h.ret, h.desc, h.late, h.every, Clk.add_inv h.clk, fun e => add_l0 h.l0 e, h.st, h.now, h.heard, h.since, h.rep, h.prog, h.start, h.load, h.giv, fun e => (by cases e), h.rp⟩
    · exact h
  · exact h
theorem recv_inv {s : St} (h : Inv s) {l : Int} (hl : -1073741824 ≤ l ∧ l ≤ 1073741824) {x : Fm} (hx : -1 ≤ x.n ∧ x.n ≤ 4294967295) : Inv (recv s l x) :=
  pas_inv (take_inv (heard_inv (pas_inv h hl) hl) hx) hl
theorem tick_inv {s : St} (h : Inv s) {l : Int} (hl : -1073741824 ≤ l ∧ l ≤ 1073741824) : Inv (tick s l) := by
  have h1 := pas_inv h hl
  unfold tick
  split
  · exact h1
  · have hr := h1.rp
    exact ⟨h1.id, h1.lost, h1.ret, h1.desc, h1.late, h1.every, h1.clk, h1.l0, h1.st, h1.now, h1.heard, h1.since, hl, h1.prog, h1.start, h1.load, h1.giv, fun _ => ⟨by simp only; omega, by simp only; rw [show (pas s l).reports + 1 - 1 = (pas s l).reports by omega]⟩, by simp only; omega⟩
def new (id lost ret desc late every d : Int) : St := ⟨id, lost, ret, desc, late, every, d, 0, false, 0, 0, 0, false, false, false, false, 0, 0, 0, 0, 0, 0, 0, 0⟩
def ruOk (lost ret desc late every : Int) : Bool := Clk.inB lost 1 600000 && Clk.inB ret lost 600000 && Clk.inB desc 1 600000 && Clk.inB late 0 600000 && Clk.inB every 1 600000
def newE (id lost ret desc late every d : Int) : Int := if Clk.inB id 1 64 = true ∧ ruOk lost ret desc late every = true ∧ (0 ≤ d ∧ d ≤ 100000) then 0 else 2
theorem ruOk_iff {lost ret desc late every : Int} : ruOk lost ret desc late every = true ↔ (1 ≤ lost ∧ lost ≤ 600000) ∧ (lost ≤ ret ∧ ret ≤ 600000) ∧ (1 ≤ desc ∧ desc ≤ 600000) ∧ (0 ≤ late ∧ late ≤ 600000) ∧ (1 ≤ every ∧ every ≤ 600000) := by
  unfold ruOk
  simp only [Bool.and_eq_true, Clk.inB_iff, and_assoc]
theorem new_inv {id lost ret desc late every d : Int} (h : newE id lost ret desc late every d = 0) : Inv (new id lost ret desc late every d) := by
  unfold newE at h
  split at h
  · rename_i hh
    obtain ⟨h1, h2, h3⟩ := hh
    rw [Clk.inB_iff] at h1
    rw [ruOk_iff] at h2
    obtain ⟨a, b, c, e, f⟩ := h2
    exact ⟨h1, a, b, c, e, f, ⟨h3.1, h3.2, by simp [new], by simp [new], by simp [new], by simp [new], by simp [new]⟩, fun e => (by cases e), by simp [new], by simp [new], by simp [new], by simp [new], by simp [new], by simp [new], by simp [new], fun e => absurd rfl e, fun _ => ⟨rfl, rfl⟩, fun e => (by cases e), by simp [new]⟩
  · omega
end Plt
end Go.Proofs.Ytjidchaejicjaaa

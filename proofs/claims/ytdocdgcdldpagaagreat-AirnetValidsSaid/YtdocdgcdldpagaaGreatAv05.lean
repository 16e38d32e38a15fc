import Derived.Test.YtdocdgcdldpagaaGreatAp
import Derived.Test.YtdocdgcdldpagaaGreatAv04
import Derived.Test.YtdocdgcdldpagaaGreatAv02
import Derived.Laws.CopyOwn
import Derived.StillTailTactics
namespace Go.Proofs.YtdocdgcdldpagaaGreat
set_option linter.unusedVariables false
set_option linter.unusedSimpArgs false
set_option maxHeartbeats 1000000
namespace Plt
open Ck
structure St where
  (id lost ret desc late every d r : Int)
  cs : Bool
  (lo hi st : Int)
  (begun loaded given asked : Bool)
  (now heard since prog start reports rep q : Int)
def wat (s : St) : Int := max (Clk.suV s.d s.r s.cs s.lo s.start) s.since
def wev (s : St) : Int × Int × Bool :=
  if Clk.suE s.d s.r s.cs s.lo s.start ≠ 0 ∨ s.heard + s.lost ≤ wat s then (s.heard + s.lost, 1, true)
  else if aE s.d s.r s.cs s.hi (wat s) ≠ 0 ∨ s.start + s.late < aHi s.d s.r s.cs s.hi (wat s) then (wat s, 1, true) else (wat s, 4, true)
def evt (s : St) : Int × Int × Bool :=
  if s.st = 2 then (s.heard + s.lost, 1, true) else if s.st = 4 then (s.heard + s.lost, 5, true) else if s.st = 5 then (max (s.heard + s.ret) s.since, 6, true)
  else if s.st = 6 then (s.since + s.desc, 7, true) else if s.st = 3 then wev s else (0, 0, false)
def fgt (x : Int) : Bool := decide (x = 1) || decide (x = 2) || decide (x = 7)
def ent (s : St) (x t : Int) : St := if s.st = x then s else { s with st := x, since := t, given := if fgt x then false else s.given, start := if fgt x then 0 else s.start }
def adv (s : St) : St := ent s (evt s).2.1 (evt s).1
def due (s : St) (l : Int) : Bool := (evt s).2.2 && decide ((evt s).1 ≤ l)
def run : Nat → St → Int → St
  | 0, s, _ => s
  | k + 1, s, l => if due s l then run k (adv s) l else s
def beg (s : St) (l : Int) : St := if s.begun then s else { s with begun := true, heard := l, since := l }
def pas (s : St) (l : Int) : St := run 4 { beg s l with now := l } l
def timE (s : St) (l : Int) : Int := if Clk.inB l (-1073741824) 1073741824 = true ∧ (s.begun = true → s.now ≤ l) then 0 else 3
structure Fm where
  (k seq n : Int)
  plain : Bool
  two : Bool
  (g b : Int)
def take (s : St) (x : Fm) : St × Bool :=
  if x.k = 1 then (if s.st = 0 ∨ s.st = 1 ∨ s.st = 7 then (if 0 ≤ x.n then ({ ent s 1 s.now with loaded := true, prog := x.n }, true) else (s, false)) else (s, false))
  else if x.k = 2 then (if (s.st = 1 ∨ s.st = 2) ∧ x.n = s.prog then (ent s 2 s.now, true) else (s, false))
  else if x.k = 3 then (if s.st = 2 ∧ (0 ≤ x.n ∧ x.n ≤ 3600000) ∧ s.cs = true then ({ ent s 3 s.now with given := true, start := x.n }, true) else (s, decide (3 ≤ s.st ∧ s.st ≤ 5 ∧ x.n = s.start)))
  else if x.k = 4 then (if x.plain = true then (if s.st = 3 then (ent s 2 s.now, true) else if s.st = 4 then (ent s 5 s.now, true) else (s, decide (s.st = 2 ∨ s.st = 5))) else (s, false))
  else if x.k = 5 then (if x.plain = true ∧ (s.st = 4 ∨ s.st = 5) then (ent s 4 s.now, true) else (s, false))
  else if x.k = 6 then (if x.plain = true then (if s.st = 2 ∨ s.st = 3 then (ent s 1 s.now, true) else if s.st = 4 ∨ s.st = 5 then (ent s 6 s.now, true) else (s, true)) else (s, false))
  else if x.k = 7 then (if x.two = true ∧ s.asked = true ∧ x.seq = (s.reports - 1) % 65536 then
      ({ s with r := Clk.addR s.d s.r s.cs s.lo s.hi s.rep x.g x.b s.now, cs := Clk.addS s.d s.r s.cs s.lo s.hi s.rep x.g x.b s.now, lo := Clk.addLo s.d s.r s.cs s.lo s.hi s.rep x.g x.b s.now, hi := Clk.addHi s.d s.r s.cs s.lo s.hi s.rep x.g x.b s.now, asked := false }, false) else (s, false))
  else (s, false)
def recv (s : St) (l : Int) (x : Fm) : St := pas (take { pas s l with heard := l } x).1 l
def recvA (s : St) (l : Int) (x : Fm) : Bool := (take { pas s l with heard := l } x).2
def asks (s : St) (l : Int) : Bool := decide (0 < s.reports ∧ l - s.rep < s.every)
def tick (s : St) (l : Int) : St := if asks (pas s l) l then pas s l else { pas s l with q := (pas s l).reports % 65536, asked := true, reports := (pas s l).reports + 1, rep := l }
def next (s : St) : Int := max (if (evt s).2.2 then min (if 0 < s.reports then s.rep + s.every else s.now) (evt s).1 else if 0 < s.reports then s.rep + s.every else s.now) s.now
structure Inv (s : St) : Prop where
  id : 1 ≤ s.id ∧ s.id ≤ 64
  lost : 1 ≤ s.lost ∧ s.lost ≤ 600000
  ret : s.lost ≤ s.ret ∧ s.ret ≤ 600000
  desc : 1 ≤ s.desc ∧ s.desc ≤ 600000
  late : 0 ≤ s.late ∧ s.late ≤ 600000
  every : 1 ≤ s.every ∧ s.every ≤ 600000
  clk : Clk.CInv s.d s.r s.lo s.hi
  l0 : s.cs = true → 0 ≤ s.lo
  st : 0 ≤ s.st ∧ s.st ≤ 7
  now : -1073741824 ≤ s.now ∧ s.now ≤ 1073741824
  heard : -1073741824 ≤ s.heard ∧ s.heard ≤ 1073741824
  since : -1073741824 ≤ s.since ∧ s.since ≤ 1073741824
  rep : -1073741824 ≤ s.rep ∧ s.rep ≤ 1073741824
  prog : 0 ≤ s.prog ∧ s.prog ≤ 4294967295
  start : 0 ≤ s.start ∧ s.start ≤ 3600000
  load : s.st ≠ 0 → s.loaded = true
  giv : (s.st ≤ 2 ∨ s.st = 7) → s.given = false ∧ s.start = 0
  ask : s.asked = true → 1 ≤ s.reports ∧ s.q = (s.reports - 1) % 65536
  rp : 0 ≤ s.reports
theorem suV_bd {s : St} (h : Inv s) : -1073741824 ≤ Clk.suV s.d s.r s.cs s.lo s.start ∧ Clk.suV s.d s.r s.cs s.lo s.start ≤ 1073741824 := by
  have hr := h.clk
  unfold Clk.CInv at hr
  unfold Clk.suV
  by_cases e : Clk.suE s.d s.r s.cs s.lo s.start = 0
  · rw [if_pos e]
    have h1 := Clk.cnt_le (Clk.suP s.d s.lo s.start) (Clk.suN s.r)
    have h2 : Clk.suM s.d s.r s.lo s.start ≠ Clk.suN s.r := by
      intro hh
      unfold Clk.suE at e
      split at e
      · omega
      · split at e
        · omega
        · first | omega | (rw [if_pos hh] at e; omega)
    unfold Clk.suM Clk.suN at *
    omega
  · rw [if_neg e]; omega
theorem wat_bd {s : St} (h : Inv s) : -1073741824 ≤ wat s ∧ wat s ≤ 1073741824 ∧ s.since ≤ wat s := by
  have h1 := suV_bd h
  have h2 := h.since
  unfold wat
  omega
theorem evt_bd {s : St} (h : Inv s) : -1073741824 ≤ (evt s).1 ∧ (evt s).1 ≤ 1074341824 ∧ 0 ≤ (evt s).2.1 ∧ (evt s).2.1 ≤ 7 := by
  have h1 := wat_bd h
  have h2 := h.heard
  have h3 := h.since
  have h4 := h.lost
  have h5 := h.ret
  have h6 := h.desc
  unfold evt wev
  split
  · simp only; omega
  split
  · simp only; omega
  split
  · simp only; omega
  split
  · simp only; omega
  split
  · split
    · simp only; omega
    split
    · simp only; omega
    · simp only; omega
  · simp only; omega
def rank (x : Int) : Nat := if x = 3 then 4 else if x = 4 then 3 else if x = 5 then 2 else if x = 6 then 1 else if x = 2 then 1 else 0
theorem evt_rank {s : St} (h : (evt s).2.2 = true) : (evt s).2.1 ≠ s.st ∧ rank (evt s).2.1 < rank s.st ∧ 2 ≤ s.st ∧ s.st ≤ 6 ∧ ((evt s).2.1 = 1 ∨ 4 ≤ (evt s).2.1) := by
  unfold evt wev at *
  split
  · rename_i e; rw [e]; simp only; decide
  split
  · rename_i e; rw [e]; simp only; decide
  split
  · rename_i e; rw [e]; simp only; decide
  split
  · rename_i e; rw [e]; simp only; decide
  split
  · rename_i e; rw [e]
    split
    · simp only; decide
    split
    · simp only; decide
    · simp only; decide
  · rename_i a b c d e
    rw [if_neg a, if_neg b, if_neg c, if_neg d, if_neg e] at h
    cases h
theorem adv_st {s : St} (h : (evt s).2.2 = true) : (adv s).st = (evt s).2.1 ∧ (adv s).since = (evt s).1 := by
  unfold adv ent
  rw [if_neg (fun e => (evt_rank h).1 e.symm)]
  exact ⟨rfl, rfl⟩
theorem ent_inv {s : St} (h : Inv s) {x t : Int} (hx : 1 ≤ x ∧ x ≤ 7) (ht : -1073741824 ≤ t ∧ t ≤ 1073741824) (hl : s.loaded = true) : Inv (ent s x t) := by
  unfold ent
  split
  · exact h
  · have hst := h.start
    refine ⟨h.id, h.lost, h.ret, h.desc, h.late, h.every, h.clk, h.l0, ⟨by simp only; omega, hx.2⟩, h.now, h.heard, ht, h.rep, h.prog, ?_, fun _ => hl, fun hh => ?_, h.ask, h.rp⟩
    · simp only; split <;> omega
    · have hf : fgt x = true := by
        simp only at hh
        unfold fgt
        have : x = 1 ∨ x = 2 ∨ x = 7 := by omega
        rcases this with e | e | e <;> rw [e] <;> rfl
      simp only [hf, if_true, and_self]
theorem adv_inv {s : St} (h : Inv s) {l : Int} (hl : l ≤ 1073741824) (hd : due s l = true) : Inv (adv s) := by
  unfold due at hd
  simp only [Bool.and_eq_true, decide_eq_true_eq] at hd
  have h1 := evt_bd h
  have h2 := evt_rank hd.1
  exact ent_inv h Cb Cb (h.load Cb)
theorem adv_now (s : St) : (adv s).now = s.now ∧ (adv s).begun = s.begun ∧ (adv s).heard = s.heard ∧ (adv s).reports = s.reports ∧ (adv s).rep = s.rep ∧ (adv s).every = s.every := by
  unfold adv ent
  split <;> exact ⟨rfl, rfl, rfl, rfl, rfl, rfl⟩
theorem run_inv : ∀ (k : Nat) {s : St} {l : Int} (h : Inv s) (hl : l ≤ 1073741824), Inv (run k s l)
  | 0, s, l, h, _ => h
  | k + 1, s, l, h, hl => by
    unfold run
    split
    · rename_i hd; exact run_inv k (adv_inv h hl hd) hl
    · exact h
theorem rank_le (x : Int) : rank x ≤ 4 := by
  unfold rank
  repeat' split
  all_goals omega
theorem due_rank {s : St} {l : Int} (h : due s l = true) : rank (adv s).st < rank s.st := by
  unfold due at h
  simp only [Bool.and_eq_true, decide_eq_true_eq] at h
  rw [(adv_st h.1).1]
  exact (evt_rank h.1).2.1
theorem run_more : ∀ (k j : Nat) (s : St) (l : Int) (hk : rank s.st ≤ k) (hj : rank s.st ≤ j), run k s l = run j s l
  | 0, j, s, l, hk, hj => by
    cases j with
    | zero => rfl
    | succ j =>
      show s = run (j + 1) s l
      unfold run
      rw [if_neg (fun h => by have := due_rank h; omega)]
  | k + 1, 0, s, l, hk, hj => by
    show run (k + 1) s l = s
    unfold run
    rw [if_neg (fun h => by have := due_rank h; omega)]
  | k + 1, j + 1, s, l, hk, hj => by
    unfold run
    split
    · rename_i h
      have := due_rank h
      exact run_more k j _ _ Cb Cb
    · rfl
theorem run_due {s : St} {l : Int} (h : due s l = true) : run 4 (adv s) l = run 4 s l := by
  have h1 := due_rank h
  have h2 := rank_le s.st
  have e : run 4 s l = run 3 (adv s) l := by
    show (if due s l then run 3 (adv s) l else s) = _
    rw [if_pos h]
  rw [e]
  exact run_more 4 3 _ _ Cb Cb
theorem run_stop {s : St} {l : Int} (h : due s l = false) : run 4 s l = s := by
  show (if due s l then run 3 (adv s) l else s) = _
  rw [if_neg (by rw [h]; simp)]
theorem beg_inv {s : St} (h : Inv s) {l : Int} (hl : -1073741824 ≤ l ∧ l ≤ 1073741824) : Inv { beg s l with now := l } := by
  unfold beg
  split
  · exact ⟨h.id, h.lost, h.ret, h.desc, h.late, h.every, h.clk, h.l0, h.st, hl, h.heard, h.since, h.rep, h.prog, h.start, h.load, h.giv, h.ask, h.rp⟩
  · exact ⟨h.id, h.lost, h.ret, h.desc, h.late, h.every, h.clk, h.l0, h.st, hl, hl, hl, h.rep, h.prog, h.start, h.load, h.giv, h.ask, h.rp⟩
theorem pas_inv {s : St} (h : Inv s) {l : Int} (hl : -1073741824 ≤ l ∧ l ≤ 1073741824) : Inv (pas s l) := run_inv 4 (beg_inv h hl) hl.2
theorem run_same : ∀ (k : Nat) (s : St) (l : Int), (run k s l).now = s.now ∧ (run k s l).begun = s.begun ∧ (run k s l).heard = s.heard ∧ (run k s l).reports = s.reports ∧ (run k s l).rep = s.rep ∧ (run k s l).every = s.every
  | 0, s, l => ⟨rfl, rfl, rfl, rfl, rfl, rfl⟩
  | k + 1, s, l => by
    have h := adv_now s
    unfold run
    split
    · have h2 := run_same k (adv s) l
      rw [h.1, h.2.1, h.2.2.1, h.2.2.2.1, h.2.2.2.2.1, h.2.2.2.2.2] at h2
      exact h2
    · exact ⟨rfl, rfl, rfl, rfl, rfl, rfl⟩
theorem pas_same (s : St) (l : Int) : (pas s l).now = l ∧ (pas s l).begun = true ∧ (pas s l).reports = s.reports ∧ (pas s l).rep = s.rep := by
  have h := run_same 4 { beg s l with now := l } l
  refine ⟨h.1, h.2.1.trans ?_, h.2.2.2.1.trans ?_, h.2.2.2.2.1.trans ?_⟩
  all_goals
    unfold beg
    split
  · assumption
  all_goals rfl
theorem heard_inv {s : St} (h : Inv s) {l : Int} (hl : -1073741824 ≤ l ∧ l ≤ 1073741824) : Inv { s with heard := l } :=
  ⟨h.id, h.lost, h.ret, h.desc, h.late, h.every, h.clk, h.l0, h.st, h.now, hl, h.since, h.rep, h.prog, h.start, h.load, h.giv, h.ask, h.rp⟩
theorem add_l0 {d r : Int} {s : Bool} {lo hi a g k h : Int} (l0 : s = true → 0 ≤ lo) (e : Clk.addS d r s lo hi a g k h = true) : 0 ≤ Clk.addLo d r s lo hi a g k h := by
  unfold Clk.addS at e
  unfold Clk.addLo
  by_cases hE : Clk.addE d r s lo hi a g k h = 0
  · rw [if_pos hE]
    have x : Clk.xOk a g k h = true := by
      cases hx : Clk.xOk a g k h with
      | true => rfl
      | false => rw [Clk.addE, if_pos hx] at hE; omega
    rw [Clk.xOk_iff] at x
    unfold Clk.nLo
    split <;> omega
  · rw [if_neg hE] at e ⊢
    exact l0 e
theorem take_inv {s : St} (h : Inv s) {x : Fm} (hx : -1 ≤ x.n ∧ x.n ≤ 4294967295) : Inv (take s x).1 := by
  have hn := h.now
  unfold take
  split
  · split
    · rename_i hs
      split
      · have h1 : Inv { s with loaded := true } := ⟨h.id, h.lost, h.ret, h.desc, h.late, h.every, h.clk, h.l0, h.st, h.now, h.heard, h.since, h.rep, h.prog, h.start, fun _ => rfl, h.giv, h.ask, h.rp⟩
        have h2 := ent_inv h1 (x := 1) (t := s.now) Cb hn rfl
        have e : ({ ent s 1 s.now with loaded := true, prog := x.n } : St) = { ent { s with loaded := true } 1 s.now with prog := x.n } := by
          unfold ent
          simp only
          split <;> rfl
        simp only
        rw [e]
        exact ⟨h2.id, h2.lost, h2.ret, h2.desc, h2.late, h2.every, h2.clk, h2.l0, h2.st, h2.now, h2.heard, h2.since, h2.rep, ⟨by assumption, hx.2⟩, h2.start, h2.load, h2.giv, h2.ask, h2.rp⟩
      · exact h
    · exact h
  split
  · split
    · exact ent_inv h Cb hn (h.load Cb)
    · exact h
  split
  · split
    · rename_i hc
      have h2 := ent_inv h (x := 3) (t := s.now) Cb hn (h.load Cb)
      have e3 : (ent s 3 s.now).st = 3 := by unfold ent; split <;> simp_all
      exact ⟨h2.id, h2.lost, h2.ret, h2.desc, h2.late, h2.every, h2.clk, h2.l0, h2.st, h2.now, h2.heard, h2.since, h2.rep, h2.prog, hc.2.1, h2.load, fun hh => by simp only [e3] at hh; omega, h2.ask, h2.rp⟩
    · exact h
  split
  · split
    · split
      · exact ent_inv h Cb hn (h.load Cb)
      split
      · exact ent_inv h Cb hn (h.load Cb)
      · exact h
    · exact h
  split
  · split
    · exact ent_inv h Cb hn (h.load Cb)
    · exact h
  split
  · split
    · split
      · exact ent_inv h Cb hn (h.load Cb)
      split
      · exact ent_inv h Cb hn (h.load Cb)
      · exact h
    · exact h
  split
  · split
    · exact ⟨h.id, h.lost, h.ret, h.desc, h.late, h.every, Clk.add_inv h.clk, fun e => add_l0 h.l0 e, h.st, h.now, h.heard, h.since, h.rep, h.prog, h.start, h.load, h.giv, fun e => (by cases e), h.rp⟩
    · exact h
  · exact h
theorem recv_inv {s : St} (h : Inv s) {l : Int} (hl : -1073741824 ≤ l ∧ l ≤ 1073741824) {x : Fm} (hx : -1 ≤ x.n ∧ x.n ≤ 4294967295) : Inv (recv s l x) :=
  pas_inv (take_inv (heard_inv (pas_inv h hl) hl) hx) hl
theorem tick_inv {s : St} (h : Inv s) {l : Int} (hl : -1073741824 ≤ l ∧ l ≤ 1073741824) : Inv (tick s l) := by
  have h1 := pas_inv h hl
  unfold tick
  split
  · exact h1
  · have hr := h1.rp
    exact ⟨h1.id, h1.lost, h1.ret, h1.desc, h1.late, h1.every, h1.clk, h1.l0, h1.st, h1.now, h1.heard, h1.since, hl, h1.prog, h1.start, h1.load, h1.giv, fun _ => ⟨by simp only; omega, by simp only; rw [show (pas s l).reports + 1 - 1 = (pas s l).reports by omega]⟩, by simp only; omega⟩
def new (id lost ret desc late every d : Int) : St := ⟨id, lost, ret, desc, late, every, d, 0, false, 0, 0, 0, false, false, false, false, 0, 0, 0, 0, 0, 0, 0, 0⟩
def ruOk (lost ret desc late every : Int) : Bool := Clk.inB lost 1 600000 && Clk.inB ret lost 600000 && Clk.inB desc 1 600000 && Clk.inB late 0 600000 && Clk.inB every 1 600000
def newE (id lost ret desc late every d : Int) : Int := if Clk.inB id 1 64 = true ∧ ruOk lost ret desc late every = true ∧ (0 ≤ d ∧ d ≤ 100000) then 0 else 2
theorem ruOk_iff {lost ret desc late every : Int} : ruOk lost ret desc late every = true ↔ (1 ≤ lost ∧ lost ≤ 600000) ∧ (lost ≤ ret ∧ ret ≤ 600000) ∧ (1 ≤ desc ∧ desc ≤ 600000) ∧ (0 ≤ late ∧ late ≤ 600000) ∧ (1 ≤ every ∧ every ≤ 600000) := by
  unfold ruOk
  simp only [Bool.and_eq_true, Clk.inB_iff, and_assoc]
theorem new_inv {id lost ret desc late every d : Int} (h : newE id lost ret desc late every d = 0) : Inv (new id lost ret desc late every d) := by
  unfold newE at h
  split at h
  · rename_i hh
    obtain ⟨h1, h2, h3⟩ := hh
    rw [Clk.inB_iff] at h1
    rw [ruOk_iff] at h2
    obtain ⟨a, b, c, e, f⟩ := h2
    exact ⟨h1, a, b, c, e, f, ⟨h3.1, h3.2, by simp [new], by simp [new], by simp [new], by simp [new], by simp [new]⟩, fun e => (by cases e), by simp [new], by simp [new], by simp [new], by simp [new], by simp [new], by simp [new], by simp [new], fun e => absurd rfl e, fun _ => ⟨rfl, rfl⟩, fun e => (by cases e), by simp [new]⟩
  · omega
end Plt
end Go.Proofs.YtdocdgcdldpagaaGreat
namespace Go.Proofs.YtdocdgcdldpagaaGreat
open Go.RowKit
set_option maxHeartbeats 4000000
set_option maxRecDepth 100000
set_option linter.unusedSimpArgs false
set_option linter.unusedVariables false
theorem enc_no (k f t s : Int) (A : Option Addr) (n cap : Nat) (w : World) (hn : n ≤ 140737488355328) (hv : Frm.vd k f t s n = false) :
    Calls Tryz.prog 129 #[.agg #[.int .i64 k, .int .i64 f, .int .i64 t, .int .i64 s, .slice A n cap]] w fun e w' => e = .returned (.tuple #[.slice none 0 0, .int .i64 2]) ∧ Below w.heap.size w w' := by
  have V := Lib.hid (fun W : World => hv ▸ valid_any k f t s A n cap W Cb)
  clear hv
  go_enter Tryz.func129, Tryz.ntmps129
  go_wp2_with fail
  refine (V.out _).mono ?_
  rintro e w1 ⟨rfl, hb1⟩
  have hz1 := hb1.size; try simp at hz1
  go_wp2_with fail
  go_ret2
  exact ⟨rfl, A9⟩
theorem full_block {w : World} {base : Nat} {e : TypeId} {g n : Nat} {xs : List Value} (h : w.ownsRow base e 1 (.slice (some ⟨g, 0, none⟩) n n) n xs) : w.heap[g]? = some (.cells xs.toArray e (0, 0)) := by
  rcases h.2 with ⟨e, _⟩ | ⟨g', c, cur, e, hb, hh, h1, h2, h3, h4⟩
  · cases e
  · injection e with e1 e2 e3
    injection e1 with e1
    injection e1 with e1
    subst e1; subst e3
    rw [hh]
    congr 2
    apply Array.toList_inj.1
    rw [← h4]
    exact (List.take_of_length_le C6).symm
theorem own_of_block {w : World} {base g n : Nat} {l : List Int} (h : w.heap[g]? = some (.cells (bv l).toArray 5 (0, 0))) (hb : base ≤ g) (hn : l.length = n) (hm : n ≤ maxLen) (hy : By l) : Ow w base (some ⟨g, 0, none⟩) n n l :=
  ⟨⟨by simp [bv, hn], .inr ⟨g, n, (bv l).toArray, rfl, hb, h, Nat.le_refl _, hm, by simp [bv, hn], by rw [List.take_of_length_le (by simp [bv, hn])]⟩⟩, hy⟩
theorem set_two (P : List Int) (x y : Int) (m : Nat) (hm : P.length = m) : ((bv (P ++ [0, 0])).toArray.setIfInBounds m (.int .u8 x)).setIfInBounds (m + 1) (.int .u8 y) = (bv (P ++ [x, y])).toArray := by
  subst hm
  rw [List.setIfInBounds_toArray, List.setIfInBounds_toArray]
  congr 1
  simp [bv, List.set_append]
theorem size_u8 : (Tryz.prog.info? 5).map (·.size) = some 1 := by kernel_rfl
theorem enc_yes (k f t s : Int) (A : Option Addr) (n cap : Nat) (d : List Int) (w : World) (hv : Frm.vd k f t s n = true) (h : Rd w w.heap.size A n d) :
    Calls Tryz.prog 129 #[.agg #[.int .i64 k, .int .i64 f, .int .i64 t, .int .i64 s, .slice A n cap]] w
      fun e w' => ∃ A' cap', e = .returned (.tuple #[.slice A' (n + 10) cap', .int .i64 0]) ∧ Ow w' w.heap.size A' (n + 10) cap' (Frm.enc k f t s d) ∧ Below w.heap.size w w' := by
  obtain ⟨i0, hi0, hz0, hz1, hz2⟩ := info_parts info_u8
  have V := Lib.hid (fun W : World => hv ▸ valid_any k f t s A n cap W (by have := Frm.vd_bd hv; omega))
  obtain ⟨⟨k0, k1⟩, ⟨f0, f1⟩, ⟨t0, t1⟩, ⟨s0, s1⟩, hn⟩ := Frm.vd_bd hv
  have HV := Lib.hid hv
  have HD := Lib.hid h
  clear hv h
  go_enter Tryz.func129, Tryz.ntmps129
  go_wp2_with fail
  refine (V.out _).mono ?_
  rintro e w1 ⟨rfl, hb1⟩
  have hz1' := hb1.size; try simp at hz1'
  have h1 := blk_below (q := w.heap.size) (heap_new _ _) hb1 Ba
  have HB1 := (show Below w.heap.size w w1 from A9)
  clear hb1
  have ca_0 := blk_cell h1 0 rfl; have fa_0 := blk_free h1 0; have ca_1 := blk_cell h1 1 rfl; have fa_1 := blk_free h1 1; have ca_2 := blk_cell h1 2 rfl; have fa_2 := blk_free h1 2; have ca_3 := blk_cell h1 3 rfl; have fa_3 := blk_free h1 3; have ca_4 := blk_cell h1 4 rfl; have fa_4 := blk_free h1 4; have la := lt_of_block h1
  go_wp2_with (at_make; refine wpList_make_full _ rfl (.tmp 14) (.tmp 14) _ rfl w.heap.size 5 i0 _ 1 Tryz.underlying47 hi0 hz0 hz1 .i64 .i64 _ _ (n + 10) rfl rfl C6 C6 (by rw [hz2]; omega) Bv Cb ?_; intro w2 hown2 hg2)
  have hG2 := full_block hown2
  have hb2 : Below w1.heap.size w1 w2 := ⟨hg2.os, hg2.tape, hg2.output, hg2.size, fun i hi => hg2.block i hi C9⟩
  have h2 := blk_below h1 hb2 Ba
  have HB2 := (show Below w.heap.size w w2 from A9)
  have hz2' := lt_of_block hG2
  obtain ⟨g, hg⟩ : ∃ g, g = w1.heap.size := ⟨_, rfl⟩
  rw [← hg] at hG2 hz2' ⊢
  have hgw : w.heap.size < g := by omega
  obtain ⟨Z, hZ⟩ : ∃ Z, Z = (madeCells (Value.int .u8 0).cells ((n + 10) * 1)).toList := ⟨_, rfl⟩
  rw [← hZ] at hG2
  have hZ' : Z = List.replicate (n + 10) (.int .u8 0) := by rw [hZ, Nat.mul_one]; exact toList_madeCells_one _ _
  have hZl : Z.length = n + 10 := by rw [hZ']; simp
  clear hown2 hg2 hb2 HB1 h1 ca_0 fa_0 ca_1 fa_1 ca_2 fa_2 ca_3 fa_3 ca_4 fa_4 la hZ hg
  have HZ := Lib.hid hZ'
  clear hZ'
  have cb_0 := blk_cell h2 0 rfl; have fb_0 := blk_free h2 0; have cb_1 := blk_cell h2 1 rfl; have fb_1 := blk_free h2 1; have cb_2 := blk_cell h2 2 rfl; have fb_2 := blk_free h2 2; have cb_3 := blk_cell h2 3 rfl; have fb_3 := blk_free h2 3; have cb_4 := blk_cell h2 4 rfl; have fb_4 := blk_free h2 4; have lb := lt_of_block h2
  go_wp2_with fail
  refine (start_any _).mono ?_
  rintro e w3 ⟨rfl, hb3⟩
  have hz3 := hb3.size
  have h3 := blk_below h2 hb3 Ba
  have hG3 := blk_below hG2 hb3 hz2'
  have HB3 := (show Below w.heap.size w w3 from A9)
  clear cb_0 fb_0 cb_1 fb_1 cb_2 fb_2 cb_3 fb_3 cb_4 fb_4 hb3 h2 hG2 HB2
  go_wp2_with (refine wpList_copy_splice rfl (.tmp 17) (.tmp 18) _ _ rfl 5 Tryz.underlying47 size_u8 (some ⟨g, 0, none⟩) (some ⟨w3.heap.size, 0, none⟩) (n + 10) (n + 10) 2 2 rfl rfl g 0 Z 5 (blk_alloc hG3 _) (bv [213, 76]) (Nat.min_eq_left (show 2 ≤ n + 10 by omega)).symm (fun _ => ⟨rfl, _, rfl, fun j v hj => by rw [addr_add, Nat.zero_add]; exact blk_cell (l := bv [213, 76]) (heap_new _ _) j hj⟩) (by simp [bv]; omega) (bv_one _) g _ (Below.refl _ _) (Nat.le_refl _) ?_; intro w4 hG4 hb4)
  have hz4 := hb4.size; try simp at hz4
  have h4 := blk_below (blk_alloc h3 _) hb4 hgw
  have hG4' := hG4.out
  obtain ⟨Y, hY⟩ : ∃ Y, Y = splice Z 0 (bv [213, 76]) := ⟨_, rfl⟩
  rw [← hY] at hG4'
  have hYl : Y.length = n + 10 := by rw [hY, length_splice _ _ _ (by simp [bv]; omega), hZl]
  have HB4 : Below w.heap.size w w4 := Below.trans (show Below w.heap.size w (w3.alloc (.cells #[.int .u8 213, .int .u8 76] 248)) from A9) (hb4.mono Cb)
  have HY := Lib.hid hY
  clear hY hG4 hb4 h3 hG3 HB3
  have hlt4 := lt_of_block hG4'
  have cc_0 := blk_cell h4 0 rfl; have fc_0 := blk_free h4 0; have cc_1 := blk_cell h4 1 rfl; have fc_1 := blk_free h4 1; have cc_2 := blk_cell h4 2 rfl; have fc_2 := blk_free h4 2; have cc_3 := blk_cell h4 3 rfl; have fc_3 := blk_free h4 3; have cc_4 := blk_cell h4 4 rfl; have fc_4 := blk_free h4 4; have lc := lt_of_block h4
  have q2 : (2 : Int) ≤ (n : Int) + 10 := by omega
  have wk : IntKind.u8.wrap k = k := by rw [IntKind.wrap_u8]; omega
  have wf : IntKind.u8.wrap f = f := by rw [IntKind.wrap_u8]; omega
  have wt : IntKind.u8.wrap t = t := by rw [IntKind.wrap_u8]; omega
  have ws : IntKind.u8.wrap (s / 256) = s / 256 := by rw [IntKind.wrap_u8]; omega
  have ws' : IntKind.u8.wrap s = s % 256 := by rw [IntKind.wrap_u8]
  have wn : IntKind.u8.wrap (n : Int) = (n : Int) := by rw [IntKind.wrap_u8]; omega
  go_region_held3 (fun w' => w'.cell? ⟨w.heap.size, 0, none⟩ = some (.int .i64 k) ∧ w'.cell? ⟨w.heap.size, 1, none⟩ = some (.int .i64 f) ∧ w'.cell? ⟨w.heap.size, 2, none⟩ = some (.int .i64 t) ∧ w'.cell? ⟨w.heap.size, 3, none⟩ = some (.int .i64 s) ∧ w'.cell? ⟨w.heap.size, 4, none⟩ = some (.slice A n cap)) (first | (refine ⟨?_, ?_, ?_, ?_, ?_⟩ <;> simp [go_sem, *]; done) | go_keep) (first | (refine step_copy_splice rfl (.tmp 21) (.tmp 42) _ _ rfl 5 Tryz.underlying47 size_u8 (some ⟨g, 2, none⟩) (some ⟨w4.heap.size, 0, none⟩) (n + 8) (n + 8) 6 6 rfl rfl g 2 Y 5 Ae (bv [k, f, t, s / 256, s % 256, (n : Int)]) (Nat.min_eq_left (show 6 ≤ n + 8 by omega)).symm (fun _ => ⟨rfl, _, rfl, fun j v hj => by rw [addr_add, Nat.zero_add]; exact blk_cell (l := bv [k, f, t, s / 256, s % 256, (n : Int)]) (t := 5) (blk_drew (heap_new w4 _)) j hj⟩) (by simp [bv]; omega) (bv_one _) g _ (Below.refl _ _) (Nat.le_refl _) ?_; intro w5 hG5 hb5; have h5 := blk_below (q := w.heap.size) Ae hb5 hgw; have cd_0 := blk_cell h5 0 rfl; have fd_0 := blk_free h5 0; have cd_1 := blk_cell h5 1 rfl; have fd_1 := blk_free h5 1; have cd_2 := blk_cell h5 2 rfl; have fd_2 := blk_free h5 2; have cd_3 := blk_cell h5 3 rfl; have fd_3 := blk_free h5 3; have cd_4 := blk_cell h5 4 rfl; have fd_4 := blk_free h5 4; have ld := lt_of_block h5))
  clear wk wf wt ws ws' wn q2
  have hz5 := hb5.size; try simp at hz5
  have hG5' := hG5.out
  obtain ⟨X, hX⟩ : ∃ X, X = splice Y 2 (bv [k, f, t, s / 256, s % 256, (n : Int)]) := ⟨_, rfl⟩
  rw [← hX] at hG5'
  have hXl : X.length = n + 10 := by rw [hX, length_splice _ _ _ (by simp [bv]; omega), hYl]
  have HB5 : Below w.heap.size w w5 := Below.trans (show Below w.heap.size w _ from A9) (hb5.mono Cb)
  have HX := Lib.hid hX
  clear hX hG5 hb5 h4 hG4' HB4 hz4 cc_0 fc_0 cc_1 fc_1 cc_2 fc_2 cc_3 fc_3 cc_4 fc_4
  have hlt5 := lt_of_block hG5'
  have q8 : (8 : Int) ≤ (n : Int) + 10 := by omega
  go_wp2_with fail
  go_still_tail 4, C7
  change wpList _ _ _ _ _ w5.drew
  have hdl := HD.out.1
  have hRd := ((HD.out.below HB5 (Nat.le_refl _)).drew).reads
  refine wpList_copy_splice rfl (.tmp 45) (.tmp 47) _ _ rfl 5 Tryz.underlying47 size_u8 (some ⟨g, 8, none⟩) A (n + 2) (n + 2) n cap rfl rfl g 8 X 5 (blk_drew hG5') (bv d)
    (by rw [show (bv d).length = n by simp [bv, hdl]]; exact (Nat.min_eq_left Cb).symm) (fun hp => ⟨rfl, ?_⟩) (by simp [bv, hdl]; omega) (bv_one _) g _ (Below.refl _ _) (Nat.le_refl _) ?_
  · obtain ⟨ad, e, _, hc⟩ := hRd.2 (by simp [bv, hdl] at hp; omega)
    exact ⟨ad, e, hc⟩
  intro w6 hG6 hb6
  have hz6 := hb6.size; try simp at hz6
  have hG6' := hG6.out
  have hL : splice X 8 (bv d) = bv ([213, 76] ++ Frm.body k f t s d ++ [0, 0]) := by
    rw [HX.out, HY.out, HZ.out]
    simp [splice, bv, Frm.body, hdl, List.replicate_succ]
    rw [show 8 + n = n + 8 by omega]
    simp only [List.drop_succ_cons]
    rw [show (Value.int IntKind.u8 0 :: Value.int IntKind.u8 0 :: List.replicate n (Value.int IntKind.u8 0)) = List.replicate (n + 2) (Value.int IntKind.u8 0) by simp [List.replicate_succ], List.drop_replicate, show n + 2 - n = 2 by omega]
    rfl
  rw [hL] at hG6'
  have HB6 : Below w.heap.size w w6 := Below.trans (show Below w.heap.size w _ from A9) (hb6.mono Cb)
  clear hL hG6 hb6 h5 hG5' HB5 hz5 hRd
  have hbb : By (Frm.body k f t s d) := Frm.body_by (by rw [hdl]; exact HV.out) HD.out.2.1
  have hlen6 : ([213, 76] ++ Frm.body k f t s d ++ [0, 0]).length = n + 10 := by simp [Frm.body, hdl]
  have hR6 := (Rd.of_block (B := w6.heap.size) hG6' (lt_of_block hG6') (Frm.By.append (Frm.By.append Bi hbb) Bi))
  rw [hlen6] at hR6
  have hsub := hR6.sub 2 (n + 6) Cb
  have hbod : (([213, 76] ++ Frm.body k f t s d ++ [0, 0]).drop 2).take (n + 6) = Frm.body k f t s d := by
    have : n + 6 = (Frm.body k f t s d).length := by simp [Frm.body, hdl]
    rw [this]
    simp
  rw [hbod, Nat.zero_add] at hsub
  have RS := Lib.hid (fun (W : World) hW => sum_any (some ⟨g, 2, none⟩) (n + 6) (n + 8) (Frm.body k f t s d) W Cb hW)
  have hcl := Frm.crcN_lt hbb
  have hc8 : w6.cell? ⟨g, n + 8, none⟩ = some (.int .u8 0) := blk_cell hG6' (n + 8) (by simp [bv, Frm.body, hdl])
  have hc9 : w6.cell? ⟨g, n + 9, none⟩ = some (.int .u8 0) := blk_cell hG6' (n + 9) (by simp [bv, Frm.body, hdl])
  have hf8 := blk_free hG6' (n + 8)
  have hf9 := blk_free hG6' (n + 9)
  have EB := Lib.hid (show Frm.enc k f t s d = [213, 76] ++ Frm.body k f t s d ++ [((Frm.crcN (Frm.body k f t s d) : Nat) : Int) / 256, ((Frm.crcN (Frm.body k f t s d) : Nat) : Int) % 256] from rfl)
  generalize Frm.crcN (Frm.body k f t s d) = c at hcl RS EB
  have HR := Lib.hid hsub
  have HBB := Lib.hid hbb
  clear hbod hR6 hlen6 hsub hbb hYl hXl hZl hdl
  go_wp2_with fail
  refine (RS.out _ HR.out).mono ?_
  rintro e w7 ⟨rfl, rfl⟩
  have wc := (show IntKind.u8.wrap (c : Int) = (c : Int) % 256 by rw [IntKind.wrap_u8])
  go_wp2_with fail
  go_ret2
  refine ⟨some ⟨g, 0, none⟩, n + 10, rfl, ?_, A9⟩
  rw [EB.out]
  have hset := blk_set (blk_set hG6' (n + 8) (.int .u8 ((c : Int) / 256))) (n + 8 + 1) (.int .u8 ((c : Int) % 256))
  rw [set_two ([213, 76] ++ Frm.body k f t s d) _ _ (n + 8) (by simp [Frm.body, HD.out.1])] at hset
  refine own_of_block hset Cb (by simp [Frm.body, HD.out.1]) Bv (Frm.By.append (Frm.By.append Bi HBB.out) Bi)
end Go.Proofs.YtdocdgcdldpagaaGreat

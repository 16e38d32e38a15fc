/- THE THEOREM OF STAGE 36 holds: 'skylanternlaw36.StationHolds' returns true at every input. No conditions. -/
import Derived.Test.YtiidkmnagfhgiaaTc
import Derived.Test.YtiidkmnagfhgiaaTd
namespace Go.Proofs.Ytiidkmnagfhgiaa
open Go.RowKit
set_option linter.unusedSimpArgs false
set_option linter.unusedVariables false
namespace Stn
structure HI (s : St) (m : Nat) (g : Bool) : Prop where
  lt : m < 2 ^ s.n
  arm : s.cmd = 2 → g = true ∧ ∀ i, i < s.n → m.testBit i = s.ack.getD i false
  full : 4 ≤ s.st → s.st ≤ 7 → m = 2 ^ s.n - 1
  st : (s.cmd = 0 ∧ s.st = 0) ∨ (s.cmd = 1 ∧ (s.st = 1 ∨ s.st = 2)) ∨ (s.cmd = 2 ∧ (s.st = 3 ∨ s.st = 4)) ∨ (s.cmd = 3 ∧ (s.st = 5 ∨ s.st = 6)) ∨ (s.cmd = 4 ∧ s.st = 7) ∨ (s.cmd = 5 ∧ s.st = 6) ∨ (s.cmd = 6 ∧ (s.st = 8 ∨ s.st = 9))
/-- the kind of the frames of a call -/
def kindOf (s : St) (x : LAct) : Int := if 1 ≤ x.kind ∧ x.kind ≤ 6 then x.kind else if x.kind = 8 then 7 else s.cmd
/-- what a frame of kind K does -/
def afterF (K ak : Int) (m : Nat) (g : Bool) : Nat × Bool := if K = 2 ∧ ak = 2 then (0, true) else if K = 1 then (0, false) else (m, g)
def condA (s' : St) (x : LAct) (g : Bool) : Prop :=
  g = true ∧ x.kind = 8 ∧ x.f.k = 8 ∧ x.f.d.length = 1 ∧ x.f.d.getD 0 0 = 2 ∧ 1 ≤ x.f.f ∧ x.f.f ≤ s'.n ∧ x.f.s = s'.seq ∧ s'.cmd = 2 ∧ x.f.f.toNat ∉ miss s'
theorem hi_new (n : Nat) (again : Int) : HI (new n again) 0 false :=
  ⟨Nat.two_pow_pos _, fun h => by simp [new] at h, fun h => by simp [new] at h, .inl ⟨rfl, rfl⟩⟩
theorem frames_k (s : St) (hs : Inv s) (hc : s.cmd ≠ 0) : ∀ f ∈ frames s, f.k = s.cmd ∧ Frm.vd f.k f.f f.t f.s f.d.length = true ∧ f.d.length ≤ 64 ∧ 1 ≤ f.t ∧ f.t ≤ s.n ∧ ∃ i ∈ miss s, f.t = (i : Int) := by
  intro f hf
  unfold frames at hf
  rw [List.mem_map] at hf
  obtain ⟨i, hi, rfl⟩ := hf
  have h1 := miss_bd s hs
  have h2 := h1.2 i hi
  have h3 : (i : Int) ≤ s.n := by
    have := hi
    rw [miss_cmd s hc] at this
    have := (missFrom_ge _ _ _ this).2
    rw [hs.ack] at this
    omega
  have h4 := data_len s
  refine ⟨rfl, Frm.vd_iff.2 ⟨hs.seq.1, hs.seq.2, by simp only; omega, .inl ⟨?_, ?_, rfl, by simp only; omega, by simp only; omega⟩⟩, by simp only; omega, by simp only; omega, h3, i, hi, rfl⟩
  · have := hs.cmd; simp only; omega
  · have := hs.cmd; simp only; omega
theorem give_n (s : St) (k now x : Int) : (give s k now x).n = s.n := by unfold give; split <;> rfl
theorem tick_same (s : St) (now : Int) : (tick s now).n = s.n ∧ (tick s now).cmd = s.cmd ∧ (tick s now).ack = s.ack ∧ (tick s now).st = s.st ∧ (tick s now).seq = s.seq := by
  unfold tick
  split
  · split <;> exact ⟨rfl, rfl, rfl, rfl, rfl⟩
  · exact ⟨rfl, rfl, rfl, rfl, rfl⟩
theorem tick_miss (s : St) (now : Int) : miss (tick s now) = miss s := by
  have h := tick_same s now
  unfold miss
  rw [h.2.1, h.2.2.1]
theorem recv_n (s : St) (now : Int) (y : Fr) : (recv s now y).n = s.n ∧ (recv s now y).cmd = s.cmd ∧ (recv s now y).seq = s.seq := by
  unfold recv recv1
  split
  · split
    · split
      · exact ⟨rfl, rfl, rfl⟩
      · split <;> exact ⟨rfl, rfl, rfl⟩
    · exact ⟨rfl, rfl, rfl⟩
  · exact ⟨rfl, rfl, rfl⟩
theorem actS_n (s : St) (x : LAct) : (actS s x).n = s.n := by
  unfold actS
  split
  · exact give_n _ _ _ _
  · split
    · exact (recv_n _ _ _).1
    · exact (tick_same _ _).1
/-- the frames of a call -/
theorem actF_k (s : St) (x : LAct) (hs : Inv s) : ∀ f ∈ actF s x, f.k = kindOf s x ∧ Frm.vd f.k f.f f.t f.s f.d.length = true ∧ f.d.length ≤ 64 ∧ 1 ≤ f.t ∧ f.t ≤ s.n ∧ (kindOf s x = 2 → x.kind ≠ 2 → s.cmd = 2 ∧ ∃ i ∈ miss s, f.t = (i : Int)) := by
  intro f hf
  unfold actF at hf
  unfold kindOf
  by_cases h1 : 1 ≤ x.kind ∧ x.kind ≤ 6
  · rw [if_pos h1] at hf ⊢
    unfold giveF at hf
    by_cases he : giveE s x.kind x.now x.n = 0
    · rw [if_pos he] at hf
      have hi := inv_give (now := x.now) (x := x.n) hs h1
      unfold give at hi
      rw [if_pos he] at hi
      obtain ⟨g1, g2, g3, g4, g5, _⟩ := frames_k _ hi (by simp only [give0]; omega) f hf
      exact ⟨g1, g2, g3, g4, g5, fun h h' => absurd h h'⟩
    · rw [if_neg he] at hf; cases hf
  · rw [if_neg h1] at hf ⊢
    by_cases h8 : x.kind = 8
    · rw [if_pos h8] at hf ⊢
      unfold recvF at hf
      split at hf
      · rename_i hh
        rw [List.mem_singleton] at hf
        subst hf
        have hok := recvE_ok hh.1
        have hv := Frm.vd_iff.1 hok.1
        have hr := hh.2.2
        unfold isRep at hr
        simp only [Bool.and_eq_true, decide_eq_true_eq] at hr
        have hl : (Frm.num4 x.now ++ Frm.num4 x.now).length = 8 := by simp [Frm.num4]
        have ht0 := hok.2.1
        have hv4 := hv.2.2.2
        have hf1 : 1 ≤ x.f.f ∧ x.f.f ≤ 64 := by omega
        refine ⟨rfl, Frm.vd_iff.2 ⟨hv.1, hv.2.1, by rw [hl]; omega, .inl ⟨by show (1:Int) ≤ 7; decide, by show (7:Int) ≤ 7; decide, rfl, hf1.1, hf1.2⟩⟩, by rw [hl]; omega, hf1.1, hok.2.2.1, fun h => by simp at h⟩
      · cases hf
    · rw [if_neg h8] at hf ⊢
      unfold tickF at hf
      split at hf
      · rename_i hh
        have hi := inv_tick (now := x.now) hs
        have ht := tick_same s x.now
        have hm := tick_miss s x.now
        have hy := hh.2
        have hc : s.cmd ≠ 0 := fun e => by
          have : miss s = [] := by unfold miss; rw [if_pos e]
          unfold tickYes at hy
          simp [this] at hy
        obtain ⟨g1, g2, g3, g4, g5, g6⟩ := frames_k _ hi (by rw [ht.2.1]; exact hc) f hf
        rw [ht.2.1] at g1
        rw [ht.1] at g5
        rw [hm] at g6
        exact ⟨g1, g2, g3, g4, g5, fun h _ => ⟨h, g6⟩⟩
      · cases hf
theorem frames_ne (s : St) (h : 1 ≤ s.n) (hc : s.cmd ≠ 0) (ha : s.ack = List.replicate s.n false) : frames s ≠ [] := by
  unfold frames
  intro he
  rw [List.map_eq_nil_iff] at he
  unfold miss at he
  rw [if_neg hc, ha, missFrom_all] at he
  rw [List.map_eq_nil_iff] at he
  have := congrArg List.length he
  simp at this
  omega
/-- no aircraft that has acknowledged gets the arming again -/
theorem hi_bit {s : St} {m : Nat} {g : Bool} (h : HI s m g) (hs : Inv s) (x : LAct) : ∀ f ∈ actF s x, f.k = 2 → (afterF (kindOf s x) x.kind m g).1.testBit (f.t - 1).toNat = false := by
  intro f hf h2
  obtain ⟨g1, _, _, g4, g5, g6⟩ := actF_k s x hs f hf
  unfold afterF
  by_cases hk : kindOf s x = 2 ∧ x.kind = 2
  · rw [if_pos hk]; simp
  · rw [if_neg hk, if_neg (by omega)]
    obtain ⟨hc, i, hi, ht⟩ := g6 (by omega) (fun e => hk ⟨by omega, e⟩)
    rw [miss_cmd s (by omega)] at hi
    have hm := (mem_missFrom _ _ _).1 hi
    have := (missFrom_ge _ _ _ hi)
    rw [hs.ack] at this
    simp only
    rw [show (f.t - 1).toNat = i - 1 by omega, (h.arm hc).2 (i - 1) (by omega)]
    simp [List.getD, hm.2]
theorem getD_set_true (l : List Bool) (i j : Nat) (hi : i < l.length) : (l.set i true).getD j false = (l.getD j false || decide (j = i)) := by
  by_cases h : j = i
  · subst h; simp [List.getD, hi]
  · simp only [List.getD, List.getElem?_set_ne (fun e => h e.symm), h, decide_false, Bool.or_false]
theorem all_bits {n m : Nat} (hm : m < 2 ^ n) (h : ∀ i, i < n → m.testBit i = true) : m = 2 ^ n - 1 := by
  apply Nat.eq_of_testBit_eq
  intro i
  rw [Nat.testBit_two_pow_sub_one]
  by_cases hi : i < n
  · rw [h i hi, decide_eq_true hi]
  · rw [decide_eq_false hi, Nat.testBit_lt_two_pow (Nat.lt_of_lt_of_le hm (Nat.pow_le_pow_right (by omega) (by omega)))]
theorem hi_now {s : St} {m : Nat} {g : Bool} (h : HI s m g) (now : Int) : HI { s with now := now } m g := ⟨h.lt, h.arm, h.full, h.st⟩
theorem or_lt {m n i : Nat} (hm : m < 2 ^ n) (hi : i < n) : m ||| 2 ^ i < 2 ^ n := Nat.or_lt_two_pow hm (Nat.pow_lt_pow_right (by omega) hi)
/-- an acknowledgement with the cond's bit -/
theorem hi_acked {s : St} {m : Nat} {g : Bool} (h : HI s m g) (hs : Inv s) (i : Nat) (hi : i < s.n) (hc : s.cmd = 2) : HI (acked s (i + 1)) (m ||| 2 ^ i) g := by
  have hb := (h.arm hc).2
  have hb' : ∀ j, j < s.n → (m ||| 2 ^ i).testBit j = (s.ack.set i true).getD j false := fun j hj => by
    rw [getD_set_true _ _ _ (by rw [hs.ack]; exact hi), Nat.testBit_or, hb j hj, Nat.testBit_two_pow]
    congr 1
    by_cases h : i = j
    · simp [h]
    · simp [h]
      exact fun e => h e.symm
  refine ⟨or_lt h.lt hi, fun _ => ⟨(h.arm hc).1, ?_⟩, ?_, ?_⟩
  · simp only [acked, Nat.add_sub_cancel]; exact hb'
  · intro h1 h2
    simp only [acked, Nat.add_sub_cancel] at h1 h2 ⊢
    by_cases hm : miss s ≠ [] ∧ missFrom 1 (s.ack.set i true) = []
    · refine all_bits (or_lt h.lt hi) (fun j hj => ?_)
      rw [hb' j hj]
      by_cases e : (s.ack.set i true).getD j false = true
      · exact e
      · exfalso
        have : j + 1 ∈ missFrom 1 (s.ack.set i true) := (mem_missFrom _ _ _).2 ⟨by omega, by
          have hlt : j < (s.ack.set i true).length := by rw [List.length_set, hs.ack]; exact hj
          rw [Nat.add_sub_cancel, List.getElem?_eq_getElem hlt]
          simpa [List.getD, List.getElem?_eq_getElem hlt] using e⟩
        rw [hm.2] at this; cases this
    · rw [if_neg hm] at h1 h2
      have := h.full h1 h2
      apply all_bits (or_lt h.lt hi)
      intro j hj
      rw [Nat.testBit_or, this, Nat.testBit_two_pow_sub_one, decide_eq_true hj, Bool.true_or]
  · right; right; left
    refine ⟨hc, ?_⟩
    simp only [acked, Nat.add_sub_cancel]
    split
    · right; rw [hc]; rfl
    · rcases h.st with ⟨e, _⟩ | ⟨e, _⟩ | ⟨_, e⟩ | ⟨e, _⟩ | ⟨e, _⟩ | ⟨e, _⟩ | ⟨e, _⟩
      · omega
      · omega
      · exact e
      all_goals omega
theorem hi_acked_no {s : St} {m : Nat} {g : Bool} (h : HI s m g) (f : Nat) (hc : s.cmd ≠ 2) (h0 : s.cmd ≠ 0) : HI (acked s f) m g := by
  refine ⟨h.lt, fun e => absurd e hc, ?_, ?_⟩
  · intro h1 h2
    simp only [acked] at h1 h2 ⊢
    split at h1
    · rename_i hm
      rw [if_pos hm] at h2
      rcases h.st with ⟨e, _⟩ | ⟨e, _⟩ | ⟨e, _⟩ | ⟨e, e'⟩ | ⟨e, e'⟩ | ⟨e, e'⟩ | ⟨e, _⟩
      · omega
      · rw [e] at h1; simp [full] at h1
      · omega
      · exact h.full (by omega) (by omega)
      · exact h.full (by omega) (by omega)
      · exact h.full (by omega) (by omega)
      · rw [e] at h2; simp [full] at h2
    · rename_i hm
      rw [if_neg hm] at h2
      exact h.full h1 h2
  · simp only [acked]
    split
    · rcases h.st with ⟨e, _⟩ | ⟨e, _⟩ | ⟨e, _⟩ | ⟨e, e'⟩ | ⟨e, e'⟩ | ⟨e, e'⟩ | ⟨e, _⟩
      all_goals first | omega | (rw [e]; simp [full])
    · exact h.st
theorem or_same {m i : Nat} (h : m.testBit i = true) : m ||| 2 ^ i = m := by
  apply Nat.eq_of_testBit_eq
  intro j
  rw [Nat.testBit_or, Nat.testBit_two_pow]
  by_cases e : i = j
  · subst e; rw [h]; rfl
  · simp [e]
/-- one call -/
theorem hi_step {s : St} {m : Nat} {g : Bool} (h : HI s m g) (hs : Inv s) (x : LAct) (p : Nat × Bool) (hp : p = if actF s x = [] then (m, g) else afterF (kindOf s x) x.kind m g) :
    (condA (actS s x) x p.2 → HI (actS s x) (p.1 ||| 2 ^ (x.f.f - 1).toNat) p.2) ∧ (¬ condA (actS s x) x p.2 → HI (actS s x) p.1 p.2) := by
  subst hp
  by_cases h1 : 1 ≤ x.kind ∧ x.kind ≤ 6
  · have hno : ∀ g, ¬ condA (actS s x) x g := fun g hg => by have := hg.2.1; omega
    refine ⟨fun hh => absurd hh (hno _), fun _ => ?_⟩
    unfold actS actF kindOf
    simp only [if_pos h1]
    unfold give giveF
    by_cases he : giveE s x.kind x.now x.n = 0
    · simp only [if_pos he]
      rw [if_neg (frames_ne _ (by have := hs.n; simp only [give0]; omega) (by simp only [give0]; omega) rfl)]
      have hmay : may x.kind s.st = true := by
        unfold giveE at he
        by_cases a : x.kind = 1 ∧ ¬ (0 ≤ x.n ∧ x.n ≤ 4294967295)
        · rw [if_pos a] at he; omega
        · rw [if_neg a] at he
          by_cases b : timeE s x.now ≠ 0
          · rw [if_pos b] at he; omega
          · rw [if_neg b] at he
            by_cases c : x.kind = 3 ∧ ¬ (x.now ≤ x.n ∧ x.n ≤ 3600000)
            · rw [if_pos c] at he; omega
            · rw [if_neg c] at he
              by_cases d : may x.kind s.st = false
              · rw [if_pos d] at he; omega
              · simpa using d
      have hk : x.kind = 1 ∨ x.kind = 2 ∨ x.kind = 3 ∨ x.kind = 4 ∨ x.kind = 5 ∨ x.kind = 6 := by omega
      rcases hk with hk | hk | hk | hk | hk | hk
      · rw [hk]
        refine ⟨Nat.two_pow_pos _, fun e => by simp [give0] at e, fun e1 e2 => by simp [give0, given] at e1, .inr (.inl ⟨rfl, .inl rfl⟩)⟩
      · rw [hk]
        refine ⟨Nat.two_pow_pos _, fun _ => ⟨rfl, fun i hi => ?_⟩, fun e1 e2 => by simp [give0, given] at e1, .inr (.inr (.inl ⟨rfl, .inl rfl⟩))⟩
        simp only [give0, afterF]
        simp [List.getD, List.getElem?_replicate]
        split <;> rfl
      · rw [hk] at hmay ⊢
        simp [may] at hmay
        refine ⟨h.lt, fun e => by simp [give0] at e, fun _ _ => h.full (by omega) (by omega), .inr (.inr (.inr (.inl ⟨rfl, .inl rfl⟩)))⟩
      · rw [hk] at hmay ⊢
        simp [may] at hmay
        refine ⟨h.lt, fun e => by simp [give0] at e, fun _ _ => h.full (by omega) (by omega), .inr (.inr (.inr (.inr (.inl ⟨rfl, rfl⟩))))⟩
      · rw [hk] at hmay ⊢
        simp [may] at hmay
        refine ⟨h.lt, fun e => by simp [give0] at e, fun _ _ => h.full (by omega) (by omega), .inr (.inr (.inr (.inr (.inr (.inl ⟨rfl, rfl⟩)))))⟩
      · rw [hk]
        refine ⟨h.lt, fun e => by simp [give0] at e, fun e1 e2 => by simp [give0, given] at e2, .inr (.inr (.inr (.inr (.inr (.inr ⟨rfl, .inl rfl⟩)))))⟩
    · simp only [if_neg he, if_true]
      exact h
  · by_cases h8 : x.kind = 8
    · have hp : (if actF s x = [] then (m, g) else afterF (kindOf s x) x.kind m g) = (m, g) := by
        split
        · rfl
        · unfold afterF kindOf
          rw [if_neg h1, if_pos h8, if_neg (by omega), if_neg (by omega)]
      rw [hp]
      have e1 : actS s x = recv s x.now x.f := by unfold actS; rw [if_neg h1, if_pos h8]
      rw [e1]
      have hrn := recv_n s x.now x.f
      by_cases he : recvE s x.now x.f = 0
      · have e2 : recv s x.now x.f = recv1 s x.now x.f := by unfold recv; rw [if_pos he]
        have hok := recvE_ok he
        have hv := Frm.vd_iff.1 hok.1
        by_cases hl : x.f.d.length = 1
        · by_cases ha : isAck s x.f = true
          · have e3 : recv1 s x.now x.f = acked { s with now := x.now } x.f.f.toNat := by unfold recv1; rw [if_pos hl, if_pos ha]
            have ha' := ha
            unfold isAck at ha'
            simp only [Bool.and_eq_true, decide_eq_true_eq] at ha'
            obtain ⟨i, hi⟩ : ∃ i : Nat, x.f.f = (i : Int) + 1 := ⟨(x.f.f - 1).toNat, by omega⟩
            have hin : i < s.n := by omega
            have hi1 : x.f.f.toNat = i + 1 := by omega
            have hi2 : (x.f.f - 1).toNat = i := by omega
            rw [e2, e3, hi1, hi2]
            have hs' : Inv { s with now := x.now } := inv_now hs hok.2.2.2
            by_cases hc : s.cmd = 2
            · have hyes : condA (acked { s with now := x.now } (i + 1)) x g := by
                refine ⟨(h.arm hc).1, h8, ha'.1.1.1, hl, by omega, by omega, by simp only [acked]; omega, ha'.1.2, hc, ?_⟩
                intro hmem
                rw [miss_cmd _ (by simp only [acked]; omega)] at hmem
                have := (mem_missFrom _ _ _).1 hmem
                simp only [acked, hi1, Nat.add_sub_cancel] at this
                rw [List.getElem?_set_self (by rw [hs.ack]; exact hin)] at this
                simp at this
              exact ⟨fun _ => hi_acked (hi_now h x.now) hs' i hin hc, fun hh => absurd hyes hh⟩
            · have hno : ¬ condA (acked { s with now := x.now } (i + 1)) x g := fun hh => hc hh.2.2.2.2.2.2.2.2.1
              exact ⟨fun hh => absurd hh hno, fun _ => hi_acked_no (hi_now h x.now) _ hc ha'.1.1.2⟩
          · have hno : ∀ s', s'.seq = s.seq → s'.cmd = s.cmd → ¬ condA s' x g := fun s' q1 q2 hh => by
              apply ha
              obtain ⟨c1, c2, c3, c4, c5, c6, c7, c8, c9, c10⟩ := hh
              unfold isAck
              simp only [Bool.and_eq_true, decide_eq_true_eq]
              exact ⟨⟨⟨c3, by omega⟩, by omega⟩, by omega⟩
            refine ⟨fun hh => absurd hh (hno _ hrn.2.2 hrn.2.1), fun _ => ?_⟩
            rw [e2]
            unfold recv1
            rw [if_pos hl, if_neg ha]
            split
            · exact ⟨h.lt, h.arm, h.full, h.st⟩
            · exact hi_now h _
        · have hno : ∀ s', ¬ condA s' x g := fun s' hh => hl hh.2.2.2.1
          refine ⟨fun hh => absurd hh (hno _), fun _ => ?_⟩
          rw [e2]
          unfold recv1
          rw [if_neg hl]
          exact hi_now h _
      · have e2 : recv s x.now x.f = s := by unfold recv; rw [if_neg he]
        rw [e2]
        refine ⟨fun hh => ?_, fun _ => h⟩
        obtain ⟨c1, c2, c3, c4, c5, c6, c7, c8, c9, c10⟩ := hh
        have hb := (h.arm c9).2 (x.f.f - 1).toNat (by omega)
        rw [or_same]
        · exact h
        · rw [hb]
          by_cases e : s.ack.getD (x.f.f - 1).toNat false = true
          · exact e
          · exfalso
            apply c10
            rw [miss_cmd s (by omega)]
            refine (mem_missFrom _ _ _).2 ⟨by omega, ?_⟩
            have hlt : x.f.f.toNat - 1 < s.ack.length := by rw [hs.ack]; omega
            rw [List.getElem?_eq_getElem hlt]
            rw [show (x.f.f - 1).toNat = x.f.f.toNat - 1 by omega] at e
            simpa [List.getD, List.getElem?_eq_getElem hlt] using e
    · have e1 : actS s x = tick s x.now := by unfold actS; rw [if_neg h1, if_neg h8]
      have ht := tick_same s x.now
      have hno : ∀ g, ¬ condA (actS s x) x g := fun g hg => h8 hg.2.1
      refine ⟨fun hh => absurd hh (hno _), fun _ => ?_⟩
      rw [e1]
      have hK : kindOf s x = s.cmd := by unfold kindOf; rw [if_neg h1, if_neg h8]
      have hT : HI (tick s x.now) m g := ⟨by rw [ht.1]; exact h.lt, fun e => by rw [ht.1, ht.2.2.1]; exact h.arm (by rw [← ht.2.1]; exact e), fun a b => by rw [ht.1]; rw [ht.2.2.2.1] at a b; exact h.full a b, by rw [ht.2.1, ht.2.2.2.1]; exact h.st⟩
      split
      · exact hT
      · rw [hK]
        unfold afterF
        rw [if_neg (by omega)]
        by_cases hc : s.cmd = 1
        · rw [if_pos hc]
          refine ⟨Nat.two_pow_pos _, fun e => by rw [ht.2.1] at e; omega, fun a b => ?_, by rw [ht.2.1, ht.2.2.2.1]; exact h.st⟩
          rw [ht.2.2.2.1] at a b
          rcases h.st with ⟨e, _⟩ | ⟨_, e⟩ | ⟨e, _⟩ | ⟨e, _⟩ | ⟨e, _⟩ | ⟨e, _⟩ | ⟨e, _⟩
          all_goals omega
        · rw [if_neg hc]
          exact hT
end Stn
end Go.Proofs.Ytiidkmnagfhgiaa
namespace Go.Proofs.Ytiidkmnagfhgiaa
open Go.RowKit
set_option maxHeartbeats 4000000
set_option linter.unusedSimpArgs false
set_option linter.unusedVariables false
theorem has_any (A : Option Addr) (n c : Nat) (l : List Int) (x : Int) (w : World) (h : Ri w w.heap.size A n l) (hn : n ≤ 1000000) :
    Calls Try.prog 17 #[.slice A n c, .int .i64 x] w fun e w' => e = .returned (.bool (decide (x ∈ l))) ∧ w = w' := by
  have H := Lib.hid h
  have HL := Lib.hid h.1
  clear h
  go_enter Try.func17, Try.ntmps17
  go_wp2_with fail
  go_loop [5] (fun s => ∃ j : Nat, s = .int .i64 j ∧ j ≤ n ∧ Hid (∀ i, i < j → l.getD i 0 ≠ x)) (fun s => n - (intOf s).toNat)
  case atStart => exact ⟨0, by go_num, by omega, Lib.hid (fun i hi => absurd hi (by omega))⟩
  case round =>
    obtain ⟨j, rfl, hj, HA⟩ := hrel
    by_cases hlt : j < n
    · obtain ⟨b, o, rfl, hb, hc⟩ := H.out.2.2 (by omega)
      have cj := hc j hlt
      have hjn : (j : Int) < (n : Int) := by omega
      obtain ⟨y, hy⟩ : ∃ y, y = l.getD j 0 := ⟨_, rfl⟩
      rw [← hy] at cj
      have HY := Lib.hid hy
      clear hc hy
      by_cases hyx : y = x
      · have E := Lib.hid (show decide (x ∈ l) = true by
          rw [decide_eq_true_iff]
          have hjl : j < l.length := by rw [HL.out]; exact hlt
          have : l.getD j 0 ∈ l := by simp [List.getD, List.getElem?_eq_getElem hjl]
          rw [← hyx, HY.out]; exact this)
        have hb : (y == x) = true := by simp [hyx]
        clear hyx
        go_wp2_with fail
        go_ret
        exact ⟨ret_bool E.out.symm, rfl⟩
      · have hb : (y == x) = false := by rw [beq_eq_false_iff_ne]; exact hyx
        have NE := Lib.hid hyx
        clear hyx
        go_wp2_with fail
        go_round
        case rel => exact ⟨j + 1, by go_num, by omega, Lib.hid (fun i hi => by
          rcases Nat.lt_or_ge i j with h | h
          · exact HA.out i h
          · obtain rfl : i = j := by omega
            rw [← HY.out]; exact NE.out)⟩
        case measure => simp [intOf]; omega
    · obtain rfl : j = n := by omega
      have E := Lib.hid (show decide (x ∈ l) = false by
        rw [decide_eq_false_iff_not]
        intro hx
        obtain ⟨i, hi, he⟩ := List.getElem_of_mem hx
        have := HA.out i (by rw [← HL.out]; exact hi)
        simp [List.getD, List.getElem?_eq_getElem hi] at this
        exact this he)
      go_wp2_with fail
      go_ret
      exact ⟨ret_bool E.out.symm, rfl⟩
theorem or_bits (a c : Nat) (ha : a < 4611686018427387904) (hc : c < 4611686018427387904) : bits .or .i64 (a : Int) (c : Int) = ((a ||| c : Nat) : Int) := by
  have h : a ||| c < 2 ^ 62 := Nat.or_lt_two_pow (by simpa using ha) (by simpa using hc)
  show IntKind.i64.wrap ((BitVec.ofInt 64 (a : Int) ||| BitVec.ofInt 64 (c : Int)).toNat : Int) = _
  rw [BitVec.toNat_or, ofInt_nat 64 a (by omega), ofInt_nat 64 c (by omega), IntKind.wrap_i64]
  generalize a ||| c = x at h
  omega
theorem and_one (a : Nat) (ha : a < 4611686018427387904) : bits .and .i64 (a : Int) 1 = ((a % 2 : Nat) : Int) := by
  show IntKind.i64.wrap ((BitVec.ofInt 64 (a : Int) &&& BitVec.ofInt 64 ((1 : Nat) : Int)).toNat : Int) = _
  rw [BitVec.toNat_and, ofInt_nat 64 a (by omega), ofInt_nat 64 1 (by omega), show (1 : Nat) = 2 ^ 1 - 1 by rfl, Nat.and_two_pow_sub_one_eq_mod, IntKind.wrap_i64]
  omega
/-- a bit that is not set -/
theorem bit_no (m i : Nat) (hm : m < 256) (h : m.testBit i = false) : bits .and .i64 ((m : Int) / 2 ^ i) 1 = 0 := by
  have e : (m : Int) / 2 ^ i = ((m / 2 ^ i : Nat) : Int) := by simp
  have hl : m / 2 ^ i ≤ m := Nat.div_le_self _ _
  rw [e, and_one _ (by omega)]
  rw [Nat.testBit_eq_decide_div_mod_eq] at h
  have := of_decide_eq_false h
  omega
theorem pow_small (i : Nat) (hi : i ≤ 8) : (2 : Nat) ^ i ≤ 256 := Nat.pow_le_pow_right (by omega) hi
end Go.Proofs.Ytiidkmnagfhgiaa
namespace Go.Proofs.Ytiidkmnagfhgiaa.lawStationHolds
open Go.ChangeShapes Go.WideShapes Go.ChangeAt Go.RowKit Go.Joins
set_option linter.unusedVariables false
set_option linter.unusedSimpArgs false
attribute [local go_sem ↓] Go.wp_at_zero Go.wp_at_succ
set_option maxHeartbeats 60000000
set_option maxRecDepth 100000
theorem few_all (A : Option Addr) (n cap most : Nat) (l : List LAct) (w W : World) (h : LRf W w.heap.size A n l) (hn : n ≤ 9223372036854775807) (hm : most ≤ 1000) :
    Calls Try.prog 10 #[.slice A n cap, .int .i64 most] W fun e w' => e = .returned (.bool (fewB l most)) ∧ W = w' := by
  rcases Nat.lt_or_ge most n with h1 | h1
  · exact few_big A n cap most l W h.1 hn h1
  · exact few_any A n cap most w.heap.size l W h (by omega) hm
theorem few_len {l : List LAct} {n most : Nat} (h : fewB l most = true) (hl : l.length = n) : n ≤ most := by
  unfold fewB at h
  simp only [Bool.and_eq_true, decide_eq_true_eq] at h
  omega
theorem few_ok {l : List LAct} {most : Nat} (h : fewB l most = true) : ∀ y ∈ l, okA y = true := by
  unfold fewB at h
  simp only [Bool.and_eq_true, List.all_eq_true] at h
  exact h.2
theorem iff_no {P : Prop} (h : ¬ P) : (false = true ↔ P) := ⟨fun e => (by cases e), fun e => absurd e h⟩
theorem iff_yes {P : Prop} (h : P) : (true = true ↔ P) := ⟨fun _ => h, fun _ => rfl⟩
theorem beq_no {a b : Int} (h : a ≠ b) : (a == b) = false := by rw [beq_eq_false_iff_ne]; exact h
theorem beq_yes {a b : Int} (h : a = b) : (a == b) = true := by rw [beq_iff_eq]; exact h
theorem dec_no {p : Prop} [Decidable p] (h : ¬ p) : decide p = false := decide_eq_false h
theorem dec_yes {p : Prop} [Decidable p] (h : p) : decide p = true := decide_eq_true h
/-- what a round keeps -/
def HR (B b R n : Nat) (s : Stn.St) (m : Nat) (g : Bool) (w wr : World) : Prop :=
  ∃ D dc A ac S sc, SB B b s D dc A ac S sc w wr ∧ wr.heap[R]? = some (.cells (rsl s D dc A ac S sc).toArray 29 (0, 0)) ∧ Stn.HI s m g ∧ s.n = n
def S1x (B b : Nat) (RA : Option Addr) (rc : Nat) (s : Stn.St) (w : World) : Prop := IsSt w B b none 0 RA rc s
theorem walk (a0 : Int) (a1 : Option Addr) (len1 cap1 : Nat) (l1 : List LAct) (w : World) (w0 : (Lit.int .i64 a0).wf = true) (w1 : LRf w w.heap.size a1 len1 l1) (r1 : Room a1 len1 cap1) (f1 : ∀ y ∈ l1, LaOk y) :
    Calls Try.prog 7 #[.int .i64 a0, .slice a1 len1 cap1] w fun e w' => e = .returned (.bool true) ∧ Below w.heap.size w w' := by
  have FW1 := Lib.hid (fun (W : World) (hW : LRf W w.heap.size a1 len1 l1) => few_all a1 len1 cap1 40 l1 w W hW (by have h1 := r1.1; have h2 := r1.2.1; unfold maxLen at h2; omega) (by omega))
  have HW1 := Lib.hid w1
  clear w0 w1 r1 f1
  cases hf1 : fewB l1 40
  · as_aux_lemma =>
    rw [hf1] at FW1
    clear hf1
    go_enter Try.func7, Try.ntmps7
    go_wp2_with fail
    refine (FW1.out _ (HW1.out.below (B' := w.heap.size) (by repeat (first | (with_reducible exact Below.refl _ _) | (with_reducible refine Below.drew ?_) | (with_reducible refine below_drewN ?_ _) | ((with_reducible refine Below.alloc ?_ ?_ _); rotate_left; (first | omega | (simp <;> omega)); rotate_right) | ((with_reducible refine Below.setCell ?_ ?_ _); rotate_left; (first | omega | (simp <;> omega)); rotate_right) | (with_reducible assumption) | (refine Below.trans ?_ (Below.mono (by assumption) ?_); rotate_left; (first | omega | (simp <;> omega)); rotate_right))) (Nat.le_refl _))).mono ?_
    rintro e w' ⟨rfl, rfl⟩
    go_wp2_with fail
    refine (known_true _).mono ?_
    rintro e w3 ⟨rfl, hb3⟩
    have HB3 := Lib.hid hb3
    clear hb3
    go_wp2_with fail
    go_ret
    exact ⟨rfl, HB3.out⟩
  have AL1 := Lib.hid (few_ok hf1)
  have hl1 := few_len hf1 HW1.out.1
  rw [hf1] at FW1
  clear hf1
  by_cases hlo : a0 < 1
  · as_aux_lemma =>
    clear hl1
    go_enter Try.func7, Try.ntmps7
    go_wp2_with fail
    refine (FW1.out _ (HW1.out.below (B' := w.heap.size) (by repeat (first | (with_reducible exact Below.refl _ _) | (with_reducible refine Below.drew ?_) | (with_reducible refine below_drewN ?_ _) | ((with_reducible refine Below.alloc ?_ ?_ _); rotate_left; (first | omega | (simp <;> omega)); rotate_right) | ((with_reducible refine Below.setCell ?_ ?_ _); rotate_left; (first | omega | (simp <;> omega)); rotate_right) | (with_reducible assumption) | (refine Below.trans ?_ (Below.mono (by assumption) ?_); rotate_left; (first | omega | (simp <;> omega)); rotate_right))) (Nat.le_refl _))).mono ?_
    rintro e w' ⟨rfl, rfl⟩
    go_wp2_with fail
    refine (known_true _).mono ?_
    rintro e w3 ⟨rfl, hb3⟩
    have HB3 := Lib.hid hb3
    clear hb3
    go_wp2_with fail
    go_ret
    exact ⟨rfl, HB3.out⟩
  by_cases hhi : 8 < a0
  · as_aux_lemma =>
    clear hl1
    go_enter Try.func7, Try.ntmps7
    go_wp2_with fail
    refine (FW1.out _ (HW1.out.below (B' := w.heap.size) (by repeat (first | (with_reducible exact Below.refl _ _) | (with_reducible refine Below.drew ?_) | (with_reducible refine below_drewN ?_ _) | ((with_reducible refine Below.alloc ?_ ?_ _); rotate_left; (first | omega | (simp <;> omega)); rotate_right) | ((with_reducible refine Below.setCell ?_ ?_ _); rotate_left; (first | omega | (simp <;> omega)); rotate_right) | (with_reducible assumption) | (refine Below.trans ?_ (Below.mono (by assumption) ?_); rotate_left; (first | omega | (simp <;> omega)); rotate_right))) (Nat.le_refl _))).mono ?_
    rintro e w' ⟨rfl, rfl⟩
    go_wp2_with fail
    refine (known_true _).mono ?_
    rintro e w3 ⟨rfl, hb3⟩
    have HB3 := Lib.hid hb3
    clear hb3
    go_wp2_with fail
    go_ret
    exact ⟨rfl, HB3.out⟩
  obtain ⟨n, rfl⟩ : ∃ n : Nat, a0 = n := ⟨a0.toNat, by omega⟩
  have hv : Stn.newE (n : Int) 20 = 0 := by unfold Stn.newE; rw [if_pos (by omega)]
  have M := Lib.hid (fun W : World => made_yes n 20 W hv)
  have HI0 := Lib.hid (Stn.inv_new hv)
  have hn8 : n ≤ 8 := by omega
  have hn1 : 1 ≤ n := by omega
  clear hv
  go_enter Try.func7, Try.ntmps7
  go_wp2_with fail
  refine (FW1.out _ (HW1.out.below (B' := w.heap.size) (by repeat (first | (with_reducible exact Below.refl _ _) | (with_reducible refine Below.drew ?_) | (with_reducible refine below_drewN ?_ _) | ((with_reducible refine Below.alloc ?_ ?_ _); rotate_left; (first | omega | (simp <;> omega)); rotate_right) | ((with_reducible refine Below.setCell ?_ ?_ _); rotate_left; (first | omega | (simp <;> omega)); rotate_right) | (with_reducible assumption) | (refine Below.trans ?_ (Below.mono (by assumption) ?_); rotate_left; (first | omega | (simp <;> omega)); rotate_right))) (Nat.le_refl _))).mono ?_
  rintro e w' ⟨rfl, rfl⟩
  go_wp2_with fail
  refine (M.out _).mono ?_
  rintro e w4 ⟨b, RA, NA, NS, rfl, hs4, hr4, hb4⟩
  have hz4 := hb4.size; try simp at hz4
  have HS4 := Lib.hid (show S1x w.heap.size b RA n (Stn.new n 20) w4 from hs4.lower (by simp))
  have HB4 := Lib.hid (show Below w.heap.size w w4 from (by repeat (first | (with_reducible exact Below.refl _ _) | (with_reducible refine Below.drew ?_) | (with_reducible refine below_drewN ?_ _) | ((with_reducible refine Below.alloc ?_ ?_ _); rotate_left; (first | omega | (simp <;> omega)); rotate_right) | ((with_reducible refine Below.setCell ?_ ?_ _); rotate_left; (first | omega | (simp <;> omega)); rotate_right) | (with_reducible assumption) | (refine Below.trans ?_ (Below.mono (by assumption) ?_); rotate_left; (first | omega | (simp <;> omega)); rotate_right))))
  clear hb4 hs4 hr4
  go_wp2_with fail
  refine (M.out _).mono ?_
  rintro e w5 ⟨b', RA', NA', NS', rfl, _, hr5, hb5⟩
  have hz5 := hb5.size; try simp at hz5
  have HS5 := Lib.hid (show SB w.heap.size b (Stn.new n 20) none 0 (some ⟨NA', 0, none⟩) n (some ⟨NS', 0, none⟩) n w w5 from ⟨⟨_, _, _, _, IsSt.below (HS4.out.alloc _) hb5 (Nat.le_refl _)⟩, HI0.out, fit_new _ _, hr5, (HB4.out.alloc (by omega) _).trans (hb5.mono (by simp; omega))⟩)
  clear hb5 hr5 M FW1 HI0 HS4 HB4
  go_wp2_with fail
  generalize hV : World.alloc _ _ = V
  have k0 : V.heap[w5.heap.size]? = some (.cells (rsl (Stn.new n 20) none 0 (some ⟨NA', 0, none⟩) n (some ⟨NS', 0, none⟩) n).toArray 29 (0, 0)) := by rw [← hV]; exact heap_new _ _
  have hBV : Below w5.heap.size w5 V := by rw [← hV]; exact (Below.refl _ _).alloc (Nat.le_refl _) _
  have hR : w.heap.size ≤ w5.heap.size := by omega
  obtain ⟨R, hReq⟩ : ∃ R, R = w5.heap.size := ⟨_, rfl⟩
  have HH0 := Lib.hid (show HR w.heap.size b R n (Stn.new n 20) 0 false w V from ⟨_, _, _, _, _, _, HS5.out.below hBV (by omega), by rw [hReq]; exact k0, Stn.hi_new _ _, rfl⟩)
  rw [← hReq] at hR ⊢
  clear hV k0 hBV hReq HS5 hz4 hz5
  go_loopw [11, 12, 13] (fun v11 v12 v13 wr => ∃ (i : Nat) (s : Stn.St) (m : Nat) (g : Bool), v11 = .int .i64 (m : Int) ∧ v12 = .bool g ∧ v13 = .int .i64 i ∧ i ≤ len1 ∧ Hid (HR w.heap.size b R n s m g w wr)) (fun _ _ v13 _ => len1 - (intOf v13).toNat)
  case atStart => exact ⟨0, Stn.new n 20, 0, false, by go_num, rfl, by go_num, by omega, HH0⟩
  case round =>
    obtain ⟨i, s, m, g, rfl, rfl, rfl, hi, HH⟩ := hrel
    clear HH0
    obtain ⟨D, dc, A, ac, S, sc, hsb, hk, hhi, hsn⟩ := HH.out
    have HS := Lib.hid hsb
    have HJ := Lib.hid hhi
    have HN := Lib.hid hsn
    have hzr := hsb.lt.size
    by_cases hlt : i < len1
    · obtain ⟨bb, oo, rfl, hbb, hcc⟩ := (HW1.out.below HS.out.lt (Nat.le_refl _)).2 (by omega)
      obtain ⟨FD, ce, c0, c1, c2, c3, c4, c5, c6, c7, hrd, hrm⟩ := hcc i hlt
      obtain ⟨x, hx⟩ : ∃ x, x = l1.getD i la0 := ⟨_, rfl⟩
      rw [← hx] at c0 c1 c2 c3 c4 c5 c6 c7 hrd hrm
      have hok : okA x = true := AL1.out x (by rw [hx]; simp [List.getD, List.getElem?_eq_getElem (show i < l1.length by rw [HW1.out.1]; exact hlt)])
      unfold okA at hok
      simp only [decide_eq_true_eq] at hok
      obtain ⟨s', hs'⟩ : ∃ s', s' = actS s x := ⟨_, rfl⟩
      obtain ⟨fr, hfr⟩ : ∃ fr, fr = actF s x := ⟨_, rfl⟩
      have ST := Lib.hid (fun (W : World) (hW : Below wr.heap.size wr W) => by
        obtain ⟨⟨MA, mc, RA, rc, h1⟩, h2, _⟩ := HS.out.below hW hzr
        exact (state_any h1 h2 : Calls _ _ _ _ _))
      have AC := Lib.hid (show ∀ W : World, Below wr.heap.size wr W → Calls Try.prog 11 #[.pointer (some ⟨b, 0, none⟩), .agg #[.int .i64 s.again, .int .i64 s.st, .int .i64 s.now, .int .i64 s.seq, .bool s.some, .int .i64 s.prog, .int .i64 s.cmd, .slice D (Stn.data s).length dc, .int .i64 s.sent, .slice A s.n ac, .slice S s.n sc], .agg #[.int .i64 x.kind, .int .i64 x.now, .int .i64 x.n, .int .i64 x.f.k, .int .i64 x.f.f, .int .i64 x.f.t, .int .i64 x.f.s, .slice FD x.f.d.length ce]] W (SAPost w.heap.size b s' fr w W) from fun W hW => by
        have hz := hW.size
        rw [hs', hfr]
        exact sa_any (HS.out.below hW hzr) x FD ce (by omega) (by omega) (hrd.below hW (by omega)))
      have hRlt := lt_of_block hk
      have HX := Lib.hid (show s' = actS s x ∧ fr = actF s x from ⟨hs', hfr⟩)
      have HRD := Lib.hid hrd
      have HK := Lib.hid hk
      have hrN := hrm.1
      simp only [rsl] at hk
      clear hs' hx hrd hrm hok hcc hfr HH hsb hhi hsn
      have HSs := Lib.hid HS.out.inv
      have hin : (i : Int) < (len1 : Int) := by omega
      have hbw : bb < wr.heap.size := by omega
      have hbN : bb ≠ wr.heap.size := by omega
      have hRN : R ≠ wr.heap.size := by omega
      go_wp2_with fail
      generalize hV : World.alloc _ _ = V
      have kA : V.heap[wr.heap.size]? = some (.cells #[.int .i64 x.kind, .int .i64 x.now, .int .i64 x.n, .int .i64 x.f.k, .int .i64 x.f.f, .int .i64 x.f.t, .int .i64 x.f.s, .slice FD x.f.d.length ce] 42 (0, 0)) := by rw [← hV]; exact heap_new _ _
      have hBV : Below wr.heap.size wr V := by rw [← hV]; exact (Below.refl _ _).alloc (Nat.le_refl _) _
      have kR := blk_below HK.out hBV hRlt
      clear hV c0 c1 c2 c3 c4 c5 c6 c7
      obtain ⟨NA9, hNA9⟩ : ∃ NA9, NA9 = wr.heap.size := ⟨_, rfl⟩
      have hRNA : R ≠ NA9 := by omega
      have hNAR : NA9 ≠ R := by omega
      have hbNA : bb ≠ NA9 := by omega
      rw [← hNA9] at kA ⊢
      clear hNA9
      refine (ST.out _ hBV).mono ?_
      rintro e w' ⟨rfl, rfl⟩
      simp only [rsl] at kR
      have ca_0 := blk_cell kR 0 rfl; have fa_0 := blk_free kR 0; have ca_1 := blk_cell kR 1 rfl; have fa_1 := blk_free kR 1; have ca_2 := blk_cell kR 2 rfl; have fa_2 := blk_free kR 2; have ca_3 := blk_cell kR 3 rfl; have fa_3 := blk_free kR 3; have ca_4 := blk_cell kR 4 rfl; have fa_4 := blk_free kR 4; have ca_5 := blk_cell kR 5 rfl; have fa_5 := blk_free kR 5; have ca_6 := blk_cell kR 6 rfl; have fa_6 := blk_free kR 6; have ca_7 := blk_cell kR 7 rfl; have fa_7 := blk_free kR 7; have ca_8 := blk_cell kR 8 rfl; have fa_8 := blk_free kR 8; have ca_9 := blk_cell kR 9 rfl; have fa_9 := blk_free kR 9; have ca_10 := blk_cell kR 10 rfl; have fa_10 := blk_free kR 10; have la := lt_of_block kR
      have cb_0 := blk_cell kA 0 rfl; have fb_0 := blk_free kA 0; have cb_1 := blk_cell kA 1 rfl; have fb_1 := blk_free kA 1; have cb_2 := blk_cell kA 2 rfl; have fb_2 := blk_free kA 2; have cb_3 := blk_cell kA 3 rfl; have fb_3 := blk_free kA 3; have cb_4 := blk_cell kA 4 rfl; have fb_4 := blk_free kA 4; have cb_5 := blk_cell kA 5 rfl; have fb_5 := blk_free kA 5; have cb_6 := blk_cell kA 6 rfl; have fb_6 := blk_free kA 6; have cb_7 := blk_cell kA 7 rfl; have fb_7 := blk_free kA 7; have lb := lt_of_block kA
      go_wp2_with fail
      refine (AC.out _ hBV).mono ?_
      rintro e w1 ⟨F, fc, D1, dc1, A1, ac1, S1, sc1, vs, H1, rfl, hB1, _, _, _, hk1, hb1, hr1⟩
      have k1 := hk1 R _ _ kR oth_S
      have kA1 := hk1 _ _ _ kA oth_A
      have HB1 := Lib.hid hB1
      have HR1 := Lib.hid hr1
      have HB1w := Lib.hid hb1
      have hz1 := hb1.size
      have hzV := hBV.size
      have hzAV := lt_of_block kA
      have hzw1 := hB1.lt.size
      clear ca_0 fa_0 ca_1 fa_1 ca_2 fa_2 ca_3 fa_3 ca_4 fa_4 ca_5 fa_5 ca_6 fa_6 ca_7 fa_7 ca_8 fa_8 ca_9 fa_9 ca_10 fa_10
      clear cb_0 fb_0 cb_1 fb_1 cb_2 fb_2 cb_3 fb_3 cb_4 fb_4 cb_5 fb_5 cb_6 fb_6 cb_7 fb_7
      clear hB1 hr1 hk1 hb1 kR kA AC ST HK HS la lb
      simp only [rsl]
      have cc_0 := blk_cell k1 0 rfl; have fc_0 := blk_free k1 0; have cc_1 := blk_cell k1 1 rfl; have fc_1 := blk_free k1 1; have cc_2 := blk_cell k1 2 rfl; have fc_2 := blk_free k1 2; have cc_3 := blk_cell k1 3 rfl; have fc_3 := blk_free k1 3; have cc_4 := blk_cell k1 4 rfl; have fc_4 := blk_free k1 4; have cc_5 := blk_cell k1 5 rfl; have fc_5 := blk_free k1 5; have cc_6 := blk_cell k1 6 rfl; have fc_6 := blk_free k1 6; have cc_7 := blk_cell k1 7 rfl; have fc_7 := blk_free k1 7; have cc_8 := blk_cell k1 8 rfl; have fc_8 := blk_free k1 8; have cc_9 := blk_cell k1 9 rfl; have fc_9 := blk_free k1 9; have cc_10 := blk_cell k1 10 rfl; have fc_10 := blk_free k1 10; have lc := lt_of_block k1
      obtain ⟨nf, hnf⟩ : ∃ nf, nf = fr.length := ⟨_, rfl⟩
      have HNF := Lib.hid hnf
      rw [← hnf]
      clear hnf
      go_wp2_with fail
      generalize hWy : World.setCell _ _ _ = Wy
      have kS : Wy.heap[R]? = some (.cells #[.int .i64 s'.again, .int .i64 s'.st, .int .i64 s'.now, .int .i64 s'.seq, .bool s'.some, .int .i64 s'.prog, .int .i64 s'.cmd, .slice D1 (Stn.data s').length dc1, .int .i64 s'.sent, .slice A1 s'.n ac1, .slice S1 s'.n sc1] 29 (0, 0)) := by rw [← hWy]; exact (by apply Eq.trans; (repeat (first | (with_reducible assumption) | (with_reducible apply blk_set) | ((with_reducible apply blk_far); rotate_left; (first | omega | (simp <;> omega)); rotate_right) | (with_reducible apply blk_drew) | (with_reducible apply blk_drewN) | ((with_reducible apply heap_new'); (first | rfl | (simp <;> fail))) | (with_reducible apply blk_alloc))); (first | with_reducible rfl | (simp <;> fail) | rfl))
      have kA2 : Wy.heap[NA9]? = some (.cells #[.int .i64 x.kind, .int .i64 x.now, .int .i64 x.n, .int .i64 x.f.k, .int .i64 x.f.f, .int .i64 x.f.t, .int .i64 x.f.s, .slice FD x.f.d.length ce] 42 (0, 0)) := by rw [← hWy]; exact (by repeat (first | (with_reducible assumption) | ((with_reducible apply blk_far); rotate_left; (first | omega | (simp <;> omega)); rotate_right) | (with_reducible apply blk_drew) | (with_reducible apply blk_drewN) | (with_reducible exact heap_new _ _) | ((with_reducible apply heap_new'); (first | rfl | (simp <;> fail))) | (with_reducible apply blk_alloc)))
      have hKy : Keeps (fun j => j = R) w1 Wy := by rw [← hWy]; (repeat (first | with_reducible exact Keeps.refl _ _ | (with_reducible refine Keeps.set1 ?_ _ _) | (with_reducible refine Keeps.drew ?_) | (with_reducible refine Keeps.drewN ?_ _) | (with_reducible refine Keeps.alloc ?_ _)))
      have HSy := Lib.hid (HB1.out.store hKy hR (fun _ => ⟨_, k1⟩) oth_S (by omega))
      have HRy := Lib.hid (HR1.out.keptT hKy (fun i hi hl => ⟨29, hi ▸ ⟨_, k1⟩, by decide, by decide⟩))
      rw [← HNF.out] at HRy
      have KS := Lib.hid kS
      have KA := Lib.hid kA2
      have HBw := Lib.hid (show Below w.heap.size wr Wy from (hBV.mono hzr).trans (HB1w.out.trans (hKy.below (fun i _ hi => by omega) (by omega))))
      have hzy : w.heap.size ≤ Wy.heap.size := HSy.out.lt.size
      obtain ⟨P, hP⟩ : ∃ P, P = Stn.afterF (Stn.kindOf s x) x.kind m g := ⟨_, rfl⟩
      have HP := Lib.hid hP
      have HFK := Lib.hid (show ∀ f ∈ fr, f.k = Stn.kindOf s x ∧ Frm.vd f.k f.f f.t f.s f.d.length = true ∧ f.d.length ≤ 64 ∧ 1 ≤ f.t ∧ f.t ≤ n ∧ (f.k = 2 → P.1.testBit (f.t - 1).toNat = false) from fun f hf => by
        rw [HX.out.2] at hf
        obtain ⟨q1, q2, q3, q4, q5, _⟩ := Stn.actF_k s x HSs.out f hf
        refine ⟨q1, q2, q3, q4, by rw [← HN.out]; exact q5, fun h => ?_⟩
        rw [HP.out]
        exact Stn.hi_bit HJ.out HSs.out x f hf h)
      clear cc_0 fc_0 cc_1 fc_1 cc_2 fc_2 cc_3 fc_3 cc_4 fc_4 cc_5 fc_5 cc_6 fc_6 cc_7 fc_7 cc_8 fc_8 cc_9 fc_9 cc_10 fc_10
      have hnl : nf ≤ 64 := by rw [HNF.out, HX.out.2]; exact actF_len HSs.out x
      clear hWy hKy kS kA2 k1 kA1 HB1 HR1 hP lc
      go_loopw [11, 12, 19] (fun v11 v12 v19 wr => ∃ (k mk : Nat) (gk : Bool), v11 = .int .i64 (mk : Int) ∧ v12 = .bool gk ∧ v19 = .int .i64 k ∧ k ≤ nf ∧ Hid ((mk, gk) = if k = 0 then (m, g) else P) ∧ Hid (Below Wy.heap.size Wy wr)) (fun _ _ v19 _ => nf - (intOf v19).toNat)
      case atStart => exact ⟨0, m, g, rfl, rfl, by go_num, by omega, Lib.hid rfl, Lib.hid (by first | exact Below.refl _ _ | exact (Below.refl _ _).alloc (Nat.le_refl _) _)⟩
      case round => as_aux_lemma =>
        obtain ⟨k, mk, gk, rfl, rfl, rfl, hk2, HMK, HB2⟩ := hrel
        by_cases hlt2 : k < nf
        · as_aux_lemma =>
          have hRf := (HRy.out.below HB2.out (Nat.le_refl _)).rf
          obtain ⟨g0, o0, rfl, hg0, hcf⟩ := hRf.2 (by omega)
          obtain ⟨FA, fcap, d0, d1, d2, d3, d4, _⟩ := hcf k hlt2
          have hmem : fr.getD k fr0 ∈ fr := by
            have hkl : k < fr.length := by rw [← HNF.out]; exact hlt2
            simp [List.getD, List.getElem?_eq_getElem hkl]
          obtain ⟨q1, q2, q3, q4, q5, q6⟩ := HFK.out _ hmem
          generalize fr.getD k fr0 = f at *
          have VD := Lib.hid (fun W : World => rvalid_any f.k f.f f.t f.s FA f.d.length fcap W (by omega))
          rw [q2] at VD
          have hkn : (k : Int) < (nf : Int) := by omega
          have kA3 := blk_below KA.out HB2.out (lt_of_block KA.out)
          obtain ⟨t0, ht0⟩ : ∃ t0 : Nat, f.t = (t0 : Int) + 1 := ⟨(f.t - 1).toNat, by omega⟩
          rw [ht0] at d2 VD q5 q6
          clear q2 q3 q4 hRf hcf hmem ht0
          have ht8 : t0 < 8 := by omega
          have hwt : IntKind.i64.wrap ((t0 : Int) + 1 - 1) = t0 := by rw [IntWalk.i64_in _ (by omega)]; omega
          have cb_0 := blk_cell kA3 0 rfl; have fb_0 := blk_free kA3 0; have cb_1 := blk_cell kA3 1 rfl; have fb_1 := blk_free kA3 1; have cb_2 := blk_cell kA3 2 rfl; have fb_2 := blk_free kA3 2; have cb_3 := blk_cell kA3 3 rfl; have fb_3 := blk_free kA3 3; have cb_4 := blk_cell kA3 4 rfl; have fb_4 := blk_free kA3 4; have cb_5 := blk_cell kA3 5 rfl; have fb_5 := blk_free kA3 5; have cb_6 := blk_cell kA3 6 rfl; have fb_6 := blk_free kA3 6; have cb_7 := blk_cell kA3 7 rfl; have fb_7 := blk_free kA3 7; have lb := lt_of_block kA3
          have hmin : min t0 64 = t0 := by omega
          have htn : ((t0 : Int) + 1).toNat = t0 + 1 := by omega
          have hgt : ¬ ((n : Int) < (t0 : Int) + 1) := by omega
          have q7 : f.k = 2 → P.1.testBit t0 = false := fun h => by have := q6 h; rwa [show ((t0 : Int) + 1 - 1).toNat = t0 by omega] at this
          clear q5 q6
          by_cases hK1 : f.k = 1
          · as_aux_lemma =>
            have hP1 : P = (0, false) := by
              rw [HP.out]; unfold Stn.afterF
              rw [if_neg (by omega), if_pos (by omega)]
            rw [hK1] at d0 VD
            have HP1 := Lib.hid hP1
            clear q7 q1 hK1 hP1
            go_wp2_with fail
            refine (VD.out _).mono ?_
            rintro e w8 ⟨rfl, hb8⟩
            have e0 := ((bcell hb8).1 g0 _ hg0).trans d0
            have e2 := ((bcell hb8).1 g0 _ hg0).trans d2
            have kA4 := blk_below kA3 hb8 (lt_of_block kA3)
            have HB8 := Lib.hid (HB2.out.trans (hb8.mono HB2.out.size))
            clear cb_0 fb_0 cb_1 fb_1 cb_2 fb_2 cb_3 fb_3 cb_4 fb_4 cb_5 fb_5 cb_6 fb_6 cb_7 fb_7
            clear d0 d1 d2 d3 d4 kA3 hb8
            have cd_0 := blk_cell kA4 0 rfl; have fd_0 := blk_free kA4 0; have cd_1 := blk_cell kA4 1 rfl; have fd_1 := blk_free kA4 1; have cd_2 := blk_cell kA4 2 rfl; have fd_2 := blk_free kA4 2; have cd_3 := blk_cell kA4 3 rfl; have fd_3 := blk_free kA4 3; have cd_4 := blk_cell kA4 4 rfl; have fd_4 := blk_free kA4 4; have cd_5 := blk_cell kA4 5 rfl; have fd_5 := blk_free kA4 5; have cd_6 := blk_cell kA4 6 rfl; have fd_6 := blk_free kA4 6; have cd_7 := blk_cell kA4 7 rfl; have fd_7 := blk_free kA4 7; have ld := lt_of_block kA4
            go_wp2_with fail
            go_roundw
            case rel => exact ⟨k + 1, 0, false, by go_num, rfl, by go_num, by omega, Lib.hid (by rw [if_neg (by omega), HP1.out]), HB8⟩
            case measure => simp [intOf]; omega
          · have hb1 : (f.k == 1) = false := by rw [beq_eq_false_iff_ne]; exact hK1
            by_cases hK2 : f.k = 2
            · rw [hK2] at d0 VD
              by_cases hx2 : x.kind = 2
              · as_aux_lemma =>
                have hP1 : P = (0, true) := by
                  rw [HP.out]; unfold Stn.afterF
                  rw [if_pos ⟨by omega, hx2⟩]
                rw [hx2] at kA3
                have HP1 := Lib.hid hP1
                clear q7 q1 hK1 hP1 hb1 hK2 hx2
                clear cb_0 fb_0 cb_1 fb_1 cb_2 fb_2 cb_3 fb_3 cb_4 fb_4 cb_5 fb_5 cb_6 fb_6 cb_7 fb_7
                have cb_0 := blk_cell kA3 0 rfl; have fb_0 := blk_free kA3 0; have cb_1 := blk_cell kA3 1 rfl; have fb_1 := blk_free kA3 1; have cb_2 := blk_cell kA3 2 rfl; have fb_2 := blk_free kA3 2; have cb_3 := blk_cell kA3 3 rfl; have fb_3 := blk_free kA3 3; have cb_4 := blk_cell kA3 4 rfl; have fb_4 := blk_free kA3 4; have cb_5 := blk_cell kA3 5 rfl; have fb_5 := blk_free kA3 5; have cb_6 := blk_cell kA3 6 rfl; have fb_6 := blk_free kA3 6; have cb_7 := blk_cell kA3 7 rfl; have fb_7 := blk_free kA3 7; have lb := lt_of_block kA3
                go_wp2_with fail
                refine (VD.out _).mono ?_
                rintro e w8 ⟨rfl, hb8⟩
                have e0 := ((bcell hb8).1 g0 _ hg0).trans d0
                have e2 := ((bcell hb8).1 g0 _ hg0).trans d2
                have kA4 := blk_below kA3 hb8 (lt_of_block kA3)
                have HB8 := Lib.hid (HB2.out.trans (hb8.mono HB2.out.size))
                clear cb_0 fb_0 cb_1 fb_1 cb_2 fb_2 cb_3 fb_3 cb_4 fb_4 cb_5 fb_5 cb_6 fb_6 cb_7 fb_7
                clear d0 d1 d2 d3 d4 kA3 hb8
                have cd_0 := blk_cell kA4 0 rfl; have fd_0 := blk_free kA4 0; have cd_1 := blk_cell kA4 1 rfl; have fd_1 := blk_free kA4 1; have cd_2 := blk_cell kA4 2 rfl; have fd_2 := blk_free kA4 2; have cd_3 := blk_cell kA4 3 rfl; have fd_3 := blk_free kA4 3; have cd_4 := blk_cell kA4 4 rfl; have fd_4 := blk_free kA4 4; have cd_5 := blk_cell kA4 5 rfl; have fd_5 := blk_free kA4 5; have cd_6 := blk_cell kA4 6 rfl; have fd_6 := blk_free kA4 6; have cd_7 := blk_cell kA4 7 rfl; have fd_7 := blk_free kA4 7; have ld := lt_of_block kA4
                have hbit0 : bits .and .i64 0 1 = 0 := by kernel_rfl
                have hbit1 : bits .and .i64 ((0 : Int) / 2 ^ t0) 1 = 0 := by rw [Int.zero_ediv]; exact hbit0
                go_wp2_with fail
                go_roundw
                case rel => exact ⟨k + 1, 0, true, by go_num, rfl, by go_num, by omega, Lib.hid (by rw [if_neg (by omega), HP1.out]), HB8⟩
                case measure => simp [intOf]; omega
              · as_aux_lemma =>
                have hP1 : P = (m, g) := by
                  rw [HP.out]; unfold Stn.afterF
                  rw [if_neg (fun h => hx2 h.2), if_neg (by omega)]
                have HP1 := Lib.hid hP1
                have hbx : (x.kind == 2) = false := by rw [beq_eq_false_iff_ne]; exact hx2
                have hbit : bits .and .i64 ((mk : Int) / 2 ^ t0) 1 = 0 := by
                  have hmk : mk = m := by
                    have := HMK.out
                    rw [hP1] at this
                    split at this <;> exact (Prod.mk.inj this).1
                  have h1 := q7 hK2
                  rw [hP1] at h1
                  have hm8 : m < 256 := by
                    have := HJ.out.lt
                    rw [HN.out] at this
                    have := pow_small n hn8
                    omega
                  rw [hmk]
                  exact bit_no m t0 hm8 h1
                clear q7 q1 hK1 hP1 hb1 hK2
                go_wp2_with fail
                refine (VD.out _).mono ?_
                rintro e w8 ⟨rfl, hb8⟩
                have e0 := ((bcell hb8).1 g0 _ hg0).trans d0
                have e2 := ((bcell hb8).1 g0 _ hg0).trans d2
                have kA4 := blk_below kA3 hb8 (lt_of_block kA3)
                have HB8 := Lib.hid (HB2.out.trans (hb8.mono HB2.out.size))
                clear cb_0 fb_0 cb_1 fb_1 cb_2 fb_2 cb_3 fb_3 cb_4 fb_4 cb_5 fb_5 cb_6 fb_6 cb_7 fb_7
                clear d0 d1 d2 d3 d4 kA3 hb8 hx2
                have cd_0 := blk_cell kA4 0 rfl; have fd_0 := blk_free kA4 0; have cd_1 := blk_cell kA4 1 rfl; have fd_1 := blk_free kA4 1; have cd_2 := blk_cell kA4 2 rfl; have fd_2 := blk_free kA4 2; have cd_3 := blk_cell kA4 3 rfl; have fd_3 := blk_free kA4 3; have cd_4 := blk_cell kA4 4 rfl; have fd_4 := blk_free kA4 4; have cd_5 := blk_cell kA4 5 rfl; have fd_5 := blk_free kA4 5; have cd_6 := blk_cell kA4 6 rfl; have fd_6 := blk_free kA4 6; have cd_7 := blk_cell kA4 7 rfl; have fd_7 := blk_free kA4 7; have ld := lt_of_block kA4
                go_wp2_with fail
                go_roundw
                case rel => exact ⟨k + 1, mk, gk, rfl, rfl, by go_num, by omega, Lib.hid (by
                  rw [if_neg (by omega), HP1.out]
                  have := HMK.out
                  rw [HP1.out] at this
                  split at this <;> exact this), HB8⟩
                case measure => simp [intOf]; omega
            · as_aux_lemma =>
              have hP1 : P = (m, g) := by
                rw [HP.out]; unfold Stn.afterF
                rw [if_neg (fun h => hK2 (by omega)), if_neg (by omega)]
              have HP1 := Lib.hid hP1
              have hb2 : (f.k == 2) = false := by rw [beq_eq_false_iff_ne]; exact hK2
              clear q7 q1 hK1 hP1 hK2
              go_wp2_with fail
              refine (VD.out _).mono ?_
              rintro e w8 ⟨rfl, hb8⟩
              have e0 := ((bcell hb8).1 g0 _ hg0).trans d0
              have e2 := ((bcell hb8).1 g0 _ hg0).trans d2
              have kA4 := blk_below kA3 hb8 (lt_of_block kA3)
              have HB8 := Lib.hid (HB2.out.trans (hb8.mono HB2.out.size))
              clear cb_0 fb_0 cb_1 fb_1 cb_2 fb_2 cb_3 fb_3 cb_4 fb_4 cb_5 fb_5 cb_6 fb_6 cb_7 fb_7
              clear d0 d1 d2 d3 d4 kA3 hb8
              have cd_0 := blk_cell kA4 0 rfl; have fd_0 := blk_free kA4 0; have cd_1 := blk_cell kA4 1 rfl; have fd_1 := blk_free kA4 1; have cd_2 := blk_cell kA4 2 rfl; have fd_2 := blk_free kA4 2; have cd_3 := blk_cell kA4 3 rfl; have fd_3 := blk_free kA4 3; have cd_4 := blk_cell kA4 4 rfl; have fd_4 := blk_free kA4 4; have cd_5 := blk_cell kA4 5 rfl; have fd_5 := blk_free kA4 5; have cd_6 := blk_cell kA4 6 rfl; have fd_6 := blk_free kA4 6; have cd_7 := blk_cell kA4 7 rfl; have fd_7 := blk_free kA4 7; have ld := lt_of_block kA4
              go_wp2_with fail
              go_roundw
              case rel => exact ⟨k + 1, mk, gk, rfl, rfl, by go_num, by omega, Lib.hid (by
                rw [if_neg (by omega), HP1.out]
                have := HMK.out
                rw [HP1.out] at this
                split at this <;> exact this), HB8⟩
              case measure => simp [intOf]; omega
        · obtain rfl : k = nf := by omega
          obtain ⟨p, hp⟩ : ∃ p : Nat × Bool, p = (mk, gk) := ⟨_, rfl⟩
          have HST := Lib.hid (Stn.hi_step HJ.out HSs.out x p (by
            rw [hp, HMK.out, ← HX.out.2, HP.out]
            by_cases h0 : k = 0
            · rw [if_pos h0, if_pos (List.eq_nil_of_length_eq_zero (by rw [← HNF.out]; exact h0))]
            · rw [if_neg h0, if_neg (fun h => h0 (by rw [HNF.out, h]; rfl))]))
          rw [← HX.out.1, hp] at HST
          simp only at HST
          have HSb := Lib.hid (HSy.out.below HB2.out hzy)
          have kR := blk_below KS.out HB2.out (lt_of_block KS.out)
          have kA3 := blk_below KA.out HB2.out (lt_of_block KA.out)
          have hzb : w.heap.size ≤ wr.heap.size := HSb.out.lt.size
          have HRb := Lib.hid (show Rd wr w.heap.size FD x.f.d.length x.f.d from HRD.out.below (HBw.out.trans (HB2.out.mono hzy)) (Nat.le_refl _))
          have ST := Lib.hid (fun (W : World) (hW : Below wr.heap.size wr W) => by
            obtain ⟨⟨MA, mc, RA, rc, h1⟩, h2, _⟩ := HSb.out.below hW hzb
            exact (state_any h1 h2 : Calls _ _ _ _ _))
          have HMS := Lib.hid (show ∀ (W : World) (hW : Below wr.heap.size wr W), Calls Try.prog 14 #[.pointer (some ⟨b, 0, none⟩)] W fun e w' => ∃ A c, e = .returned (.slice A (Stn.miss s').length c) ∧ Ri w' w'.heap.size A (Stn.miss s').length ((Stn.miss s').map (fun (i : Nat) => (i : Int))) ∧ Below W.heap.size W w' from fun W hW => by
            obtain ⟨⟨MA, mc, RA, rc, h1⟩, h2, _⟩ := HSb.out.below hW hzb
            have hml := miss_bd s' h2
            refine (missing_any h1 h2).mono ?_
            rintro e w' ⟨A, c, rfl, hr, hb⟩
            exact ⟨A, c, rfl, hr.ri (fun x hx => (hml.2 x hx).2), hb⟩)
          clear hp HMK HFK HRy HSy KS KA HB2
          have ca_0 := blk_cell kR 0 rfl; have fa_0 := blk_free kR 0; have ca_1 := blk_cell kR 1 rfl; have fa_1 := blk_free kR 1; have ca_2 := blk_cell kR 2 rfl; have fa_2 := blk_free kR 2; have ca_3 := blk_cell kR 3 rfl; have fa_3 := blk_free kR 3; have ca_4 := blk_cell kR 4 rfl; have fa_4 := blk_free kR 4; have ca_5 := blk_cell kR 5 rfl; have fa_5 := blk_free kR 5; have ca_6 := blk_cell kR 6 rfl; have fa_6 := blk_free kR 6; have ca_7 := blk_cell kR 7 rfl; have fa_7 := blk_free kR 7; have ca_8 := blk_cell kR 8 rfl; have fa_8 := blk_free kR 8; have ca_9 := blk_cell kR 9 rfl; have fa_9 := blk_free kR 9; have ca_10 := blk_cell kR 10 rfl; have fa_10 := blk_free kR 10; have la := lt_of_block kR
          have cb_0 := blk_cell kA3 0 rfl; have fb_0 := blk_free kA3 0; have cb_1 := blk_cell kA3 1 rfl; have fb_1 := blk_free kA3 1; have cb_2 := blk_cell kA3 2 rfl; have fb_2 := blk_free kA3 2; have cb_3 := blk_cell kA3 3 rfl; have fb_3 := blk_free kA3 3; have cb_4 := blk_cell kA3 4 rfl; have fb_4 := blk_free kA3 4; have cb_5 := blk_cell kA3 5 rfl; have fb_5 := blk_free kA3 5; have cb_6 := blk_cell kA3 6 rfl; have fb_6 := blk_free kA3 6; have cb_7 := blk_cell kA3 7 rfl; have fb_7 := blk_free kA3 7; have lb := lt_of_block kA3
          go_upto_region 28 with fail
          go_cut [191] from 51 to 226 (fun v wx => ∃ c : Bool, v = .bool c ∧ (c = true ↔ Stn.condA s' x gk) ∧ Below wr.heap.size wr wx)
          case first => as_aux_lemma =>
            have hsn' : s'.n = n := by rw [HX.out.1, Stn.actS_n]; exact HN.out
            have HSN := Lib.hid hsn'
            clear hsn'
            cases gk
            · go_quiet (fail); go_wp2_with fail; go_meet
              exact ⟨false, rfl, iff_no (fun h => (by cases h.1)), (by repeat (first | (with_reducible exact Below.refl _ _) | (with_reducible refine Below.drew ?_) | (with_reducible refine below_drewN ?_ _) | ((with_reducible refine Below.alloc ?_ ?_ _); rotate_left; (first | omega | (simp <;> omega)); rotate_right) | ((with_reducible refine Below.setCell ?_ ?_ _); rotate_left; (first | omega | (simp <;> omega)); rotate_right) | (with_reducible assumption) | (refine Below.trans ?_ (Below.mono (by assumption) ?_); rotate_left; (first | omega | (simp <;> omega)); rotate_right)))⟩
            by_cases hc : x.kind = 8
            case neg => as_aux_lemma =>
              have b1 : (x.kind == 8) = false := beq_no hc
              have N1 := Lib.hid hc
              clear hc
              go_quiet (fail); go_wp2_with fail; go_meet
              exact ⟨false, rfl, iff_no (fun h => N1.out h.2.1), (by repeat (first | (with_reducible exact Below.refl _ _) | (with_reducible refine Below.drew ?_) | (with_reducible refine below_drewN ?_ _) | ((with_reducible refine Below.alloc ?_ ?_ _); rotate_left; (first | omega | (simp <;> omega)); rotate_right) | ((with_reducible refine Below.setCell ?_ ?_ _); rotate_left; (first | omega | (simp <;> omega)); rotate_right) | (with_reducible assumption) | (refine Below.trans ?_ (Below.mono (by assumption) ?_); rotate_left; (first | omega | (simp <;> omega)); rotate_right)))⟩
            have b1 : (x.kind == 8) = true := beq_yes hc
            have N1 := Lib.hid hc
            clear hc
            by_cases hc : x.f.k = 8
            case neg => as_aux_lemma =>
              have b2 : (x.f.k == 8) = false := beq_no hc
              have N2 := Lib.hid hc
              clear hc
              go_quiet (fail); go_wp2_with fail; go_meet
              exact ⟨false, rfl, iff_no (fun h => N2.out h.2.2.1), (by repeat (first | (with_reducible exact Below.refl _ _) | (with_reducible refine Below.drew ?_) | (with_reducible refine below_drewN ?_ _) | ((with_reducible refine Below.alloc ?_ ?_ _); rotate_left; (first | omega | (simp <;> omega)); rotate_right) | ((with_reducible refine Below.setCell ?_ ?_ _); rotate_left; (first | omega | (simp <;> omega)); rotate_right) | (with_reducible assumption) | (refine Below.trans ?_ (Below.mono (by assumption) ?_); rotate_left; (first | omega | (simp <;> omega)); rotate_right)))⟩
            have b2 : (x.f.k == 8) = true := beq_yes hc
            have N2 := Lib.hid hc
            clear hc
            by_cases hc : x.f.d.length = 1
            case neg => as_aux_lemma =>
              have b3 : ((x.f.d.length : Int) == 1) = false := beq_no (fun e => hc (by omega))
              have N3 := Lib.hid hc
              clear hc
              go_quiet (fail); go_wp2_with fail; go_meet
              exact ⟨false, rfl, iff_no (fun h => N3.out h.2.2.2.1), (by repeat (first | (with_reducible exact Below.refl _ _) | (with_reducible refine Below.drew ?_) | (with_reducible refine below_drewN ?_ _) | ((with_reducible refine Below.alloc ?_ ?_ _); rotate_left; (first | omega | (simp <;> omega)); rotate_right) | ((with_reducible refine Below.setCell ?_ ?_ _); rotate_left; (first | omega | (simp <;> omega)); rotate_right) | (with_reducible assumption) | (refine Below.trans ?_ (Below.mono (by assumption) ?_); rotate_left; (first | omega | (simp <;> omega)); rotate_right)))⟩
            have b3 : ((x.f.d.length : Int) == 1) = true := beq_yes (by omega)
            have N3 := Lib.hid hc
            clear hc
            have hlen0 : (0 : Int) < (x.f.d.length : Int) := by have := N3.out; omega
            obtain ⟨bd, od, rfl, hbd, hcd⟩ := HRb.out.2.2 (by have := N3.out; omega)
            have cd0 := hcd 0 (by have := N3.out; omega)
            rw [Nat.add_zero] at cd0
            obtain ⟨u, hu⟩ : ∃ u, u = x.f.d.getD 0 0 := ⟨_, rfl⟩
            rw [← hu] at cd0
            have HU := Lib.hid hu
            clear hu hcd
            by_cases hc : u = 2
            case neg => as_aux_lemma =>
              have b4 : (u == 2) = false := beq_no hc
              have N4 := Lib.hid hc
              clear hc
              go_quiet (fail); go_wp2_with fail; go_meet
              exact ⟨false, rfl, iff_no (fun h => N4.out (by have := h.2.2.2.2.1; rw [← HU.out] at this; exact this)), (by repeat (first | (with_reducible exact Below.refl _ _) | (with_reducible refine Below.drew ?_) | (with_reducible refine below_drewN ?_ _) | ((with_reducible refine Below.alloc ?_ ?_ _); rotate_left; (first | omega | (simp <;> omega)); rotate_right) | ((with_reducible refine Below.setCell ?_ ?_ _); rotate_left; (first | omega | (simp <;> omega)); rotate_right) | (with_reducible assumption) | (refine Below.trans ?_ (Below.mono (by assumption) ?_); rotate_left; (first | omega | (simp <;> omega)); rotate_right)))⟩
            have b4 : (u == 2) = true := beq_yes hc
            have N4 := Lib.hid hc
            clear hc
            by_cases hc : 1 ≤ x.f.f
            case neg => as_aux_lemma =>
              have b5 : decide (1 ≤ x.f.f) = false := dec_no hc
              have N5 := Lib.hid hc
              clear hc
              go_quiet (fail); go_wp2_with fail; go_meet
              exact ⟨false, rfl, iff_no (fun h => by have h1 := N5.out; have h2 := h.2.2.2.2.2.1; omega), (by repeat (first | (with_reducible exact Below.refl _ _) | (with_reducible refine Below.drew ?_) | (with_reducible refine below_drewN ?_ _) | ((with_reducible refine Below.alloc ?_ ?_ _); rotate_left; (first | omega | (simp <;> omega)); rotate_right) | ((with_reducible refine Below.setCell ?_ ?_ _); rotate_left; (first | omega | (simp <;> omega)); rotate_right) | (with_reducible assumption) | (refine Below.trans ?_ (Below.mono (by assumption) ?_); rotate_left; (first | omega | (simp <;> omega)); rotate_right)))⟩
            have b5 : decide (1 ≤ x.f.f) = true := dec_yes hc
            have N5 := Lib.hid hc
            clear hc
            by_cases hc : x.f.f ≤ (n : Int)
            case neg => as_aux_lemma =>
              have b6 : decide (x.f.f ≤ (n : Int)) = false := dec_no hc
              have N6 := Lib.hid hc
              clear hc
              go_quiet (fail); go_wp2_with fail; go_meet
              exact ⟨false, rfl, iff_no (fun h => by have h1 := N6.out; have h2 := (by have := h.2.2.2.2.2.2.1; rw [HSN.out] at this; exact this); omega), (by repeat (first | (with_reducible exact Below.refl _ _) | (with_reducible refine Below.drew ?_) | (with_reducible refine below_drewN ?_ _) | ((with_reducible refine Below.alloc ?_ ?_ _); rotate_left; (first | omega | (simp <;> omega)); rotate_right) | ((with_reducible refine Below.setCell ?_ ?_ _); rotate_left; (first | omega | (simp <;> omega)); rotate_right) | (with_reducible assumption) | (refine Below.trans ?_ (Below.mono (by assumption) ?_); rotate_left; (first | omega | (simp <;> omega)); rotate_right)))⟩
            have b6 : decide (x.f.f ≤ (n : Int)) = true := dec_yes hc
            have N6 := Lib.hid hc
            clear hc
            by_cases hc : x.f.s = s'.seq
            case neg => as_aux_lemma =>
              have b7 : (x.f.s == s'.seq) = false := beq_no hc
              have N7 := Lib.hid hc
              clear hc
              go_quiet (fail); go_wp2_with fail; go_meet
              exact ⟨false, rfl, iff_no (fun h => N7.out h.2.2.2.2.2.2.2.1), (by repeat (first | (with_reducible exact Below.refl _ _) | (with_reducible refine Below.drew ?_) | (with_reducible refine below_drewN ?_ _) | ((with_reducible refine Below.alloc ?_ ?_ _); rotate_left; (first | omega | (simp <;> omega)); rotate_right) | ((with_reducible refine Below.setCell ?_ ?_ _); rotate_left; (first | omega | (simp <;> omega)); rotate_right) | (with_reducible assumption) | (refine Below.trans ?_ (Below.mono (by assumption) ?_); rotate_left; (first | omega | (simp <;> omega)); rotate_right)))⟩
            have b7 : (x.f.s == s'.seq) = true := beq_yes hc
            have N7 := Lib.hid hc
            clear hc
            by_cases hc : s'.cmd = 2
            case neg => as_aux_lemma =>
              have b8 : (s'.cmd == 2) = false := beq_no hc
              have N8 := Lib.hid hc
              clear hc
              go_quiet (fail); go_wp2_with fail; go_meet
              exact ⟨false, rfl, iff_no (fun h => N8.out h.2.2.2.2.2.2.2.2.1), (by repeat (first | (with_reducible exact Below.refl _ _) | (with_reducible refine Below.drew ?_) | (with_reducible refine below_drewN ?_ _) | ((with_reducible refine Below.alloc ?_ ?_ _); rotate_left; (first | omega | (simp <;> omega)); rotate_right) | ((with_reducible refine Below.setCell ?_ ?_ _); rotate_left; (first | omega | (simp <;> omega)); rotate_right) | (with_reducible assumption) | (refine Below.trans ?_ (Below.mono (by assumption) ?_); rotate_left; (first | omega | (simp <;> omega)); rotate_right)))⟩
            have b8 : (s'.cmd == 2) = true := beq_yes hc
            have N8 := Lib.hid hc
            clear hc
            obtain ⟨hb, hhb⟩ : ∃ hb, hb = decide (x.f.f ∈ (Stn.miss s').map (fun (i : Nat) => (i : Int))) := ⟨_, rfl⟩
            have HHB := Lib.hid hhb
            obtain ⟨nm, hnm⟩ : ∃ nm, nm = (Stn.miss s').length := ⟨_, rfl⟩
            have hnm64 : nm ≤ 64 := by rw [hnm]; exact (miss_bd s' HSb.out.inv).1
            have HAS := Lib.hid (show ∀ (W : World) (A : Option Addr) (c : Nat), Ri W W.heap.size A nm ((Stn.miss s').map (fun (i : Nat) => (i : Int))) → Calls Try.prog 17 #[.slice A nm c, .int .i64 x.f.f] W fun e w' => e = .returned (.bool hb) ∧ W = w' from fun W A c hr => by
              rw [hhb]
              exact has_any A nm c _ x.f.f W hr (by omega))
            rw [← hnm] at HMS
            have hbdw : bd < wr.heap.size := by omega
            have hlA := lt_of_block kA3
            have hlR := lt_of_block kR
            clear hhb hnm b3 hlen0
            rw [N3.out] at kA3
            clear cb_0 fb_0 cb_1 fb_1 cb_2 fb_2 cb_3 fb_3 cb_4 fb_4 cb_5 fb_5 cb_6 fb_6 cb_7 fb_7
            have cb_0 := blk_cell kA3 0 rfl; have fb_0 := blk_free kA3 0; have cb_1 := blk_cell kA3 1 rfl; have fb_1 := blk_free kA3 1; have cb_2 := blk_cell kA3 2 rfl; have fb_2 := blk_free kA3 2; have cb_3 := blk_cell kA3 3 rfl; have fb_3 := blk_free kA3 3; have cb_4 := blk_cell kA3 4 rfl; have fb_4 := blk_free kA3 4; have cb_5 := blk_cell kA3 5 rfl; have fb_5 := blk_free kA3 5; have cb_6 := blk_cell kA3 6 rfl; have fb_6 := blk_free kA3 6; have cb_7 := blk_cell kA3 7 rfl; have fb_7 := blk_free kA3 7; have lb := lt_of_block kA3
            go_region_held3 (fun w' => w'.cell? ⟨NA9, 0, none⟩ = some (.int .i64 x.kind) ∧ w'.cell? ⟨NA9, 3, none⟩ = some (.int .i64 x.f.k) ∧ w'.cell? ⟨NA9, 4, none⟩ = some (.int .i64 x.f.f) ∧ w'.cell? ⟨NA9, 6, none⟩ = some (.int .i64 x.f.s) ∧ w'.cell? ⟨NA9, 7, none⟩ = some (.slice (some ⟨bd, od, none⟩) 1 ce) ∧ w'.cell? ⟨R, 3, none⟩ = some (.int .i64 s'.seq) ∧ w'.cell? ⟨R, 6, none⟩ = some (.int .i64 s'.cmd) ∧ w'.cell? ⟨bd, od, none⟩ = some (.int .u8 u)) (first | (refine ⟨?_, ?_, ?_, ?_, ?_, ?_, ?_, ?_⟩ <;> simp [go_sem, *]; done) | go_keep) (first | (go_at_call 14; refine (HMS.out _ (by repeat (first | (with_reducible exact Below.refl _ _) | (with_reducible refine Below.drew ?_) | (with_reducible refine below_drewN ?_ _) | ((with_reducible refine Below.alloc ?_ ?_ _); rotate_left; (first | omega | (simp <;> omega)); rotate_right) | ((with_reducible refine Below.setCell ?_ ?_ _); rotate_left; (first | omega | (simp <;> omega)); rotate_right) | (with_reducible assumption) | (refine Below.trans ?_ (Below.mono (by assumption) ?_); rotate_left; (first | omega | (simp <;> omega)); rotate_right)))).mono ?_; rintro e w6 ⟨A6, c6, rfl, hr6, hb6⟩; have HR6 := Lib.hid hr6; have hz6 := hb6.size; (try simp at hz6); have k6 := blk_below (q := NA9) (by repeat (first | (with_reducible assumption) | ((with_reducible apply blk_far); rotate_left; (first | omega | (simp <;> omega)); rotate_right) | (with_reducible apply blk_drew) | (with_reducible apply blk_drewN) | (with_reducible exact heap_new _ _) | ((with_reducible apply heap_new'); (first | rfl | (simp <;> fail))) | (with_reducible apply blk_alloc))) hb6 (by first | omega | (simp; done) | (simp; omega)); have kR6 := blk_below (q := R) (by repeat (first | (with_reducible assumption) | ((with_reducible apply blk_far); rotate_left; (first | omega | (simp <;> omega)); rotate_right) | (with_reducible apply blk_drew) | (with_reducible apply blk_drewN) | (with_reducible exact heap_new _ _) | ((with_reducible apply heap_new'); (first | rfl | (simp <;> fail))) | (with_reducible apply blk_alloc))) hb6 (by first | omega | (simp; done) | (simp; omega)); have e8 : w6.cell? ⟨bd, od, none⟩ = some (.int .u8 u) := ((bcell hb6).1 bd od (by first | omega | (simp; done) | (simp; omega))).trans (by simp [go_sem, *]); (have ce_0 := blk_cell k6 0 rfl; have fe_0 := blk_free k6 0; have ce_1 := blk_cell k6 1 rfl; have fe_1 := blk_free k6 1; have ce_2 := blk_cell k6 2 rfl; have fe_2 := blk_free k6 2; have ce_3 := blk_cell k6 3 rfl; have fe_3 := blk_free k6 3; have ce_4 := blk_cell k6 4 rfl; have fe_4 := blk_free k6 4; have ce_5 := blk_cell k6 5 rfl; have fe_5 := blk_free k6 5; have ce_6 := blk_cell k6 6 rfl; have fe_6 := blk_free k6 6; have ce_7 := blk_cell k6 7 rfl; have fe_7 := blk_free k6 7; have le := lt_of_block k6); (have cg_0 := blk_cell kR6 0 rfl; have fg_0 := blk_free kR6 0; have cg_1 := blk_cell kR6 1 rfl; have fg_1 := blk_free kR6 1; have cg_2 := blk_cell kR6 2 rfl; have fg_2 := blk_free kR6 2; have cg_3 := blk_cell kR6 3 rfl; have fg_3 := blk_free kR6 3; have cg_4 := blk_cell kR6 4 rfl; have fg_4 := blk_free kR6 4; have cg_5 := blk_cell kR6 5 rfl; have fg_5 := blk_free kR6 5; have cg_6 := blk_cell kR6 6 rfl; have fg_6 := blk_free kR6 6; have cg_7 := blk_cell kR6 7 rfl; have fg_7 := blk_free kR6 7; have cg_8 := blk_cell kR6 8 rfl; have fg_8 := blk_free kR6 8; have cg_9 := blk_cell kR6 9 rfl; have fg_9 := blk_free kR6 9; have cg_10 := blk_cell kR6 10 rfl; have fg_10 := blk_free kR6 10; have lg := lt_of_block kR6); have HB6 := Lib.hid (show Below wr.heap.size wr w6 from (by repeat (first | (with_reducible exact Below.refl _ _) | (with_reducible refine Below.drew ?_) | (with_reducible refine below_drewN ?_ _) | ((with_reducible refine Below.alloc ?_ ?_ _); rotate_left; (first | omega | (simp <;> omega)); rotate_right) | ((with_reducible refine Below.setCell ?_ ?_ _); rotate_left; (first | omega | (simp <;> omega)); rotate_right) | (with_reducible assumption) | (refine Below.trans ?_ (Below.mono (by assumption) ?_); rotate_left; (first | omega | (simp <;> omega)); rotate_right)))); clear hr6 hb6) | (go_at_call 17; refine (HAS.out _ _ _ HR6.out).mono ?_; rintro e w7 ⟨rfl, rfl⟩))
            go_wp2_with fail
            go_meet
            refine ⟨!hb, rfl, ?_, HB6.out⟩
            rw [HHB.out]
            have hf0 : x.f.f = (x.f.f.toNat : Int) := by have := N5.out; omega
            constructor
            · intro h
              refine ⟨rfl, N1.out, N2.out, N3.out, by rw [← HU.out]; exact N4.out, N5.out, by rw [HSN.out]; exact N6.out, N7.out, N8.out, fun hm => ?_⟩
              have hin : x.f.f ∈ (Stn.miss s').map (fun (i : Nat) => (i : Int)) := by rw [hf0]; exact List.mem_map_of_mem hm
              rw [decide_eq_true hin] at h
              cases h
            · intro hh
              have hno : x.f.f ∉ (Stn.miss s').map (fun (i : Nat) => (i : Int)) := fun hm => by
                obtain ⟨y, hy, e⟩ := List.mem_map.1 hm
                exact hh.2.2.2.2.2.2.2.2.2 (by rw [show x.f.f.toNat = y by omega]; exact hy)
              rw [decide_eq_false hno]; rfl
          case rest => as_aux_lemma =>
            obtain ⟨cd, rfl, hcd, hbc⟩ := hcut
            have kRc := blk_below kR hbc (lt_of_block kR)
            have kAc := blk_below kA3 hbc (lt_of_block kA3)
            have HSc := Lib.hid (HSb.out.below hbc hzb)
            have HCD := Lib.hid hcd
            have HBC := Lib.hid hbc
            have KRc := Lib.hid kRc
            have hsn' : s'.n = n := by rw [HX.out.1, Stn.actS_n]; exact HN.out
            have HSN := Lib.hid hsn'
            obtain ⟨P2, hP2⟩ : ∃ P2 : Nat, P2 = 2 ^ n := ⟨_, rfl⟩
            have hpn : (2 : Int) ^ n = (P2 : Int) := by rw [hP2]; simp
            have hp1 : 1 ≤ P2 := by rw [hP2]; exact Nat.two_pow_pos _
            have hp2 : P2 ≤ 256 := by rw [hP2]; exact pow_small n hn8
            have HP2 := Lib.hid hP2
            have hnn64 : min n 64 = n := by omega
            clear ca_0 fa_0 ca_1 fa_1 ca_2 fa_2 ca_3 fa_3 ca_4 fa_4 ca_5 fa_5 ca_6 fa_6 ca_7 fa_7 ca_8 fa_8 ca_9 fa_9 ca_10 fa_10
            clear cb_0 fb_0 cb_1 fb_1 cb_2 fb_2 cb_3 fb_3 cb_4 fb_4 cb_5 fb_5 cb_6 fb_6 cb_7 fb_7
            clear hcd hbc kRc kR kA3 hP2 hsn' HMS
            cases cd
            · as_aux_lemma =>
              have HHI := Lib.hid (HST.out.2 (fun h => by have := HCD.out.2 h; cases this))
              clear kAc HST HCD
              generalize mk = M at HHI ⊢
              go_wp2_with fail
              refine (ST.out _ HBC.out).mono ?_
              rintro e w' ⟨rfl, rfl⟩
              by_cases hsm : s'.st = s.st
              · as_aux_lemma =>
                have e1 : (s'.st == s.st) = true := beq_yes hsm
                have e2 : (s'.st != s.st) = false := by simp [hsm]
                clear hsm
                go_wp2_with fail
                go_roundw
                case rel => exact ⟨i + 1, s', M, gk, rfl, rfl, by go_num, by omega, Lib.hid ⟨_, _, _, _, _, _, HSc.out, KRc.out, HHI.out, HSN.out⟩⟩
                case measure => simp [intOf]; omega
              have e1 : (s'.st == s.st) = false := beq_no hsm
              have e2 : (s'.st != s.st) = true := by simp [hsm]
              clear hsm
              by_cases hrg : 4 ≤ s'.st ∧ s'.st ≤ 7
              case neg => as_aux_lemma =>
                have f5 : (s'.st == 5) = false := beq_no (by omega)
                have f6 : (s'.st == 6) = false := beq_no (by omega)
                have f7 : (s'.st == 7) = false := beq_no (by omega)
                have f4 : (s'.st == 4) = false := beq_no (by omega)
                clear hrg
                go_wp2_with fail
                go_roundw
                case rel => exact ⟨i + 1, s', M, gk, rfl, rfl, by go_num, by omega, Lib.hid ⟨_, _, _, _, _, _, HSc.out, KRc.out, HHI.out, HSN.out⟩⟩
                case measure => simp [intOf]; omega
              have hM : M = P2 - 1 := by
                rw [HP2.out, ← HSN.out]
                exact HHI.out.full hrg.1 hrg.2
              have hM2 : ((M : Int) == (P2 : Int) - 1) = true := beq_yes (by omega)
              have hM3 : ((M : Int) != (P2 : Int) - 1) = false := by
                rw [show (P2 : Int) - 1 = (M : Int) by omega]; simp
              have hr : s'.st = 4 ∨ s'.st = 5 ∨ s'.st = 6 ∨ s'.st = 7 := by omega
              clear hrg hM
              rcases hr with hr | hr | hr | hr
              · as_aux_lemma =>
                have f4 : (s'.st == 4) = true := beq_yes hr
                have f5 : (s'.st == 5) = false := beq_no (by omega)
                have f6 : (s'.st == 6) = false := beq_no (by omega)
                have f7 : (s'.st == 7) = false := beq_no (by omega)
                clear hr
                go_wp2_with fail
                go_roundw
                case rel => exact ⟨i + 1, s', M, gk, rfl, rfl, by go_num, by omega, Lib.hid ⟨_, _, _, _, _, _, HSc.out, KRc.out, HHI.out, HSN.out⟩⟩
                case measure => simp [intOf]; omega
              · as_aux_lemma =>
                have f4 : (s'.st == 4) = false := beq_no (by omega)
                have f5 : (s'.st == 5) = true := beq_yes hr
                have f6 : (s'.st == 6) = false := beq_no (by omega)
                have f7 : (s'.st == 7) = false := beq_no (by omega)
                clear hr
                go_wp2_with fail
                go_roundw
                case rel => exact ⟨i + 1, s', M, gk, rfl, rfl, by go_num, by omega, Lib.hid ⟨_, _, _, _, _, _, HSc.out, KRc.out, HHI.out, HSN.out⟩⟩
                case measure => simp [intOf]; omega
              · as_aux_lemma =>
                have f4 : (s'.st == 4) = false := beq_no (by omega)
                have f5 : (s'.st == 5) = false := beq_no (by omega)
                have f6 : (s'.st == 6) = true := beq_yes hr
                have f7 : (s'.st == 7) = false := beq_no (by omega)
                clear hr
                go_wp2_with fail
                go_roundw
                case rel => exact ⟨i + 1, s', M, gk, rfl, rfl, by go_num, by omega, Lib.hid ⟨_, _, _, _, _, _, HSc.out, KRc.out, HHI.out, HSN.out⟩⟩
                case measure => simp [intOf]; omega
              · as_aux_lemma =>
                have f4 : (s'.st == 4) = false := beq_no (by omega)
                have f5 : (s'.st == 5) = false := beq_no (by omega)
                have f6 : (s'.st == 6) = false := beq_no (by omega)
                have f7 : (s'.st == 7) = true := beq_yes hr
                clear hr
                go_wp2_with fail
                go_roundw
                case rel => exact ⟨i + 1, s', M, gk, rfl, rfl, by go_num, by omega, Lib.hid ⟨_, _, _, _, _, _, HSc.out, KRc.out, HHI.out, HSN.out⟩⟩
                case measure => simp [intOf]; omega
            · as_aux_lemma =>
              have hcond := HCD.out.1 rfl
              have hhi := HST.out.1 hcond
              obtain ⟨i0, hi0⟩ : ∃ i0 : Nat, x.f.f = (i0 : Int) + 1 := ⟨(x.f.f - 1).toNat, by have := hcond.2.2.2.2.2.1; omega⟩
              have hmk8 : mk < 256 := by
                have h1 := hhi.lt
                rw [HSN.out] at h1
                have h2 := pow_small n hn8
                have h3 : mk ≤ mk ||| 2 ^ (x.f.f - 1).toNat := Nat.left_le_or
                omega
              have hi8 : i0 < 8 := by have := hcond.2.2.2.2.2.2.1; rw [HSN.out] at this; omega
              rw [show (x.f.f - 1).toNat = i0 by omega] at hhi
              rw [hi0] at kAc
              obtain ⟨Q, hQ⟩ : ∃ Q : Nat, Q = 2 ^ i0 := ⟨_, rfl⟩
              have hqn : (2 : Int) ^ i0 = (Q : Int) := by rw [hQ]; simp
              have hq2 : Q ≤ 256 := by rw [hQ]; exact pow_small i0 (by omega)
              rw [← hQ] at hhi
              have hor : bits .or .i64 (mk : Int) (Q : Int) = ((mk ||| Q : Nat) : Int) := or_bits mk Q (by omega) (by omega)
              have hwi : IntKind.i64.wrap ((i0 : Int) + 1 - 1) = i0 := by rw [IntWalk.i64_in _ (by omega)]; omega
              have hmi : min i0 64 = i0 := by omega
              have HHI := Lib.hid hhi
              clear hcond hhi hi0 hQ HST HCD
              have cq_0 := blk_cell kAc 0 rfl; have fq_0 := blk_free kAc 0; have cq_1 := blk_cell kAc 1 rfl; have fq_1 := blk_free kAc 1; have cq_2 := blk_cell kAc 2 rfl; have fq_2 := blk_free kAc 2; have cq_3 := blk_cell kAc 3 rfl; have fq_3 := blk_free kAc 3; have cq_4 := blk_cell kAc 4 rfl; have fq_4 := blk_free kAc 4; have cq_5 := blk_cell kAc 5 rfl; have fq_5 := blk_free kAc 5; have cq_6 := blk_cell kAc 6 rfl; have fq_6 := blk_free kAc 6; have cq_7 := blk_cell kAc 7 rfl; have fq_7 := blk_free kAc 7; have lq := lt_of_block kAc
              generalize mk ||| Q = M at hor HHI
              go_wp2_with fail
              refine (ST.out _ HBC.out).mono ?_
              rintro e w' ⟨rfl, rfl⟩
              by_cases hsm : s'.st = s.st
              · as_aux_lemma =>
                have e1 : (s'.st == s.st) = true := beq_yes hsm
                have e2 : (s'.st != s.st) = false := by simp [hsm]
                clear hsm
                go_wp2_with fail
                go_roundw
                case rel => exact ⟨i + 1, s', M, gk, rfl, rfl, by go_num, by omega, Lib.hid ⟨_, _, _, _, _, _, HSc.out, KRc.out, HHI.out, HSN.out⟩⟩
                case measure => simp [intOf]; omega
              have e1 : (s'.st == s.st) = false := beq_no hsm
              have e2 : (s'.st != s.st) = true := by simp [hsm]
              clear hsm
              by_cases hrg : 4 ≤ s'.st ∧ s'.st ≤ 7
              case neg => as_aux_lemma =>
                have f5 : (s'.st == 5) = false := beq_no (by omega)
                have f6 : (s'.st == 6) = false := beq_no (by omega)
                have f7 : (s'.st == 7) = false := beq_no (by omega)
                have f4 : (s'.st == 4) = false := beq_no (by omega)
                clear hrg
                go_wp2_with fail
                go_roundw
                case rel => exact ⟨i + 1, s', M, gk, rfl, rfl, by go_num, by omega, Lib.hid ⟨_, _, _, _, _, _, HSc.out, KRc.out, HHI.out, HSN.out⟩⟩
                case measure => simp [intOf]; omega
              have hM : M = P2 - 1 := by
                rw [HP2.out, ← HSN.out]
                exact HHI.out.full hrg.1 hrg.2
              have hM2 : ((M : Int) == (P2 : Int) - 1) = true := beq_yes (by omega)
              have hM3 : ((M : Int) != (P2 : Int) - 1) = false := by
                rw [show (P2 : Int) - 1 = (M : Int) by omega]; simp
              have hr : s'.st = 4 ∨ s'.st = 5 ∨ s'.st = 6 ∨ s'.st = 7 := by omega
              clear hrg hM
              rcases hr with hr | hr | hr | hr
              · as_aux_lemma =>
                have f4 : (s'.st == 4) = true := beq_yes hr
                have f5 : (s'.st == 5) = false := beq_no (by omega)
                have f6 : (s'.st == 6) = false := beq_no (by omega)
                have f7 : (s'.st == 7) = false := beq_no (by omega)
                clear hr
                go_wp2_with fail
                go_roundw
                case rel => exact ⟨i + 1, s', M, gk, rfl, rfl, by go_num, by omega, Lib.hid ⟨_, _, _, _, _, _, HSc.out, KRc.out, HHI.out, HSN.out⟩⟩
                case measure => simp [intOf]; omega
              · as_aux_lemma =>
                have f4 : (s'.st == 4) = false := beq_no (by omega)
                have f5 : (s'.st == 5) = true := beq_yes hr
                have f6 : (s'.st == 6) = false := beq_no (by omega)
                have f7 : (s'.st == 7) = false := beq_no (by omega)
                clear hr
                go_wp2_with fail
                go_roundw
                case rel => exact ⟨i + 1, s', M, gk, rfl, rfl, by go_num, by omega, Lib.hid ⟨_, _, _, _, _, _, HSc.out, KRc.out, HHI.out, HSN.out⟩⟩
                case measure => simp [intOf]; omega
              · as_aux_lemma =>
                have f4 : (s'.st == 4) = false := beq_no (by omega)
                have f5 : (s'.st == 5) = false := beq_no (by omega)
                have f6 : (s'.st == 6) = true := beq_yes hr
                have f7 : (s'.st == 7) = false := beq_no (by omega)
                clear hr
                go_wp2_with fail
                go_roundw
                case rel => exact ⟨i + 1, s', M, gk, rfl, rfl, by go_num, by omega, Lib.hid ⟨_, _, _, _, _, _, HSc.out, KRc.out, HHI.out, HSN.out⟩⟩
                case measure => simp [intOf]; omega
              · as_aux_lemma =>
                have f4 : (s'.st == 4) = false := beq_no (by omega)
                have f5 : (s'.st == 5) = false := beq_no (by omega)
                have f6 : (s'.st == 6) = false := beq_no (by omega)
                have f7 : (s'.st == 7) = true := beq_yes hr
                clear hr
                go_wp2_with fail
                go_roundw
                case rel => exact ⟨i + 1, s', M, gk, rfl, rfl, by go_num, by omega, Lib.hid ⟨_, _, _, _, _, _, HSc.out, KRc.out, HHI.out, HSN.out⟩⟩
                case measure => simp [intOf]; omega
    · obtain rfl : i = len1 := by omega
      have hB' := HS.out.lt
      go_wp2_with fail
      refine (known_true _).mono ?_
      rintro e w3 ⟨rfl, hb3⟩
      go_wp2_with fail
      go_ret
      exact ⟨rfl, hB'.trans (hb3.mono hB'.size)⟩
theorem own : ownKnob Try.prog.godebug = none := by kernel_rfl
theorem laidOut : laidOutB Try.prog = true := by kernel_rfl
set_option maxRecDepth 100000 in
theorem lifted (os : Os) (started : os.Started) (H : Type) (enc : TypeId × Value → H) :
    ReturnsInHanded {} Try.checked os 7 .any (Rows.stationHoldsSpec.pre6 enc Try.prog Try.f7 Rows.stationHoldsRow.domain false) (Rows.stationHoldsSpec.post enc Try.prog Try.f7 false true false false) := by
  refine returnsInHanded_of_change (C := Try.checked) own started (by kernel_rfl) Try.func7
    (ChangeSpec.witness6 (enc := enc) (C := Try.checked) false ⟨#[], #[.int .i64 0, .slice none 0 0], []⟩ 8 (by kernel_rfl) (by kernel_rfl) (by kernel_rfl) (by kernel_rfl)) ?_
  intro W base args ds gs before hval0 hW hcnd _
  have hval : ∀ (j : Nat) t v, Try.f7.params[j]? = some t → args[j]? = some v → Value.okWide Try.prog W .any base t v := hval0
  have hW' := hW
  obtain ⟨p, q, hA0, hV, rfl, hfz, hnd⟩ := hW
  have hA : DataW.TrodAll enc Try.prog W 0 (fun _ => true) true Try.f7.params.toList args.toList ds p := hA0
  rw [Try.params7] at hA hval
  obtain ⟨v0, vs0, d0, ds0, p0, q0, hargs, rfl, rfl, h0, r0⟩ := trodAll_cons hA
  obtain ⟨v1, vs1, d1, ds1, p1, q1, rfl, rfl, rfl, h1, r1⟩ := trodAll_cons r0
  obtain ⟨rfl, rfl, rfl⟩ := trodAll_nil r1
  obtain rfl : args = #[v0, v1] := by cases args; simp_all
  obtain ⟨rfl, rfl⟩ := trodVars_none hV
  have k0 := h0
  have lt0 : ∀ x ∈ p0, x.block < W.heap.size := by obtain ⟨m, hm⟩ := k0; exact DataW.trod_lt m _ _ _ hm
  obtain ⟨a0, rfl, _, _, w0⟩ := open_int Try.underlying3 (hval 0 3 v0 rfl rfl) h0
  have k1 := h1
  have lt1 : ∀ x ∈ p1, x.block < W.heap.size := by obtain ⟨m, hm⟩ := k1; exact DataW.trod_lt m _ _ _ hm
  obtain ⟨a1, len1, cap1, rfl⟩ := okWide_slice Try.underlying34 (hval 1 34 v1 rfl rfl)
  obtain ⟨fuel1, hf1⟩ := h1
  obtain ⟨xa1, xlen1, xcap1, l1, xe1, ro1, wo1, fo1⟩ := lacts_of hf1
  obtain ⟨rfl, rfl, rfl⟩ : a1 = xa1 ∧ len1 = xlen1 ∧ cap1 = xcap1 := by injection xe1 with e1 e2 e3; exact ⟨e1, e2, e3⟩
  clear hA0 hval0
  refine (walk a0 a1 len1 cap1 l1 W w0 wo1 ro1 fo1).mono fun e W' ⟨he, bel⟩ => ?_
  subst he
  exact ⟨_, rfl, _, _, _, [], _, [], hW', trodAll_mk1 (shut_bool Try.underlying4 _), (trodAll_cons_mk (Below.trod laidOut (by kernel_rfl) (of_decide_eq_true (by kernel_rfl)) k0 bel lt0) (trodAll_cons_mk (Below.trod laidOut (by kernel_rfl) (of_decide_eq_true (by kernel_rfl)) k1 bel lt1) trodAll_mk0)), rfl, bel.frame _, fun h => by cases h⟩
theorem over : Rows.stationHoldsRow.holds Try.pinned (OpenSpec.ofChange Rows.stationHoldsSpec) :=
  OpenClaim.holds_of_wide 7 Try.f7 rfl rfl rfl rfl rfl rfl rfl ⟨rfl, rfl, rfl, rfl, rfl⟩ rfl rfl rfl rfl rfl (by kernel_rfl) Try.func7 (by kernel_rfl)
    (of_decide_eq_true (by kernel_rfl)) (by unfold Func.isWrapper; first | (rw [if_pos (by decide +kernel)]; kernel_rfl) | (rw [if_neg (by decide +kernel)]; exact ⟨rfl, rfl⟩))
    (fun os started H enc _ => lifted os started H enc)
theorem proved : Rows.StationHoldsSaid := over
end Go.Proofs.Ytiidkmnagfhgiaa.lawStationHolds

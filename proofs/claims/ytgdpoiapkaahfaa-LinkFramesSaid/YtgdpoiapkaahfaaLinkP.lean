/- A link, in plain numbers and lists: messages in the order in which they were put, and sorted. -/
import Derived.Test.YtgdpoiapkaahfaaSame
namespace Go.Proofs.Ytgdpoiapkaahfaa
namespace Lnk
open Go.RowKit
set_option linter.unusedSimpArgs false
set_option linter.unusedVariables false
/-- a message: when it arrives, and its bytes -/
abbrev Msg := Int × List Int
/-- a message behind all that arrive not later -/
def ins (m : Msg) : List Msg → List Msg
  | [] => [m]
  | a :: l => if a.1 ≤ m.1 then a :: ins m l else m :: a :: l
theorem ins_le {m a : Msg} (l : List Msg) (h : a.1 ≤ m.1) : ins m (a :: l) = a :: ins m l := by simp only [ins, if_pos h]
theorem ins_gt {m a : Msg} (l : List Msg) (h : ¬ a.1 ≤ m.1) : ins m (a :: l) = m :: a :: l := by simp only [ins, if_neg h]
def srt (u : List Msg) : List Msg := u.foldl (fun l m => ins m l) []
def Sorted (l : List Msg) : Prop := l.Pairwise (fun a b => a.1 ≤ b.1)
theorem length_ins (m : Msg) : ∀ l, (ins m l).length = l.length + 1
  | [] => rfl
  | a :: l => by
    unfold ins
    split
    · simp [length_ins m l]
    · simp
theorem mem_ins {m x : Msg} : ∀ {l}, x ∈ ins m l ↔ x = m ∨ x ∈ l
  | [] => by simp [ins]
  | a :: l => by
    unfold ins
    split
    · simp only [List.mem_cons, mem_ins (l := l)]
      constructor
      · rintro (h | h | h) <;> simp [h]
      · rintro (h | h | h) <;> simp [h]
    · simp only [List.mem_cons]
theorem srt_snoc (u : List Msg) (m : Msg) : srt (u ++ [m]) = ins m (srt u) := by simp [srt, List.foldl_append]
theorem srt_nil : srt [] = [] := rfl
theorem rev_ind {P : List Msg → Prop} (h0 : P []) (h1 : ∀ u m, P u → P (u ++ [m])) (u : List Msg) : P u := by
  suffices ∀ v : List Msg, P v.reverse by simpa using this u.reverse
  intro v
  induction v with
  | nil => simpa using h0
  | cons m v ih => simpa using h1 _ m ih
theorem length_srt (u : List Msg) : (srt u).length = u.length := by
  refine rev_ind (P := fun u => (srt u).length = u.length) rfl ?_ u
  intro u m h
  rw [srt_snoc, length_ins, h]; simp
theorem mem_srt {x : Msg} {u : List Msg} : x ∈ srt u ↔ x ∈ u := by
  refine rev_ind (P := fun u => x ∈ srt u ↔ x ∈ u) (by simp [srt]) ?_ u
  intro u m h
  rw [srt_snoc, mem_ins, h]
  simp [or_comm]
theorem sorted_ins {m : Msg} : ∀ {l}, Sorted l → Sorted (ins m l)
  | [], _ => by simp [ins, Sorted]
  | a :: l, h => by
    unfold Sorted at h ⊢
    rw [List.pairwise_cons] at h
    unfold ins
    split
    · rename_i hc
      rw [List.pairwise_cons]
      refine ⟨fun b hb => ?_, sorted_ins (l := l) h.2⟩
      rcases mem_ins.1 hb with rfl | hb
      · exact hc
      · exact h.1 b hb
    · rename_i hc
      rw [List.pairwise_cons, List.pairwise_cons]
      refine ⟨fun b hb => ?_, h.1, h.2⟩
      rcases List.mem_cons.1 hb with rfl | hb
      · omega
      · have := h.1 b hb; omega
theorem sorted_srt (u : List Msg) : Sorted (srt u) := by
  refine rev_ind (P := fun u => Sorted (srt u)) (by simp [srt, Sorted]) ?_ u
  intro u m h
  rw [srt_snoc]
  exact sorted_ins h
theorem filter_ins (p : Msg → Bool) {m : Msg} : ∀ {l}, Sorted l → (ins m l).filter p = if p m then ins m (l.filter p) else l.filter p
  | [], _ => by simp [ins, List.filter_cons]
  | a :: l, h => by
    have h' := h
    unfold Sorted at h
    rw [List.pairwise_cons] at h
    by_cases hc : a.1 ≤ m.1
    · rw [ins_le _ hc, List.filter_cons, filter_ins p (l := l) h.2, List.filter_cons]
      by_cases ha : p a = true
      · rw [if_pos ha, if_pos ha]
        by_cases hm : p m = true
        · rw [if_pos hm, if_pos hm, ins_le _ hc]
        · rw [if_neg hm, if_neg hm]
      · rw [if_neg ha, if_neg ha]
    · rw [ins_gt _ hc]
      have hl : ∀ b ∈ (a :: l).filter p, m.1 < b.1 := by
        intro b hb
        rw [List.mem_filter] at hb
        rcases List.mem_cons.1 hb.1 with rfl | hb'
        · omega
        · have := h.1 b hb'; omega
      have e : ins m ((a :: l).filter p) = m :: (a :: l).filter p := by
        generalize (a :: l).filter p = q at hl
        cases q with
        | nil => rfl
        | cons c q => rw [ins_gt _ (by have := hl c (by simp); omega)]
      rw [e, List.filter_cons]
theorem filter_srt (p : Msg → Bool) (u : List Msg) : srt (u.filter p) = (srt u).filter p := by
  refine rev_ind (P := fun u => srt (u.filter p) = (srt u).filter p) rfl ?_ u
  intro u m h
  rw [srt_snoc, filter_ins p (sorted_srt u), List.filter_append]
  by_cases hm : p m = true
  · rw [if_pos hm, ← h]
    simp [List.filter_cons, hm, srt_snoc]
  · rw [if_neg hm, ← h]
    simp [List.filter_cons, hm]
theorem ins_at {m : Msg} : ∀ {l : List Msg} {i : Nat}, i ≤ l.length → (∀ j (h : j < l.length), j < i → l[j].1 ≤ m.1) → (∀ (h : i < l.length), m.1 < l[i].1) → ins m l = l.take i ++ m :: l.drop i
  | [], i, hi, _, _ => by
    have : i = 0 := by simpa using hi
    subst this; rfl
  | a :: l, 0, _, _, h2 => by
    have h3 : m.1 < a.1 := h2 (by simp)
    rw [ins_gt _ (by omega)]
    rfl
  | a :: l, i + 1, hi, h1, h2 => by
    have h0 : a.1 ≤ m.1 := h1 0 (by simp) (by omega)
    rw [ins_le _ h0, ins_at (l := l) (i := i) (by simpa using hi) (fun j hj hji => h1 (j + 1) (by simpa using hj) (by omega)) (fun h => h2 (by simpa using h))]
    rfl
/-- the place that a search from the end finds -/
theorem ins_find {m : Msg} {l : List Msg} (hs : Sorted l) {i : Nat} (hi : i ≤ l.length) (h1 : ∀ (h : 0 < i), (l[i-1]'(by omega)).1 ≤ m.1) (h2 : ∀ j (h : j < l.length), i ≤ j → m.1 < l[j].1) : ins m l = l.take i ++ m :: l.drop i := by
  refine ins_at hi (fun j hj hji => ?_) (fun h => h2 i h (Nat.le_refl _))
  have h0 := h1 (by omega)
  rcases Nat.lt_or_ge j (i - 1) with h | h
  · have := List.pairwise_iff_getElem.1 hs j (i - 1) hj (by omega) h
    omega
  · have : j = i - 1 := by omega
    subst this
    exact h0
/-- a prefix of a sorted list: what arrives up to a time, and what is left -/
theorem cut_srt {l : List Msg} (hs : Sorted l) {k : Nat} {t : Int} (hk : k ≤ l.length) (h1 : ∀ j (h : j < l.length), j < k → l[j].1 ≤ t) (h2 : ∀ (h : k < l.length), t < l[k].1) :
    l.filter (fun m => decide (m.1 ≤ t)) = l.take k ∧ l.filter (fun m => decide (t < m.1)) = l.drop k := by
  have hA : ∀ x ∈ l.take k, x.1 ≤ t := by
    intro x hx
    obtain ⟨j, hj, rfl⟩ := List.getElem_of_mem hx
    rw [List.getElem_take]
    exact h1 j _ (by simp at hj; omega)
  have hB : ∀ x ∈ l.drop k, t < x.1 := by
    intro x hx
    obtain ⟨j, hj, rfl⟩ := List.getElem_of_mem hx
    rw [List.getElem_drop]
    simp at hj
    have h0 := h2 (by omega)
    rcases Nat.eq_zero_or_pos j with h | h
    · subst h; simpa using h0
    · have := List.pairwise_iff_getElem.1 hs k (k + j) (by omega) (by omega) (by omega)
      omega
  constructor
  · conv => lhs; rw [← List.take_append_drop k l]
    rw [List.filter_append, List.filter_eq_self.2 (fun x hx => by simpa using hA x hx), List.filter_eq_nil_iff.2 (fun x hx => by have := hB x hx; simp; omega), List.append_nil]
  · conv => lhs; rw [← List.take_append_drop k l]
    rw [List.filter_append, List.filter_eq_nil_iff.2 (fun x hx => by have := hA x hx; simp; omega), List.filter_eq_self.2 (fun x hx => by simpa using hB x hx), List.nil_append]
/-- the rules -/
structure Ru where
  loss : Int
  twice : Int
  least : Int
  most : Int
  seed : Int
def vld (r : Ru) : Bool := decide ((0 ≤ r.loss ∧ r.loss ≤ 1000) ∧ (0 ≤ r.twice ∧ r.twice ≤ 1000) ∧ (0 ≤ r.least ∧ r.least ≤ r.most) ∧ r.most ≤ 60000 ∧ 0 ≤ r.seed)
theorem vld_iff {r : Ru} : vld r = true ↔ ((0 ≤ r.loss ∧ r.loss ≤ 1000) ∧ (0 ≤ r.twice ∧ r.twice ≤ 1000) ∧ (0 ≤ r.least ∧ r.least ≤ r.most) ∧ r.most ≤ 60000 ∧ 0 ≤ r.seed) := by unfold vld; exact decide_eq_true_iff
/-- what a link holds; the messages in the order in which they were put -/
structure St where
  x : Int
  now : Int
  u : List Msg
  sent : Int
  lost : Int
  dbl : Int
def nx (x : Int) : Int := IntKind.u64.wrap (6364136223846793005 * x + 1442695040888963407)
def dr (x : Int) : Int := nx x / 8589934592
theorem nx_bd (x : Int) : 0 ≤ nx x ∧ nx x ≤ 18446744073709551615 := by unfold nx; rw [IntKind.wrap_u64]; omega
theorem dr_bd (x : Int) : 0 ≤ dr x ∧ dr x ≤ 2147483647 := by have := nx_bd x; unfold dr; omega
def put (r : Ru) (s : St) (b : List Int) : St := { s with x := nx s.x, u := s.u ++ [(s.now + r.least + dr s.x % (r.most - r.least + 1), b)] }
def sendE (s : St) (now : Int) (n : Nat) : Int := if ¬ (1 ≤ n ∧ n ≤ 128) then 2 else if ¬ (s.now ≤ now ∧ now ≤ 1073741824) then 3 else if 999 ≤ s.u.length then 7 else 0
def send0 (s : St) (now : Int) : St := { s with now := now, sent := s.sent + 1, x := nx s.x }
def sendL (r : Ru) (s : St) : Bool := decide (dr s.x % 1000 < r.loss)
def send1 (r : Ru) (s : St) (now : Int) (b : List Int) : St := put r (send0 s now) b
def sendT (r : Ru) (s : St) : Bool := decide (dr s.x % 1000 < r.twice)
def send2 (r : Ru) (s : St) (b : List Int) : St := put r { s with x := nx s.x, dbl := s.dbl + 1 } b
def send (r : Ru) (s : St) (now : Int) (b : List Int) : St :=
  if sendE s now b.length = 0 then
    if sendL r s then { send0 s now with lost := s.lost + 1 }
    else if sendT r (send1 r s now b) then send2 r (send1 r s now b) b else { send1 r s now b with x := nx (send1 r s now b).x }
  else s
def recvE (s : St) (now : Int) : Int := if s.now ≤ now ∧ now ≤ 1073741824 then 0 else 3
def got (s : St) (now : Int) : List Msg := if recvE s now = 0 then srt (s.u.filter (fun m => decide (m.1 ≤ now))) else []
def recv (s : St) (now : Int) : St := if recvE s now = 0 then { s with now := now, u := s.u.filter (fun m => decide (now < m.1)) } else s
def nextN (s : St) : Int := match srt s.u with | [] => 0 | m :: _ => m.1
def nextE (s : St) : Int := if s.u.length = 0 then 9 else 0
def MOk (m : Msg) : Prop := 0 ≤ m.1 ∧ m.1 ≤ 1073801824 ∧ By m.2 ∧ m.2.length ≤ 128
/-- what a link keeps -/
def Inv (s : St) : Prop := (0 ≤ s.x ∧ s.x ≤ 18446744073709551615) ∧ (0 ≤ s.now ∧ s.now ≤ 1073741824) ∧ s.u.length ≤ 1000 ∧ (∀ m ∈ s.u, MOk m) ∧ (0 ≤ s.sent ∧ s.sent ≤ 1000000000) ∧ (0 ≤ s.lost ∧ s.lost ≤ s.sent) ∧ (0 ≤ s.dbl ∧ s.dbl ≤ s.sent)
def new (r : Ru) : St := ⟨r.seed, 0, [], 0, 0, 0⟩
end Lnk
end Go.Proofs.Ytgdpoiapkaahfaa

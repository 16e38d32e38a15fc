/- The theorem of the links, plain: what arrives, and when. -/
import Derived.Test.YtgdpoiapkaahfaaLinkF
namespace Go.Proofs.Ytgdpoiapkaahfaa
namespace Lnk
open Go.RowKit
set_option linter.unusedSimpArgs false
set_option linter.unusedVariables false
def sumT (ws : List Int) (i : Nat) : Int := (ws.take i).sum
theorem sumT_zero (ws : List Int) : sumT ws 0 = 0 := by simp [sumT]
theorem sumT_succ (ws : List Int) (i : Nat) (h : i < ws.length) : sumT ws (i + 1) = sumT ws i + ws.getD i 0 := by
  unfold sumT
  rw [List.take_succ_eq_append_getElem h, List.sum_append]
  simp [List.getD, List.getElem?_eq_getElem h]
theorem sumT_step (ws : List Int) (hw : By ws) (i : Nat) : sumT ws i ≤ sumT ws (i + 1) ∧ sumT ws (i + 1) ≤ sumT ws i + 255 := by
  rcases Nat.lt_or_ge i ws.length with h | h
  · rw [sumT_succ ws i h]
    have := hw.at_ i
    omega
  · unfold sumT
    rw [List.take_of_length_le h, List.take_of_length_le (by omega)]
    omega
theorem sumT_mono (ws : List Int) (hw : By ws) : ∀ (d i : Nat), sumT ws i ≤ sumT ws (i + d)
  | 0, i => Int.le_refl _
  | d + 1, i => Int.le_trans (sumT_mono ws hw d i) (sumT_step ws hw (i + d)).1
theorem sumT_le (ws : List Int) (hw : By ws) {i j : Nat} (h : i ≤ j) : sumT ws i ≤ sumT ws j := by
  have := sumT_mono ws hw (j - i) i
  rwa [show i + (j - i) = j by omega] at this
theorem sumT_bd (ws : List Int) (hw : By ws) : ∀ i : Nat, 0 ≤ sumT ws i ∧ sumT ws i ≤ 255 * i
  | 0 => by rw [sumT_zero]; omega
  | i + 1 => by
    have h1 := sumT_bd ws hw i
    have h2 := sumT_step ws hw i
    omega
def key (m : Msg) : Int := m.2.getD 0 0
/-- a message that was sent as number k, and arrives in time -/
def HM (r : Ru) (ws : List Int) (i : Nat) (m : Msg) : Prop := ∃ k : Nat, k < i ∧ m.2 = [(k : Int)] ∧ sumT ws (k + 1) + r.least ≤ m.1 ∧ m.1 ≤ sumT ws (k + 1) + r.most
theorem HM.more {r : Ru} {ws : List Int} {i j : Nat} {m : Msg} (h : HM r ws i m) (hij : i ≤ j) : HM r ws j m := by
  obtain ⟨k, h1, h2⟩ := h
  exact ⟨k, by omega, h2⟩
def Ord (u : List Msg) : Prop := u.Pairwise (fun a b => key a ≤ key b)
theorem srt_id : ∀ {u : List Msg}, Sorted u → srt u = u := by
  intro u
  refine rev_ind (P := fun u => Sorted u → srt u = u) (fun _ => rfl) ?_ u
  intro u m ih h
  unfold Sorted at h
  rw [List.pairwise_append] at h
  rw [srt_snoc, ih h.1]
  have h3 : ∀ a ∈ u, a.1 ≤ m.1 := fun a ha => h.2.2 a ha m (by simp)
  clear ih h
  induction u with
  | nil => rfl
  | cons a u ih =>
    rw [ins_le _ (h3 a (by simp)), ih (fun b hb => h3 b (by simp [hb]))]
    rfl
theorem sorted_ord {r : Ru} {ws : List Int} (hw : By ws) {u : List Msg} {i : Nat} (he : r.least = r.most) (hm : ∀ m ∈ u, HM r ws i m) (ho : Ord u) : Sorted u := by
  unfold Sorted
  unfold Ord at ho
  refine List.Pairwise.imp_of_mem ?_ ho
  intro a b ha hb hab
  obtain ⟨k, h1, h2, h3, h4⟩ := hm a ha
  obtain ⟨j, g1, g2, g3, g4⟩ := hm b hb
  have e1 : key a = k := by unfold key; rw [h2]; rfl
  have e2 : key b = j := by unfold key; rw [g2]; rfl
  have := sumT_le ws hw (show k + 1 ≤ j + 1 by omega)
  omega
/-- what a link holds behind i sends -/
structure HI (r : Ru) (ws : List Int) (s : St) (i : Nat) : Prop where
  sent : s.sent = i
  now : 0 ≤ s.now ∧ s.now ≤ sumT ws i
  msgs : ∀ m ∈ s.u, HM r ws i m
  ord : Ord s.u
  len : (s.u.length : Int) = s.sent - s.lost + s.dbl
  lost : 0 ≤ s.lost ∧ s.lost ≤ s.sent
  dbl : 0 ≤ s.dbl ∧ s.dbl ≤ s.sent - s.lost
  l0 : r.loss = 0 → s.lost = 0
  l1 : r.loss = 1000 → s.lost = s.sent
  t0 : r.twice = 0 → s.dbl = 0
  t1 : r.twice = 1000 → s.dbl = s.sent - s.lost
theorem hi_new (r : Ru) (ws : List Int) : HI r ws (new r) 0 := by
  refine ⟨rfl, ⟨by simp [new], by simp [new, sumT_zero]⟩, by simp [new], by simp [new, Ord], by simp [new], by simp [new], by simp [new], fun _ => rfl, fun _ => rfl, fun _ => rfl, fun _ => by simp [new]⟩
theorem HI.small {r : Ru} {ws : List Int} {s : St} {i : Nat} (h : HI r ws s i) (hi : i ≤ 40) : s.u.length ≤ 80 := by
  have h1 := h.len; have h2 := h.lost; have h3 := h.dbl; have h4 := h.sent
  omega
theorem HI.ok {r : Ru} {ws : List Int} (hw : By ws) {s : St} {i : Nat} (h : HI r ws s i) (hi : i < 40) : sendE s (sumT ws (i + 1)) 1 = 0 := by
  have h1 := h.small (by omega)
  have h2 := h.now
  have h3 := sumT_step ws hw i
  have h4 := sumT_bd ws hw (i + 1)
  unfold sendE
  rw [if_neg (by omega), if_neg (by omega), if_neg (by omega)]
theorem put_ok {r : Ru} (hr : vld r = true) {ws : List Int} {s : St} {i : Nat} (hn : s.now = sumT ws (i + 1)) (hm : ∀ m ∈ s.u, HM r ws (i + 1) m) (ho : Ord s.u) : (∀ m ∈ (put r s [(i : Int)]).u, HM r ws (i + 1) m) ∧ Ord (put r s [(i : Int)]).u := by
  rw [vld_iff] at hr
  have e1 := Int.emod_nonneg (dr s.x) (show r.most - r.least + 1 ≠ 0 by omega)
  have e2 := Int.emod_lt_of_pos (dr s.x) (show 0 < r.most - r.least + 1 by omega)
  constructor
  · intro m h
    simp only [put, List.mem_append, List.mem_singleton] at h
    rcases h with h | rfl
    · exact hm m h
    · exact ⟨i, by omega, rfl, by simp only; omega, by simp only; omega⟩
  · simp only [put, Ord]
    rw [List.pairwise_append]
    refine ⟨ho, by simp, ?_⟩
    intro a ha b hb
    simp only [List.mem_singleton] at hb
    subst hb
    obtain ⟨k, h1, h2, _⟩ := hm a ha
    unfold key
    rw [h2]
    simp only [List.getD, List.getElem?_cons_zero, Option.getD_some]
    omega
theorem HI.step {r : Ru} (hr : vld r = true) {ws : List Int} (hw : By ws) {s : St} {i : Nat} (h : HI r ws s i) (hi : i < 40) : HI r ws (send r s (sumT ws (i + 1)) [(i : Int)]) (i + 1) := by
  have hok := h.ok hw hi
  have hbd := sumT_bd ws hw (i + 1)
  obtain ⟨h1, h2, h3, h4, h5, h6, h7, h8, h9, h10, h11⟩ := h
  have hr' := hr
  rw [vld_iff] at hr'
  have e1 := Int.emod_nonneg (dr s.x) (show (1000 : Int) ≠ 0 by omega)
  have e2 := Int.emod_lt_of_pos (dr s.x) (show (0 : Int) < 1000 by omega)
  have hm0 : ∀ m ∈ s.u, HM r ws (i + 1) m := fun m hm => (h3 m hm).more (by omega)
  unfold send
  rw [show [(i : Int)].length = 1 from rfl, if_pos hok]
  by_cases hL : sendL r s = true
  · rw [if_pos hL]
    unfold sendL at hL
    rw [decide_eq_true_iff] at hL
    refine ⟨?_, ?_, hm0, h4, ?_, ?_, ?_, ?_, ?_, ?_, ?_⟩ <;> simp only [send0] <;> omega
  · rw [if_neg hL]
    unfold sendL at hL
    rw [decide_eq_true_iff] at hL
    obtain ⟨p1, p2⟩ := put_ok hr (s := send0 s (sumT ws (i + 1))) (ws := ws) (i := i) rfl hm0 h4
    have f1 := Int.emod_nonneg (dr (send1 r s (sumT ws (i + 1)) [(i : Int)]).x) (show (1000 : Int) ≠ 0 by omega)
    have f2 := Int.emod_lt_of_pos (dr (send1 r s (sumT ws (i + 1)) [(i : Int)]).x) (show (0 : Int) < 1000 by omega)
    have hlen : ((send1 r s (sumT ws (i + 1)) [(i : Int)]).u.length : Int) = s.u.length + 1 := by simp [send1, put, send0]
    have hs1 : (send1 r s (sumT ws (i + 1)) [(i : Int)]).sent = s.sent + 1 := rfl
    have hs2 : (send1 r s (sumT ws (i + 1)) [(i : Int)]).lost = s.lost := rfl
    have hs3 : (send1 r s (sumT ws (i + 1)) [(i : Int)]).dbl = s.dbl := rfl
    have hs4 : (send1 r s (sumT ws (i + 1)) [(i : Int)]).now = sumT ws (i + 1) := rfl
    by_cases hT : sendT r (send1 r s (sumT ws (i + 1)) [(i : Int)]) = true
    · rw [if_pos hT]
      unfold sendT at hT
      rw [decide_eq_true_iff] at hT
      obtain ⟨q1, q2⟩ := put_ok hr (s := { send1 r s (sumT ws (i + 1)) [(i : Int)] with x := nx (send1 r s (sumT ws (i + 1)) [(i : Int)]).x, dbl := (send1 r s (sumT ws (i + 1)) [(i : Int)]).dbl + 1 }) (ws := ws) (i := i) rfl p1 p2
      generalize send1 r s (sumT ws (i + 1)) [(i : Int)] = S1 at *
      refine ⟨?_, ?_, q1, q2, ?_, ?_, ?_, ?_, ?_, ?_, ?_⟩
      all_goals simp only [send2, put, List.length_append, List.length_cons, List.length_nil]
      all_goals omega
    · rw [if_neg hT]
      unfold sendT at hT
      rw [decide_eq_true_iff] at hT
      change (∀ m ∈ (send1 r s (sumT ws (i + 1)) [(i : Int)]).u, HM r ws (i + 1) m) at p1
      change Ord (send1 r s (sumT ws (i + 1)) [(i : Int)]).u at p2
      generalize send1 r s (sumT ws (i + 1)) [(i : Int)] = S1 at *
      refine ⟨?_, ?_, p1, p2, ?_, ?_, ?_, ?_, ?_, ?_, ?_⟩
      all_goals simp only
      all_goals omega
/-- what is still on its way -/
structure HR (r : Ru) (ws : List Int) (s : St) (now before last : Int) : Prop where
  msgs : ∀ m ∈ s.u, HM r ws ws.length m ∧ before < m.1
  ord : r.least = r.most → Ord s.u ∧ ∀ m ∈ s.u, last ≤ key m
  snow : 0 ≤ s.now ∧ s.now ≤ now
  low : sumT ws ws.length ≤ now
  high : now ≤ 70200
theorem HI.hr {r : Ru} {ws : List Int} (hr : vld r = true) (hw : By ws) {s : St} (h : HI r ws s ws.length) (hl : ws.length ≤ 40) : HR r ws s (sumT ws ws.length) (-1) (-1) := by
  have hb := sumT_bd ws hw ws.length
  rw [vld_iff] at hr
  refine ⟨fun m hm => ⟨h.msgs m hm, ?_⟩, fun _ => ⟨h.ord, fun m hm => ?_⟩, h.now, Int.le_refl _, by omega⟩
  · obtain ⟨k, h1, h2, h3, h4⟩ := h.msgs m hm
    have := sumT_bd ws hw (k + 1)
    omega
  · obtain ⟨k, h1, h2, _⟩ := h.msgs m hm
    unfold key; rw [h2]
    simp only [List.getD, List.getElem?_cons_zero, Option.getD_some]; omega
/-- a message as it arrives -/
structure GotM (r : Ru) (ws : List Int) (now before last : Int) (d : List Int) (k : Nat) : Prop where
  d : d = [(k : Int)]
  lt : k < ws.length
  least : sumT ws (k + 1) + r.least ≤ now
  most : before < sumT ws (k + 1) + r.most
  ord : r.least = r.most → last ≤ k
def lastK (last : Int) (l : List (List Int)) : Nat → Int
  | 0 => last
  | j + 1 => (l.getD j []).getD 0 0
theorem part_len (p q : Msg → Bool) (hpq : ∀ m, q m = !p m) : ∀ u : List Msg, (u.filter p).length + (u.filter q).length = u.length
  | [] => rfl
  | m :: u => by
    have ih := part_len p q hpq u
    rw [List.filter_cons, List.filter_cons, hpq m]
    cases p m <;> simp <;> omega
theorem next_head {s : St} (h : 0 < s.u.length) : ∃ m, m ∈ s.u ∧ nextN s = m.1 := by
  rcases hs : srt s.u with _ | ⟨m, l⟩
  · have := length_srt s.u; rw [hs] at this; simp at this; omega
  · refine ⟨m, (mem_srt (u := s.u)).1 (by rw [hs]; simp), ?_⟩
    unfold nextN; rw [hs]
theorem HR.next {r : Ru} (hr : vld r = true) {ws : List Int} (hw : By ws) (hl : ws.length ≤ 40) {s : St} {now before last : Int} (h : HR r ws s now before last) (hu : 0 < s.u.length) :
    0 ≤ nextN s ∧ nextN s ≤ now + r.most ∧ nextN s ≤ 70200 := by
  obtain ⟨m, hm, e⟩ := next_head hu
  rw [vld_iff] at hr
  obtain ⟨⟨k, h1, h2, h3, h4⟩, _⟩ := h.msgs m hm
  have a1 := sumT_bd ws hw (k + 1)
  have a2 := sumT_le ws hw (show k + 1 ≤ ws.length by omega)
  have a3 := h.low
  rw [e]; omega
theorem HR.round {r : Ru} (hr : vld r = true) {ws : List Int} (hw : By ws) {s : St} {now before last now' : Int} (h : HR r ws s now before last) (hu : 0 < s.u.length) (h1 : now ≤ now') (h2 : nextN s ≤ now') (h3 : now' ≤ 70200) :
    recvE s now' = 0 ∧ 0 < (got s now').length ∧ (got s now').length + (recv s now').u.length = s.u.length ∧
    (∀ j, j < (got s now').length → ∃ k, GotM r ws now' before (lastK last ((got s now').map (·.2)) j) (((got s now').map (·.2)).getD j []) k) ∧
    HR r ws (recv s now') now' now' (lastK last ((got s now').map (·.2)) (got s now').length) := by
  have hE : recvE s now' = 0 := by unfold recvE; rw [if_pos (by have := h.snow; omega)]
  have hG : got s now' = srt (s.u.filter (fun m => decide (m.1 ≤ now'))) := by unfold got; rw [if_pos hE]
  have hV : (recv s now').u = s.u.filter (fun m => decide (now' < m.1)) := by unfold recv; rw [if_pos hE]
  have hV2 : (recv s now').now = now' := by unfold recv; rw [if_pos hE]
  have hlen : (got s now').length + (recv s now').u.length = s.u.length := by
    rw [hG, hV, length_srt]
    exact part_len _ _ (fun m => by by_cases a : m.1 ≤ now' <;> simp [a] <;> omega) s.u
  have hmem : ∀ m, m ∈ got s now' ↔ m ∈ s.u ∧ m.1 ≤ now' := fun m => by rw [hG, mem_srt, List.mem_filter]; simp
  have hord : r.least = r.most → got s now' = s.u.filter (fun m => decide (m.1 ≤ now')) ∧ Ord (got s now') := fun he => by
    have ho := (h.ord he).1
    have e : got s now' = s.u.filter (fun m => decide (m.1 ≤ now')) := by
      rw [hG]
      exact srt_id (List.Pairwise.filter _ (sorted_ord hw he (fun m hm => (h.msgs m hm).1) ho))
    exact ⟨e, by rw [e]; exact List.Pairwise.filter _ ho⟩
  have hpos : 0 < (got s now').length := by
    obtain ⟨m, hm, e⟩ := next_head hu
    exact List.length_pos_of_mem ((hmem m).2 ⟨hm, by omega⟩)
  have hat : ∀ j (hj : j < (got s now').length), ((got s now').map (·.2)).getD j [] = ((got s now')[j]).2 := fun j hj => by simp [List.getD, List.getElem?_eq_getElem hj]
  have hlast : ∀ j (hj : j < (got s now').length), lastK last ((got s now').map (·.2)) (j + 1) = key ((got s now')[j]) := fun j hj => by
    show (((got s now').map (·.2)).getD j []).getD 0 0 = _
    rw [hat j hj]; rfl
  refine ⟨hE, hpos, hlen, ?_, ?_⟩
  · intro j hj
    obtain ⟨hm, hn⟩ := (hmem _).1 (List.getElem_mem hj)
    obtain ⟨⟨k, g1, g2, g3, g4⟩, g5⟩ := h.msgs _ hm
    refine ⟨k, ⟨by rw [hat j hj, g2], g1, by omega, by omega, fun he => ?_⟩⟩
    have hk : key ((got s now')[j]) = k := by unfold key; rw [g2]; rfl
    rw [← hk]
    rcases j with _ | j
    · exact (h.ord he).2 _ hm
    · rw [hlast j (by omega)]
      exact List.pairwise_iff_getElem.1 (hord he).2 j (j + 1) (by omega) hj (by omega)
  · refine ⟨fun m hm => ?_, fun he => ⟨?_, fun m hm => ?_⟩, by rw [hV2]; have := h.snow; omega, by have := h.low; omega, h3⟩
    · rw [hV, List.mem_filter] at hm
      exact ⟨(h.msgs m hm.1).1, by simpa using hm.2⟩
    · rw [hV]; exact List.Pairwise.filter _ (h.ord he).1
    · rw [hV, List.mem_filter] at hm
      obtain ⟨hm1, hm2⟩ := hm
      rw [decide_eq_true_iff] at hm2
      obtain ⟨n, hn⟩ : ∃ n, (got s now').length = n + 1 := ⟨(got s now').length - 1, by omega⟩
      rw [hn, hlast n (by omega)]
      obtain ⟨a1, a2⟩ := (hmem _).1 (List.getElem_mem (show n < (got s now').length by omega))
      obtain ⟨⟨k, g1, g2, g3, g4⟩, _⟩ := h.msgs _ a1
      obtain ⟨⟨j, f1, f2, f3, f4⟩, _⟩ := h.msgs _ hm1
      have e1 : key ((got s now')[n]) = k := by unfold key; rw [g2]; rfl
      have e2 : key m = j := by unfold key; rw [f2]; rfl
      rw [e1, e2]
      rcases Nat.lt_or_ge j k with hlt | hge
      · have := sumT_le ws hw (show j + 1 ≤ k + 1 by omega)
        omega
      · omega
end Lnk
end Go.Proofs.Ytgdpoiapkaahfaa

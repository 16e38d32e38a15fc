/- Frames on their way over a link that loses nothing, plain. -/
import Derived.Test.YtgdpoiapkaahfaaEncP
import Derived.Test.YtgdpoiapkaahfaaLinkH
namespace Go.Proofs.Ytgdpoiapkaahfaa
namespace Lnk
open Go.RowKit
set_option linter.unusedSimpArgs false
set_option linter.unusedVariables false
def frRu (seed dl : Int) : Ru := ⟨0, 0, dl, dl, seed⟩
def okB (y : Fr) : Bool := Frm.vd y.k y.f y.t y.s y.d.length
def wantF (l : List Fr) (i : Nat) : List Fr := (l.take i).filter okB
theorem wantF_no {l : List Fr} {i : Nat} (h : i < l.length) (hn : okB (l.getD i fr0) = false) : wantF l (i + 1) = wantF l i := by
  unfold wantF
  rw [List.take_succ_eq_append_getElem h, List.filter_append]
  have e : l.getD i fr0 = l[i] := by simp [List.getD, List.getElem?_eq_getElem h]
  rw [e] at hn
  simp [List.filter_cons, hn]
theorem wantF_yes {l : List Fr} {i : Nat} (h : i < l.length) (hn : okB (l.getD i fr0) = true) : wantF l (i + 1) = wantF l i ++ [l.getD i fr0] := by
  unfold wantF
  rw [List.take_succ_eq_append_getElem h, List.filter_append]
  have e : l.getD i fr0 = l[i] := by simp [List.getD, List.getElem?_eq_getElem h]
  rw [e] at hn ⊢
  simp [List.filter_cons, hn]
theorem wantF_le (l : List Fr) (i : Nat) : (wantF l i).length ≤ i := by
  unfold wantF
  exact Nat.le_trans (List.length_filter_le _ _) (by rw [List.length_take]; omega)
theorem wantF_ok {l : List Fr} {i : Nat} {y : Fr} (h : y ∈ wantF l i) : okB y = true := (List.mem_filter.1 h).2
structure FrI (dl : Int) (l : List Fr) (s : St) (i : Nat) : Prop where
  data : s.u.map (·.2) = (wantF l i).map Frq.encF
  srtd : Sorted s.u
  top : ∀ m ∈ s.u, m.1 ≤ dl + i
  now : 0 ≤ s.now ∧ s.now ≤ i
  sent : s.sent ≤ i
theorem FrI.len {dl : Int} {l : List Fr} {s : St} {i : Nat} (h : FrI dl l s i) : s.u.length = (wantF l i).length := by
  have := congrArg List.length h.data
  simpa using this
theorem fri_new (seed dl : Int) (l : List Fr) : FrI dl l (new (frRu seed dl)) 0 := ⟨by simp [new, wantF], by simp [new, Sorted], by simp [new], by simp [new], by simp [new]⟩
theorem FrI.no {dl : Int} {l : List Fr} {s : St} {i : Nat} (h : FrI dl l s i) (hi : i < l.length) (hn : okB (l.getD i fr0) = false) : FrI dl l s (i + 1) :=
  ⟨by rw [wantF_no hi hn]; exact h.data, h.srtd, fun m hm => by have := h.top m hm; omega, by have := h.now; omega, by have := h.sent; omega⟩
theorem FrI.yes {dl : Int} {l : List Fr} {s : St} {i : Nat} (h : FrI dl l s i) (seed : Int) (hdl : 0 ≤ dl) (hi : i < l.length) (hi2 : i < 20) (hn : okB (l.getD i fr0) = true) :
    sendE s (i : Int) (Frq.encF (l.getD i fr0)).length = 0 ∧ FrI dl l (send (frRu seed dl) s (i : Int) (Frq.encF (l.getD i fr0))) (i + 1) := by
  have hlen := h.len
  have hle := wantF_le l i
  have hv := Frm.vd_bd (show Frm.vd (l.getD i fr0).k (l.getD i fr0).f (l.getD i fr0).t (l.getD i fr0).s (l.getD i fr0).d.length = true from hn)
  have hE : sendE s (i : Int) (Frq.encF (l.getD i fr0)).length = 0 := by
    rw [Frq.encF_len]
    unfold sendE
    rw [if_neg (by omega), if_neg (by have := h.now; omega), if_neg (by omega)]
  refine ⟨hE, ?_⟩
  have hL : sendL (frRu seed dl) s = false := by
    unfold sendL frRu; simp; exact Int.emod_nonneg _ (by omega)
  have hT : ∀ s1, sendT (frRu seed dl) s1 = false := fun s1 => by
    unfold sendT frRu; simp; exact Int.emod_nonneg _ (by omega)
  have hm : ∀ x : Int, (i : Int) + dl + dr x % (dl - dl + 1) = i + dl := fun x => by
    rw [show dl - dl + 1 = 1 by omega, Int.emod_one]; omega
  unfold send
  rw [if_pos hE, hL, if_neg (by simp), hT, if_neg (by simp)]
  obtain ⟨h1, h2, h3, h4, h5⟩ := h
  refine ⟨?_, ?_, ?_, ?_, ?_⟩
  · simp only [send1, put, send0, List.map_append, List.map_cons, List.map_nil]
    rw [wantF_yes hi hn, List.map_append, h1]; rfl
  · simp only [send1, put, send0, frRu]
    unfold Sorted at h2 ⊢
    rw [List.pairwise_append]
    refine ⟨h2, by simp, fun a ha b hb => ?_⟩
    simp only [List.mem_singleton] at hb
    subst hb
    simp only [hm]
    have := h3 a ha; omega
  · intro m hmm
    simp only [send1, put, send0, frRu, List.mem_append, List.mem_singleton] at hmm
    rcases hmm with hmm | rfl
    · have := h3 m hmm; omega
    · simp only [hm]; omega
  · simp only [send1, put, send0]; omega
  · simp only [send1, put, send0]; omega
theorem FrI.got {dl : Int} {l : List Fr} {s : St} {i : Nat} (h : FrI dl l s i) (hdl : 0 ≤ dl ∧ dl ≤ 60000) (hi : i ≤ 20) : recvE s (dl + 20) = 0 ∧ (Lnk.got s (dl + 20)).map (·.2) = (wantF l i).map Frq.encF := by
  have hE : recvE s (dl + 20) = 0 := by unfold recvE; rw [if_pos (by have := h.now; omega)]
  refine ⟨hE, ?_⟩
  unfold Lnk.got
  rw [if_pos hE, List.filter_eq_self.2 (fun m hm => by have := h.top m hm; simp; omega), srt_id h.srtd]
  exact h.data
end Lnk
end Go.Proofs.Ytgdpoiapkaahfaa

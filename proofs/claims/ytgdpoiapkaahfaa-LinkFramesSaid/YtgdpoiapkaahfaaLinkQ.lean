/- What a link keeps. -/
import Derived.Test.YtgdpoiapkaahfaaLinkP
namespace Go.Proofs.Ytgdpoiapkaahfaa
namespace Lnk
open Go.RowKit
set_option linter.unusedSimpArgs false
set_option linter.unusedVariables false
theorem inv_new {r : Ru} (h : vld r = true) (h2 : r.seed ≤ 9223372036854775807) : Inv (new r) := by
  rw [vld_iff] at h
  refine ⟨⟨h.2.2.2.2, ?_⟩, by unfold new; simp, by simp [new], by simp [new], by simp [new], by simp [new], by simp [new]⟩
  show r.seed ≤ _
  omega
theorem inv_send0 {s : St} {now : Int} (h : Inv s) (hn : s.now ≤ now ∧ now ≤ 1073741824) (hs : s.sent < 1000000000) : Inv (send0 s now) := by
  obtain ⟨h1, h2, h3, h4, h5, h6, h7⟩ := h
  refine ⟨nx_bd _, ?_, h3, h4, ?_, ?_, ?_⟩ <;> simp only [send0] <;> omega
theorem inv_x {s : St} (h : Inv s) (x : Int) : Inv { s with x := nx x } := ⟨nx_bd _, h.2⟩
theorem inv_put {r : Ru} {s : St} {b : List Int} (hr : vld r = true) (h : Inv s) (hb : By b) (hl : b.length ≤ 128) (hu : s.u.length < 1000) : Inv (put r s b) := by
  rw [vld_iff] at hr
  obtain ⟨h1, h2, h3, h4, h5⟩ := h
  refine ⟨nx_bd _, h2, ?_, ?_, h5⟩
  · simp only [put, List.length_append, List.length_cons, List.length_nil]; omega
  · intro m hm
    simp only [put, List.mem_append, List.mem_singleton] at hm
    rcases hm with hm | rfl
    · exact h4 m hm
    · have e1 := Int.emod_nonneg (dr s.x) (show r.most - r.least + 1 ≠ 0 by omega)
      have e2 := Int.emod_lt_of_pos (dr s.x) (show 0 < r.most - r.least + 1 by omega)
      exact ⟨by simp only; omega, by simp only; omega, hb, hl⟩
theorem sendE_ok {s : St} {now : Int} {n : Nat} (h : sendE s now n = 0) : (1 ≤ n ∧ n ≤ 128) ∧ (s.now ≤ now ∧ now ≤ 1073741824) ∧ s.u.length < 999 := by
  unfold sendE at h
  by_cases h1 : 1 ≤ n ∧ n ≤ 128
  · rw [if_neg (by simpa using h1)] at h
    by_cases h2 : s.now ≤ now ∧ now ≤ 1073741824
    · rw [if_neg (by simpa using h2)] at h
      rcases Nat.lt_or_ge s.u.length 999 with h3 | h3
      · exact ⟨h1, h2, h3⟩
      · rw [if_pos h3] at h; omega
    · rw [if_pos h2] at h; omega
  · rw [if_pos h1] at h; omega
theorem inv_send2 {r : Ru} {s : St} {b : List Int} (hr : vld r = true) (h : Inv s) (hb : By b) (hl : b.length ≤ 128) (hu : s.u.length < 1000) (hd : s.dbl < s.sent) : Inv (send2 r s b) := by
  refine inv_put hr ?_ hb hl hu
  obtain ⟨h1, h2, h3, h4, h5, h6, h7⟩ := h
  exact ⟨nx_bd _, h2, h3, h4, h5, h6, by constructor <;> simp only <;> omega⟩
theorem inv_send {r : Ru} {s : St} {now : Int} {b : List Int} (hr : vld r = true) (h : Inv s) (hb : By b) (hs : s.sent < 1000000000) : Inv (send r s now b) := by
  unfold send
  by_cases he : sendE s now b.length = 0
  · rw [if_pos he]
    obtain ⟨h1, h2, h3⟩ := sendE_ok he
    have i0 := inv_send0 h h2 hs
    have i1 : Inv (send1 r s now b) := inv_put hr i0 hb h1.2 (show s.u.length < 1000 by omega)
    split
    · obtain ⟨a1, a2, a3, a4, a5, a6, a7⟩ := i0
      obtain ⟨b1, b2, b3, b4, b5, b6, b7⟩ := h
      refine ⟨a1, a2, a3, a4, a5, ?_, a7⟩
      simp only [send0]; omega
    · split
      · refine inv_send2 hr i1 hb h1.2 ?_ ?_
        · simp only [send1, put, send0, List.length_append, List.length_cons, List.length_nil]; omega
        · obtain ⟨b1, b2, b3, b4, b5, b6, b7⟩ := h
          simp only [send1, put, send0]; omega
      · exact inv_x i1 _
  · rw [if_neg he]; exact h
theorem inv_recv {s : St} {now : Int} (h : Inv s) : Inv (recv s now) := by
  unfold recv
  split
  · rename_i he
    obtain ⟨h1, h2, h3, h4, h5⟩ := h
    have hn : s.now ≤ now ∧ now ≤ 1073741824 := by
      unfold recvE at he
      split at he
      · assumption
      · omega
    refine ⟨h1, by simp only; omega, Nat.le_trans (List.length_filter_le _ _) h3, fun m hm => h4 m (List.mem_filter.1 hm |>.1), h5⟩
  · exact h
end Lnk
end Go.Proofs.Ytgdpoiapkaahfaa

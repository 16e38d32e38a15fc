/- Many messages: what the law's rounds keep. -/
import Derived.Test.YtgdpoiapkaahfaaLinkF
namespace Go.Proofs.Ytgdpoiapkaahfaa
namespace Lnk
open Go.RowKit
set_option linter.unusedSimpArgs false
set_option linter.unusedVariables false
def wantN (t : Bool) : Nat := if t then 500 else 999
structure FB (t : Bool) (k : Nat) (s : St) : Prop where
  fi : FI t s k ((k : Int) / 100)
  inv : Inv s
  le : k ≤ wantN t
theorem fCnt_lt {t : Bool} {k : Nat} (h : k < wantN t) : fCnt t k < 999 := by unfold wantN at h; unfold fCnt; cases t <;> simp at h ⊢ <;> omega
theorem fCnt_want (t : Bool) : fCnt t (wantN t) = if t then 1000 else 999 := by cases t <;> rfl
theorem vld_f {a0 : Int} (t : Bool) (h : 0 ≤ a0) : vld (fRu a0 t) = true := by rw [vld_iff]; cases t <;> simp [fRu, fTw] <;> omega
theorem vld_fn {a0 : Int} (t : Bool) (h : ¬ 0 ≤ a0) : vld (fRu a0 t) = false := by
  cases hv : vld (fRu a0 t)
  · rfl
  · rw [vld_iff] at hv
    exact absurd hv.2.2.2.2 h
theorem fb_new {a0 : Int} (t : Bool) (h : 0 ≤ a0) (h2 : a0 ≤ 9223372036854775807) : FB t 0 (new (fRu a0 t)) := ⟨fi_new a0 t, inv_new (vld_f t h) h2, Nat.zero_le _⟩
theorem FB.step {t : Bool} {k : Nat} {s : St} (h : FB t k s) (a0 : Int) (h0 : 0 ≤ a0) (hk : k < wantN t) (b : List Int) (hb : b.length = 1) (hB : By b) : sendE s ((k : Int) / 100) 1 = 0 ∧ FB t (k + 1) (send (fRu a0 t) s ((k : Int) / 100) b) ∧ s.sent < 1000000000 := by
  have h1 := h.fi.len
  have h2 := fCnt_lt hk
  have h3 := h.fi.sent
  have hw : wantN t ≤ 999 := by unfold wantN; cases t <;> simp
  have hs : s.sent < 1000000000 := by omega
  refine ⟨h.fi.room _ (Int.le_refl _) (by omega) (by omega), ⟨?_, inv_send (vld_f t h0) h.inv hB hs, by omega⟩, hs⟩
  have h4 := h.fi.step a0 ((k : Int) / 100) (Int.le_refl _) (by omega) (by omega) b hb
  exact ⟨h4.len, h4.sent, by have := h4.now; omega, fun m hm => by have := h4.all m hm; omega⟩
theorem FB.full {t : Bool} {s : St} (h : FB t (wantN t) s) : sendE s ((wantN t : Nat) / 100 : Int) 1 = 7 ∧ sendE s 9 1 = 7 ∧ s.u.length = fCnt t (wantN t) ∧ recvE s 100 = 0 ∧ (got s 100).length = fCnt t (wantN t) ∧ (recv s 100).u = [] ∧ sendE (recv s 100) 100 1 = 0 ∧ Inv (recv s 100) ∧ (recv s 100).sent < 1000000000 ∧ s.sent < 1000000000 := by
  have h1 := h.fi.len
  have h2 := h.fi.sent
  have hw : wantN t ≤ 999 := by unfold wantN; cases t <;> simp
  have h3 : 999 ≤ s.u.length := by rw [h1, fCnt_want]; cases t <;> simp
  obtain ⟨g1, g2, g3, g4, g5⟩ := h.fi.all_got 100 (by omega) (by omega)
  refine ⟨h.fi.full _ (Int.le_refl _) (by omega) h3, h.fi.full _ (by omega) (by omega) h3, h1, g1, by rw [g2, h1], g3, ?_, inv_recv h.inv, by omega, by omega⟩
  unfold sendE
  rw [if_neg (by omega), if_neg (by omega), if_neg (by rw [g3]; simp)]
end Lnk
end Go.Proofs.Ytgdpoiapkaahfaa

/- Numbers and their encodings, in one form for lists and errors. -/
import Derived.Test.YteakljjalmgicaaDecU
namespace Go.Proofs.Yteakljjalmgicaa
open Go.RowKit
set_option maxHeartbeats 4000000
set_option linter.unusedSimpArgs false
set_option linter.unusedVariables false
namespace Frm
def pOk (l : List Int) : Bool := decide (l.length ≤ 16) && okAll l
def pL (l : List Int) : List Int := if pOk l = true then pn l else []
def pE (l : List Int) : Int := if pOk l = true then 0 else 2
def gOk (n : Nat) (many : Int) : Bool := decide ((n : Int) = 4 * many)
def gL (l : List Int) (n : Nat) (many : Int) : List Int := if gOk n many = true then gn l many.toNat else []
def gE (n : Nat) (many : Int) : Int := if many < 0 then 2 else if (n : Int) / 4 < many then 4 else if 4 * many < (n : Int) then 5 else 0
theorem gnAt_cons (a b c d : Int) (l : List Int) (k : Nat) : gnAt (a :: b :: c :: d :: l) (k + 1) = gnAt l k := by
  simp only [gnAt]
  rw [show 4 * (k + 1) = 4 * k + 4 by omega]
  simp [List.getD]
theorem gn_pn : ∀ (l : List Int), okAll l = true → gn (pn l) l.length = l
  | [], _ => rfl
  | x :: t, h => by
    simp only [okAll, List.all_cons, Bool.and_eq_true] at h
    have ih := gn_pn t h.2
    have hx := okN_iff.1 h.1
    rw [gn, List.length_cons, List.range_succ_eq_map, List.map_cons, List.map_map]
    have e0 : gnAt (pn (x :: t)) 0 = x := by
      simp only [gnAt, pn, num4]
      simp [List.getD]
      try omega
    rw [e0]
    congr 1
end Frm
def PuPost (w : World) (l : List Int) (e : Ending) (w' : World) : Prop := ∃ A cap, e = .returned (.tuple #[.slice A (Frm.pL l).length cap, .int .i64 (Frm.pE l)]) ∧ Ow w' w.heap.size A (Frm.pL l).length cap (Frm.pL l) ∧ Below w.heap.size w w'
def GuPost (w : World) (l : List Int) (n : Nat) (many : Int) (e : Ending) (w' : World) : Prop := ∃ A cap, e = .returned (.tuple #[.slice A (Frm.gL l n many).length cap, .int .i64 (Frm.gE n many)]) ∧ Oi w' w.heap.size A (Frm.gL l n many).length cap (Frm.gL l n many) ∧ Below w.heap.size w w'
theorem ppost_uni {w w' : World} {l : List Int} {n : Nat} {e : Ending} (hl : l.length = n) (h : PPost w n l e w') : PuPost w l e w' := by
  rcases h with ⟨hx, he, hb⟩ | ⟨hx, A, c, he, ho, hb⟩
  · have hk : Frm.pOk l = false := by
      simp only [Frm.pOk, Bool.and_eq_false_iff, decide_eq_false_iff_not]
      rcases hx with h1 | h1
      · left; omega
      · exact .inr h1
    exact ⟨none, 0, by simp [he, Frm.pL, Frm.pE, hk], by simpa [Frm.pL, hk] using Ow.nil w' _, hb⟩
  · have hk : Frm.pOk l = true := by
      simp only [Frm.pOk, Bool.and_eq_true, decide_eq_true_eq]
      exact ⟨by omega, hx.2⟩
    have hlen : (Frm.pn l).length = 4 * n := by rw [Frm.pn_len, hl]
    exact ⟨A, c, by simp [he, Frm.pL, Frm.pE, hk, hlen], by simpa [Frm.pL, hk, hlen] using ho, hb⟩
theorem put_uni (A : Option Addr) (n cap : Nat) (l : List Int) (w : World) (hn : n ≤ 140737488355328) (h : Ri w w.heap.size A n l) : Calls Try.prog 24 #[.slice A n cap] w fun e w' => PuPost w l e w' :=
  (put_any A n cap l w hn h).mono fun e w' hh => ppost_uni h.1 hh
theorem rput_uni (A : Option Addr) (n cap : Nat) (l : List Int) (w : World) (hn : n ≤ 140737488355328) (h : Ri w w.heap.size A n l) : Calls Try.prog 25 #[.slice A n cap] w fun e w' => PuPost w l e w' :=
  (rput_any A n cap l w hn h).mono fun e w' hh => ppost_uni h.1 hh
theorem gpost_uni {w w' : World} {l : List Int} {n : Nat} {many : Int} {e : Ending} (h : GPost w n many l e w') : GuPost w l n many e w' := by
  obtain ⟨h | h | h | ⟨h1, A, c, h2, h3⟩, hb⟩ := h
  · refine ⟨none, 0, ?_, ?_, hb⟩
    · have ho : Frm.gOk n many = false := by simp [Frm.gOk]; omega
      simp [Frm.gL, ho, Frm.gE, h]
    · have ho : Frm.gOk n many = false := by simp [Frm.gOk]; omega
      simp only [Frm.gL, ho]
      exact ⟨World.ownsRow_nil _ _ _ _, by intro x hx; cases hx⟩
  · have ho : Frm.gOk n many = false := by simp [Frm.gOk]; omega
    refine ⟨none, 0, ?_, ?_, hb⟩
    · rw [h.2.2, show Frm.gE n many = 4 by rw [Frm.gE, if_neg (by have := h.1; omega), if_pos h.2.1], show Frm.gL l n many = [] by simp [Frm.gL, ho]]; rfl
    · simp only [Frm.gL, ho]
      exact ⟨World.ownsRow_nil _ _ _ _, by intro x hx; cases hx⟩
  · have ho : Frm.gOk n many = false := by simp [Frm.gOk]; omega
    refine ⟨none, 0, ?_, ?_, hb⟩
    · rw [h.2.2.2, show Frm.gE n many = 5 by rw [Frm.gE, if_neg (by have := h.1; omega), if_neg (by have := h.2.2.1; omega), if_pos h.2.1], show Frm.gL l n many = [] by simp [Frm.gL, ho]]; rfl
    · simp only [Frm.gL, ho]
      exact ⟨World.ownsRow_nil _ _ _ _, by intro x hx; cases hx⟩
  · have ho : Frm.gOk n many = true := by simp [Frm.gOk, h1]
    refine ⟨A, c, ?_, ?_, hb⟩
    · rw [h2, Frm.gL, if_pos ho, Frm.gE, if_neg (by omega), if_neg (by omega), if_neg (by omega), Frm.gn_len]
    · rw [Frm.gL, if_pos ho, Frm.gn_len]; exact h3
theorem get_uni (A : Option Addr) (n cap : Nat) (many : Int) (l : List Int) (w : World) (hn : n ≤ 70368744177664) (hcap : n ≤ cap) (hcm : cap ≤ 9223372036854775807) (hm : -9223372036854775808 ≤ many ∧ many ≤ 9223372036854775807) (h : Rd w w.heap.size A n l) :
    Calls Try.prog 26 #[.slice A n cap, .int .i64 many] w fun e w' => GuPost w l n many e w' := (get_any A n cap many l w hn hcap hcm hm h).mono fun e w' => gpost_uni
theorem rget_uni (A : Option Addr) (n cap : Nat) (many : Int) (l : List Int) (w : World) (hn : n ≤ 70368744177664) (hm : -9223372036854775808 ≤ many ∧ many ≤ 9223372036854775807) (h : Rd w w.heap.size A n l) :
    Calls Try.prog 27 #[.slice A n cap, .int .i64 many] w fun e w' => GuPost w l n many e w' := (rget_any A n cap many l w hn hm h).mono fun e w' => gpost_uni
theorem Oi.ri {w : World} {base : Nat} {A : Option Addr} {n cap : Nat} {l : List Int} (h : Oi w base A n cap l) : Ri w w.heap.size A n l := Ri.of_own h.1 h.2
end Go.Proofs.Yteakljjalmgicaa

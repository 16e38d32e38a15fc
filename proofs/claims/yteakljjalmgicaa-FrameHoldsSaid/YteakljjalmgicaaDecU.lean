/- Decode, in one form for frames and errors; bytes that a call owns, one of them stored anew. -/
import Derived.Test.YteakljjalmgicaaKnownF
namespace Go.Proofs.Yteakljjalmgicaa
open Go.RowKit
set_option maxHeartbeats 4000000
set_option linter.unusedSimpArgs false
set_option linter.unusedVariables false
namespace Frm
def uk (l : List Int) (i : Nat) : Int := if dE l = 0 then l.getD i 0 else 0
def us (l : List Int) : Int := if dE l = 0 then dS l else 0
def ud (l : List Int) : List Int := if dE l = 0 then dd l else []
theorem dE_len {l : List Int} (h : dE l = 0) : l.length = 10 + dm l := by
  unfold dE at h
  by_cases h1 : l.length < 10
  · rw [if_pos h1] at h; omega
  · rw [if_neg h1] at h
    by_cases h2 : ¬ (l.getD 0 0 = 213 ∧ l.getD 1 0 = 76 ∧ l.getD 7 0 ≤ 64)
    · rw [if_pos h2] at h; omega
    · rw [if_neg h2] at h
      by_cases h3 : l.length < 10 + dm l
      · rw [if_pos h3] at h; omega
      · rw [if_neg h3] at h
        by_cases h4 : 10 + dm l < l.length
        · rw [if_pos h4] at h; omega
        · omega
end Frm
/-- what a decoding leaves, in one form -/
def UPost (w : World) (l : List Int) (e : Ending) (w' : World) : Prop :=
  ∃ A cap, e = .returned (.tuple #[.agg #[.int .i64 (Frm.uk l 2), .int .i64 (Frm.uk l 3), .int .i64 (Frm.uk l 4), .int .i64 (Frm.us l), .slice A (Frm.ud l).length cap], .int .i64 (Frm.dE l)]) ∧ Ow w' w.heap.size A (Frm.ud l).length cap (Frm.ud l) ∧ Below w.heap.size w w'
theorem dpost_uni {w w' : World} {l : List Int} {e : Ending} (h : DPost w l e w') : UPost w l e w' := by
  rcases h with ⟨h0, he, hb⟩ | ⟨h0, A, cap, he, ho, hb⟩
  · refine ⟨none, 0, ?_, ?_, hb⟩
    · rw [he]; simp [Frm.uk, Frm.us, Frm.ud, h0]
    · simp only [Frm.ud, h0, if_false]; exact Ow.nil _ _
  · have hl : (Frm.dd l).length = Frm.dm l := Frm.dd_len (by have := Frm.dE_len h0; omega)
    refine ⟨A, cap, ?_, ?_, hb⟩
    · rw [he]; simp [Frm.uk, Frm.us, Frm.ud, h0, hl]
    · simp only [Frm.ud, h0, if_true]; rw [hl]; exact ho
theorem dec_uni (A : Option Addr) (n cap : Nat) (l : List Int) (w : World) (hn : n ≤ 140737488355328) (hcap : n ≤ cap) (hcm : cap ≤ 9223372036854775807) (h : Rd w w.heap.size A n l) : Calls Try.prog 19 #[.slice A n cap] w fun e w' => UPost w l e w' :=
  (dec_any A n cap l w hn hcap hcm h).mono fun e w' => dpost_uni
theorem rdec_uni (A : Option Addr) (n cap : Nat) (l : List Int) (w : World) (hn : n ≤ 140737488355328) (hcap : n ≤ cap) (hcm : cap ≤ 9223372036854775807) (h : Rd w w.heap.size A n l) : Calls Try.prog 20 #[.slice A n cap] w fun e w' => UPost w l e w' :=
  (rdec_any A n cap l w hn hcap hcm h).mono fun e w' => dpost_uni
theorem Ow.room {w : World} {base : Nat} {A : Option Addr} {n cap : Nat} {l : List Int} (h : Ow w base A n cap l) : n ≤ cap ∧ cap ≤ maxLen := by
  rcases h.form with ⟨_, h1, h2⟩ | ⟨g, _, _, _, h1, h2⟩
  · rw [h1, h2]; exact ⟨Nat.le_refl _, Nat.zero_le _⟩
  · exact ⟨h1, h2⟩
theorem same_yes (k f t s : Int) (A C : Option Addr) (n m cap caq : Nat) (l : List Int) (w : World) (h : Rd w w.heap.size A n l) (g : Rd w w.heap.size C m l) :
    Calls Try.prog 18 #[.agg #[.int .i64 k, .int .i64 f, .int .i64 t, .int .i64 s, .slice A n cap], .agg #[.int .i64 k, .int .i64 f, .int .i64 t, .int .i64 s, .slice C m caq]] w fun e w' => e = .returned (.bool true) ∧ Below w.heap.size w w' :=
  (same_any k f t s k f t s A C n m cap caq l l w h g).mono fun e w' h => ⟨by rw [h.1]; simp [sameB], h.2⟩
/-- a byte of an owned slice, stored anew -/
theorem Ow.store {w : World} {base g n cap : Nat} {l : List Int} (h : Ow w base (some ⟨g, 0, none⟩) n cap l) (i : Nat) (y : Int) (hy : 0 ≤ y ∧ y < 256) : Ow (w.setCell ⟨g, i, none⟩ (.int .u8 y)) base (some ⟨g, 0, none⟩) n cap (l.set i y) := by
  refine ⟨?_, ?_⟩
  · have := (h.1.stored i (.int .u8 y)).1
    rw [bv, List.map_set]
    exact this
  · intro x hx
    rcases List.mem_or_eq_of_mem_set hx with h1 | h1
    · exact h.2 x h1
    · rw [h1]; exact hy
end Go.Proofs.Yteakljjalmgicaa

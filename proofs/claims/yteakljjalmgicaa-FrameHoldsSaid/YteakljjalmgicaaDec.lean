/- Decode. -/
import Derived.Test.YteakljjalmgicaaDecC
namespace Go.Proofs.Yteakljjalmgicaa
open Go.RowKit
set_option maxHeartbeats 4000000
set_option linter.unusedSimpArgs false
set_option linter.unusedVariables false
theorem dec_any (A : Option Addr) (n cap : Nat) (l : List Int) (w : World) (hn : n ≤ 140737488355328) (hcap : n ≤ cap) (hcm : cap ≤ 9223372036854775807) (h : Rd w w.heap.size A n l) :
    Calls Try.prog 19 #[.slice A n cap] w fun e w' => DPost w l e w' := by
  have hl := h.1
  rcases Nat.lt_or_ge n 10 with h1 | h1
  · exact dec_1 A n cap l w h1 h
  obtain ⟨b, o, rfl, hbl, hc⟩ := h.2.2 (by omega)
  have hby := h.2.1
  have k0 := hc 0 (by omega)
  rw [Nat.add_zero] at k0
  have k1 := hc 1 (by omega)
  have k7 := hc 7 (by omega)
  by_cases g0 : l.getD 0 0 = 213 ∧ l.getD 1 0 = 76
  rotate_left
  · exact dec_2 b o n cap l w h1 hcap hcm h hbl _ _ _ k0 k1 k7 (hby.at_ 7) (by
      by_cases h0 : l.getD 0 0 = 213
      · exact .inr (fun h1 => g0 ⟨h0, h1⟩)
      · exact .inl h0) (Lib.hid (Frm.dE_2 (l := l) (by omega) (fun hh => g0 ⟨hh.1, hh.2.1⟩)))
  rw [g0.1] at k0
  rw [g0.2] at k1
  rcases Int.lt_or_le 64 (l.getD 7 0) with g7 | g7
  · exact dec_2b b o n cap l w h1 hcap hcm hbl _ k0 k1 k7 (hby.at_ 7) g7 (Lib.hid (Frm.dE_2 (l := l) (by omega) (fun hh => by omega)))
  have G : l.getD 0 0 = 213 ∧ l.getD 1 0 = 76 ∧ l.getD 7 0 ≤ 64 := ⟨g0.1, g0.2, g7⟩
  have b7 := hby.at_ 7
  obtain ⟨m, hm⟩ : ∃ m : Nat, m = Frm.dm l := ⟨_, rfl⟩
  have hm7 : l.getD 7 0 = (m : Int) := by rw [hm, Frm.dm]; omega
  rw [hm7] at k7
  rcases Nat.lt_or_ge n (10 + m) with q1 | q1
  · exact dec_3 b o n cap l w h1 hcap hcm hbl _ k0 k1 k7 (by omega) (by omega) (Lib.hid (Frm.dE_3 (l := l) (by omega) G (by omega)))
  rcases Nat.lt_or_ge (10 + m) n with q2 | q2
  · exact dec_4 b o n cap l w h1 hcap hcm hbl _ k0 k1 k7 (by omega) (by omega) (Lib.hid (Frm.dE_4 (l := l) (by omega) G (by omega)))
  obtain rfl : n = 10 + m := by omega
  have hsub := h.sub 2 (m + 6) (by omega)
  have hd8 := h.sub 8 m (by omega)
  rw [show (l.drop 8).take m = Frm.dd l by rw [Frm.dd, hm]] at hd8
  have RS := Lib.hid (fun (W : World) (hB : Below w.heap.size w W) => sum_any (some ⟨b, o + 2, none⟩) (m + 6) (cap - 2) _ W (by omega) ((hsub.below hB (Nat.le_refl _)).more hB.size))
  have HS : ((Frm.dsum l : Nat) : Int) = ((Frm.crcN ((l.drop 2).take (m + 6)) : Nat) : Int) := by rw [Frm.dsum, hm]
  by_cases hcc : ((Frm.crcN ((l.drop 2).take (m + 6)) : Nat) : Int) = 256 * l.getD (m + 8) 0 + l.getD (m + 9) 0
  · have C5 : ((Frm.dsum l : Nat) : Int) = 256 * l.getD (Frm.dm l + 8) 0 + l.getD (Frm.dm l + 9) 0 := by rw [HS, ← hm]; exact hcc
    refine dec_0 b o cap l (Frm.dd l) w m hcap hcm hbl (by omega) _ _ _ _ _ _ _ _ k0 k1 k7 (hc 2 (by omega)) (hc 3 (by omega)) (hc 4 (by omega)) (hc 5 (by omega)) (hc 6 (by omega)) (hc (m + 8) (by omega)) (hc (m + 9) (by omega)) (hby.at_ _) (hby.at_ _) (hby.at_ 2) (hby.at_ 3) (hby.at_ 4) (hby.at_ 5) (hby.at_ 6) RS
      (Lib.hid (fun W hB => clone_any (some ⟨b, o + 8, none⟩) m (cap - 8) (Frm.dd l) W (by omega) (fun e => by cases e) ((hd8.below hB (Nat.le_refl _)).more hB.size))) hcc (Lib.hid ?_)
    intro e w' hy hno
    cases hvd : Frm.vd (l.getD 2 0) (l.getD 3 0) (l.getD 4 0) (256 * l.getD 5 0 + l.getD 6 0) m
    · obtain ⟨rfl, hb⟩ := hno hvd
      exact dpost_err (Frm.dE_6 (l := l) G (by rw [hl, ← hm]) C5 (by rw [Frm.dS, ← hm]; exact hvd)) (by decide) hb
    · obtain ⟨A', cap', rfl, how, hb⟩ := hy hvd
      refine .inr ⟨Frm.dE_0 (l := l) G (by rw [hl, ← hm]) C5 (by rw [Frm.dS, ← hm]; exact hvd), A', cap', ?_, ?_, hb⟩
      · rw [Frm.dS, ← hm]
      · rw [← hm]; exact how
  · exact dec_5 b o cap l w m hcap hcm hbl (by omega) _ _ _ k0 k1 k7 (hc (m + 8) (by omega)) (hc (m + 9) (by omega)) (hby.at_ _) (hby.at_ _) RS hcc
      (Lib.hid (Frm.dE_5 (l := l) G (by omega) (by rw [HS, ← hm]; exact hcc)))
end Go.Proofs.Yteakljjalmgicaa

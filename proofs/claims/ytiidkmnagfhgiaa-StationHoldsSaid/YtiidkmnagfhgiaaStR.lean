/- Receive. -/
import Derived.Test.YtiidkmnagfhgiaaStP
namespace Go.Proofs.Ytiidkmnagfhgiaa
open Go.RowKit
set_option linter.unusedSimpArgs false
set_option linter.unusedVariables false
section
variable {w w' : World} {base b mc rc : Nat} {MA RA : Option Addr} {s : Stn.St}
theorem recv_any (h : IsSt w base b MA mc RA rc s) (hs : Stn.Inv s) (now : Int) (y : Fr) (D : Option Addr) (cap : Nat) (hn : y.d.length ≤ 140737488355328) (hd : Rd w w.heap.size D y.d.length y.d) (hD : ∀ a, D = some a → a.block ≠ b) :
    Calls Try.prog 24 #[.pointer (some ⟨b, 0, none⟩), .int .i64 now, .agg #[.int .i64 y.k, .int .i64 y.f, .int .i64 y.t, .int .i64 y.s, .slice D y.d.length cap]] w (StPost base b MA RA rc (Stn.recv s now y) (Stn.recvF s now y) (Stn.recvE s now y) w) := by
  obtain ⟨k, f, t, q, d⟩ := y
  simp only at hn hd ⊢
  by_cases he : Stn.recvE s now ⟨k, f, t, q, d⟩ = 0
  · have e1 : Stn.recv s now ⟨k, f, t, q, d⟩ = Stn.recv1 s now ⟨k, f, t, q, d⟩ := by unfold Stn.recv; rw [if_pos he]
    have hok := recvE_ok he
    have hx0 := hd.2.1.at_ 0
    rw [he, e1]
    by_cases h1 : d.length = 1
    · by_cases h8 : k = 8
      · have hr : readV ⟨k, f, t, q, d⟩ = .iface 98 (.agg #[.int .u8 (d.getD 0 0)]) := by unfold readV; rw [if_pos h1, if_pos h8]
        have hrep : Stn.isRep ⟨k, f, t, q, d⟩ = false := by unfold Stn.isRep; simp [h8]
        have e2 : Stn.recvF s now ⟨k, f, t, q, d⟩ = [] := by unfold Stn.recvF; rw [if_neg (by simp [hrep])]
        rw [e2]
        by_cases ha : s.cmd ≠ 0 ∧ q = s.seq ∧ d.getD 0 0 = s.cmd
        · have hack : Stn.isAck s ⟨k, f, t, q, d⟩ = true := by unfold Stn.isAck; simp only [decide_eq_true h8, decide_eq_true ha.1, decide_eq_true ha.2.1, decide_eq_true ha.2.2]; rfl
          obtain ⟨m, hm⟩ : ∃ m : Nat, f = (m : Int) := ⟨f.toNat, by have := Frm.vd_iff.1 hok.1; simp only at this; omega⟩
          have hvd := Frm.vd_iff.1 hok.1
          have hfn := hok.2.2.1
          simp only at hvd hfn
          have hmn : 1 ≤ m ∧ m ≤ s.n := by omega
          have e3 : Stn.recv1 s now ⟨k, f, t, q, d⟩ = Stn.acked { s with now := now } m := by unfold Stn.recv1; rw [if_pos h1, if_pos hack]; simp only [hm, Int.toNat_natCast]
          rw [e3]
          by_cases hmem : m ∈ Stn.miss s
          · exact recv_ack h hs now k f t q D d.length cap d hd hD he _ hr ha.1 ha.2.1 ha.2.2 m hm hmn hmem
          · rw [acked_same { s with now := now } (Stn.inv_now hs hok.2.2.2) m ha.1 hmn hmem]
            exact recv_again h hs now k f t q D d.length cap d hd hD he _ hr ha.1 ha.2.1 ha.2.2 m hm hmem
        · have hack : Stn.isAck s ⟨k, f, t, q, d⟩ = false := by
            unfold Stn.isAck
            rw [Bool.eq_false_iff]
            intro hh
            simp only [Bool.and_eq_true, decide_eq_true_eq] at hh
            exact ha ⟨hh.1.1.2, hh.1.2, hh.2⟩
          have e3 : Stn.recv1 s now ⟨k, f, t, q, d⟩ = { s with now := now } := by unfold Stn.recv1; rw [if_pos h1, if_neg (by simp [hack]), if_neg (by simp [hrep])]
          rw [e3]
          exact recv_nack h hs now k f t q D d.length cap d hd hD he _ hr (by
            by_cases g1 : s.cmd = 0
            · exact .inl g1
            · by_cases g2 : q = s.seq
              · exact .inr (.inr (fun g3 => ha ⟨g1, g2, g3⟩))
              · exact .inr (.inl g2))
      · have hack : Stn.isAck s ⟨k, f, t, q, d⟩ = false := by unfold Stn.isAck; simp [h8]
        by_cases h7 : d.getD 0 0 ≤ 7
        · have hr : readV ⟨k, f, t, q, d⟩ = .iface 106 (.agg #[.int .i64 (d.getD 0 0)]) := by unfold readV; rw [if_pos h1, if_neg h8, if_pos h7]
          have hrep : Stn.isRep ⟨k, f, t, q, d⟩ = true := by unfold Stn.isRep; rw [decide_eq_true h8, decide_eq_true h7]; rfl
          have hvd := Frm.vd_iff.1 hok.1
          have ht := hok.2.1
          simp only at hvd ht
          obtain ⟨i, hi⟩ : ∃ i : Nat, f = (i : Int) + 1 := ⟨(f - 1).toNat, by omega⟩
          have e2 : Stn.recvF s now ⟨k, f, t, q, d⟩ = [⟨7, 0, f, q, Frm.num4 now ++ Frm.num4 now⟩] := by unfold Stn.recvF; rw [if_pos ⟨he, h1, hrep⟩]
          have e3 : Stn.recv1 s now ⟨k, f, t, q, d⟩ = Stn.reported { s with now := now } (i + 1) (d.getD 0 0) now := by unfold Stn.recv1; rw [if_pos h1, if_neg (by simp [hack]), if_pos hrep]; simp only [hi]; rw [show ((i : Int) + 1).toNat = i + 1 by omega]
          rw [e2, e3]
          exact recv_rep h hs now k f t q D d.length cap d hd hD he _ hr i hi
        · have hr : readV ⟨k, f, t, q, d⟩ = .nilIface := by unfold readV; rw [if_pos h1, if_neg h8, if_neg h7]
          have hrep : Stn.isRep ⟨k, f, t, q, d⟩ = false := by unfold Stn.isRep; rw [decide_eq_false h7]; simp
          have e2 : Stn.recvF s now ⟨k, f, t, q, d⟩ = [] := by unfold Stn.recvF; rw [if_neg (by simp [hrep])]
          have e3 : Stn.recv1 s now ⟨k, f, t, q, d⟩ = { s with now := now } := by unfold Stn.recv1; rw [if_pos h1, if_neg (by simp [hack]), if_neg (by simp [hrep])]
          rw [e2, e3]
          exact recv_none h hs now k f t q D d.length cap d hd hD he hr
    · have hr : readV ⟨k, f, t, q, d⟩ = .nilIface := by unfold readV; rw [if_neg h1]
      have e2 : Stn.recvF s now ⟨k, f, t, q, d⟩ = [] := by unfold Stn.recvF; rw [if_neg (fun hh => h1 hh.2.1)]
      have e3 : Stn.recv1 s now ⟨k, f, t, q, d⟩ = { s with now := now } := by unfold Stn.recv1; rw [if_neg h1]
      rw [e2, e3]
      exact recv_none h hs now k f t q D d.length cap d hd hD he hr
  · have e1 : Stn.recv s now ⟨k, f, t, q, d⟩ = s := by unfold Stn.recv; rw [if_neg he]
    have e2 : Stn.recvF s now ⟨k, f, t, q, d⟩ = [] := by unfold Stn.recvF; rw [if_neg (fun hh => he hh.1)]
    rw [e1, e2]
    refine (recv_no h hs now k f t q D d.length cap d rfl hn he).mono ?_
    rintro e w' ⟨rfl, hB⟩
    exact StPost.same h hB _
end
end Go.Proofs.Ytiidkmnagfhgiaa

/- few; shows. -/
import Derived.Test.YtiidkmnagfhgiaaSu
import Derived.Test.YtiidkmnagfhgiaaStAct
namespace Go.Proofs.Ytiidkmnagfhgiaa
open Go.RowKit
set_option maxHeartbeats 16000000
set_option maxRecDepth 100000
set_option linter.unusedSimpArgs false
set_option linter.unusedVariables false
attribute [local go_sem ↓] Go.wp_at_zero Go.wp_at_succ
def okA (a : LAct) : Bool := decide (a.f.d.length ≤ 100)
def fewB (l : List LAct) (most : Nat) : Bool := decide (l.length ≤ most) && l.all okA
theorem few_any (A : Option Addr) (n cap most B : Nat) (l : List LAct) (w : World) (h : LRf w B A n l) (hn : n ≤ 140737488355328) (hm : most ≤ 1000) :
    Calls Try.prog 10 #[.slice A n cap, .int .i64 most] w fun e w' => e = .returned (.bool (fewB l most)) ∧ w = w' := by
  have hl := h.1
  by_cases hnm : most < n
  · have E := Lib.hid (show fewB l most = false by unfold fewB; rw [decide_eq_false (by omega)]; rfl)
    clear h hl
    go_enter Try.func10, Try.ntmps10
    go_wp2_with fail
    go_ret
    exact ⟨ret_bool E.out.symm, rfl⟩
  · have H := Lib.hid h
    have HL := Lib.hid hl
    clear h hl
    go_enter Try.func10, Try.ntmps10
    go_wp2_with fail
    go_loop [5] (fun s => ∃ j : Nat, s = .int .i64 j ∧ j ≤ n ∧ Hid (∀ i, i < j → okA (l.getD i la0) = true)) (fun s => n - (intOf s).toNat)
    case atStart => exact ⟨0, by go_num, by omega, Lib.hid (fun i hi => absurd hi (by omega))⟩
    case round =>
      obtain ⟨j, rfl, hj, HA⟩ := hrel
      by_cases hlt : j < n
      · obtain ⟨b, o, rfl, hb, hc⟩ := H.out.2 (by omega)
        obtain ⟨E', ce, c0, c1, c2, c3, c4, c5, c6, c7, _⟩ := hc j hlt
        obtain ⟨x, hx⟩ : ∃ x, x = l.getD j la0 := ⟨_, rfl⟩
        rw [← hx] at c7
        have HX := Lib.hid hx
        have hjn : (j : Int) < (n : Int) := by omega
        clear hc c0 c1 c2 c3 c4 c5 c6 hx
        have NO := Lib.hid (show okA x = false → fewB l most = false from fun ho => by
          have hm' : x ∈ l := by rw [HX.out]; simp [List.getD, List.getElem?_eq_getElem (show j < l.length by rw [HL.out]; exact hlt)]
          unfold fewB
          have : l.all okA = false := by rw [List.all_eq_false]; exact ⟨x, hm', by rw [ho]; simp⟩
          rw [this]; simp)
        by_cases h2 : 100 < x.f.d.length
        · have E := Lib.hid (NO.out (by unfold okA; rw [decide_eq_false (show ¬ x.f.d.length ≤ 100 by omega)]))
          go_wp2_with fail
          go_ret
          exact ⟨ret_bool E.out.symm, rfl⟩
        · have Y := Lib.hid (show okA x = true by unfold okA; rw [decide_eq_true (by omega)])
          go_wp2_with fail
          go_round
          case rel => exact ⟨j + 1, by go_num, by omega, Lib.hid (fun i hi => by
            rcases Nat.lt_or_ge i j with h | h
            · exact HA.out i h
            · obtain rfl : i = j := by omega
              rw [← HX.out]; exact Y.out)⟩
          case measure => simp [intOf]; omega
      · obtain rfl : j = n := by omega
        have E := Lib.hid (show fewB l most = true by
          unfold fewB
          rw [decide_eq_true (by rw [HL.out]; omega), Bool.true_and, List.all_eq_true]
          intro x hx
          obtain ⟨i, hi, rfl⟩ := List.getElem_of_mem hx
          have := HA.out i (by rw [← HL.out]; exact hi)
          simpa [List.getD, List.getElem?_eq_getElem hi] using this)
        go_wp2_with fail
        go_ret
        exact ⟨ret_bool E.out.symm, rfl⟩
/-- what is not known is 0 -/
def Fit (s : Stn.St) : Prop := (s.some = false → s.prog = 0) ∧ ∀ x ∈ s.seen, x.1 = false → x.2.1 = 0 ∧ x.2.2 = 0
theorem fit_new (n : Nat) (again : Int) : Fit (Stn.new n again) := by
  refine ⟨fun _ => rfl, fun x hx h => ?_⟩
  simp only [Stn.new] at hx
  rw [List.mem_replicate] at hx
  rw [hx.2]; exact ⟨rfl, rfl⟩
theorem fit_give {s : Stn.St} (h : Fit s) (k now x : Int) : Fit (Stn.give s k now x) := by
  unfold Stn.give
  split
  · refine ⟨fun hh => ?_, h.2⟩
    simp only [Stn.give0, Bool.or_eq_false_iff, decide_eq_false_iff_not] at hh ⊢
    rw [if_neg hh.2]
    exact h.1 hh.1
  · exact h
theorem fit_tick {s : Stn.St} (h : Fit s) (now : Int) : Fit (Stn.tick s now) := by
  unfold Stn.tick
  split
  · split
    · exact ⟨h.1, h.2⟩
    · exact ⟨h.1, h.2⟩
  · exact h
theorem fit_recv {s : Stn.St} (h : Fit s) (now : Int) (y : Fr) : Fit (Stn.recv s now y) := by
  unfold Stn.recv Stn.recv1
  split
  · split
    · split
      · exact ⟨h.1, h.2⟩
      · split
        · refine ⟨h.1, fun x hx hh => ?_⟩
          simp only [Stn.reported] at hx
          rcases List.mem_or_eq_of_mem_set hx with hx | rfl
          · exact h.2 x hx hh
          · cases hh
        · exact ⟨h.1, h.2⟩
    · exact ⟨h.1, h.2⟩
  · exact h
theorem Row.ri {w : World} {base n c : Nat} {A : Option Addr} {l : List Nat} (h : Row w base 3 1 A n c (l.map (fun (i : Nat) => .int .i64 i))) (hl : ∀ x ∈ l, x ≤ 64) : Ri w w.heap.size A n (l.map (fun (i : Nat) => (i : Int))) := by
  have hlen := h.1
  rw [List.length_map, Nat.mul_one] at hlen
  refine ⟨by rw [List.length_map]; exact hlen, fun y hy => ?_, fun hn => ?_⟩
  · simp only [List.mem_map] at hy
    obtain ⟨x, hx, rfl⟩ := hy
    have := hl x hx; omega
  · obtain ⟨g, o, cur, rfl, _, hg, _, _, _, _, _, hcell, _⟩ := h.some_ hn
    refine ⟨g, o, rfl, hg, fun i hi => hcell i _ ?_⟩
    rw [List.getElem?_map, List.getElem?_eq_getElem (by omega)]
    simp [List.getD, List.getElem?_eq_getElem (show i < l.length by omega)]
end Go.Proofs.Ytiidkmnagfhgiaa

/- few of slices of any length; the guards' consequences. -/
import Derived.Test.YtgmejplcdecmkaaLgMg
namespace Go.Proofs.Ytgmejplcdecmkaa
open Go.RowKit
set_option maxHeartbeats 4000000
set_option maxRecDepth 100000
set_option linter.unusedSimpArgs false
set_option linter.unusedVariables false
attribute [local go_sem ↓] Go.wp_at_zero Go.wp_at_succ
theorem few_all (A : Option Addr) (n cap most B : Nat) (l : List AV) (w : World) (h : Ra w B A n l) (hn : n ≤ 9223372036854775807) (hm : most ≤ 1000) :
    Calls Try.prog 28 #[.slice A n cap, .int .i64 most] w fun e w' => e = .returned (.bool (fewB l most)) ∧ w = w' := by
  by_cases hnm : most < n
  · have hl := h.1
    have E := Lib.hid (show fewB l most = false by unfold fewB; rw [decide_eq_false (by omega)]; rfl)
    clear h hl
    go_enter Try.func28, Try.ntmps28
    go_wp2_with fail
    go_ret
    exact ⟨ret_bool E.out.symm, rfl⟩
  · exact few_any A n cap most B l w h (by omega) hm
theorem few_yes {l : List AV} {most : Nat} (hf : fewB l most = true) : l.length ≤ most ∧ ∀ y ∈ l, y.x.f.d.length ≤ 100 := by
  unfold fewB at hf
  simp only [Bool.and_eq_true, decide_eq_true_eq, List.all_eq_true] at hf
  exact ⟨hf.1, fun y hy => by have := hf.2 y hy; unfold okG at this; exact of_decide_eq_true this⟩
theorem room_len {A : Option Addr} {n cap : Nat} (h : Room A n cap) : n ≤ 9223372036854775807 := by
  have h1 := h.1
  have h2 := h.2.1
  unfold maxLen at h2
  omega
/-- act after act of one log and its reference, in a loop of the law -/
theorem LJ.start {w w1 : World} {p : Nat} (h : Lg.IsLg w1 w.heap.size p none 0 [] (fun i => w.heap.size ≤ i)) : Lg.LJ w1 w.heap.size p none 0 [] (fun i => w.heap.size ≤ i) none [] (fun _ => False) := ⟨h, Lg.IsJ.nil _ _, fun _ h => h.elim, rfl, Lg.Good.nil⟩
end Go.Proofs.Ytgmejplcdecmkaa

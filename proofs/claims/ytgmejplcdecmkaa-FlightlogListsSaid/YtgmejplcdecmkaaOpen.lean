/- Could bytes be the beginning of a frame? -/
import Derived.Test.YtgmejplcdecmkaaMisc
namespace Go.Proofs.Ytgmejplcdecmkaa
open Go.RowKit
set_option maxHeartbeats 4000000
set_option linter.unusedSimpArgs false
set_option linter.unusedVariables false
section
variable {w w' : World} {B : Nat} {A : Option Addr} {n cap : Nat} {l : List Int}
theorem Rd.sub {b o : Nat} (h : Rd w B (some ⟨b, o, none⟩) n l) (lo m : Nat) (hm : lo + m ≤ n) : Rd w B (some ⟨b, o + lo, none⟩) m ((l.drop lo).take m) := by
  obtain ⟨hl, hb, hr⟩ := h
  refine ⟨by simp; omega, fun x hx => hb x (List.mem_of_mem_drop (List.mem_of_mem_take hx)), fun hn => ?_⟩
  obtain ⟨b', o', e, hbl, hc⟩ := hr (by omega)
  injection e with e
  injection e with e1 e2
  subst e1; subst e2
  refine ⟨_, _, rfl, hbl, fun i hi => ?_⟩
  rw [Nat.add_assoc, hc (lo + i) (by omega)]
  congr 2
  simp [List.getD, List.getElem?_take, List.getElem?_drop, hi]
theorem Rd.take (h : Rd w B A n l) (m : Nat) (hm : m ≤ n) : Rd w B A m (l.take m) := by
  obtain ⟨hl, hb, hr⟩ := h
  refine ⟨by simp; omega, fun x hx => hb x (List.mem_of_mem_take hx), fun hn => ?_⟩
  obtain ⟨b', o', e, hbl, hc⟩ := hr (by omega)
  refine ⟨_, _, e, hbl, fun i hi => ?_⟩
  rw [hc i (by omega)]
  congr 2
  simp [List.getD, List.getElem?_take, hi]
theorem Rd.of_block {q : Nat} {t : TypeId} (h : w.heap[q]? = some (.cells (bv l).toArray t (0, 0))) (hq : q < B) (hb : By l) : Rd w B (some ⟨q, 0, none⟩) l.length l := by
  refine ⟨rfl, hb, fun hn => ⟨q, 0, rfl, hq, fun i hi => ?_⟩⟩
  rw [Nat.zero_add]
  exact blk_cell h i (by simp [bv, List.getElem?_eq_getElem hi, List.getD])
end
namespace Frm
/-- could bytes be the beginning of a frame, and are they fewer than it has -/
def opB (l : List Int) : Bool := decide ((0 < l.length → l.getD 0 0 = 213) ∧ (1 < l.length → l.getD 1 0 = 76) ∧ (8 ≤ l.length → l.getD 7 0 ≤ 64 ∧ (l.length : Int) < 10 + l.getD 7 0))
end Frm
theorem quiet_add {P : Program} {f : FuncId} {args : Array Value} {w : World} {a n : Nat} {v : Value}
    (h : Calls P f args (w.drewN (a + n)) fun e w' => e = .returned v ∧ ∃ m, w' = (w.drewN (a + n)).drewN m) :
    Calls P f args (w.drewN (a + n)) fun e w'' => e = .returned v ∧ ∃ m, w'' = w.drewN (a + m) :=
  h.mono fun _ _ ⟨he, m, hm⟩ => ⟨he, n + m, by rw [hm, World.drewN_drewN, Nat.add_assoc]⟩
theorem open_start (l : List Int) (k : Nat) (hk : k = min l.length 2) (h : l.take k = [213, 76].take k) : (0 < l.length → l.getD 0 0 = 213) ∧ (1 < l.length → l.getD 1 0 = 76) := by
  subst hk
  rcases l with _ | ⟨x, _ | ⟨y, t⟩⟩ <;> simp_all
theorem open_start' (l : List Int) (k : Nat) (hk : k = min l.length 2) (h : ¬ l.take k = [213, 76].take k) : ¬ ((0 < l.length → l.getD 0 0 = 213) ∧ (1 < l.length → l.getD 1 0 = 76)) := by
  subst hk
  rcases l with _ | ⟨x, _ | ⟨y, t⟩⟩ <;> simp_all
end Go.Proofs.Ytgmejplcdecmkaa

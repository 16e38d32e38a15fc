/- Check sums. -/
import Derived.Test.YtiidkmnagfhgiaaVal
import Derived.Test.YtiidkmnagfhgiaaCrc
import Derived.Laws.BitsAllLaws
import Derived.Laws.BitsLemmas
namespace Go.Proofs.Ytiidkmnagfhgiaa
open Go.RowKit
set_option maxHeartbeats 4000000
set_option linter.unusedSimpArgs false
set_option linter.unusedVariables false
theorem ofInt_nat (w : Nat) (a : Nat) (ha : a < 2 ^ w) : (BitVec.ofInt w (a : Int)).toNat = a := by
  rw [BitVec.ofInt_natCast, BitVec.toNat_ofNat]; exact Nat.mod_eq_of_lt ha
theorem u16_xor (a b : Nat) (ha : a < 65536) (hb : b < 65536) : bits .xor .u16 (a : Int) (b : Int) = ((a ^^^ b : Nat) : Int) := by
  have hx : a ^^^ b < 65536 := Frm.xor_lt ha hb
  show IntKind.u16.wrap ((BitVec.ofInt 16 (a : Int) ^^^ BitVec.ofInt 16 (b : Int)).toNat : Int) = _
  rw [BitVec.toNat_xor, ofInt_nat 16 a ha, ofInt_nat 16 b hb, IntKind.wrap_u16]
  omega
theorem i64_xor (a b : Nat) (ha : a < 65536) (hb : b < 65536) : bits .xor .i64 (a : Int) (b : Int) = ((a ^^^ b : Nat) : Int) := by
  have hx : a ^^^ b < 65536 := Frm.xor_lt ha hb
  show IntKind.i64.wrap ((BitVec.ofInt 64 (a : Int) ^^^ BitVec.ofInt 64 (b : Int)).toNat : Int) = _
  rw [BitVec.toNat_xor, ofInt_nat 64 a (by omega), ofInt_nat 64 b (by omega), IntKind.wrap_i64]
  omega
theorem u16_first {c : Nat} {y : Int} (hc : c < 65536) (hy : 0 ≤ y ∧ y < 256) : bits .xor .u16 (c : Int) (y * 256) = ((c ^^^ (y.toNat * 256) : Nat) : Int) := by
  rw [← u16_xor c _ hc (by omega)]
  congr 1; omega
theorem u16_yes {d : Nat} (h : ((d : Int) / 32768 == 1) = true) : bits .xor .u16 (IntKind.u16.wrap ((d : Int) * 2)) 4129 = ((Frm.step d : Nat) : Int) := by
  have h' : d / 32768 = 1 := by have := eq_of_beq h; omega
  rw [Frm.step, if_pos h', ← u16_xor _ _ (Nat.mod_lt _ (by decide)) (by decide), IntKind.wrap_u16]
  congr 1
theorem u16_no {d : Nat} (h : ((d : Int) / 32768 == 1) = false) : IntKind.u16.wrap ((d : Int) * 2) = ((Frm.step d : Nat) : Int) := by
  have h' : ¬ d / 32768 = 1 := by intro e; have := ne_of_beq_false h; omega
  rw [Frm.step, if_neg h', IntKind.wrap_u16]
  omega
theorem take_snoc (l : List Int) (k : Nat) (h : k < l.length) : l.take (k + 1) = l.take k ++ [l.getD k 0] := by
  rw [List.take_succ_eq_append_getElem h]; simp [List.getD, List.getElem?_eq_getElem h]
theorem By.take {l : List Int} (h : By l) (k : Nat) : By (l.take k) := fun x hx => h x (List.mem_of_mem_take hx)
theorem i64_no {d : Nat} {y : Int} {j : Nat} {q : Int} (hd : d < 65536) (hy : 0 ≤ y) (hq : q = y / ((2 ^ (7 - j) : Nat) : Int) % 2) (h : ((d : Int) / 32768 != q) = false) : (d : Int) % 32768 * 2 = ((Frm.rstep d (y.toNat / 2 ^ (7 - j) % 2) : Nat) : Int) := by
  have e : (d : Int) / 32768 = q := by simpa using h
  have e2 : d / 32768 = y.toNat / 2 ^ (7 - j) % 2 := by
    obtain ⟨m, rfl⟩ : ∃ m : Nat, y = m := ⟨y.toNat, by omega⟩
    simp only [Int.toNat_natCast]
    have : ((d / 32768 : Nat) : Int) = ((m / 2 ^ (7 - j) % 2 : Nat) : Int) := by rw [Int.natCast_ediv, Int.natCast_emod, Int.natCast_ediv]; exact e.trans hq
    omega
  rw [Frm.rstep, if_pos e2]
  omega
theorem i64_yes {d : Nat} {y : Int} {j : Nat} {q : Int} (hd : d < 65536) (hy : 0 ≤ y) (hq : q = y / ((2 ^ (7 - j) : Nat) : Int) % 2) (h : ((d : Int) / 32768 != q) = true) : bits .xor .i64 ((d : Int) % 32768 * 2) 4129 = ((Frm.rstep d (y.toNat / 2 ^ (7 - j) % 2) : Nat) : Int) := by
  have e : (d : Int) / 32768 ≠ q := by simpa using h
  have e2 : ¬ d / 32768 = y.toNat / 2 ^ (7 - j) % 2 := by
    obtain ⟨m, rfl⟩ : ∃ m : Nat, y = m := ⟨y.toNat, by omega⟩
    simp only [Int.toNat_natCast]
    intro g
    apply e
    rw [hq]
    have : ((d / 32768 : Nat) : Int) = ((m / 2 ^ (7 - j) % 2 : Nat) : Int) := by rw [g]
    rw [Int.natCast_ediv, Int.natCast_emod, Int.natCast_ediv] at this
    exact this
  rw [Frm.rstep, if_neg e2, ← i64_xor _ _ (by omega) (by decide)]
  congr 1
end Go.Proofs.Ytiidkmnagfhgiaa

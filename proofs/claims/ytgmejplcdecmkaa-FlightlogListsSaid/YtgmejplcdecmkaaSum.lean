/- Check sums. -/
import Derived.Test.YtgmejplcdecmkaaVal
import Derived.Test.YtgmejplcdecmkaaCrc
import Derived.Laws.BitsAllLaws
import Derived.Laws.BitsLemmas
namespace Go.Proofs.Ytgmejplcdecmkaa
open Go.RowKit
set_option maxHeartbeats 4000000
set_option linter.unusedSimpArgs false
set_option linter.unusedVariables false
theorem ofInt_nat (w : Nat) (a : Nat) (ha : a < 2 ^ w) : (BitVec.ofInt w (a : Int)).toNat = a := by
  rw [BitVec.ofInt_natCast, BitVec.toNat_ofNat]; exact Nat.mod_eq_of_lt ha
theorem u16_xor (a b : Nat) (ha : a < 65536) (hb : b < 65536) : bits .xor .u16 (a : Int) (b : Int) = ((a ^^^ b : Nat) : Int) := by
  have hx : a ^^^ b < 65536 := Frm.xor_lt ha hb
  show IntKind.u16.wrap ((BitVec.ofInt 16 (a : Int) ^^^ BitVec.ofInt 16 (b : Int)).toNat : Int) = _
  rw [BitVec.toNat_xor, ofInt_nat 16 a ha, ofInt_nat 16 b hb, IntKind.wrap_u16]
  omega
theorem i64_xor (a b : Nat) (ha : a < 65536) (hb : b < 65536) : bits .xor .i64 (a : Int) (b : Int) = ((a ^^^ b : Nat) : Int) := by
  have hx : a ^^^ b < 65536 := Frm.xor_lt ha hb
  show IntKind.i64.wrap ((BitVec.ofInt 64 (a : Int) ^^^ BitVec.ofInt 64 (b : Int)).toNat : Int) = _
  rw [BitVec.toNat_xor, ofInt_nat 64 a (by omega), ofInt_nat 64 b (by omega), IntKind.wrap_i64]
  omega
theorem u16_first {c : Nat} {y : Int} (hc : c < 65536) (hy : 0 ≤ y ∧ y < 256) : bits .xor .u16 (c : Int) (y * 256) = ((c ^^^ (y.toNat * 256) : Nat) : Int) := by
  rw [← u16_xor c _ hc (by omega)]
  congr 1; omega
theorem u16_yes {d : Nat} (h : ((d : Int) / 32768 == 1) = true) : bits .xor .u16 (IntKind.u16.wrap ((d : Int) * 2)) 4129 = ((Frm.step d : Nat) : Int) := by
  have h' : d / 32768 = 1 := by have := eq_of_beq h; omega
  rw [Frm.step, if_pos h', ← u16_xor _ _ (Nat.mod_lt _ (by decide)) (by decide), IntKind.wrap_u16]
  congr 1
theorem u16_no {d : Nat} (h : ((d : Int) / 32768 == 1) = false) : IntKind.u16.wrap ((d : Int) * 2) = ((Frm.step d : Nat) : Int) := by
  have h' : ¬ d / 32768 = 1 := by intro e; have := ne_of_beq_false h; omega
  rw [Frm.step, if_neg h', IntKind.wrap_u16]
  omega
theorem take_snoc (l : List Int) (k : Nat) (h : k < l.length) : l.take (k + 1) = l.take k ++ [l.getD k 0] := by
  rw [List.take_succ_eq_append_getElem h]; simp [List.getD, List.getElem?_eq_getElem h]
theorem By.take {l : List Int} (h : By l) (k : Nat) : By (l.take k) := fun x hx => h x (List.mem_of_mem_take hx)
theorem sum_any (A : Option Addr) (n cap : Nat) (l : List Int) (w : World) (hn : n ≤ 140737488355328) (h : Rd w w.heap.size A n l) :
    Calls Try.prog 84 #[.slice A n cap] w fun e w' => e = .returned (.int .i64 (Frm.crcN l : Nat)) ∧ w = w' := by
  obtain ⟨hl, hb, hr⟩ := h
  have HL := Lib.hid hl
  have HB := Lib.hid hb
  clear hl hb
  go_enter Try.func84, Try.ntmps84
  go_wp2_with fail
  go_loop [3, 9] (fun s3 s9 => ∃ (k : Nat), s9 = .int .i64 k ∧ k ≤ n ∧ s3 = .int .u16 (Frm.crcN (l.take k) : Nat)) (fun _ s9 => n - (intOf s9).toNat)
  case atStart => exact ⟨0, by go_num, by omega, by simp [Frm.crcN]⟩
  case round =>
    obtain ⟨k, rfl, hk, rfl⟩ := hrel
    have hc := Frm.crcN_lt (HB.out.take k)
    by_cases hlt : k < n
    · obtain ⟨b, o, rfl, hbl, hcl⟩ := hr (by omega)
      have hck := hcl k hlt
      have hby := HB.out.at_ k
      have E := Lib.hid (show Frm.crcN (l.take (k + 1)) = Frm.byteN (Frm.crcN (l.take k)) (l.getD k 0).toNat by rw [take_snoc l k (by rw [HL.out]; exact hlt), Frm.crcN_snoc])
      generalize l.getD k 0 = y at hck hby E
      generalize Frm.crcN (l.take k) = c at hc E
      have F := Lib.hid (u16_first hc hby)
      obtain ⟨y0, y1⟩ := hby
      clear hr hcl
      go_wp2_with fail
      rw [F.out]
      have G := Lib.hid (Frm.iter_lt (Frm.xor_lt hc (show y.toNat * 256 < 65536 by omega)))
      go_loop [3, 18] (fun s3 s18 => ∃ (j : Nat), s18 = .int .i64 j ∧ j ≤ 8 ∧ s3 = .int .u16 (Frm.iter j (c ^^^ (y.toNat * 256)) : Nat)) (fun _ s9 => 8 - (intOf s9).toNat)
      case atStart => exact ⟨0, by go_num, by omega, rfl⟩
      case round =>
        obtain ⟨j, rfl, hj, rfl⟩ := hrel
        have hd := G.out j
        have I := Lib.hid (show Frm.iter (j + 1) (c ^^^ (y.toNat * 256)) = Frm.step (Frm.iter j (c ^^^ (y.toNat * 256))) from rfl)
        by_cases hjl : j < 8
        · generalize Frm.iter j (c ^^^ (y.toNat * 256)) = d at hd I
          go_wp2_with fail
          all_goals go_round
          case rel => exact ⟨j + 1, by go_num, by omega, by rw [I.out]; first | rw [u16_yes (by with_reducible assumption)] | rw [u16_no (by with_reducible assumption)]⟩
          case measure => simp [intOf]; omega
          case rel => exact ⟨j + 1, by go_num, by omega, by rw [I.out]; first | rw [u16_yes (by with_reducible assumption)] | rw [u16_no (by with_reducible assumption)]⟩
          case measure => simp [intOf]; omega
        · obtain rfl : j = 8 := by omega
          have E' := Lib.hid (E.out.trans (show Frm.byteN c y.toNat = Frm.iter 8 (c ^^^ (y.toNat * 256)) from rfl))
          generalize Frm.iter 8 (c ^^^ (y.toNat * 256)) = d at hd E'
          go_wp2_with fail
          go_round
          case rel => exact ⟨k + 1, by go_num, by omega, by rw [E'.out]⟩
          case measure => simp [intOf]; omega
    · obtain rfl : k = n := by omega
      have E := Lib.hid (show l.take k = l by rw [List.take_of_length_le (by rw [HL.out]; omega)])
      go_wp2_with fail
      go_ret
      exact ⟨ret_int (by rw [E.out]), rfl⟩
theorem i64_no {d : Nat} {y : Int} {j : Nat} {q : Int} (hd : d < 65536) (hy : 0 ≤ y) (hq : q = y / ((2 ^ (7 - j) : Nat) : Int) % 2) (h : ((d : Int) / 32768 != q) = false) : (d : Int) % 32768 * 2 = ((Frm.rstep d (y.toNat / 2 ^ (7 - j) % 2) : Nat) : Int) := by
  have e : (d : Int) / 32768 = q := by simpa using h
  have e2 : d / 32768 = y.toNat / 2 ^ (7 - j) % 2 := by
    obtain ⟨m, rfl⟩ : ∃ m : Nat, y = m := ⟨y.toNat, by omega⟩
    simp only [Int.toNat_natCast]
    have : ((d / 32768 : Nat) : Int) = ((m / 2 ^ (7 - j) % 2 : Nat) : Int) := by rw [Int.natCast_ediv, Int.natCast_emod, Int.natCast_ediv]; exact e.trans hq
    omega
  rw [Frm.rstep, if_pos e2]
  omega
theorem i64_yes {d : Nat} {y : Int} {j : Nat} {q : Int} (hd : d < 65536) (hy : 0 ≤ y) (hq : q = y / ((2 ^ (7 - j) : Nat) : Int) % 2) (h : ((d : Int) / 32768 != q) = true) : bits .xor .i64 ((d : Int) % 32768 * 2) 4129 = ((Frm.rstep d (y.toNat / 2 ^ (7 - j) % 2) : Nat) : Int) := by
  have e : (d : Int) / 32768 ≠ q := by simpa using h
  have e2 : ¬ d / 32768 = y.toNat / 2 ^ (7 - j) % 2 := by
    obtain ⟨m, rfl⟩ : ∃ m : Nat, y = m := ⟨y.toNat, by omega⟩
    simp only [Int.toNat_natCast]
    intro g
    apply e
    rw [hq]
    have : ((d / 32768 : Nat) : Int) = ((m / 2 ^ (7 - j) % 2 : Nat) : Int) := by rw [g]
    rw [Int.natCast_ediv, Int.natCast_emod, Int.natCast_ediv] at this
    exact this
  rw [Frm.rstep, if_neg e2, ← i64_xor _ _ (by omega) (by decide)]
  congr 1
theorem rsum_any (A : Option Addr) (n cap : Nat) (l : List Int) (w : World) (hn : n ≤ 140737488355328) (h : Rd w w.heap.size A n l) :
    Calls Try.prog 75 #[.slice A n cap] w fun e w' => e = .returned (.int .i64 (Frm.crcN l : Nat)) ∧ ∃ q, w' = w.drewN q := by
  obtain ⟨hl, hb, hr⟩ := h
  have HL := Lib.hid hl
  have HB := Lib.hid hb
  clear hl hb
  go_enter Try.func75, Try.ntmps75
  go_wp2_with fail
  go_loopw [3, 4] (fun s3 s4 wr => ∃ (k q : Nat), s4 = .int .i64 k ∧ k ≤ n ∧ s3 = .int .i64 (Frm.crcN (l.take k) : Nat) ∧ wr = w.drewN q) (fun _ s4 _ => n - (intOf s4).toNat)
  case atStart => exact ⟨0, 0, by go_num, by omega, by simp [Frm.crcN], rfl⟩
  case round =>
    obtain ⟨k, q, rfl, hk, rfl, rfl⟩ := hrel
    have hc := Frm.crcN_lt (HB.out.take k)
    by_cases hlt : k < n
    · obtain ⟨b, o, rfl, hbl, hcl⟩ := hr (by omega)
      have hck := hcl k hlt
      have hby := HB.out.at_ k
      have E := Lib.hid (show Frm.crcN (l.take (k + 1)) = Frm.byteN (Frm.crcN (l.take k)) (l.getD k 0).toNat by rw [take_snoc l k (by rw [HL.out]; exact hlt), Frm.crcN_snoc])
      generalize l.getD k 0 = y at hck hby E
      generalize Frm.crcN (l.take k) = c at hc E
      obtain ⟨y0, y1⟩ := hby
      have F := Lib.hid (Frm.byteN_ref (y := y.toNat) hc (by omega))
      have G := Lib.hid (Frm.riter_lt (y := y.toNat) hc)
      clear hr hcl
      go_wp2_with fail
      go_loopw [3, 5] (fun s3 s5 wr => ∃ (j q : Nat), s5 = .int .i64 (7 - (j : Int)) ∧ j ≤ 8 ∧ s3 = .int .i64 (Frm.riter y.toNat j c : Nat) ∧ wr = w.drewN q) (fun _ s5 _ => (intOf s5 + 1).toNat)
      case atStart => exact ⟨0, q, by go_num, by omega, rfl, rfl⟩
      case round =>
        obtain ⟨j, q, rfl, hj, rfl, rfl⟩ := hrel
        have hd := G.out j
        by_cases hjl : j < 8
        · have I := Lib.hid (show Frm.riter y.toNat (j + 1) c = Frm.rstep (Frm.riter y.toNat j c) (y.toNat / 2 ^ (7 - j) % 2) from rfl)
          generalize Frm.riter y.toNat j c = d at hd I
          have hj' : j = 0 ∨ j = 1 ∨ j = 2 ∨ j = 3 ∨ j = 4 ∨ j = 5 ∨ j = 6 ∨ j = 7 := by omega
          clear hj hjl
          rcases hj' with rfl | rfl | rfl | rfl | rfl | rfl | rfl | rfl
          · go_wp2_with fail
            go_quiet (fail)
            go_wp2_with fail
            all_goals go_roundw
            case rel => exact ⟨1, _, by go_num, by omega, by rw [I.out]; first | exact congrArg (Value.int .i64) (i64_yes (j := 0) (q := y / 128 % 2) hd y0 (by simp) (by with_reducible assumption)) | exact congrArg (Value.int .i64) (i64_no (j := 0) (q := y / 128 % 2) hd y0 (by simp) (by with_reducible assumption)), rfl⟩
            case measure => simp [intOf]
            case rel => exact ⟨1, _, by go_num, by omega, by rw [I.out]; first | exact congrArg (Value.int .i64) (i64_yes (j := 0) (q := y / 128 % 2) hd y0 (by simp) (by with_reducible assumption)) | exact congrArg (Value.int .i64) (i64_no (j := 0) (q := y / 128 % 2) hd y0 (by simp) (by with_reducible assumption)), rfl⟩
            case measure => simp [intOf]
          · go_wp2_with fail
            go_quiet (fail)
            go_wp2_with fail
            all_goals go_roundw
            case rel => exact ⟨2, _, by go_num, by omega, by rw [I.out]; first | exact congrArg (Value.int .i64) (i64_yes (j := 1) (q := y / 64 % 2) hd y0 (by simp) (by with_reducible assumption)) | exact congrArg (Value.int .i64) (i64_no (j := 1) (q := y / 64 % 2) hd y0 (by simp) (by with_reducible assumption)), rfl⟩
            case measure => simp [intOf]
            case rel => exact ⟨2, _, by go_num, by omega, by rw [I.out]; first | exact congrArg (Value.int .i64) (i64_yes (j := 1) (q := y / 64 % 2) hd y0 (by simp) (by with_reducible assumption)) | exact congrArg (Value.int .i64) (i64_no (j := 1) (q := y / 64 % 2) hd y0 (by simp) (by with_reducible assumption)), rfl⟩
            case measure => simp [intOf]
          · go_wp2_with fail
            go_quiet (fail)
            go_wp2_with fail
            all_goals go_roundw
            case rel => exact ⟨3, _, by go_num, by omega, by rw [I.out]; first | exact congrArg (Value.int .i64) (i64_yes (j := 2) (q := y / 32 % 2) hd y0 (by simp) (by with_reducible assumption)) | exact congrArg (Value.int .i64) (i64_no (j := 2) (q := y / 32 % 2) hd y0 (by simp) (by with_reducible assumption)), rfl⟩
            case measure => simp [intOf]
            case rel => exact ⟨3, _, by go_num, by omega, by rw [I.out]; first | exact congrArg (Value.int .i64) (i64_yes (j := 2) (q := y / 32 % 2) hd y0 (by simp) (by with_reducible assumption)) | exact congrArg (Value.int .i64) (i64_no (j := 2) (q := y / 32 % 2) hd y0 (by simp) (by with_reducible assumption)), rfl⟩
            case measure => simp [intOf]
          · go_wp2_with fail
            go_quiet (fail)
            go_wp2_with fail
            all_goals go_roundw
            case rel => exact ⟨4, _, by go_num, by omega, by rw [I.out]; first | exact congrArg (Value.int .i64) (i64_yes (j := 3) (q := y / 16 % 2) hd y0 (by simp) (by with_reducible assumption)) | exact congrArg (Value.int .i64) (i64_no (j := 3) (q := y / 16 % 2) hd y0 (by simp) (by with_reducible assumption)), rfl⟩
            case measure => simp [intOf]
            case rel => exact ⟨4, _, by go_num, by omega, by rw [I.out]; first | exact congrArg (Value.int .i64) (i64_yes (j := 3) (q := y / 16 % 2) hd y0 (by simp) (by with_reducible assumption)) | exact congrArg (Value.int .i64) (i64_no (j := 3) (q := y / 16 % 2) hd y0 (by simp) (by with_reducible assumption)), rfl⟩
            case measure => simp [intOf]
          · go_wp2_with fail
            go_quiet (fail)
            go_wp2_with fail
            all_goals go_roundw
            case rel => exact ⟨5, _, by go_num, by omega, by rw [I.out]; first | exact congrArg (Value.int .i64) (i64_yes (j := 4) (q := y / 8 % 2) hd y0 (by simp) (by with_reducible assumption)) | exact congrArg (Value.int .i64) (i64_no (j := 4) (q := y / 8 % 2) hd y0 (by simp) (by with_reducible assumption)), rfl⟩
            case measure => simp [intOf]
            case rel => exact ⟨5, _, by go_num, by omega, by rw [I.out]; first | exact congrArg (Value.int .i64) (i64_yes (j := 4) (q := y / 8 % 2) hd y0 (by simp) (by with_reducible assumption)) | exact congrArg (Value.int .i64) (i64_no (j := 4) (q := y / 8 % 2) hd y0 (by simp) (by with_reducible assumption)), rfl⟩
            case measure => simp [intOf]
          · go_wp2_with fail
            go_quiet (fail)
            go_wp2_with fail
            all_goals go_roundw
            case rel => exact ⟨6, _, by go_num, by omega, by rw [I.out]; first | exact congrArg (Value.int .i64) (i64_yes (j := 5) (q := y / 4 % 2) hd y0 (by simp) (by with_reducible assumption)) | exact congrArg (Value.int .i64) (i64_no (j := 5) (q := y / 4 % 2) hd y0 (by simp) (by with_reducible assumption)), rfl⟩
            case measure => simp [intOf]
            case rel => exact ⟨6, _, by go_num, by omega, by rw [I.out]; first | exact congrArg (Value.int .i64) (i64_yes (j := 5) (q := y / 4 % 2) hd y0 (by simp) (by with_reducible assumption)) | exact congrArg (Value.int .i64) (i64_no (j := 5) (q := y / 4 % 2) hd y0 (by simp) (by with_reducible assumption)), rfl⟩
            case measure => simp [intOf]
          · go_wp2_with fail
            go_quiet (fail)
            go_wp2_with fail
            all_goals go_roundw
            case rel => exact ⟨7, _, by go_num, by omega, by rw [I.out]; first | exact congrArg (Value.int .i64) (i64_yes (j := 6) (q := y / 2 % 2) hd y0 (by simp) (by with_reducible assumption)) | exact congrArg (Value.int .i64) (i64_no (j := 6) (q := y / 2 % 2) hd y0 (by simp) (by with_reducible assumption)), rfl⟩
            case measure => simp [intOf]
            case rel => exact ⟨7, _, by go_num, by omega, by rw [I.out]; first | exact congrArg (Value.int .i64) (i64_yes (j := 6) (q := y / 2 % 2) hd y0 (by simp) (by with_reducible assumption)) | exact congrArg (Value.int .i64) (i64_no (j := 6) (q := y / 2 % 2) hd y0 (by simp) (by with_reducible assumption)), rfl⟩
            case measure => simp [intOf]
          · go_wp2_with fail
            go_quiet (fail)
            go_wp2_with fail
            all_goals go_roundw
            case rel => exact ⟨8, _, by go_num, by omega, by rw [I.out]; first | exact congrArg (Value.int .i64) (i64_yes (j := 7) (q := y % 2) hd y0 (by simp) (by with_reducible assumption)) | exact congrArg (Value.int .i64) (i64_no (j := 7) (q := y % 2) hd y0 (by simp) (by with_reducible assumption)), rfl⟩
            case measure => simp [intOf]
            case rel => exact ⟨8, _, by go_num, by omega, by rw [I.out]; first | exact congrArg (Value.int .i64) (i64_yes (j := 7) (q := y % 2) hd y0 (by simp) (by with_reducible assumption)) | exact congrArg (Value.int .i64) (i64_no (j := 7) (q := y % 2) hd y0 (by simp) (by with_reducible assumption)), rfl⟩
            case measure => simp [intOf]
        · obtain rfl : j = 8 := by omega
          rw [F.out] at hd ⊢
          rw [← E.out] at hd ⊢
          go_wp2_with fail
          go_roundw
          case rel => exact ⟨k + 1, q, by go_num, by omega, rfl, rfl⟩
          case measure => simp [intOf]; omega
    · obtain rfl : k = n := by omega
      have E := Lib.hid (show l.take k = l by rw [List.take_of_length_le (by rw [HL.out]; omega)])
      go_wp2_with fail
      go_ret
      exact ⟨ret_int (by rw [E.out]), q, rfl⟩
end Go.Proofs.Ytgmejplcdecmkaa

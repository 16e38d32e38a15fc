/- Decode: the check sum. -/
import Derived.Test.YteakljjalmgicaaDecA
namespace Go.Proofs.Yteakljjalmgicaa
open Go.RowKit
set_option maxHeartbeats 20000000
set_option linter.unusedSimpArgs false
set_option linter.unusedVariables false
attribute [local go_sem ↓] Go.wp_at_zero Go.wp_at_succ
theorem or_shl (u v : Int) (hu : 0 ≤ u ∧ u < 256) (hv : 0 ≤ v ∧ v < 256) : bits .or .i64 (u * 256) v = 256 * u + v := by
  obtain ⟨a, rfl⟩ : ∃ a : Nat, u = a := ⟨u.toNat, by omega⟩
  obtain ⟨c, rfl⟩ : ∃ c : Nat, v = c := ⟨v.toNat, by omega⟩
  show IntKind.i64.wrap ((BitVec.ofInt 64 ((a : Int) * 256) ||| BitVec.ofInt 64 (c : Int)).toNat : Int) = _
  have e : ((a : Int) * 256) = ((a * 256 : Nat) : Int) := by omega
  rw [e, BitVec.toNat_or, ofInt_nat 64 _ (by omega), ofInt_nat 64 c (by omega)]
  have : a * 256 ||| c = a * 256 + c := by
    rw [show a * 256 = a <<< 8 by rw [Nat.shiftLeft_eq]]
    exact (Nat.shiftLeft_add_eq_or_of_lt (show c < 2 ^ 8 by omega) a).symm
  rw [this, IntKind.wrap_i64]
  omega
set_option maxRecDepth 100000 in
theorem dec_5 (b o cap : Nat) (l : List Int) (w : World) (m : Nat) (hcap : 10 + m ≤ cap) (hcm : cap ≤ 9223372036854775807) (hbl : b < w.heap.size) (hm : m ≤ 64) (u v : Int) (c : Nat)
    (k0 : w.cell? ⟨b, o, none⟩ = some (.int .u8 213)) (k1 : w.cell? ⟨b, o + 1, none⟩ = some (.int .u8 76)) (k7 : w.cell? ⟨b, o + 7, none⟩ = some (.int .u8 m))
    (k8 : w.cell? ⟨b, o + (m + 8), none⟩ = some (.int .u8 u)) (k9 : w.cell? ⟨b, o + (m + 9), none⟩ = some (.int .u8 v)) (bu : 0 ≤ u ∧ u < 256) (bv : 0 ≤ v ∧ v < 256)
    (RS : Hid (∀ W : World, Below w.heap.size w W → Calls Try.prog 13 #[.slice (some ⟨b, o + 2, none⟩) (m + 6) (cap - 2)] W fun e w' => e = .returned (.int .i64 (c : Nat)) ∧ W = w'))
    (hc : (c : Int) ≠ 256 * u + v) (E : Hid (Frm.dE l = 10)) :
    Calls Try.prog 19 #[.slice (some ⟨b, o, none⟩) (10 + m) cap] w fun e w' => DPost w l e w' := by
  have ar := arr2 b o
  have kq : ∀ W : World, (Op.equalIn 10000 61 (.agg #[.int .u8 213, .int .u8 76]) (.agg #[.int .u8 213, .int .u8 76])).run Try.prog W = .ok true W := fun W => by rw [eqArr]; rfl
  have i2 : (2 : Int) ≤ (cap : Int) := by omega
  have z := (show ((c : Int) != 256 * u + v) = true by simpa using hc)
  have OS := Lib.hid (or_shl u v bu bv)
  clear hc
  go_enter Try.func19, Try.ntmps19
  go_upto_region 4 with fail
  go_cut [15] (fun s15 wx => s15 = .bool false ∧ Below w.heap.size w wx ∧ wx.heap[w.heap.size]? = some (.cells #[.int .i64 0, .int .i64 0, .int .i64 0, .int .i64 0, .slice none 0 0] 25 (0, 0)))
  case first =>
    have i0 : (0 : Int) < 10 + (m : Int) := by omega
    have i7 : (7 : Int) < 10 + (m : Int) := by omega
    have wx : IntKind.i64.wrap (m : Int) = m := IntWalk.i64_in _ (by omega)
    go_region_held3 (fun w' => w'.cell? ⟨b, o, none⟩ = some (.int .u8 213) ∧ w'.cell? ⟨b, o + 1, none⟩ = some (.int .u8 76) ∧ w'.cell? ⟨b, o + 7, none⟩ = some (.int .u8 m)) (refine ⟨?_, ?_, ?_⟩ <;> (first | (with_reducible assumption) | (simp only [World.cell?_drew]; with_reducible assumption) | (with_reducible apply cell_alloc_keep; with_reducible assumption) | go_keep)) (first | (go_at_call 31; refine (start_any _).mono ?_; rintro e w1 ⟨rfl, hb1⟩; have j0 := ((bcell hb1).1 b o (by first | omega | (simp; done) | (simp; omega))).trans (cell_alloc_keep k0); have j1 := ((bcell hb1).1 b (o + 1) (by first | omega | (simp; done) | (simp; omega))).trans (cell_alloc_keep k1); have j7 := ((bcell hb1).1 b (o + 7) (by first | omega | (simp; done) | (simp; omega))).trans (cell_alloc_keep k7); have hz1 := hb1.size; try simp at hz1; have h1 := blk_below (q := w.heap.size) (by first | exact heap_new _ _ | exact blk_drew (heap_new _ _)) hb1 (by first | omega | (simp; done) | (simp; omega)); have HB1 := (show Below w.heap.size w w1 from (by repeat (first | (with_reducible exact Below.refl _ _) | (with_reducible refine Below.drew ?_) | (with_reducible refine below_drewN ?_ _) | ((with_reducible refine Below.alloc ?_ ?_ _); rotate_left; (first | omega | (simp <;> omega)); rotate_right) | ((with_reducible refine Below.setCell ?_ ?_ _); rotate_left; (first | omega | (simp <;> omega)); rotate_right) | (with_reducible assumption) | (refine Below.trans ?_ (Below.mono (by assumption) ?_); rotate_left; (first | omega | (simp <;> omega)); rotate_right))))))
    all_goals (go_wp2_with fail; go_meet; exact ⟨(by first | rfl | (simp; omega)), HB1, h1⟩)
  case rest =>
    obtain ⟨rfl, HB, h1⟩ := hcut
    have hz := HB.size
    have l8 := ((bcell HB).1 b (o + (m + 8)) hbl).trans k8
    have l9 := ((bcell HB).1 b (o + (m + 9)) hbl).trans k9
    go_upto_region 10 with fail
    have w1 : IntKind.i64.wrap (10 + (m : Int) - 2) = (m : Int) + 8 := by rw [IntWalk.i64_in _ (by omega)]; omega
    have w2 : IntKind.i64.wrap (10 + (m : Int) - 1) = (m : Int) + 9 := by rw [IntWalk.i64_in _ (by omega)]; omega
    have w3 : IntKind.i64.wrap (u * 256) = u * 256 := IntWalk.i64_in _ (by omega)
    have w4 := OS.out
    clear k0 k1 k7 k8 k9
    go_quiet ((go_at_call 13; exact Calls.quiet_of_same ((RS.out _ (below_drewN HB _)).mono fun e w' h => ⟨h.1, h.2.symm⟩)))
    clear w1 w2 w3 w4
    have ca_0 := blk_cell h1 0 rfl; have fa_0 := blk_free h1 0; have ca_1 := blk_cell h1 1 rfl; have fa_1 := blk_free h1 1; have ca_2 := blk_cell h1 2 rfl; have fa_2 := blk_free h1 2; have ca_3 := blk_cell h1 3 rfl; have fa_3 := blk_free h1 3; have ca_4 := blk_cell h1 4 rfl; have fa_4 := blk_free h1 4; have la := lt_of_block h1
    go_wp2_with fail
    refine bodyPost_ret (v := .tuple #[.agg #[.int .i64 0, .int .i64 0, .int .i64 0, .int .i64 0, .slice none 0 0], .int .i64 10]) ?_ rfl (dpost_err E.out (by decide) (by repeat (first | (with_reducible exact Below.refl _ _) | (with_reducible refine Below.drew ?_) | (with_reducible refine below_drewN ?_ _) | ((with_reducible refine Below.alloc ?_ ?_ _); rotate_left; (first | omega | (simp <;> omega)); rotate_right) | ((with_reducible refine Below.setCell ?_ ?_ _); rotate_left; (first | omega | (simp <;> omega)); rotate_right) | (with_reducible assumption) | (refine Below.trans ?_ (Below.mono (by assumption) ?_); rotate_left; (first | omega | (simp <;> omega)); rotate_right))))
    simp [results, Try.results19, go_sem, *]
end Go.Proofs.Yteakljjalmgicaa

/- Decode: the errors. -/
import Derived.Test.YteakljjalmgicaaRDec
import Derived.Laws.Cover3
import Derived.Deep.DrawnRows
namespace Go.Proofs.Yteakljjalmgicaa
open Go.RowKit
attribute [local go_sem ↓] Go.wp_at_zero Go.wp_at_succ
set_option maxHeartbeats 20000000
set_option linter.unusedSimpArgs false
set_option linter.unusedVariables false

theorem dec_1 (A : Option Addr) (n cap : Nat) (l : List Int) (w : World) (h1 : n < 10) (h : Rd w w.heap.size A n l) :
    Calls Try.prog 19 #[.slice A n cap] w fun e w' => DPost w l e w' := by
  have hl := h.1
  have E := Lib.hid (Frm.dE_1 (l := l) (by omega))
  clear h hl
  go_enter Try.func19, Try.ntmps19
  go_wp2_with fail
  refine bodyPost_ret (v := .tuple #[.agg #[.int .i64 0, .int .i64 0, .int .i64 0, .int .i64 0, .slice none 0 0], .int .i64 4]) ?_ rfl (dpost_err E.out (by decide) (by repeat (first | (with_reducible exact Below.refl _ _) | (with_reducible refine Below.drew ?_) | (with_reducible refine below_drewN ?_ _) | ((with_reducible refine Below.alloc ?_ ?_ _); rotate_left; (first | omega | (simp <;> omega)); rotate_right) | ((with_reducible refine Below.setCell ?_ ?_ _); rotate_left; (first | omega | (simp <;> omega)); rotate_right) | (with_reducible assumption) | (refine Below.trans ?_ (Below.mono (by assumption) ?_); rotate_left; (first | omega | (simp <;> omega)); rotate_right))))
  simp [results, Try.results19, go_sem]
/-- the slice of two bytes as an array -/
theorem arr2 (b o n cap : Nat) (h : 2 ≤ n) (w : World) : (Instr.arrayAt 61 (.slice (some ⟨b, o, none⟩) n cap)).run Try.prog w = .ok (.pointer (some ⟨b, o, none⟩)) w :=
  run_arrayAt w 61 _ 2 _ n cap Try.underlying61 h
theorem eqArr (a b c d : Int) (w : World) : (Op.equalIn 10000 61 (.agg #[.int .u8 a, .int .u8 b]) (.agg #[.int .u8 c, .int .u8 d])).run Try.prog w = .ok (a == c && b == d) w := by
  have u5 := Try.underlying5
  have a5 := Try.isAgg5
  have z5 := Try.sizeOf5
  rw [show (10000 : Nat) = 9999 + 1 from rfl, Op.equalIn]
  simp only [Sem.run_bind, run_underlying Try.underlying61, Result.andThen_ok]
  simp only [Std.Legacy.Range.forIn_eq_forIn_range', Std.Legacy.Range.size, Nat.sub_zero, Nat.add_sub_cancel, Nat.div_one, List.range'_succ, List.range'_zero, List.forIn_cons, List.forIn_nil]
  go_simp
  by_cases h1 : a = c <;> by_cases h2 : b = d <;> simp [h1, h2]
theorem dec_2 (b o n cap : Nat) (l : List Int) (w : World) (hn : 10 ≤ n) (hcap : n ≤ cap) (hcm : cap ≤ 9223372036854775807) (h : Rd w w.heap.size (some ⟨b, o, none⟩) n l) (hbl : b < w.heap.size) (x0 x1 x7 : Int)
    (k0 : w.cell? ⟨b, o, none⟩ = some (.int .u8 x0)) (k1 : w.cell? ⟨b, o + 1, none⟩ = some (.int .u8 x1)) (k7 : w.cell? ⟨b, o + 7, none⟩ = some (.int .u8 x7)) (b7 : 0 ≤ x7 ∧ x7 < 256)
    (hx : x0 ≠ 213 ∨ x1 ≠ 76) (E : Hid (Frm.dE l = 6)) :
    Calls Try.prog 19 #[.slice (some ⟨b, o, none⟩) n cap] w fun e w' => DPost w l e w' := by
  clear h
  have hx' := Lib.hid hx
  clear hx
  have ar := arr2 b o
  have kq : ∀ W : World, (Op.equalIn 10000 61 (.agg #[.int .u8 x0, .int .u8 x1]) (.agg #[.int .u8 213, .int .u8 76])).run Try.prog W = .ok false W := fun W => by
    rw [eqArr]
    congr 1
    rcases hx'.out with h | h
    · rw [beq_eq_false_iff_ne.2 h]; rfl
    · rw [beq_eq_false_iff_ne.2 h, Bool.and_false]
  have i0 : (0 : Int) < (n : Int) := by omega
  have i2 : (2 : Int) ≤ (cap : Int) := by omega
  have i7 : (7 : Int) < (n : Int) := by omega
  obtain ⟨y7, z7⟩ := b7
  go_enter Try.func19, Try.ntmps19
  go_upto_region 4 with fail
  first | (go_region_with (first | (go_at_call 31; refine (start_any _).mono ?_; rintro e w1 ⟨rfl, hb1⟩; have j0 := ((bcell hb1).1 b o (by first | omega | (simp; done) | (simp; omega))).trans (cell_alloc_keep k0); have j1 := ((bcell hb1).1 b (o + 1) (by first | omega | (simp; done) | (simp; omega))).trans (cell_alloc_keep k1); have hz1 := hb1.size; try simp at hz1))) | fail
  all_goals (have h1 := blk_below (q := w.heap.size) (by first | exact heap_new _ _ | exact blk_drew (heap_new _ _)) hb1 (by first | omega | (simp; done) | (simp; omega)); (have ca_0 := blk_cell h1 0 rfl; have fa_0 := blk_free h1 0; have ca_1 := blk_cell h1 1 rfl; have fa_1 := blk_free h1 1; have ca_2 := blk_cell h1 2 rfl; have fa_2 := blk_free h1 2; have ca_3 := blk_cell h1 3 rfl; have fa_3 := blk_free h1 3; have ca_4 := blk_cell h1 4 rfl; have fa_4 := blk_free h1 4; have la := lt_of_block h1); clear j0 j1)
  all_goals (go_wp2_with fail; refine bodyPost_ret (v := .tuple #[.agg #[.int .i64 0, .int .i64 0, .int .i64 0, .int .i64 0, .slice none 0 0], .int .i64 6]) ?_ rfl (dpost_err E.out (by decide) (by repeat (first | (with_reducible exact Below.refl _ _) | (with_reducible refine Below.drew ?_) | (with_reducible refine below_drewN ?_ _) | ((with_reducible refine Below.alloc ?_ ?_ _); rotate_left; (first | omega | (simp <;> omega)); rotate_right) | ((with_reducible refine Below.setCell ?_ ?_ _); rotate_left; (first | omega | (simp <;> omega)); rotate_right) | (with_reducible assumption) | (refine Below.trans ?_ (Below.mono (by assumption) ?_); rotate_left; (first | omega | (simp <;> omega)); rotate_right)))); simp [results, Try.results19, go_sem, *])
theorem dec_2b (b o n cap : Nat) (l : List Int) (w : World) (hn : 10 ≤ n) (hcap : n ≤ cap) (hcm : cap ≤ 9223372036854775807) (hbl : b < w.heap.size) (x7 : Int)
    (k0 : w.cell? ⟨b, o, none⟩ = some (.int .u8 213)) (k1 : w.cell? ⟨b, o + 1, none⟩ = some (.int .u8 76)) (k7 : w.cell? ⟨b, o + 7, none⟩ = some (.int .u8 x7)) (b7 : 0 ≤ x7 ∧ x7 < 256)
    (hx : 64 < x7) (E : Hid (Frm.dE l = 6)) :
    Calls Try.prog 19 #[.slice (some ⟨b, o, none⟩) n cap] w fun e w' => DPost w l e w' := by
  have ar := arr2 b o
  have kq : ∀ W : World, (Op.equalIn 10000 61 (.agg #[.int .u8 213, .int .u8 76]) (.agg #[.int .u8 213, .int .u8 76])).run Try.prog W = .ok true W := fun W => by rw [eqArr]; rfl
  have i0 : (0 : Int) < (n : Int) := by omega
  have i2 : (2 : Int) ≤ (cap : Int) := by omega
  have i7 : (7 : Int) < (n : Int) := by omega
  obtain ⟨y7, z7⟩ := b7
  go_enter Try.func19, Try.ntmps19
  go_upto_region 4 with fail
  have wx : IntKind.i64.wrap x7 = x7 := IntWalk.i64_in _ (by omega)
  go_region_held3 (fun w' => w'.cell? ⟨b, o, none⟩ = some (.int .u8 213) ∧ w'.cell? ⟨b, o + 1, none⟩ = some (.int .u8 76) ∧ w'.cell? ⟨b, o + 7, none⟩ = some (.int .u8 x7)) (refine ⟨?_, ?_, ?_⟩ <;> (first | (with_reducible assumption) | (simp only [World.cell?_drew]; with_reducible assumption) | (with_reducible apply cell_alloc_keep; with_reducible assumption) | go_keep)) (first | (go_at_call 31; refine (start_any _).mono ?_; rintro e w1 ⟨rfl, hb1⟩; have j0 := ((bcell hb1).1 b o (by first | omega | (simp; done) | (simp; omega))).trans (cell_alloc_keep k0); have j1 := ((bcell hb1).1 b (o + 1) (by first | omega | (simp; done) | (simp; omega))).trans (cell_alloc_keep k1); have j7 := ((bcell hb1).1 b (o + 7) (by first | omega | (simp; done) | (simp; omega))).trans (cell_alloc_keep k7); have hz1 := hb1.size; try simp at hz1; have h1 := blk_below (q := w.heap.size) (by first | exact heap_new _ _ | exact blk_drew (heap_new _ _)) hb1 (by first | omega | (simp; done) | (simp; omega)); (have ca_0 := blk_cell h1 0 rfl; have fa_0 := blk_free h1 0; have ca_1 := blk_cell h1 1 rfl; have fa_1 := blk_free h1 1; have ca_2 := blk_cell h1 2 rfl; have fa_2 := blk_free h1 2; have ca_3 := blk_cell h1 3 rfl; have fa_3 := blk_free h1 3; have ca_4 := blk_cell h1 4 rfl; have fa_4 := blk_free h1 4; have la := lt_of_block h1)))
  all_goals (try clear wx)
  all_goals (go_wp2_with fail; refine bodyPost_ret (v := .tuple #[.agg #[.int .i64 0, .int .i64 0, .int .i64 0, .int .i64 0, .slice none 0 0], .int .i64 6]) ?_ rfl (dpost_err E.out (by decide) (by repeat (first | (with_reducible exact Below.refl _ _) | (with_reducible refine Below.drew ?_) | (with_reducible refine below_drewN ?_ _) | ((with_reducible refine Below.alloc ?_ ?_ _); rotate_left; (first | omega | (simp <;> omega)); rotate_right) | ((with_reducible refine Below.setCell ?_ ?_ _); rotate_left; (first | omega | (simp <;> omega)); rotate_right) | (with_reducible assumption) | (refine Below.trans ?_ (Below.mono (by assumption) ?_); rotate_left; (first | omega | (simp <;> omega)); rotate_right)))); simp [results, Try.results19, go_sem, *])
theorem dec_3 (b o n cap : Nat) (l : List Int) (w : World) (hn : 10 ≤ n) (hcap : n ≤ cap) (hcm : cap ≤ 9223372036854775807) (hbl : b < w.heap.size) (x7 : Int)
    (k0 : w.cell? ⟨b, o, none⟩ = some (.int .u8 213)) (k1 : w.cell? ⟨b, o + 1, none⟩ = some (.int .u8 76)) (k7 : w.cell? ⟨b, o + 7, none⟩ = some (.int .u8 x7)) (b7 : 0 ≤ x7 ∧ x7 ≤ 64)
    (hx : (n : Int) < 10 + x7) (E : Hid (Frm.dE l = 4)) :
    Calls Try.prog 19 #[.slice (some ⟨b, o, none⟩) n cap] w fun e w' => DPost w l e w' := by
  have ar := arr2 b o
  have kq : ∀ W : World, (Op.equalIn 10000 61 (.agg #[.int .u8 213, .int .u8 76]) (.agg #[.int .u8 213, .int .u8 76])).run Try.prog W = .ok true W := fun W => by rw [eqArr]; rfl
  have i0 : (0 : Int) < (n : Int) := by omega
  have i2 : (2 : Int) ≤ (cap : Int) := by omega
  have i7 : (7 : Int) < (n : Int) := by omega
  obtain ⟨y7, z7⟩ := b7
  go_enter Try.func19, Try.ntmps19
  go_upto_region 4 with fail
  have wx : IntKind.i64.wrap x7 = x7 := IntWalk.i64_in _ (by omega)
  go_region_held3 (fun w' => w'.cell? ⟨b, o, none⟩ = some (.int .u8 213) ∧ w'.cell? ⟨b, o + 1, none⟩ = some (.int .u8 76) ∧ w'.cell? ⟨b, o + 7, none⟩ = some (.int .u8 x7)) (refine ⟨?_, ?_, ?_⟩ <;> (first | (with_reducible assumption) | (simp only [World.cell?_drew]; with_reducible assumption) | (with_reducible apply cell_alloc_keep; with_reducible assumption) | go_keep)) (first | (go_at_call 31; refine (start_any _).mono ?_; rintro e w1 ⟨rfl, hb1⟩; have j0 := ((bcell hb1).1 b o (by first | omega | (simp; done) | (simp; omega))).trans (cell_alloc_keep k0); have j1 := ((bcell hb1).1 b (o + 1) (by first | omega | (simp; done) | (simp; omega))).trans (cell_alloc_keep k1); have j7 := ((bcell hb1).1 b (o + 7) (by first | omega | (simp; done) | (simp; omega))).trans (cell_alloc_keep k7); have hz1 := hb1.size; try simp at hz1; have h1 := blk_below (q := w.heap.size) (by first | exact heap_new _ _ | exact blk_drew (heap_new _ _)) hb1 (by first | omega | (simp; done) | (simp; omega)); (have ca_0 := blk_cell h1 0 rfl; have fa_0 := blk_free h1 0; have ca_1 := blk_cell h1 1 rfl; have fa_1 := blk_free h1 1; have ca_2 := blk_cell h1 2 rfl; have fa_2 := blk_free h1 2; have ca_3 := blk_cell h1 3 rfl; have fa_3 := blk_free h1 3; have ca_4 := blk_cell h1 4 rfl; have fa_4 := blk_free h1 4; have la := lt_of_block h1)))
  all_goals (try clear wx)
  all_goals (go_wp2_with fail; refine bodyPost_ret (v := .tuple #[.agg #[.int .i64 0, .int .i64 0, .int .i64 0, .int .i64 0, .slice none 0 0], .int .i64 4]) ?_ rfl (dpost_err E.out (by decide) (by repeat (first | (with_reducible exact Below.refl _ _) | (with_reducible refine Below.drew ?_) | (with_reducible refine below_drewN ?_ _) | ((with_reducible refine Below.alloc ?_ ?_ _); rotate_left; (first | omega | (simp <;> omega)); rotate_right) | ((with_reducible refine Below.setCell ?_ ?_ _); rotate_left; (first | omega | (simp <;> omega)); rotate_right) | (with_reducible assumption) | (refine Below.trans ?_ (Below.mono (by assumption) ?_); rotate_left; (first | omega | (simp <;> omega)); rotate_right)))); simp [results, Try.results19, go_sem, *])
theorem dec_4 (b o n cap : Nat) (l : List Int) (w : World) (hn : 10 ≤ n) (hcap : n ≤ cap) (hcm : cap ≤ 9223372036854775807) (hbl : b < w.heap.size) (x7 : Int)
    (k0 : w.cell? ⟨b, o, none⟩ = some (.int .u8 213)) (k1 : w.cell? ⟨b, o + 1, none⟩ = some (.int .u8 76)) (k7 : w.cell? ⟨b, o + 7, none⟩ = some (.int .u8 x7)) (b7 : 0 ≤ x7 ∧ x7 ≤ 64)
    (hx : 10 + x7 < (n : Int)) (E : Hid (Frm.dE l = 5)) :
    Calls Try.prog 19 #[.slice (some ⟨b, o, none⟩) n cap] w fun e w' => DPost w l e w' := by
  have ar := arr2 b o
  have kq : ∀ W : World, (Op.equalIn 10000 61 (.agg #[.int .u8 213, .int .u8 76]) (.agg #[.int .u8 213, .int .u8 76])).run Try.prog W = .ok true W := fun W => by rw [eqArr]; rfl
  have i0 : (0 : Int) < (n : Int) := by omega
  have i2 : (2 : Int) ≤ (cap : Int) := by omega
  have i7 : (7 : Int) < (n : Int) := by omega
  obtain ⟨y7, z7⟩ := b7
  go_enter Try.func19, Try.ntmps19
  go_upto_region 4 with fail
  have wx : IntKind.i64.wrap x7 = x7 := IntWalk.i64_in _ (by omega)
  go_region_held3 (fun w' => w'.cell? ⟨b, o, none⟩ = some (.int .u8 213) ∧ w'.cell? ⟨b, o + 1, none⟩ = some (.int .u8 76) ∧ w'.cell? ⟨b, o + 7, none⟩ = some (.int .u8 x7)) (refine ⟨?_, ?_, ?_⟩ <;> (first | (with_reducible assumption) | (simp only [World.cell?_drew]; with_reducible assumption) | (with_reducible apply cell_alloc_keep; with_reducible assumption) | go_keep)) (first | (go_at_call 31; refine (start_any _).mono ?_; rintro e w1 ⟨rfl, hb1⟩; have j0 := ((bcell hb1).1 b o (by first | omega | (simp; done) | (simp; omega))).trans (cell_alloc_keep k0); have j1 := ((bcell hb1).1 b (o + 1) (by first | omega | (simp; done) | (simp; omega))).trans (cell_alloc_keep k1); have j7 := ((bcell hb1).1 b (o + 7) (by first | omega | (simp; done) | (simp; omega))).trans (cell_alloc_keep k7); have hz1 := hb1.size; try simp at hz1; have h1 := blk_below (q := w.heap.size) (by first | exact heap_new _ _ | exact blk_drew (heap_new _ _)) hb1 (by first | omega | (simp; done) | (simp; omega)); (have ca_0 := blk_cell h1 0 rfl; have fa_0 := blk_free h1 0; have ca_1 := blk_cell h1 1 rfl; have fa_1 := blk_free h1 1; have ca_2 := blk_cell h1 2 rfl; have fa_2 := blk_free h1 2; have ca_3 := blk_cell h1 3 rfl; have fa_3 := blk_free h1 3; have ca_4 := blk_cell h1 4 rfl; have fa_4 := blk_free h1 4; have la := lt_of_block h1)))
  all_goals (try clear wx)
  all_goals (go_wp2_with fail; refine bodyPost_ret (v := .tuple #[.agg #[.int .i64 0, .int .i64 0, .int .i64 0, .int .i64 0, .slice none 0 0], .int .i64 5]) ?_ rfl (dpost_err E.out (by decide) (by repeat (first | (with_reducible exact Below.refl _ _) | (with_reducible refine Below.drew ?_) | (with_reducible refine below_drewN ?_ _) | ((with_reducible refine Below.alloc ?_ ?_ _); rotate_left; (first | omega | (simp <;> omega)); rotate_right) | ((with_reducible refine Below.setCell ?_ ?_ _); rotate_left; (first | omega | (simp <;> omega)); rotate_right) | (with_reducible assumption) | (refine Below.trans ?_ (Below.mono (by assumption) ?_); rotate_left; (first | omega | (simp <;> omega)); rotate_right)))); simp [results, Try.results19, go_sem, *])
end Go.Proofs.Yteakljjalmgicaa

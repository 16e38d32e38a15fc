import Derived.Test.YtdocdgcdldpagaaGreatAp
import Derived.Test.YtdocdgcdldpagaaGreatAv05
import Derived.Laws.Cover3
import Derived.Deep.DrawnRows
namespace Go.Proofs.YtdocdgcdldpagaaGreat
open Go.RowKit
set_option maxRecDepth 100000
set_option maxHeartbeats 20000000
set_option linter.unusedSimpArgs false
set_option linter.unusedVariables false
namespace Frm
def dm (l : List Int) : Nat := (l.getD 7 0).toNat
def dsum (l : List Int) : Nat := crcN ((l.drop 2).take (dm l + 6))
def dS (l : List Int) : Int := 256 * l.getD 5 0 + l.getD 6 0
def dd (l : List Int) : List Int := (l.drop 8).take (dm l)
def dE (l : List Int) : Int :=
  if l.length < 10 then 4 else if ¬ (l.getD 0 0 = 213 ∧ l.getD 1 0 = 76 ∧ l.getD 7 0 ≤ 64) then 6 else if l.length < 10 + dm l then 4 else if 10 + dm l < l.length then 5 else
  if ((dsum l : Nat) : Int) ≠ 256 * l.getD (dm l + 8) 0 + l.getD (dm l + 9) 0 then 10 else if vd (l.getD 2 0) (l.getD 3 0) (l.getD 4 0) (dS l) (dm l) = false then 6 else 0
theorem dE_1 {l : List Int} (h : l.length < 10) : dE l = 4 := by rw [dE, if_pos h]
theorem dE_2 {l : List Int} (h : 10 ≤ l.length) (g : ¬ (l.getD 0 0 = 213 ∧ l.getD 1 0 = 76 ∧ l.getD 7 0 ≤ 64)) : dE l = 6 := by rw [dE, if_neg Cb, if_pos g]
theorem dE_3 {l : List Int} (h : 10 ≤ l.length) (g : l.getD 0 0 = 213 ∧ l.getD 1 0 = 76 ∧ l.getD 7 0 ≤ 64) (k : l.length < 10 + dm l) : dE l = 4 := by rw [dE, if_neg Cb, if_neg (by simpa using g), if_pos k]
theorem dE_4 {l : List Int} (h : 10 ≤ l.length) (g : l.getD 0 0 = 213 ∧ l.getD 1 0 = 76 ∧ l.getD 7 0 ≤ 64) (k : 10 + dm l < l.length) : dE l = 5 := by rw [dE, if_neg Cb, if_neg (by simpa using g), if_neg Cb, if_pos k]
theorem dE_5 {l : List Int} (g : l.getD 0 0 = 213 ∧ l.getD 1 0 = 76 ∧ l.getD 7 0 ≤ 64) (k : l.length = 10 + dm l) (c : ((dsum l : Nat) : Int) ≠ 256 * l.getD (dm l + 8) 0 + l.getD (dm l + 9) 0) : dE l = 10 := by
  rw [dE, if_neg Cb, if_neg (by simpa using g), if_neg Cb, if_neg Cb, if_pos c]
theorem dE_6 {l : List Int} (g : l.getD 0 0 = 213 ∧ l.getD 1 0 = 76 ∧ l.getD 7 0 ≤ 64) (k : l.length = 10 + dm l) (c : ((dsum l : Nat) : Int) = 256 * l.getD (dm l + 8) 0 + l.getD (dm l + 9) 0) (v : vd (l.getD 2 0) (l.getD 3 0) (l.getD 4 0) (dS l) (dm l) = false) : dE l = 6 := by
  rw [dE, if_neg Cb, if_neg (by simpa using g), if_neg Cb, if_neg Cb, if_neg (by simpa using c), if_pos v]
theorem dE_0 {l : List Int} (g : l.getD 0 0 = 213 ∧ l.getD 1 0 = 76 ∧ l.getD 7 0 ≤ 64) (k : l.length = 10 + dm l) (c : ((dsum l : Nat) : Int) = 256 * l.getD (dm l + 8) 0 + l.getD (dm l + 9) 0) (v : vd (l.getD 2 0) (l.getD 3 0) (l.getD 4 0) (dS l) (dm l) = true) : dE l = 0 := by
  rw [dE, if_neg Cb, if_neg (by simpa using g), if_neg Cb, if_neg Cb, if_neg (by simpa using c), if_neg (by rw [v]; decide)]
end Frm
theorem cell_alloc_keep {W : World} {o : Obj} {p : Addr} {v : Value} (h : W.cell? p = some v) : (W.alloc o).cell? p = some v := (World.cell?_alloc_lt W o p (World.block_lt_of_cell? W p h)).trans h
theorem cell_drew_keep {W : World} {p : Addr} {v : Value} (h : W.cell? p = some v) : W.drew.cell? p = some v := h
theorem cell_set_keep {W : World} {p q : Addr} {u v : Value} (h : W.cell? p = some v) (hq : W.cell? q = none ∨ p.block ≠ q.block) : (W.setCell q u).cell? p = some v := by
  rcases hq with hq | hq
  · exact (World.cell?_setCell_other W q p u (fun e => by subst e; rw [h] at hq; cases hq)).trans h
  · exact (World.cell?_setCell_other W q p u (fun e => by subst e; exact hq rfl)).trans h
theorem Ow.far {w : World} {base : Nat} {A : Option Addr} {n cap : Nat} {l : List Int} {p : Addr} (h : Ow w base A n cap l) (hp : p.block < base) (u : Value) : Ow (w.setCell p u) base A n cap l :=
  h.grown (row := some p.block) ⟨rfl, rfl, rfl, by simp [World.setCell], fun i hi hne => Below.heap_setCell w p u i (fun e => hne (by rw [e]))⟩ (fun g e => by
    rcases h.form with ⟨e2, _⟩ | ⟨g', e2, hb, _⟩
    · rw [e2] at e; cases e
    · rw [e2] at e; injection e with e; injection e with e; subst e; intro hh; injection hh with hh; omega)
def DPost (w : World) (l : List Int) (e : Ending) (w' : World) : Prop :=
  (Frm.dE l ≠ 0 ∧ e = .returned (.tuple #[.agg #[.int .i64 0, .int .i64 0, .int .i64 0, .int .i64 0, .slice none 0 0], .int .i64 (Frm.dE l)]) ∧ Below w.heap.size w w') ∨
  (Frm.dE l = 0 ∧ ∃ A' cap', e = .returned (.tuple #[.agg #[.int .i64 (l.getD 2 0), .int .i64 (l.getD 3 0), .int .i64 (l.getD 4 0), .int .i64 (Frm.dS l), .slice A' (Frm.dm l) cap'], .int .i64 0]) ∧ Ow w' w.heap.size A' (Frm.dm l) cap' (Frm.dd l) ∧ Below w.heap.size w w')
theorem dpost_err {w w' : World} {l : List Int} {n : Int} (h : Frm.dE l = n) (hn : n ≠ 0) (hb : Below w.heap.size w w') : DPost w l (.returned (.tuple #[.agg #[.int .i64 0, .int .i64 0, .int .i64 0, .int .i64 0, .slice none 0 0], .int .i64 n])) w' :=
  .inl ⟨by omega, by rw [h], hb⟩
end Go.Proofs.YtdocdgcdldpagaaGreat
namespace Go.Proofs.YtdocdgcdldpagaaGreat
open Go.RowKit
attribute [local go_sem ↓] Go.wp_at_zero Go.wp_at_succ
set_option maxHeartbeats 20000000
set_option linter.unusedSimpArgs false
set_option linter.unusedVariables false
theorem dec_1 (A : Option Addr) (n cap : Nat) (l : List Int) (w : World) (h1 : n < 10) (h : Rd w w.heap.size A n l) :
    Calls Tryz.prog 132 #[.slice A n cap] w fun e w' => DPost w l e w' := by
  have hl := h.1
  have E := Lib.hid (Frm.dE_1 (l := l) Cb)
  clear h hl
  go_enter Tryz.func132, Tryz.ntmps132
  go_wp2_with fail
  refine bodyPost_ret (v := .tuple #[.agg #[.int .i64 0, .int .i64 0, .int .i64 0, .int .i64 0, .slice none 0 0], .int .i64 4]) ?_ rfl (dpost_err E.out C8 A9)
  simp [results, Tryz.results132, go_sem]
theorem arr2 (b o n cap : Nat) (h : 2 ≤ n) (w : World) : (Instr.arrayAt 248 (.slice (some ⟨b, o, none⟩) n cap)).run Tryz.prog w = .ok (.pointer (some ⟨b, o, none⟩)) w :=
  run_arrayAt w 248 _ 2 _ n cap Tryz.underlying248 h
theorem eqArr (a b c d : Int) (w : World) : (Op.equalIn 10000 248 (.agg #[.int .u8 a, .int .u8 b]) (.agg #[.int .u8 c, .int .u8 d])).run Tryz.prog w = .ok (a == c && b == d) w := by
  have u5 := Tryz.underlying5
  have a5 := Tryz.isAgg5
  have z5 := Tryz.sizeOf5
  rw [show (10000 : Nat) = 9999 + 1 from rfl, Op.equalIn]
  simp only [Sem.run_bind, run_underlying Tryz.underlying248, Result.andThen_ok]
  simp only [Std.Legacy.Range.forIn_eq_forIn_range', Std.Legacy.Range.size, Nat.sub_zero, Nat.add_sub_cancel, Nat.div_one, List.range'_succ, List.range'_zero, List.forIn_cons, List.forIn_nil]
  go_simp
  by_cases h1 : a = c <;> by_cases h2 : b = d <;> simp [h1, h2]
theorem dec_2 (b o n cap : Nat) (l : List Int) (w : World) (hn : 10 ≤ n) (hcap : n ≤ cap) (hcm : cap ≤ 9223372036854775807) (h : Rd w w.heap.size (some ⟨b, o, none⟩) n l) (hbl : b < w.heap.size) (x0 x1 x7 : Int)
    (k0 : w.cell? ⟨b, o, none⟩ = some (.int .u8 x0)) (k1 : w.cell? ⟨b, o + 1, none⟩ = some (.int .u8 x1)) (k7 : w.cell? ⟨b, o + 7, none⟩ = some (.int .u8 x7)) (b7 : 0 ≤ x7 ∧ x7 < 256)
    (hx : x0 ≠ 213 ∨ x1 ≠ 76) (E : Hid (Frm.dE l = 6)) :
    Calls Tryz.prog 132 #[.slice (some ⟨b, o, none⟩) n cap] w fun e w' => DPost w l e w' := by
  clear h
  have hx' := Lib.hid hx
  clear hx
  have ar := arr2 b o
  have kq : ∀ W : World, (Op.equalIn 10000 248 (.agg #[.int .u8 x0, .int .u8 x1]) (.agg #[.int .u8 213, .int .u8 76])).run Tryz.prog W = .ok false W := fun W => by
    rw [eqArr]
    congr 1
    rcases hx'.out with h | h
    · rw [beq_eq_false_iff_ne.2 h]; rfl
    · rw [beq_eq_false_iff_ne.2 h, Bool.and_false]
  have i0 : (0 : Int) < (n : Int) := by omega
  have i2 : (2 : Int) ≤ (cap : Int) := by omega
  have i7 : (7 : Int) < (n : Int) := by omega
  obtain ⟨y7, z7⟩ := b7
  go_enter Tryz.func132, Tryz.ntmps132
  go_upto_region 4 with fail
  first | (go_region_with (first | (go_at_call 150; refine (start_any _).mono ?_; rintro e w1 ⟨rfl, hb1⟩; have j0 := ((bcell hb1).1 b o Ba).trans (cell_alloc_keep k0); have j1 := ((bcell hb1).1 b (o + 1) Ba).trans (cell_alloc_keep k1); have hz1 := hb1.size; try simp at hz1))) | fail
  all_goals (have h1 := blk_below (q := w.heap.size) Aw hb1 Ba; (have ca_0 := blk_cell h1 0 rfl; have fa_0 := blk_free h1 0; have ca_1 := blk_cell h1 1 rfl; have fa_1 := blk_free h1 1; have ca_2 := blk_cell h1 2 rfl; have fa_2 := blk_free h1 2; have ca_3 := blk_cell h1 3 rfl; have fa_3 := blk_free h1 3; have ca_4 := blk_cell h1 4 rfl; have fa_4 := blk_free h1 4; have la := lt_of_block h1); clear j0 j1)
  all_goals (go_wp2_with fail; refine bodyPost_ret (v := .tuple #[.agg #[.int .i64 0, .int .i64 0, .int .i64 0, .int .i64 0, .slice none 0 0], .int .i64 6]) ?_ rfl (dpost_err E.out C8 A9); simp [results, Tryz.results132, go_sem, *])
theorem dec_2b (b o n cap : Nat) (l : List Int) (w : World) (hn : 10 ≤ n) (hcap : n ≤ cap) (hcm : cap ≤ 9223372036854775807) (hbl : b < w.heap.size) (x7 : Int)
    (k0 : w.cell? ⟨b, o, none⟩ = some (.int .u8 213)) (k1 : w.cell? ⟨b, o + 1, none⟩ = some (.int .u8 76)) (k7 : w.cell? ⟨b, o + 7, none⟩ = some (.int .u8 x7)) (b7 : 0 ≤ x7 ∧ x7 < 256)
    (hx : 64 < x7) (E : Hid (Frm.dE l = 6)) :
    Calls Tryz.prog 132 #[.slice (some ⟨b, o, none⟩) n cap] w fun e w' => DPost w l e w' := by
  have ar := arr2 b o
  have kq : ∀ W : World, (Op.equalIn 10000 248 (.agg #[.int .u8 213, .int .u8 76]) (.agg #[.int .u8 213, .int .u8 76])).run Tryz.prog W = .ok true W := fun W => by rw [eqArr]; rfl
  have i0 : (0 : Int) < (n : Int) := by omega
  have i2 : (2 : Int) ≤ (cap : Int) := by omega
  have i7 : (7 : Int) < (n : Int) := by omega
  obtain ⟨y7, z7⟩ := b7
  go_enter Tryz.func132, Tryz.ntmps132
  go_upto_region 4 with fail
  have wx : IntKind.i64.wrap x7 = x7 := IntWalk.i64_in _ Cb
  go_region_held3 (fun w' => w'.cell? ⟨b, o, none⟩ = some (.int .u8 213) ∧ w'.cell? ⟨b, o + 1, none⟩ = some (.int .u8 76) ∧ w'.cell? ⟨b, o + 7, none⟩ = some (.int .u8 x7)) (refine ⟨?_, ?_, ?_⟩ <;> (first | (with_reducible assumption) | (simp only [World.cell?_drew]; with_reducible assumption) | (with_reducible apply cell_alloc_keep; with_reducible assumption) | go_keep)) (first | (go_at_call 150; refine (start_any _).mono ?_; rintro e w1 ⟨rfl, hb1⟩; have j0 := ((bcell hb1).1 b o Ba).trans (cell_alloc_keep k0); have j1 := ((bcell hb1).1 b (o + 1) Ba).trans (cell_alloc_keep k1); have j7 := ((bcell hb1).1 b (o + 7) Ba).trans (cell_alloc_keep k7); have hz1 := hb1.size; try simp at hz1; have h1 := blk_below (q := w.heap.size) Aw hb1 Ba; (have ca_0 := blk_cell h1 0 rfl; have fa_0 := blk_free h1 0; have ca_1 := blk_cell h1 1 rfl; have fa_1 := blk_free h1 1; have ca_2 := blk_cell h1 2 rfl; have fa_2 := blk_free h1 2; have ca_3 := blk_cell h1 3 rfl; have fa_3 := blk_free h1 3; have ca_4 := blk_cell h1 4 rfl; have fa_4 := blk_free h1 4; have la := lt_of_block h1)))
  all_goals (try clear wx)
  all_goals (go_wp2_with fail; refine bodyPost_ret (v := .tuple #[.agg #[.int .i64 0, .int .i64 0, .int .i64 0, .int .i64 0, .slice none 0 0], .int .i64 6]) ?_ rfl (dpost_err E.out C8 A9); simp [results, Tryz.results132, go_sem, *])
theorem dec_3 (b o n cap : Nat) (l : List Int) (w : World) (hn : 10 ≤ n) (hcap : n ≤ cap) (hcm : cap ≤ 9223372036854775807) (hbl : b < w.heap.size) (x7 : Int)
    (k0 : w.cell? ⟨b, o, none⟩ = some (.int .u8 213)) (k1 : w.cell? ⟨b, o + 1, none⟩ = some (.int .u8 76)) (k7 : w.cell? ⟨b, o + 7, none⟩ = some (.int .u8 x7)) (b7 : 0 ≤ x7 ∧ x7 ≤ 64)
    (hx : (n : Int) < 10 + x7) (E : Hid (Frm.dE l = 4)) :
    Calls Tryz.prog 132 #[.slice (some ⟨b, o, none⟩) n cap] w fun e w' => DPost w l e w' := by
  have ar := arr2 b o
  have kq : ∀ W : World, (Op.equalIn 10000 248 (.agg #[.int .u8 213, .int .u8 76]) (.agg #[.int .u8 213, .int .u8 76])).run Tryz.prog W = .ok true W := fun W => by rw [eqArr]; rfl
  have i0 : (0 : Int) < (n : Int) := by omega
  have i2 : (2 : Int) ≤ (cap : Int) := by omega
  have i7 : (7 : Int) < (n : Int) := by omega
  obtain ⟨y7, z7⟩ := b7
  go_enter Tryz.func132, Tryz.ntmps132
  go_upto_region 4 with fail
  have wx : IntKind.i64.wrap x7 = x7 := IntWalk.i64_in _ Cb
  go_region_held3 (fun w' => w'.cell? ⟨b, o, none⟩ = some (.int .u8 213) ∧ w'.cell? ⟨b, o + 1, none⟩ = some (.int .u8 76) ∧ w'.cell? ⟨b, o + 7, none⟩ = some (.int .u8 x7)) (refine ⟨?_, ?_, ?_⟩ <;> (first | (with_reducible assumption) | (simp only [World.cell?_drew]; with_reducible assumption) | (with_reducible apply cell_alloc_keep; with_reducible assumption) | go_keep)) (first | (go_at_call 150; refine (start_any _).mono ?_; rintro e w1 ⟨rfl, hb1⟩; have j0 := ((bcell hb1).1 b o Ba).trans (cell_alloc_keep k0); have j1 := ((bcell hb1).1 b (o + 1) Ba).trans (cell_alloc_keep k1); have j7 := ((bcell hb1).1 b (o + 7) Ba).trans (cell_alloc_keep k7); have hz1 := hb1.size; try simp at hz1; have h1 := blk_below (q := w.heap.size) Aw hb1 Ba; (have ca_0 := blk_cell h1 0 rfl; have fa_0 := blk_free h1 0; have ca_1 := blk_cell h1 1 rfl; have fa_1 := blk_free h1 1; have ca_2 := blk_cell h1 2 rfl; have fa_2 := blk_free h1 2; have ca_3 := blk_cell h1 3 rfl; have fa_3 := blk_free h1 3; have ca_4 := blk_cell h1 4 rfl; have fa_4 := blk_free h1 4; have la := lt_of_block h1)))
  all_goals (try clear wx)
  all_goals (go_wp2_with fail; refine bodyPost_ret (v := .tuple #[.agg #[.int .i64 0, .int .i64 0, .int .i64 0, .int .i64 0, .slice none 0 0], .int .i64 4]) ?_ rfl (dpost_err E.out C8 A9); simp [results, Tryz.results132, go_sem, *])
theorem dec_4 (b o n cap : Nat) (l : List Int) (w : World) (hn : 10 ≤ n) (hcap : n ≤ cap) (hcm : cap ≤ 9223372036854775807) (hbl : b < w.heap.size) (x7 : Int)
    (k0 : w.cell? ⟨b, o, none⟩ = some (.int .u8 213)) (k1 : w.cell? ⟨b, o + 1, none⟩ = some (.int .u8 76)) (k7 : w.cell? ⟨b, o + 7, none⟩ = some (.int .u8 x7)) (b7 : 0 ≤ x7 ∧ x7 ≤ 64)
    (hx : 10 + x7 < (n : Int)) (E : Hid (Frm.dE l = 5)) :
    Calls Tryz.prog 132 #[.slice (some ⟨b, o, none⟩) n cap] w fun e w' => DPost w l e w' := by
  have ar := arr2 b o
  have kq : ∀ W : World, (Op.equalIn 10000 248 (.agg #[.int .u8 213, .int .u8 76]) (.agg #[.int .u8 213, .int .u8 76])).run Tryz.prog W = .ok true W := fun W => by rw [eqArr]; rfl
  have i0 : (0 : Int) < (n : Int) := by omega
  have i2 : (2 : Int) ≤ (cap : Int) := by omega
  have i7 : (7 : Int) < (n : Int) := by omega
  obtain ⟨y7, z7⟩ := b7
  go_enter Tryz.func132, Tryz.ntmps132
  go_upto_region 4 with fail
  have wx : IntKind.i64.wrap x7 = x7 := IntWalk.i64_in _ Cb
  go_region_held3 (fun w' => w'.cell? ⟨b, o, none⟩ = some (.int .u8 213) ∧ w'.cell? ⟨b, o + 1, none⟩ = some (.int .u8 76) ∧ w'.cell? ⟨b, o + 7, none⟩ = some (.int .u8 x7)) (refine ⟨?_, ?_, ?_⟩ <;> (first | (with_reducible assumption) | (simp only [World.cell?_drew]; with_reducible assumption) | (with_reducible apply cell_alloc_keep; with_reducible assumption) | go_keep)) (first | (go_at_call 150; refine (start_any _).mono ?_; rintro e w1 ⟨rfl, hb1⟩; have j0 := ((bcell hb1).1 b o Ba).trans (cell_alloc_keep k0); have j1 := ((bcell hb1).1 b (o + 1) Ba).trans (cell_alloc_keep k1); have j7 := ((bcell hb1).1 b (o + 7) Ba).trans (cell_alloc_keep k7); have hz1 := hb1.size; try simp at hz1; have h1 := blk_below (q := w.heap.size) Aw hb1 Ba; (have ca_0 := blk_cell h1 0 rfl; have fa_0 := blk_free h1 0; have ca_1 := blk_cell h1 1 rfl; have fa_1 := blk_free h1 1; have ca_2 := blk_cell h1 2 rfl; have fa_2 := blk_free h1 2; have ca_3 := blk_cell h1 3 rfl; have fa_3 := blk_free h1 3; have ca_4 := blk_cell h1 4 rfl; have fa_4 := blk_free h1 4; have la := lt_of_block h1)))
  all_goals (try clear wx)
  all_goals (go_wp2_with fail; refine bodyPost_ret (v := .tuple #[.agg #[.int .i64 0, .int .i64 0, .int .i64 0, .int .i64 0, .slice none 0 0], .int .i64 5]) ?_ rfl (dpost_err E.out C8 A9); simp [results, Tryz.results132, go_sem, *])
end Go.Proofs.YtdocdgcdldpagaaGreat
namespace Go.Proofs.YtdocdgcdldpagaaGreat
open Go.RowKit
set_option maxHeartbeats 20000000
set_option linter.unusedSimpArgs false
set_option linter.unusedVariables false
attribute [local go_sem ↓] Go.wp_at_zero Go.wp_at_succ
theorem or_shl (u v : Int) (hu : 0 ≤ u ∧ u < 256) (hv : 0 ≤ v ∧ v < 256) : bits .or .i64 (u * 256) v = 256 * u + v := by
  obtain ⟨a, rfl⟩ : ∃ a : Nat, u = a := ⟨u.toNat, by omega⟩
  obtain ⟨c, rfl⟩ : ∃ c : Nat, v = c := ⟨v.toNat, by omega⟩
  show IntKind.i64.wrap ((BitVec.ofInt 64 ((a : Int) * 256) ||| BitVec.ofInt 64 (c : Int)).toNat : Int) = _
  have e : ((a : Int) * 256) = ((a * 256 : Nat) : Int) := by omega
  rw [e, BitVec.toNat_or, ofInt_nat 64 _ Cb, ofInt_nat 64 c Cb]
  have : a * 256 ||| c = a * 256 + c := by
    rw [show a * 256 = a <<< 8 by rw [Nat.shiftLeft_eq]]
    exact (Nat.shiftLeft_add_eq_or_of_lt (show c < 2 ^ 8 by omega) a).symm
  rw [this, IntKind.wrap_i64]
  omega
set_option maxRecDepth 100000 in
theorem dec_5 (b o cap : Nat) (l : List Int) (w : World) (m : Nat) (hcap : 10 + m ≤ cap) (hcm : cap ≤ 9223372036854775807) (hbl : b < w.heap.size) (hm : m ≤ 64) (u v : Int) (c : Nat)
    (k0 : w.cell? ⟨b, o, none⟩ = some (.int .u8 213)) (k1 : w.cell? ⟨b, o + 1, none⟩ = some (.int .u8 76)) (k7 : w.cell? ⟨b, o + 7, none⟩ = some (.int .u8 m))
    (k8 : w.cell? ⟨b, o + (m + 8), none⟩ = some (.int .u8 u)) (k9 : w.cell? ⟨b, o + (m + 9), none⟩ = some (.int .u8 v)) (bu : 0 ≤ u ∧ u < 256) (bv : 0 ≤ v ∧ v < 256)
    (RS : Hid (∀ W : World, Below w.heap.size w W → Calls Tryz.prog 151 #[.slice (some ⟨b, o + 2, none⟩) (m + 6) (cap - 2)] W fun e w' => e = .returned (.int .i64 (c : Nat)) ∧ W = w'))
    (hc : (c : Int) ≠ 256 * u + v) (E : Hid (Frm.dE l = 10)) :
    Calls Tryz.prog 132 #[.slice (some ⟨b, o, none⟩) (10 + m) cap] w fun e w' => DPost w l e w' := by
  have ar := arr2 b o
  have kq : ∀ W : World, (Op.equalIn 10000 248 (.agg #[.int .u8 213, .int .u8 76]) (.agg #[.int .u8 213, .int .u8 76])).run Tryz.prog W = .ok true W := fun W => by rw [eqArr]; rfl
  have i2 : (2 : Int) ≤ (cap : Int) := by omega
  have z := (show ((c : Int) != 256 * u + v) = true by simpa using hc)
  have OS := Lib.hid (or_shl u v bu bv)
  clear hc
  go_enter Tryz.func132, Tryz.ntmps132
  go_upto_region 4 with fail
  go_cut [15] (fun s15 wx => s15 = .bool false ∧ Below w.heap.size w wx ∧ wx.heap[w.heap.size]? = some (.cells #[.int .i64 0, .int .i64 0, .int .i64 0, .int .i64 0, .slice none 0 0] 147 (0, 0)))
  case first =>
    have i0 : (0 : Int) < 10 + (m : Int) := by omega
    have i7 : (7 : Int) < 10 + (m : Int) := by omega
    have wx : IntKind.i64.wrap (m : Int) = m := IntWalk.i64_in _ Cb
    go_region_held3 (fun w' => w'.cell? ⟨b, o, none⟩ = some (.int .u8 213) ∧ w'.cell? ⟨b, o + 1, none⟩ = some (.int .u8 76) ∧ w'.cell? ⟨b, o + 7, none⟩ = some (.int .u8 m)) (refine ⟨?_, ?_, ?_⟩ <;> (first | (with_reducible assumption) | (simp only [World.cell?_drew]; with_reducible assumption) | (with_reducible apply cell_alloc_keep; with_reducible assumption) | go_keep)) (first | (go_at_call 150; refine (start_any _).mono ?_; rintro e w1 ⟨rfl, hb1⟩; have j0 := ((bcell hb1).1 b o Ba).trans (cell_alloc_keep k0); have j1 := ((bcell hb1).1 b (o + 1) Ba).trans (cell_alloc_keep k1); have j7 := ((bcell hb1).1 b (o + 7) Ba).trans (cell_alloc_keep k7); have hz1 := hb1.size; try simp at hz1; have h1 := blk_below (q := w.heap.size) Aw hb1 Ba; have HB1 := (show Below w.heap.size w w1 from A9)))
    all_goals (go_wp2_with fail; go_meet; exact ⟨(by first | rfl | (simp; omega)), HB1, h1⟩)
  case rest =>
    obtain ⟨rfl, HB, h1⟩ := hcut
    have hz := HB.size
    have l8 := ((bcell HB).1 b (o + (m + 8)) hbl).trans k8
    have l9 := ((bcell HB).1 b (o + (m + 9)) hbl).trans k9
    go_upto_region 10 with fail
    have w1 : IntKind.i64.wrap (10 + (m : Int) - 2) = (m : Int) + 8 := by rw [IntWalk.i64_in _ Cb]; omega
    have w2 : IntKind.i64.wrap (10 + (m : Int) - 1) = (m : Int) + 9 := by rw [IntWalk.i64_in _ Cb]; omega
    have w3 : IntKind.i64.wrap (u * 256) = u * 256 := IntWalk.i64_in _ Cb
    have w4 := OS.out
    clear k0 k1 k7 k8 k9
    go_quiet ((go_at_call 151; exact Calls.quiet_of_same ((RS.out _ (below_drewN HB _)).mono fun e w' h => ⟨h.1, h.2.symm⟩)))
    clear w1 w2 w3 w4
    have ca_0 := blk_cell h1 0 rfl; have fa_0 := blk_free h1 0; have ca_1 := blk_cell h1 1 rfl; have fa_1 := blk_free h1 1; have ca_2 := blk_cell h1 2 rfl; have fa_2 := blk_free h1 2; have ca_3 := blk_cell h1 3 rfl; have fa_3 := blk_free h1 3; have ca_4 := blk_cell h1 4 rfl; have fa_4 := blk_free h1 4; have la := lt_of_block h1
    go_wp2_with fail
    refine bodyPost_ret (v := .tuple #[.agg #[.int .i64 0, .int .i64 0, .int .i64 0, .int .i64 0, .slice none 0 0], .int .i64 10]) ?_ rfl (dpost_err E.out C8 A9)
    simp [results, Tryz.results132, go_sem, *]
end Go.Proofs.YtdocdgcdldpagaaGreat

import Derived.Test.YtdocdgcdldpagaaGreatAp
import Derived.Test.YtdocdgcdldpagaaGreatAv06
import Derived.Test.YtdocdgcdldpagaaGreatAv03
import Derived.RangeFuncBox
import Derived.RangeFuncLeaves
import Derived.Shelf.Abstract
import Derived.OwnWalkIn
import Derived.TacticsInMore
import Derived.LoopNIn
import Derived.LoopIn
import Derived.Maps.AppendAt
namespace Go.Proofs.YtdocdgcdldpagaaGreat
open Go.RowKit
set_option maxHeartbeats 20000000
set_option linter.unusedSimpArgs false
set_option linter.unusedVariables false
attribute [local go_sem ↓] Go.wp_at_zero Go.wp_at_succ
def ClP (W : World) (m : Nat) (l : List Int) (e : Ending) (w' : World) : Prop := ∃ A' cap', e = .returned (.slice A' m cap') ∧ Ow w' W.heap.size A' m cap' l ∧ Below W.heap.size W w'
theorem five_set {w : World} {X : Nat} {a b c d e a' b' c' d' e' : Value} {t : TypeId} (h : w.heap[X]? = some (.cells #[a, b, c, d, e] t (0, 0))) :
    (((((w.setCell ⟨X, 0, none⟩ a').setCell ⟨X, 1, none⟩ b').setCell ⟨X, 2, none⟩ c').setCell ⟨X, 3, none⟩ d').setCell ⟨X, 4, none⟩ e').heap[X]? = some (.cells #[a', b', c', d', e'] t (0, 0)) :=
  (blk_set (blk_set (blk_set (blk_set (blk_set h 0 a') 1 b') 2 c') 3 d') 4 e').trans rfl
theorem five_far {w : World} {X q : Nat} {a' b' c' d' e' : Value} {x : Obj} (h : w.heap[q]? = some x) (hq : q ≠ X) :
    (((((w.setCell ⟨X, 0, none⟩ a').setCell ⟨X, 1, none⟩ b').setCell ⟨X, 2, none⟩ c').setCell ⟨X, 3, none⟩ d').setCell ⟨X, 4, none⟩ e').heap[q]? = some x :=
  blk_far (blk_far (blk_far (blk_far (blk_far h hq _) hq _) hq _) hq _) hq _
theorem five_ow {w : World} {X base : Nat} {A : Option Addr} {n cap : Nat} {l : List Int} {a' b' c' d' e' : Value} (h : Ow w base A n cap l) (hq : X < base) :
    Ow (((((w.setCell ⟨X, 0, none⟩ a').setCell ⟨X, 1, none⟩ b').setCell ⟨X, 2, none⟩ c').setCell ⟨X, 3, none⟩ d').setCell ⟨X, 4, none⟩ e') base A n cap l :=
  Ow.far (Ow.far (Ow.far (Ow.far (Ow.far h hq _) hq _) hq _) hq _) hq _
theorem five_below {w v : World} {X B : Nat} {a' b' c' d' e' : Value} (h : Below B v w) (hq : B ≤ X) :
    Below B v (((((w.setCell ⟨X, 0, none⟩ a').setCell ⟨X, 1, none⟩ b').setCell ⟨X, 2, none⟩ c').setCell ⟨X, 3, none⟩ d').setCell ⟨X, 4, none⟩ e') :=
  ((((h.setCell hq _).setCell hq _).setCell hq _).setCell hq _).setCell hq _
theorem cell_far_keep {W : World} {p q : Addr} {u v : Value} (h : W.cell? p = some v) (hq : p.block ≠ q.block) : (W.setCell q u).cell? p = some v := cell_set_keep h (.inr hq)
set_option maxRecDepth 100000 in
theorem dec_0 (b o cap : Nat) (l d : List Int) (w : World) (m : Nat) (hcap : 10 + m ≤ cap) (hcm : cap ≤ 9223372036854775807) (hbl : b < w.heap.size) (hm : m ≤ 64) (u v x2 x3 x4 x5 x6 : Int) (c : Nat)
    (k0 : w.cell? ⟨b, o, none⟩ = some (.int .u8 213)) (k1 : w.cell? ⟨b, o + 1, none⟩ = some (.int .u8 76)) (k7 : w.cell? ⟨b, o + 7, none⟩ = some (.int .u8 m))
    (k2 : w.cell? ⟨b, o + 2, none⟩ = some (.int .u8 x2)) (k3 : w.cell? ⟨b, o + 3, none⟩ = some (.int .u8 x3)) (k4 : w.cell? ⟨b, o + 4, none⟩ = some (.int .u8 x4)) (k5 : w.cell? ⟨b, o + 5, none⟩ = some (.int .u8 x5)) (k6 : w.cell? ⟨b, o + 6, none⟩ = some (.int .u8 x6))
    (k8 : w.cell? ⟨b, o + (m + 8), none⟩ = some (.int .u8 u)) (k9 : w.cell? ⟨b, o + (m + 9), none⟩ = some (.int .u8 v)) (bu : 0 ≤ u ∧ u < 256) (bv : 0 ≤ v ∧ v < 256)
    (b2 : 0 ≤ x2 ∧ x2 < 256) (b3 : 0 ≤ x3 ∧ x3 < 256) (b4 : 0 ≤ x4 ∧ x4 < 256) (b5 : 0 ≤ x5 ∧ x5 < 256) (b6 : 0 ≤ x6 ∧ x6 < 256)
    (RS : Hid (∀ W : World, Below w.heap.size w W → Calls Tryz.prog 151 #[.slice (some ⟨b, o + 2, none⟩) (m + 6) (cap - 2)] W fun e w' => e = .returned (.int .i64 (c : Nat)) ∧ W = w'))
    (RC : Hid (∀ W : World, Below w.heap.size w W → Calls Tryz.prog 154 #[.slice (some ⟨b, o + 8, none⟩) m (cap - 8)] W fun e w' => ClP W m d e w'))
    (hc : (c : Int) = 256 * u + v) (E : Hid (∀ e w', (Frm.vd x2 x3 x4 (256 * x5 + x6) m = true → ∃ A' cap', e = .returned (.tuple #[.agg #[.int .i64 x2, .int .i64 x3, .int .i64 x4, .int .i64 (256 * x5 + x6), .slice A' m cap'], .int .i64 0]) ∧ Ow w' w.heap.size A' m cap' d ∧ Below w.heap.size w w') →
      (Frm.vd x2 x3 x4 (256 * x5 + x6) m = false → e = .returned (.tuple #[.agg #[.int .i64 0, .int .i64 0, .int .i64 0, .int .i64 0, .slice none 0 0], .int .i64 6]) ∧ Below w.heap.size w w') → DPost w l e w')) :
    Calls Tryz.prog 132 #[.slice (some ⟨b, o, none⟩) (10 + m) cap] w fun e w' => DPost w l e w' := by
  have ar := arr2 b o
  have kq : ∀ W : World, (Op.equalIn 10000 248 (.agg #[.int .u8 213, .int .u8 76]) (.agg #[.int .u8 213, .int .u8 76])).run Tryz.prog W = .ok true W := fun W => by rw [eqArr]; rfl
  have i2 : (2 : Int) ≤ (cap : Int) := by omega
  have z := (show ((c : Int) != 256 * u + v) = false by simpa using hc)
  have OS := Lib.hid (or_shl u v bu bv)
  have OT := Lib.hid (or_shl x5 x6 b5 b6)
  clear hc
  obtain ⟨y2, y2'⟩ := b2
  obtain ⟨y3, y3'⟩ := b3
  obtain ⟨y4, y4'⟩ := b4
  obtain ⟨y5, y5'⟩ := b5
  obtain ⟨y6, y6'⟩ := b6
  go_enter Tryz.func132, Tryz.ntmps132
  go_upto_region 4 with fail
  go_cut [15] (fun s15 wx => s15 = .bool false ∧ Below w.heap.size w wx ∧ wx.heap[w.heap.size]? = some (.cells #[.int .i64 0, .int .i64 0, .int .i64 0, .int .i64 0, .slice none 0 0] 147 (0, 0)))
  case first =>
    have i0 : (0 : Int) < 10 + (m : Int) := by omega
    have i7 : (7 : Int) < 10 + (m : Int) := by omega
    have wx : IntKind.i64.wrap (m : Int) = m := IntWalk.i64_in _ Cb
    go_region_held3 (fun w' => w'.cell? ⟨b, o, none⟩ = some (.int .u8 213) ∧ w'.cell? ⟨b, o + 1, none⟩ = some (.int .u8 76) ∧ w'.cell? ⟨b, o + 7, none⟩ = some (.int .u8 m)) (refine ⟨?_, ?_, ?_⟩ <;> (first | (with_reducible assumption) | (simp only [World.cell?_drew]; with_reducible assumption) | (with_reducible apply cell_alloc_keep; with_reducible assumption) | go_keep)) (first | (go_at_call 150; refine (start_any _).mono ?_; rintro e w1 ⟨rfl, hb1⟩; have j0 := ((bcell hb1).1 b o Ba).trans (cell_alloc_keep k0); have j1 := ((bcell hb1).1 b (o + 1) Ba).trans (cell_alloc_keep k1); have j7 := ((bcell hb1).1 b (o + 7) Ba).trans (cell_alloc_keep k7); have hz1 := hb1.size; try simp at hz1; have h1 := blk_below (q := w.heap.size) Aw hb1 Ba; have HB1 := (show Below w.heap.size w w1 from A9)))
    all_goals (go_wp2_with fail; go_meet; exact ⟨(by first | rfl | (simp; omega)), HB1, h1⟩)
  case rest =>
    obtain ⟨rfl, HB, h1⟩ := hcut
    have hz := HB.size
    have l8 := ((bcell HB).1 b (o + (m + 8)) hbl).trans k8
    have l9 := ((bcell HB).1 b (o + (m + 9)) hbl).trans k9
    go_upto_region 10 with fail
    have w1 : IntKind.i64.wrap (10 + (m : Int) - 2) = (m : Int) + 8 := by rw [IntWalk.i64_in _ Cb]; omega
    have w2 : IntKind.i64.wrap (10 + (m : Int) - 1) = (m : Int) + 9 := by rw [IntWalk.i64_in _ Cb]; omega
    have w3 : IntKind.i64.wrap (u * 256) = u * 256 := IntWalk.i64_in _ Cb
    have w4 := OS.out
    clear k0 k1 k7 k8 k9
    go_quiet ((go_at_call 151; exact Calls.quiet_of_same ((RS.out _ (below_drewN HB _)).mono fun e w' h => ⟨h.1, h.2.symm⟩)))
    clear w2 w3 w4 l8 l9
    go_wp2_with fail
    obtain ⟨wq, hwq⟩ : ∃ wq : World, wq = wc.drewN nq := ⟨_, rfl⟩
    have HQ : Below w.heap.size w wq := by rw [hwq]; exact below_drewN HB _
    have hF : wq.heap[w.heap.size]? = some (.cells #[.int .i64 0, .int .i64 0, .int .i64 0, .int .i64 0, .slice none 0 0] 147 (0, 0)) := by rw [hwq]; exact blk_drewN h1 _
    rw [← hwq]
    clear hwq HB h1 hz
    have hzq := HQ.size
    have hlF := lt_of_block hF
    have j2 := ((bcell HQ).1 b (o + 2) hbl).trans k2
    have j3 := ((bcell HQ).1 b (o + 3) hbl).trans k3
    have j4 := ((bcell HQ).1 b (o + 4) hbl).trans k4
    have j5 := ((bcell HQ).1 b (o + 5) hbl).trans k5
    have j6 := ((bcell HQ).1 b (o + 6) hbl).trans k6
    have hbq : b < wq.heap.size := by omega
    clear k2 k3 k4 k5 k6
    have w2 : IntKind.i64.wrap (x5 * 256) = x5 * 256 := IntWalk.i64_in _ Cb
    have w3 := OT.out
    have v2 : IntKind.i64.wrap x2 = x2 := IntWalk.i64_in _ Cb
    have v3 : IntKind.i64.wrap x3 = x3 := IntWalk.i64_in _ Cb
    have v4 : IntKind.i64.wrap x4 = x4 := IntWalk.i64_in _ Cb
    have v5 : IntKind.i64.wrap x5 = x5 := IntWalk.i64_in _ Cb
    have v6 : IntKind.i64.wrap x6 = x6 := IntWalk.i64_in _ Cb
    have i8 : (8 : Int) ≤ (m : Int) + 8 := by omega
    have i9 : (m : Int) + 8 ≤ (cap : Int) := by omega
    have n2 : (2 : Int) < 10 + (m : Int) := by omega
    have n3 : (3 : Int) < 10 + (m : Int) := by omega
    have n4 : (4 : Int) < 10 + (m : Int) := by omega
    have n5 : (5 : Int) < 10 + (m : Int) := by omega
    have n6 : (6 : Int) < 10 + (m : Int) := by omega
    have nc : ¬ cap = 8 := by omega
    have tn : ((m : Int) + 8).toNat = m + 8 := by omega
    have FH := Lib.hid hF
    have QH := Lib.hid HQ
    clear hF HQ
    go_cut [5] (fun s5 wx => ∃ (X : Nat) (A1 : Option Addr) (cap1 : Nat), s5 = .pointer (some ⟨X, 0, none⟩) ∧ w.heap.size < X ∧ wx.heap[X]? = some (.cells #[.int .i64 x2, .int .i64 x3, .int .i64 x4, .int .i64 (256 * x5 + x6), .slice A1 m cap1] 147 (0, 0)) ∧
      Ow wx (w.heap.size + 1) A1 m cap1 d ∧ Below w.heap.size w wx ∧ wx.heap[w.heap.size]? = some (.cells #[.int .i64 0, .int .i64 0, .int .i64 0, .int .i64 0, .slice none 0 0] 147 (0, 0)))
    case first =>
      go_region_held3 (fun w' => w'.cell? ⟨b, o + 2, none⟩ = some (.int .u8 x2) ∧ w'.cell? ⟨b, o + 3, none⟩ = some (.int .u8 x3) ∧ w'.cell? ⟨b, o + 4, none⟩ = some (.int .u8 x4) ∧ w'.cell? ⟨b, o + 5, none⟩ = some (.int .u8 x5) ∧ w'.cell? ⟨b, o + 6, none⟩ = some (.int .u8 x6)) (refine ⟨?_, ?_, ?_, ?_, ?_⟩ <;> (repeat (first | (with_reducible assumption) | (with_reducible refine cell_drew_keep ?_) | (with_reducible refine cell_alloc_keep ?_) | ((with_reducible refine cell_far_keep ?_ ?_); rotate_left; (simp; omega))))) (first | (go_at_call 154; refine (RC.out _ (by first | exact QH.out.drew | exact (QH.out.drew).alloc C6 _ | exact (QH.out.alloc hzq _).drew)).mono ?_; rintro e w4 ⟨A1, cap1, rfl, ow4, hb4⟩; have hz4 := hb4.size; (try simp at hz4); have d2 := ((bcell hb4).1 b (o + 2) C6).trans (by first | exact j2 | exact cell_alloc_keep j2); have d3 := ((bcell hb4).1 b (o + 3) C6).trans (by first | exact j3 | exact cell_alloc_keep j3); have d4 := ((bcell hb4).1 b (o + 4) C6).trans (by first | exact j4 | exact cell_alloc_keep j4); have d5 := ((bcell hb4).1 b (o + 5) C6).trans (by first | exact j5 | exact cell_alloc_keep j5); have d6 := ((bcell hb4).1 b (o + 6) C6).trans (by first | exact j6 | exact cell_alloc_keep j6); have hF4 := blk_below (q := w.heap.size) (by first | exact FH.out | exact blk_alloc FH.out _) hb4 C6; try (have hX4 := blk_below (q := wq.heap.size) (by exact blk_drew (heap_new wq _)) hb4 C9; (have cX_0 := blk_cell hX4 0 rfl; have fX_0 := blk_free hX4 0; have cX_1 := blk_cell hX4 1 rfl; have fX_1 := blk_free hX4 1; have cX_2 := blk_cell hX4 2 rfl; have fX_2 := blk_free hX4 2; have cX_3 := blk_cell hX4 3 rfl; have fX_3 := blk_free hX4 3; have cX_4 := blk_cell hX4 4 rfl; have fX_4 := blk_free hX4 4; have lX := lt_of_block hX4))))
      · go_wp2_with fail
        go_meet
        refine ⟨w4.heap.size, A1, cap1, rfl, by omega, heap_new _ _, (ow4.alloc _).more C6, ?_, blk_alloc hF4 _⟩
        exact ((show Below w.heap.size w (World.drew wq) from QH.out.drew).trans (hb4.mono C6)).alloc Cb _
      · go_wp2_with fail
        go_meet
        refine ⟨wq.heap.size, A1, cap1, rfl, by omega, five_set hX4, (five_ow ow4 C9).more C6, five_below ?_ Cb, five_far hF4 Cb⟩
        exact (show Below w.heap.size w ((wq.alloc (.cells #[.int .i64 0, .int .i64 0, .int .i64 0, .int .i64 0, .slice none 0 0] 147)).drew) from (QH.out.alloc hzq _).drew).trans (hb4.mono C6)
    case rest =>
      obtain ⟨X, A1, cap1, rfl, hX, hXb, ow, HB, h1⟩ := hcut
      clear v2 v3 v4 v5 v6 w2 w3 i8 i9 n2 n3 n4 n5 n6 nc tn RS RC OS OT j2 j3 j4 j5 j6 FH QH
      have hz := HB.size
      have hlX := lt_of_block hXb
      have hlF := lt_of_block h1
      have cX_0 := blk_cell hXb 0 rfl; have fX_0 := blk_free hXb 0; have cX_1 := blk_cell hXb 1 rfl; have fX_1 := blk_free hXb 1; have cX_2 := blk_cell hXb 2 rfl; have fX_2 := blk_free hXb 2; have cX_3 := blk_cell hXb 3 rfl; have fX_3 := blk_free hXb 3; have cX_4 := blk_cell hXb 4 rfl; have fX_4 := blk_free hXb 4; have lX := lt_of_block hXb
      cases hvd : Frm.vd x2 x3 x4 (256 * x5 + x6) m
      · have V := Lib.hid (fun (W : World) => hvd ▸ valid_any x2 x3 x4 (256 * x5 + x6) A1 m cap1 W Cb)
        have EE := Lib.hid (fun e w' h => E.out e w' (fun hh => by rw [hvd] at hh; cases hh) (fun _ => h))
        clear hvd E
        go_wp2_with fail
        refine (V.out _).mono ?_
        rintro e w9 ⟨rfl, hb9⟩
        have hz9 := hb9.size
        have hF9 := blk_below h1 hb9 Cb
        have HB9 := (show Below w.heap.size w w9 from A9)
        have cF_0 := blk_cell hF9 0 rfl; have fF_0 := blk_free hF9 0; have cF_1 := blk_cell hF9 1 rfl; have fF_1 := blk_free hF9 1; have cF_2 := blk_cell hF9 2 rfl; have fF_2 := blk_free hF9 2; have cF_3 := blk_cell hF9 3 rfl; have fF_3 := blk_free hF9 3; have cF_4 := blk_cell hF9 4 rfl; have fF_4 := blk_free hF9 4; have lF := lt_of_block hF9
        go_wp2_with fail
        refine bodyPost_ret (v := .tuple #[.agg #[.int .i64 0, .int .i64 0, .int .i64 0, .int .i64 0, .slice none 0 0], .int .i64 6]) ?_ rfl (EE.out _ _ ⟨rfl, A9⟩)
        simp [results, Tryz.results132, go_sem, *]
      · have V := Lib.hid (fun (W : World) => hvd ▸ valid_any x2 x3 x4 (256 * x5 + x6) A1 m cap1 W Cb)
        have EE := Lib.hid (fun e w' h => E.out e w' (fun _ => h) (fun hh => by rw [hvd] at hh; cases hh))
        clear hvd E
        go_wp2_with fail
        refine (V.out _).mono ?_
        rintro e w9 ⟨rfl, hb9⟩
        have hz9 := hb9.size
        have hF9 := blk_below h1 hb9 Cb
        have hX9 := blk_below hXb hb9 hlX
        have ow9 := ow.below hb9 (Nat.le_refl _)
        have HB9 := (show Below w.heap.size w w9 from A9)
        have cF_0 := blk_cell hF9 0 rfl; have fF_0 := blk_free hF9 0; have cF_1 := blk_cell hF9 1 rfl; have fF_1 := blk_free hF9 1; have cF_2 := blk_cell hF9 2 rfl; have fF_2 := blk_free hF9 2; have cF_3 := blk_cell hF9 3 rfl; have fF_3 := blk_free hF9 3; have cF_4 := blk_cell hF9 4 rfl; have fF_4 := blk_free hF9 4; have lF := lt_of_block hF9
        have cY_0 := blk_cell hX9 0 rfl; have fY_0 := blk_free hX9 0; have cY_1 := blk_cell hX9 1 rfl; have fY_1 := blk_free hX9 1; have cY_2 := blk_cell hX9 2 rfl; have fY_2 := blk_free hX9 2; have cY_3 := blk_cell hX9 3 rfl; have fY_3 := blk_free hX9 3; have cY_4 := blk_cell hX9 4 rfl; have fY_4 := blk_free hX9 4; have lY := lt_of_block hX9
        go_wp2_with fail
        refine bodyPost_ret (v := .tuple #[.agg #[.int .i64 x2, .int .i64 x3, .int .i64 x4, .int .i64 (256 * x5 + x6), .slice A1 m cap1], .int .i64 0]) ?_ rfl (EE.out _ _ ⟨A1, cap1, rfl, ?_, A9⟩)
        · simp [results, Tryz.results132, go_sem, *]
        · exact Ow.more (five_ow ow9 Cb) Cb
end Go.Proofs.YtdocdgcdldpagaaGreat
namespace Go.Proofs.YtdocdgcdldpagaaGreat
open Go.RowKit
set_option maxHeartbeats 4000000
set_option linter.unusedSimpArgs false
set_option linter.unusedVariables false
theorem dec_any (A : Option Addr) (n cap : Nat) (l : List Int) (w : World) (hn : n ≤ 140737488355328) (hcap : n ≤ cap) (hcm : cap ≤ 9223372036854775807) (h : Rd w w.heap.size A n l) :
    Calls Tryz.prog 132 #[.slice A n cap] w fun e w' => DPost w l e w' := by
  have hl := h.1
  rcases Nat.lt_or_ge n 10 with h1 | h1
  · exact dec_1 A n cap l w h1 h
  obtain ⟨b, o, rfl, hbl, hc⟩ := h.2.2 Cb
  have hby := h.2.1
  have k0 := hc 0 Cb
  rw [Nat.add_zero] at k0
  have k1 := hc 1 Cb
  have k7 := hc 7 Cb
  by_cases g0 : l.getD 0 0 = 213 ∧ l.getD 1 0 = 76
  rotate_left
  · exact dec_2 b o n cap l w h1 hcap hcm h hbl _ _ _ k0 k1 k7 (hby.at_ 7) (by
      by_cases h0 : l.getD 0 0 = 213
      · exact .inr (fun h1 => g0 ⟨h0, h1⟩)
      · exact .inl h0) (Lib.hid (Frm.dE_2 (l := l) Cb (fun hh => g0 ⟨hh.1, hh.2.1⟩)))
  rw [g0.1] at k0
  rw [g0.2] at k1
  rcases Int.lt_or_le 64 (l.getD 7 0) with g7 | g7
  · exact dec_2b b o n cap l w h1 hcap hcm hbl _ k0 k1 k7 (hby.at_ 7) g7 (Lib.hid (Frm.dE_2 (l := l) Cb (fun hh => by omega)))
  have G : l.getD 0 0 = 213 ∧ l.getD 1 0 = 76 ∧ l.getD 7 0 ≤ 64 := ⟨g0.1, g0.2, g7⟩
  have b7 := hby.at_ 7
  obtain ⟨m, hm⟩ : ∃ m : Nat, m = Frm.dm l := ⟨_, rfl⟩
  have hm7 : l.getD 7 0 = (m : Int) := by rw [hm, Frm.dm]; omega
  rw [hm7] at k7
  rcases Nat.lt_or_ge n (10 + m) with q1 | q1
  · exact dec_3 b o n cap l w h1 hcap hcm hbl _ k0 k1 k7 Cb Cb (Lib.hid (Frm.dE_3 (l := l) Cb G Cb))
  rcases Nat.lt_or_ge (10 + m) n with q2 | q2
  · exact dec_4 b o n cap l w h1 hcap hcm hbl _ k0 k1 k7 Cb Cb (Lib.hid (Frm.dE_4 (l := l) Cb G Cb))
  obtain rfl : n = 10 + m := by omega
  have hsub := h.sub 2 (m + 6) Cb
  have hd8 := h.sub 8 m Cb
  rw [show (l.drop 8).take m = Frm.dd l by rw [Frm.dd, hm]] at hd8
  have RS := Lib.hid (fun (W : World) (hB : Below w.heap.size w W) => sum_any (some ⟨b, o + 2, none⟩) (m + 6) (cap - 2) _ W Cb ((hsub.below hB (Nat.le_refl _)).more hB.size))
  have HS : ((Frm.dsum l : Nat) : Int) = ((Frm.crcN ((l.drop 2).take (m + 6)) : Nat) : Int) := by rw [Frm.dsum, hm]
  by_cases hcc : ((Frm.crcN ((l.drop 2).take (m + 6)) : Nat) : Int) = 256 * l.getD (m + 8) 0 + l.getD (m + 9) 0
  · have C5 : ((Frm.dsum l : Nat) : Int) = 256 * l.getD (Frm.dm l + 8) 0 + l.getD (Frm.dm l + 9) 0 := by rw [HS, ← hm]; exact hcc
    refine dec_0 b o cap l (Frm.dd l) w m hcap hcm hbl Cb _ _ _ _ _ _ _ _ k0 k1 k7 (hc 2 Cb) (hc 3 Cb) (hc 4 Cb) (hc 5 Cb) (hc 6 Cb) (hc (m + 8) Cb) (hc (m + 9) Cb) (hby.at_ _) (hby.at_ _) (hby.at_ 2) (hby.at_ 3) (hby.at_ 4) (hby.at_ 5) (hby.at_ 6) RS
      (Lib.hid (fun W hB => clone_any (some ⟨b, o + 8, none⟩) m (cap - 8) (Frm.dd l) W Cb (fun e => by cases e) ((hd8.below hB (Nat.le_refl _)).more hB.size))) hcc (Lib.hid ?_)
    intro e w' hy hno
    cases hvd : Frm.vd (l.getD 2 0) (l.getD 3 0) (l.getD 4 0) (256 * l.getD 5 0 + l.getD 6 0) m
    · obtain ⟨rfl, hb⟩ := hno hvd
      exact dpost_err (Frm.dE_6 (l := l) G (by rw [hl, ← hm]) C5 (by rw [Frm.dS, ← hm]; exact hvd)) C8 hb
    · obtain ⟨A', cap', rfl, how, hb⟩ := hy hvd
      refine .inr ⟨Frm.dE_0 (l := l) G (by rw [hl, ← hm]) C5 (by rw [Frm.dS, ← hm]; exact hvd), A', cap', ?_, ?_, hb⟩
      · rw [Frm.dS, ← hm]
      · rw [← hm]; exact how
  · exact dec_5 b o cap l w m hcap hcm hbl Cb _ _ _ k0 k1 k7 (hc (m + 8) Cb) (hc (m + 9) Cb) (hby.at_ _) (hby.at_ _) RS hcc
      (Lib.hid (Frm.dE_5 (l := l) G Cb (by rw [HS, ← hm]; exact hcc)))
end Go.Proofs.YtdocdgcdldpagaaGreat
namespace Go.Proofs.YtdocdgcdldpagaaGreat
open Go.RowKit Go.Shelf
set_option maxHeartbeats 4000000
set_option linter.unusedSimpArgs false
set_option linter.unusedVariables false
section
variable {P : Program} {Q : Exit → Act → World → Prop} {n l : Nat}
theorem rowsIn_wide {row : String} {args : Array Value} {w : World} {R : Value → World → Prop} (h : Rows P row args w R) : RowsIn (Fence.wide.inRound l) n P row args w R :=
  fun c cs _ => let ⟨v, w', r, s⟩ := h c cs; ⟨v, w', r, stepsIn_wide.2 s⟩
theorem oper_round {o : Oper} (hd : ∀ c, o.op ≠ .defer c) {a : Act} {w : World} {K : Act → World → Prop} (hno : ¬ LetsOut Q) (h : o.wp P a w K Q) : o.wpIn (Fence.wide.inRound l) n P a w K Q := by
  refine ⟨fun _ _ => trivial, ?_⟩
  unfold Oper.wp at h
  rw [show (Fence.wide.inRound l).round = some l from rfl, Oper.semAt_some l _ _ hd]
  revert h
  generalize (execOp a.eval o).run P w = r
  intro h
  cases r with
  | ok x w' =>
    cases x with
    | value v => exact h
    | skip => exact h
    | defer d => exact h
    | enter f args => exact ⟨fun hh => by simp [Fence.wide] at hh, callsIn_wide.2 h⟩
    | row r' args => exact ⟨fun hh => by simp [Fence.wide] at hh, rowsIn_wide h⟩
    | round => exact h.elim
    | _ => exact h.elim
  | halt x w' => cases x <;> exact h
theorem ops_round {ops : Array Oper} (hd : ∀ (i : Nat) (o : Oper), ops[i]? = some o → ∀ c, o.op ≠ .defer c) (hno : ¬ LetsOut Q) :
    ∀ (s : List Nat) (a : Act) (w : World), wpOps P ops Q s a w → wpOpsIn (Fence.wide.inRound l) n P ops Q s a w := by
  intro s
  induction s with
  | nil => exact fun a w h => h
  | cons i s ih =>
    intro a w h
    rw [wpOps_cons] at h
    unfold wpOp at h
    simp only [wpOpsIn]
    cases ho : ops[i]? with
    | none => rw [ho] at h; exact ih a w h
    | some o =>
      rw [ho] at h
      simp only at h ⊢
      by_cases hw : Region.wanted o (yielded ops a.tmps) = true
      · rw [if_pos hw] at h ⊢
        rcases h with h | h
        · exact Oper.wpIn_mono ih (oper_round (hd i o ho) hno h)
        · exact absurd h.2 hno
      · rw [if_neg hw] at h ⊢
        exact ⟨fun _ _ => trivial, ih _ _ h⟩
def noDefer (o : Oper) : Bool := match o.op with | .defer _ => false | _ => true
theorem noDefer_all {ops : Array Oper} (h : ops.toList.all noDefer = true) (i : Nat) (o : Oper) (ho : ops[i]? = some o) (c) : o.op ≠ .defer c := by
  rw [List.all_eq_true] at h
  have hm : o ∈ ops.toList := by
    rw [← Array.getElem?_toList] at ho
    exact List.mem_of_getElem? ho
  intro e
  have := h o hm
  simp [noDefer, e] at this
theorem region_round {S : World → Prop} {id : Nat} {ops : Array Oper} {a : Act} {w : World} (hm : P.follows .mixedOrders = true) (hd : ops.toList.all noDefer = true) (hno : ¬ LetsOut Q) (hS : S w.drew)
    (h : S w.drew → wpAnyH P .any ops Q S ops.size (Array.replicate ops.size false) a w.drew) : (Code.region id ops true).wpIn (Fence.wide.inRound l) n P Q a w :=
  wpIn_region_draw fun t => by
    refine ops_round (noDefer_all hd) hno _ _ _ ?_
    simp only [Region.schedule, hm, Bool.true_or, if_true]
    exact wpAny_sound ops.size t _ a _ (wpAny_of_held _ _ _ _ (h hS))
end
end Go.Proofs.YtdocdgcdldpagaaGreat
namespace Go.Proofs.YtdocdgcdldpagaaGreat
open Go.RowKit Go.Shelf
attribute [local go_sem] Oper.semAt_some
set_option maxHeartbeats 4000000
set_option linter.unusedSimpArgs false
set_option linter.unusedVariables false
def KpC (p q r : Nat) (A B : World) : Prop := Below p A B ∧ B.heap[q]? = A.heap[q]? ∧ B.heap[r]? = A.heap[r]?
theorem KpC.t {p q r : Nat} {A B C : World} (h : KpC p q r A B) (k : KpC p q r B C) : KpC p q r A C := ⟨h.1.trans k.1, k.2.1.trans h.2.1, k.2.2.trans h.2.2⟩
theorem chunk_new (A : Option Addr) (n cap : Nat) (w : World) : Calls Tryz.prog 176 #[.slice A n cap, .int .i64 4] w
    fun e w' => e = .returned (.func (.func 182) #[] #[.pointer (some ⟨w.heap.size, 0, none⟩), .pointer (some ⟨w.heap.size + 1, 0, none⟩)]) ∧ w' = (w.alloc (.cells #[.slice A n cap] 47)).alloc (.cells #[.int .i64 4] 3) := by
  go_enter Tryz.func176, Tryz.ntmps176
  go_wp2_with fail
  go_ret
  exact ⟨rfl, rfl⟩
theorem fin_take (m k : Nat) (h : k < m) : (List.finRange m).take (k + 1) = (List.finRange m).take k ++ [⟨k, h⟩] := by
  rw [List.take_succ_eq_append_getElem C4]
  simp
set_option maxRecDepth 100000 in
theorem chunk1 (n l p q r : Nat) (A : Option Addr) (b o m cap : Nat) (hm : 4 * m ≤ 140737488355328) (hcap : 4 * m ≤ cap) (hcm : cap ≤ 9223372036854775807) (hA : 0 < m → A = some ⟨b, o, none⟩) (J Jx : List (Fin m) → World → Prop)
    (hY : ∀ pre x W, J pre W → pre.length < m → YieldAt Fence.wide (n - 1) Tryz.prog l #[.slice (some ⟨b, o + 4 * x.1, none⟩) 4 4] W fun e W' =>
      (e = .returned (.bool true) ∧ J (pre ++ [x]) W' ∧ KpC p q r W W') ∨ (e = .returned (.bool false) ∧ Jx (pre ++ [x]) W'))
    (W : World) (hq : W.heap[q]? = some (.cells #[.slice A (4 * m) cap] 47 (0, 0))) (hr : W.heap[r]? = some (.cells #[.int .i64 4] 3 (0, 0))) (h0 : J [] W)
    (hJ : ∀ s W, J s W → J s W.drew) :
    CallsIn Fence.wide n Tryz.prog 182 #[.func (.yield l) #[] #[], .pointer (some ⟨q, 0, none⟩), .pointer (some ⟨r, 0, none⟩)] W fun e W' => (∃ v, e = .returned v) ∧
      ((∃ ys, ys = List.finRange m ∧ J ys W') ∨ (∃ pre, pre <+: List.finRange m ∧ Jx pre W')) := by
  refine callsIn_of_wp Tryz.func182 rfl trivial ?_ rfl
  simp only [Tryz.ntmps182, List.size_toArray, List.length_cons, List.length_nil, Nat.reduceAdd, Nat.reduceSub, Array.replicate_succ, Array.replicate_zero, List.push_toArray, List.append_toArray, List.nil_append, List.cons_append]
  gi_wp2
  gi_loopw [4] (fun i wr => ∃ k : Nat, k ≤ m ∧ i = .int .i64 ((4 * k : Nat) : Int) ∧ J ((List.finRange m).take k) wr ∧ wr.heap[q]? = some (.cells #[.slice A (4 * m) cap] 47 (0, 0)) ∧ wr.heap[r]? = some (.cells #[.int .i64 4] 3 (0, 0)))
    (fun i _ => 4 * m - (intOf i).toNat)
  case atStart => exact ⟨0, Nat.zero_le _, rfl, h0, hq, hr⟩
  case round =>
    obtain ⟨k, hk, rfl, hJs, hq1, hr1⟩ := hrel
    have cq := blk_cell (l := [_]) hq1 0 rfl
    have cr := blk_cell (l := [_]) hr1 0 rfl
    by_cases hlt : k < m
    · have eA := hA Cb
      subst eA
      have e1 : (4 * (k : Int)) < 4 * (m : Int) := by omega
      have e2 : (0 : Int) ≤ 4 * (k : Int) := by omega
      have e3 : (4 * (m : Int)) ≤ (cap : Int) := by omega
      have ht := fin_take m k hlt
      obtain ⟨fn, tmps, assign, body, hy, hR⟩ := hY _ ⟨k, hlt⟩ wr.drew (hJ _ _ hJs) C6
      have HR := Lib.hid hR
      have HT := Lib.hid ht
      clear hR ht
      dsimp only at hy
      gi_wp2
      refine wpIn_wide.2 ?_
      go_region_held3 (fun w' => w'.cell? ⟨q, 0, none⟩ = some (.slice (some ⟨b, o, none⟩) (4 * m) cap) ∧ w'.cell? ⟨r, 0, none⟩ = some (.int .i64 4)) (refine ⟨?_, ?_⟩ <;> (first | (with_reducible assumption) | (simp only [World.cell?_drew]; with_reducible assumption))) (first | fail)
      gi_wp2
      refine ⟨fun h => (by simp [Fence.wide] at h), HR.out.mono ?_⟩
      rintro e W3 (⟨rfl, hJ3, hk3⟩ | ⟨rfl, hJx3⟩)
      · have hq3 := hk3.2.1.trans (show wr.drew.heap[q]? = _ from hq1)
        have hr3 := hk3.2.2.trans (show wr.drew.heap[r]? = _ from hr1)
        have dq := blk_cell (l := [_]) hq3 0 rfl
        have dr := blk_cell (l := [_]) hr3 0 rfl
        clear cq cr
        gi_wp2
        go_roundw
        case rel => exact ⟨k + 1, by omega, by simp; omega, by rw [HT.out]; exact hJ3, hq3, hr3⟩
        case measure => simp [intOf]; omega
      · gi_wp2
        refine bodyPost_ret (results_none rfl _ _ _) rfl ?_
        exact ⟨⟨_, rfl⟩, .inr ⟨_, by rw [← HT.out]; exact List.take_prefix _ _, hJx3⟩⟩
    · obtain rfl : k = m := by omega
      gi_wp2
      go_end0
      exact ⟨⟨_, rfl⟩, .inl ⟨_, by rw [List.take_of_length_le C9], hJs⟩⟩
end Go.Proofs.YtdocdgcdldpagaaGreat

/- Decode: a frame, or none that is valid. -/
import Derived.Test.YteakljjalmgicaaDecB
namespace Go.Proofs.Yteakljjalmgicaa
open Go.RowKit
set_option maxHeartbeats 20000000
set_option linter.unusedSimpArgs false
set_option linter.unusedVariables false
attribute [local go_sem ↓] Go.wp_at_zero Go.wp_at_succ
/-- what Clone leaves, behind a definition -/
def ClP (W : World) (m : Nat) (l : List Int) (e : Ending) (w' : World) : Prop := ∃ A' cap', e = .returned (.slice A' m cap') ∧ Ow w' W.heap.size A' m cap' l ∧ Below W.heap.size W w'
theorem five_set {w : World} {X : Nat} {a b c d e a' b' c' d' e' : Value} {t : TypeId} (h : w.heap[X]? = some (.cells #[a, b, c, d, e] t (0, 0))) :
    (((((w.setCell ⟨X, 0, none⟩ a').setCell ⟨X, 1, none⟩ b').setCell ⟨X, 2, none⟩ c').setCell ⟨X, 3, none⟩ d').setCell ⟨X, 4, none⟩ e').heap[X]? = some (.cells #[a', b', c', d', e'] t (0, 0)) :=
  (blk_set (blk_set (blk_set (blk_set (blk_set h 0 a') 1 b') 2 c') 3 d') 4 e').trans rfl
theorem five_far {w : World} {X q : Nat} {a' b' c' d' e' : Value} {x : Obj} (h : w.heap[q]? = some x) (hq : q ≠ X) :
    (((((w.setCell ⟨X, 0, none⟩ a').setCell ⟨X, 1, none⟩ b').setCell ⟨X, 2, none⟩ c').setCell ⟨X, 3, none⟩ d').setCell ⟨X, 4, none⟩ e').heap[q]? = some x :=
  blk_far (blk_far (blk_far (blk_far (blk_far h hq _) hq _) hq _) hq _) hq _
theorem five_ow {w : World} {X base : Nat} {A : Option Addr} {n cap : Nat} {l : List Int} {a' b' c' d' e' : Value} (h : Ow w base A n cap l) (hq : X < base) :
    Ow (((((w.setCell ⟨X, 0, none⟩ a').setCell ⟨X, 1, none⟩ b').setCell ⟨X, 2, none⟩ c').setCell ⟨X, 3, none⟩ d').setCell ⟨X, 4, none⟩ e') base A n cap l :=
  Ow.far (Ow.far (Ow.far (Ow.far (Ow.far h hq _) hq _) hq _) hq _) hq _
theorem five_below {w v : World} {X B : Nat} {a' b' c' d' e' : Value} (h : Below B v w) (hq : B ≤ X) :
    Below B v (((((w.setCell ⟨X, 0, none⟩ a').setCell ⟨X, 1, none⟩ b').setCell ⟨X, 2, none⟩ c').setCell ⟨X, 3, none⟩ d').setCell ⟨X, 4, none⟩ e') :=
  ((((h.setCell hq _).setCell hq _).setCell hq _).setCell hq _).setCell hq _
theorem cell_far_keep {W : World} {p q : Addr} {u v : Value} (h : W.cell? p = some v) (hq : p.block ≠ q.block) : (W.setCell q u).cell? p = some v := cell_set_keep h (.inr hq)
theorem five_cell {w : World} {X : Nat} {a' b' c' d' e' : Value} {p : Addr} {v : Value} (h : w.cell? p = some v) (hp : p.block ≠ X) :
    (((((w.setCell ⟨X, 0, none⟩ a').setCell ⟨X, 1, none⟩ b').setCell ⟨X, 2, none⟩ c').setCell ⟨X, 3, none⟩ d').setCell ⟨X, 4, none⟩ e').cell? p = some v :=
  cell_set_keep (cell_set_keep (cell_set_keep (cell_set_keep (cell_set_keep h (.inr hp)) (.inr hp)) (.inr hp)) (.inr hp)) (.inr hp)
set_option maxRecDepth 100000 in
theorem dec_0 (b o cap : Nat) (l d : List Int) (w : World) (m : Nat) (hcap : 10 + m ≤ cap) (hcm : cap ≤ 9223372036854775807) (hbl : b < w.heap.size) (hm : m ≤ 64) (u v x2 x3 x4 x5 x6 : Int) (c : Nat)
    (k0 : w.cell? ⟨b, o, none⟩ = some (.int .u8 213)) (k1 : w.cell? ⟨b, o + 1, none⟩ = some (.int .u8 76)) (k7 : w.cell? ⟨b, o + 7, none⟩ = some (.int .u8 m))
    (k2 : w.cell? ⟨b, o + 2, none⟩ = some (.int .u8 x2)) (k3 : w.cell? ⟨b, o + 3, none⟩ = some (.int .u8 x3)) (k4 : w.cell? ⟨b, o + 4, none⟩ = some (.int .u8 x4)) (k5 : w.cell? ⟨b, o + 5, none⟩ = some (.int .u8 x5)) (k6 : w.cell? ⟨b, o + 6, none⟩ = some (.int .u8 x6))
    (k8 : w.cell? ⟨b, o + (m + 8), none⟩ = some (.int .u8 u)) (k9 : w.cell? ⟨b, o + (m + 9), none⟩ = some (.int .u8 v)) (bu : 0 ≤ u ∧ u < 256) (bv : 0 ≤ v ∧ v < 256)
    (b2 : 0 ≤ x2 ∧ x2 < 256) (b3 : 0 ≤ x3 ∧ x3 < 256) (b4 : 0 ≤ x4 ∧ x4 < 256) (b5 : 0 ≤ x5 ∧ x5 < 256) (b6 : 0 ≤ x6 ∧ x6 < 256)
    (RS : Hid (∀ W : World, Below w.heap.size w W → Calls Try.prog 13 #[.slice (some ⟨b, o + 2, none⟩) (m + 6) (cap - 2)] W fun e w' => e = .returned (.int .i64 (c : Nat)) ∧ W = w'))
    (RC : Hid (∀ W : World, Below w.heap.size w W → Calls Try.prog 32 #[.slice (some ⟨b, o + 8, none⟩) m (cap - 8)] W fun e w' => ClP W m d e w'))
    (hc : (c : Int) = 256 * u + v) (E : Hid (∀ e w', (Frm.vd x2 x3 x4 (256 * x5 + x6) m = true → ∃ A' cap', e = .returned (.tuple #[.agg #[.int .i64 x2, .int .i64 x3, .int .i64 x4, .int .i64 (256 * x5 + x6), .slice A' m cap'], .int .i64 0]) ∧ Ow w' w.heap.size A' m cap' d ∧ Below w.heap.size w w') →
      (Frm.vd x2 x3 x4 (256 * x5 + x6) m = false → e = .returned (.tuple #[.agg #[.int .i64 0, .int .i64 0, .int .i64 0, .int .i64 0, .slice none 0 0], .int .i64 6]) ∧ Below w.heap.size w w') → DPost w l e w')) :
    Calls Try.prog 19 #[.slice (some ⟨b, o, none⟩) (10 + m) cap] w fun e w' => DPost w l e w' := by
  have ar := arr2 b o
  have kq : ∀ W : World, (Op.equalIn 10000 61 (.agg #[.int .u8 213, .int .u8 76]) (.agg #[.int .u8 213, .int .u8 76])).run Try.prog W = .ok true W := fun W => by rw [eqArr]; rfl
  have i2 : (2 : Int) ≤ (cap : Int) := by omega
  have z := (show ((c : Int) != 256 * u + v) = false by simpa using hc)
  have OS := Lib.hid (or_shl u v bu bv)
  have OT := Lib.hid (or_shl x5 x6 b5 b6)
  clear hc
  obtain ⟨y2, y2'⟩ := b2
  obtain ⟨y3, y3'⟩ := b3
  obtain ⟨y4, y4'⟩ := b4
  obtain ⟨y5, y5'⟩ := b5
  obtain ⟨y6, y6'⟩ := b6
  go_enter Try.func19, Try.ntmps19
  go_upto_region 4 with fail
  go_cut [15] (fun s15 wx => s15 = .bool false ∧ Below w.heap.size w wx ∧ wx.heap[w.heap.size]? = some (.cells #[.int .i64 0, .int .i64 0, .int .i64 0, .int .i64 0, .slice none 0 0] 25 (0, 0)))
  case first =>
    have i0 : (0 : Int) < 10 + (m : Int) := by omega
    have i7 : (7 : Int) < 10 + (m : Int) := by omega
    have wx : IntKind.i64.wrap (m : Int) = m := IntWalk.i64_in _ (by omega)
    go_region_held3 (fun w' => w'.cell? ⟨b, o, none⟩ = some (.int .u8 213) ∧ w'.cell? ⟨b, o + 1, none⟩ = some (.int .u8 76) ∧ w'.cell? ⟨b, o + 7, none⟩ = some (.int .u8 m)) (refine ⟨?_, ?_, ?_⟩ <;> (first | (with_reducible assumption) | (simp only [World.cell?_drew]; with_reducible assumption) | (with_reducible apply cell_alloc_keep; with_reducible assumption) | go_keep)) (first | (go_at_call 31; refine (start_any _).mono ?_; rintro e w1 ⟨rfl, hb1⟩; have j0 := ((bcell hb1).1 b o (by first | omega | (simp; done) | (simp; omega))).trans (cell_alloc_keep k0); have j1 := ((bcell hb1).1 b (o + 1) (by first | omega | (simp; done) | (simp; omega))).trans (cell_alloc_keep k1); have j7 := ((bcell hb1).1 b (o + 7) (by first | omega | (simp; done) | (simp; omega))).trans (cell_alloc_keep k7); have hz1 := hb1.size; try simp at hz1; have h1 := blk_below (q := w.heap.size) (by first | exact heap_new _ _ | exact blk_drew (heap_new _ _)) hb1 (by first | omega | (simp; done) | (simp; omega)); have HB1 := (show Below w.heap.size w w1 from (by repeat (first | (with_reducible exact Below.refl _ _) | (with_reducible refine Below.drew ?_) | (with_reducible refine below_drewN ?_ _) | ((with_reducible refine Below.alloc ?_ ?_ _); rotate_left; (first | omega | (simp <;> omega)); rotate_right) | ((with_reducible refine Below.setCell ?_ ?_ _); rotate_left; (first | omega | (simp <;> omega)); rotate_right) | (with_reducible assumption) | (refine Below.trans ?_ (Below.mono (by assumption) ?_); rotate_left; (first | omega | (simp <;> omega)); rotate_right))))))
    all_goals (go_wp2_with fail; go_meet; exact ⟨(by first | rfl | (simp; omega)), HB1, h1⟩)
  case rest =>
    obtain ⟨rfl, HB, h1⟩ := hcut
    have hz := HB.size
    have l8 := ((bcell HB).1 b (o + (m + 8)) hbl).trans k8
    have l9 := ((bcell HB).1 b (o + (m + 9)) hbl).trans k9
    go_upto_region 10 with fail
    have w1 : IntKind.i64.wrap (10 + (m : Int) - 2) = (m : Int) + 8 := by rw [IntWalk.i64_in _ (by omega)]; omega
    have w2 : IntKind.i64.wrap (10 + (m : Int) - 1) = (m : Int) + 9 := by rw [IntWalk.i64_in _ (by omega)]; omega
    have w3 : IntKind.i64.wrap (u * 256) = u * 256 := IntWalk.i64_in _ (by omega)
    have w4 := OS.out
    clear k0 k1 k7 k8 k9
    go_quiet ((go_at_call 13; exact Calls.quiet_of_same ((RS.out _ (below_drewN HB _)).mono fun e w' h => ⟨h.1, h.2.symm⟩)))
    clear w2 w3 w4 l8 l9
    go_wp2_with fail
    obtain ⟨wq, hwq⟩ : ∃ wq : World, wq = wc.drewN nq := ⟨_, rfl⟩
    have HQ : Below w.heap.size w wq := by rw [hwq]; exact below_drewN HB _
    have hF : wq.heap[w.heap.size]? = some (.cells #[.int .i64 0, .int .i64 0, .int .i64 0, .int .i64 0, .slice none 0 0] 25 (0, 0)) := by rw [hwq]; exact blk_drewN h1 _
    rw [← hwq]
    clear hwq HB h1 hz
    have hzq := HQ.size
    have hlF := lt_of_block hF
    have j2 := ((bcell HQ).1 b (o + 2) hbl).trans k2
    have j3 := ((bcell HQ).1 b (o + 3) hbl).trans k3
    have j4 := ((bcell HQ).1 b (o + 4) hbl).trans k4
    have j5 := ((bcell HQ).1 b (o + 5) hbl).trans k5
    have j6 := ((bcell HQ).1 b (o + 6) hbl).trans k6
    have hbq : b < wq.heap.size := by omega
    clear k2 k3 k4 k5 k6
    have w2 : IntKind.i64.wrap (x5 * 256) = x5 * 256 := IntWalk.i64_in _ (by omega)
    have w3 := OT.out
    have v2 : IntKind.i64.wrap x2 = x2 := IntWalk.i64_in _ (by omega)
    have v3 : IntKind.i64.wrap x3 = x3 := IntWalk.i64_in _ (by omega)
    have v4 : IntKind.i64.wrap x4 = x4 := IntWalk.i64_in _ (by omega)
    have v5 : IntKind.i64.wrap x5 = x5 := IntWalk.i64_in _ (by omega)
    have v6 : IntKind.i64.wrap x6 = x6 := IntWalk.i64_in _ (by omega)
    have i8 : (8 : Int) ≤ (m : Int) + 8 := by omega
    have i9 : (m : Int) + 8 ≤ (cap : Int) := by omega
    have n2 : (2 : Int) < 10 + (m : Int) := by omega
    have n3 : (3 : Int) < 10 + (m : Int) := by omega
    have n4 : (4 : Int) < 10 + (m : Int) := by omega
    have n5 : (5 : Int) < 10 + (m : Int) := by omega
    have n6 : (6 : Int) < 10 + (m : Int) := by omega
    have nc : ¬ cap = 8 := by omega
    have tn : ((m : Int) + 8).toNat = m + 8 := by omega
    have FH := Lib.hid hF
    have QH := Lib.hid HQ
    clear hF HQ
    go_cut [5] (fun s5 wx => ∃ (X : Nat) (A1 : Option Addr) (cap1 : Nat), s5 = .pointer (some ⟨X, 0, none⟩) ∧ w.heap.size < X ∧ wx.heap[X]? = some (.cells #[.int .i64 x2, .int .i64 x3, .int .i64 x4, .int .i64 (256 * x5 + x6), .slice A1 m cap1] 25 (0, 0)) ∧
      Ow wx (w.heap.size + 1) A1 m cap1 d ∧ Below w.heap.size w wx ∧ wx.heap[w.heap.size]? = some (.cells #[.int .i64 0, .int .i64 0, .int .i64 0, .int .i64 0, .slice none 0 0] 25 (0, 0)))
    case first =>
      go_region_held3 (fun w' => w'.cell? ⟨b, o + 2, none⟩ = some (.int .u8 x2) ∧ w'.cell? ⟨b, o + 3, none⟩ = some (.int .u8 x3) ∧ w'.cell? ⟨b, o + 4, none⟩ = some (.int .u8 x4) ∧ w'.cell? ⟨b, o + 5, none⟩ = some (.int .u8 x5) ∧ w'.cell? ⟨b, o + 6, none⟩ = some (.int .u8 x6)) (refine ⟨?_, ?_, ?_, ?_, ?_⟩ <;> (repeat (first | (with_reducible assumption) | (with_reducible refine cell_drew_keep ?_) | (with_reducible refine cell_alloc_keep ?_) | ((with_reducible refine cell_far_keep ?_ ?_); rotate_left; (simp; omega))))) (first | (go_at_call 32; refine (RC.out _ (by first | exact QH.out.drew | exact (QH.out.drew).alloc (by simp; omega) _ | exact (QH.out.alloc hzq _).drew)).mono ?_; rintro e w4 ⟨A1, cap1, rfl, ow4, hb4⟩; have hz4 := hb4.size; (try simp at hz4); have d2 := ((bcell hb4).1 b (o + 2) (by simp; omega)).trans (by first | exact j2 | exact cell_alloc_keep j2); have d3 := ((bcell hb4).1 b (o + 3) (by simp; omega)).trans (by first | exact j3 | exact cell_alloc_keep j3); have d4 := ((bcell hb4).1 b (o + 4) (by simp; omega)).trans (by first | exact j4 | exact cell_alloc_keep j4); have d5 := ((bcell hb4).1 b (o + 5) (by simp; omega)).trans (by first | exact j5 | exact cell_alloc_keep j5); have d6 := ((bcell hb4).1 b (o + 6) (by simp; omega)).trans (by first | exact j6 | exact cell_alloc_keep j6); have hF4 := blk_below (q := w.heap.size) (by first | exact FH.out | exact blk_alloc FH.out _) hb4 (by simp; omega); try (have hX4 := blk_below (q := wq.heap.size) (by exact blk_drew (heap_new wq _)) hb4 (by simp); (have cX_0 := blk_cell hX4 0 rfl; have fX_0 := blk_free hX4 0; have cX_1 := blk_cell hX4 1 rfl; have fX_1 := blk_free hX4 1; have cX_2 := blk_cell hX4 2 rfl; have fX_2 := blk_free hX4 2; have cX_3 := blk_cell hX4 3 rfl; have fX_3 := blk_free hX4 3; have cX_4 := blk_cell hX4 4 rfl; have fX_4 := blk_free hX4 4; have lX := lt_of_block hX4))))
      · go_wp2_with fail
        go_meet
        refine ⟨w4.heap.size, A1, cap1, rfl, by omega, heap_new _ _, (ow4.alloc _).more (by simp; omega), ?_, blk_alloc hF4 _⟩
        exact ((show Below w.heap.size w (World.drew wq) from QH.out.drew).trans (hb4.mono (by simp; omega))).alloc (by omega) _
      · go_wp2_with fail
        go_meet
        refine ⟨wq.heap.size, A1, cap1, rfl, by omega, five_set hX4, (five_ow ow4 (by simp)).more (by simp; omega), five_below ?_ (by omega), five_far hF4 (by omega)⟩
        exact (show Below w.heap.size w ((wq.alloc (.cells #[.int .i64 0, .int .i64 0, .int .i64 0, .int .i64 0, .slice none 0 0] 25)).drew) from (QH.out.alloc hzq _).drew).trans (hb4.mono (by simp; omega))
    case rest =>
      obtain ⟨X, A1, cap1, rfl, hX, hXb, ow, HB, h1⟩ := hcut
      clear v2 v3 v4 v5 v6 w2 w3 i8 i9 n2 n3 n4 n5 n6 nc tn RS RC OS OT j2 j3 j4 j5 j6 FH QH
      have hz := HB.size
      have hlX := lt_of_block hXb
      have hlF := lt_of_block h1
      have cX_0 := blk_cell hXb 0 rfl; have fX_0 := blk_free hXb 0; have cX_1 := blk_cell hXb 1 rfl; have fX_1 := blk_free hXb 1; have cX_2 := blk_cell hXb 2 rfl; have fX_2 := blk_free hXb 2; have cX_3 := blk_cell hXb 3 rfl; have fX_3 := blk_free hXb 3; have cX_4 := blk_cell hXb 4 rfl; have fX_4 := blk_free hXb 4; have lX := lt_of_block hXb
      cases hvd : Frm.vd x2 x3 x4 (256 * x5 + x6) m
      · have V := Lib.hid (fun (W : World) => hvd ▸ valid_any x2 x3 x4 (256 * x5 + x6) A1 m cap1 W (by omega))
        have EE := Lib.hid (fun e w' h => E.out e w' (fun hh => by rw [hvd] at hh; cases hh) (fun _ => h))
        clear hvd E
        go_wp2_with fail
        refine (V.out _).mono ?_
        rintro e w9 ⟨rfl, hb9⟩
        have hz9 := hb9.size
        have hF9 := blk_below h1 hb9 (by omega)
        have HB9 := (show Below w.heap.size w w9 from (by repeat (first | (with_reducible exact Below.refl _ _) | (with_reducible refine Below.drew ?_) | (with_reducible refine below_drewN ?_ _) | ((with_reducible refine Below.alloc ?_ ?_ _); rotate_left; (first | omega | (simp <;> omega)); rotate_right) | ((with_reducible refine Below.setCell ?_ ?_ _); rotate_left; (first | omega | (simp <;> omega)); rotate_right) | (with_reducible assumption) | (refine Below.trans ?_ (Below.mono (by assumption) ?_); rotate_left; (first | omega | (simp <;> omega)); rotate_right))))
        have cF_0 := blk_cell hF9 0 rfl; have fF_0 := blk_free hF9 0; have cF_1 := blk_cell hF9 1 rfl; have fF_1 := blk_free hF9 1; have cF_2 := blk_cell hF9 2 rfl; have fF_2 := blk_free hF9 2; have cF_3 := blk_cell hF9 3 rfl; have fF_3 := blk_free hF9 3; have cF_4 := blk_cell hF9 4 rfl; have fF_4 := blk_free hF9 4; have lF := lt_of_block hF9
        go_wp2_with fail
        refine bodyPost_ret (v := .tuple #[.agg #[.int .i64 0, .int .i64 0, .int .i64 0, .int .i64 0, .slice none 0 0], .int .i64 6]) ?_ rfl (EE.out _ _ ⟨rfl, (by repeat (first | (with_reducible exact Below.refl _ _) | (with_reducible refine Below.drew ?_) | (with_reducible refine below_drewN ?_ _) | ((with_reducible refine Below.alloc ?_ ?_ _); rotate_left; (first | omega | (simp <;> omega)); rotate_right) | ((with_reducible refine Below.setCell ?_ ?_ _); rotate_left; (first | omega | (simp <;> omega)); rotate_right) | (with_reducible assumption) | (refine Below.trans ?_ (Below.mono (by assumption) ?_); rotate_left; (first | omega | (simp <;> omega)); rotate_right)))⟩)
        simp [results, Try.results19, go_sem, *]
      · have V := Lib.hid (fun (W : World) => hvd ▸ valid_any x2 x3 x4 (256 * x5 + x6) A1 m cap1 W (by omega))
        have EE := Lib.hid (fun e w' h => E.out e w' (fun _ => h) (fun hh => by rw [hvd] at hh; cases hh))
        clear hvd E
        go_wp2_with fail
        refine (V.out _).mono ?_
        rintro e w9 ⟨rfl, hb9⟩
        have hz9 := hb9.size
        have hF9 := blk_below h1 hb9 (by omega)
        have hX9 := blk_below hXb hb9 hlX
        have ow9 := ow.below hb9 (Nat.le_refl _)
        have HB9 := (show Below w.heap.size w w9 from (by repeat (first | (with_reducible exact Below.refl _ _) | (with_reducible refine Below.drew ?_) | (with_reducible refine below_drewN ?_ _) | ((with_reducible refine Below.alloc ?_ ?_ _); rotate_left; (first | omega | (simp <;> omega)); rotate_right) | ((with_reducible refine Below.setCell ?_ ?_ _); rotate_left; (first | omega | (simp <;> omega)); rotate_right) | (with_reducible assumption) | (refine Below.trans ?_ (Below.mono (by assumption) ?_); rotate_left; (first | omega | (simp <;> omega)); rotate_right))))
        have cF_0 := blk_cell hF9 0 rfl; have fF_0 := blk_free hF9 0; have cF_1 := blk_cell hF9 1 rfl; have fF_1 := blk_free hF9 1; have cF_2 := blk_cell hF9 2 rfl; have fF_2 := blk_free hF9 2; have cF_3 := blk_cell hF9 3 rfl; have fF_3 := blk_free hF9 3; have cF_4 := blk_cell hF9 4 rfl; have fF_4 := blk_free hF9 4; have lF := lt_of_block hF9
        have cY_0 := blk_cell hX9 0 rfl; have fY_0 := blk_free hX9 0; have cY_1 := blk_cell hX9 1 rfl; have fY_1 := blk_free hX9 1; have cY_2 := blk_cell hX9 2 rfl; have fY_2 := blk_free hX9 2; have cY_3 := blk_cell hX9 3 rfl; have fY_3 := blk_free hX9 3; have cY_4 := blk_cell hX9 4 rfl; have fY_4 := blk_free hX9 4; have lY := lt_of_block hX9
        go_wp2_with fail
        refine bodyPost_ret (v := .tuple #[.agg #[.int .i64 x2, .int .i64 x3, .int .i64 x4, .int .i64 (256 * x5 + x6), .slice A1 m cap1], .int .i64 0]) ?_ rfl (EE.out _ _ ⟨A1, cap1, rfl, ?_, (by repeat (first | (with_reducible exact Below.refl _ _) | (with_reducible refine Below.drew ?_) | (with_reducible refine below_drewN ?_ _) | ((with_reducible refine Below.alloc ?_ ?_ _); rotate_left; (first | omega | (simp <;> omega)); rotate_right) | ((with_reducible refine Below.setCell ?_ ?_ _); rotate_left; (first | omega | (simp <;> omega)); rotate_right) | (with_reducible assumption) | (refine Below.trans ?_ (Below.mono (by assumption) ?_); rotate_left; (first | omega | (simp <;> omega)); rotate_right)))⟩)
        · simp [results, Try.results19, go_sem, *]
        · exact Ow.more (five_ow ow9 (by omega)) (by omega)
end Go.Proofs.Yteakljjalmgicaa

/- Encode. -/
import Derived.Test.YtgmejplcdecmkaaREnc
import Derived.Laws.CopyOwn
import Derived.StillTailTactics
namespace Go.Proofs.Ytgmejplcdecmkaa
open Go.RowKit
set_option maxHeartbeats 4000000
set_option maxRecDepth 100000
set_option linter.unusedSimpArgs false
set_option linter.unusedVariables false
theorem enc_no (k f t s : Int) (A : Option Addr) (n cap : Nat) (w : World) (hn : n ≤ 140737488355328) (hv : Frm.vd k f t s n = false) :
    Calls Try.prog 71 #[.agg #[.int .i64 k, .int .i64 f, .int .i64 t, .int .i64 s, .slice A n cap]] w fun e w' => e = .returned (.tuple #[.slice none 0 0, .int .i64 2]) ∧ Below w.heap.size w w' := by
  have V := Lib.hid (fun W : World => hv ▸ valid_any k f t s A n cap W (by omega))
  clear hv
  go_enter Try.func71, Try.ntmps71
  go_wp2_with fail
  refine (V.out _).mono ?_
  rintro e w1 ⟨rfl, hb1⟩
  have hz1 := hb1.size; try simp at hz1
  go_wp2_with fail
  go_ret2
  exact ⟨rfl, (by repeat (first | (with_reducible exact Below.refl _ _) | (with_reducible refine Below.drew ?_) | (with_reducible refine below_drewN ?_ _) | ((with_reducible refine Below.alloc ?_ ?_ _); rotate_left; (first | omega | (simp <;> omega)); rotate_right) | ((with_reducible refine Below.setCell ?_ ?_ _); rotate_left; (first | omega | (simp <;> omega)); rotate_right) | (with_reducible assumption) | (refine Below.trans ?_ (Below.mono (by assumption) ?_); rotate_left; (first | omega | (simp <;> omega)); rotate_right)))⟩
theorem full_block {w : World} {base : Nat} {e : TypeId} {g n : Nat} {xs : List Value} (h : w.ownsRow base e 1 (.slice (some ⟨g, 0, none⟩) n n) n xs) : w.heap[g]? = some (.cells xs.toArray e (0, 0)) := by
  rcases h.2 with ⟨e, _⟩ | ⟨g', c, cur, e, hb, hh, h1, h2, h3, h4⟩
  · cases e
  · injection e with e1 e2 e3
    injection e1 with e1
    injection e1 with e1
    subst e1; subst e3
    rw [hh]
    congr 2
    apply Array.toList_inj.1
    rw [← h4]
    exact (List.take_of_length_le (by simp; omega)).symm
theorem own_of_block {w : World} {base g n : Nat} {l : List Int} (h : w.heap[g]? = some (.cells (bv l).toArray 5 (0, 0))) (hb : base ≤ g) (hn : l.length = n) (hm : n ≤ maxLen) (hy : By l) : Ow w base (some ⟨g, 0, none⟩) n n l :=
  ⟨⟨by simp [bv, hn], .inr ⟨g, n, (bv l).toArray, rfl, hb, h, Nat.le_refl _, hm, by simp [bv, hn], by rw [List.take_of_length_le (by simp [bv, hn])]⟩⟩, hy⟩
theorem set_two (P : List Int) (x y : Int) (m : Nat) (hm : P.length = m) : ((bv (P ++ [0, 0])).toArray.setIfInBounds m (.int .u8 x)).setIfInBounds (m + 1) (.int .u8 y) = (bv (P ++ [x, y])).toArray := by
  subst hm
  rw [List.setIfInBounds_toArray, List.setIfInBounds_toArray]
  congr 1
  simp [bv, List.set_append]
theorem size_u8 : (Try.prog.info? 5).map (·.size) = some 1 := by kernel_rfl
theorem enc_yes (k f t s : Int) (A : Option Addr) (n cap : Nat) (d : List Int) (w : World) (hv : Frm.vd k f t s n = true) (h : Rd w w.heap.size A n d) :
    Calls Try.prog 71 #[.agg #[.int .i64 k, .int .i64 f, .int .i64 t, .int .i64 s, .slice A n cap]] w
      fun e w' => ∃ A' cap', e = .returned (.tuple #[.slice A' (n + 10) cap', .int .i64 0]) ∧ Ow w' w.heap.size A' (n + 10) cap' (Frm.enc k f t s d) ∧ Below w.heap.size w w' := by
  obtain ⟨i0, hi0, hz0, hz1, hz2⟩ := info_parts info_u8
  have V := Lib.hid (fun W : World => hv ▸ valid_any k f t s A n cap W (by have := Frm.vd_bd hv; omega))
  obtain ⟨⟨k0, k1⟩, ⟨f0, f1⟩, ⟨t0, t1⟩, ⟨s0, s1⟩, hn⟩ := Frm.vd_bd hv
  have HV := Lib.hid hv
  have HD := Lib.hid h
  clear hv h
  go_enter Try.func71, Try.ntmps71
  go_wp2_with fail
  refine (V.out _).mono ?_
  rintro e w1 ⟨rfl, hb1⟩
  have hz1' := hb1.size; try simp at hz1'
  have h1 := blk_below (q := w.heap.size) (heap_new _ _) hb1 (by first | omega | (simp; done) | (simp; omega))
  have HB1 := (show Below w.heap.size w w1 from (by repeat (first | (with_reducible exact Below.refl _ _) | (with_reducible refine Below.drew ?_) | (with_reducible refine below_drewN ?_ _) | ((with_reducible refine Below.alloc ?_ ?_ _); rotate_left; (first | omega | (simp <;> omega)); rotate_right) | ((with_reducible refine Below.setCell ?_ ?_ _); rotate_left; (first | omega | (simp <;> omega)); rotate_right) | (with_reducible assumption) | (refine Below.trans ?_ (Below.mono (by assumption) ?_); rotate_left; (first | omega | (simp <;> omega)); rotate_right))))
  clear hb1
  have ca_0 := blk_cell h1 0 rfl; have fa_0 := blk_free h1 0; have ca_1 := blk_cell h1 1 rfl; have fa_1 := blk_free h1 1; have ca_2 := blk_cell h1 2 rfl; have fa_2 := blk_free h1 2; have ca_3 := blk_cell h1 3 rfl; have fa_3 := blk_free h1 3; have ca_4 := blk_cell h1 4 rfl; have fa_4 := blk_free h1 4; have la := lt_of_block h1
  go_wp2_with (at_make; refine wpList_make_full _ rfl (.tmp 14) (.tmp 14) _ rfl w.heap.size 5 i0 _ 1 Try.underlying28 hi0 hz0 hz1 .i64 .i64 _ _ (n + 10) rfl rfl (by simp; omega) (by simp; omega) (by rw [hz2]; omega) (by unfold maxLen; omega) (by omega) ?_; intro w2 hown2 hg2)
  have hG2 := full_block hown2
  have hb2 : Below w1.heap.size w1 w2 := ⟨hg2.os, hg2.tape, hg2.output, hg2.size, fun i hi => hg2.block i hi (by simp)⟩
  have h2 := blk_below h1 hb2 (by first | omega | (simp; done) | (simp; omega))
  have HB2 := (show Below w.heap.size w w2 from (by repeat (first | (with_reducible exact Below.refl _ _) | (with_reducible refine Below.drew ?_) | (with_reducible refine below_drewN ?_ _) | ((with_reducible refine Below.alloc ?_ ?_ _); rotate_left; (first | omega | (simp <;> omega)); rotate_right) | ((with_reducible refine Below.setCell ?_ ?_ _); rotate_left; (first | omega | (simp <;> omega)); rotate_right) | (with_reducible assumption) | (refine Below.trans ?_ (Below.mono (by assumption) ?_); rotate_left; (first | omega | (simp <;> omega)); rotate_right))))
  have hz2' := lt_of_block hG2
  obtain ⟨g, hg⟩ : ∃ g, g = w1.heap.size := ⟨_, rfl⟩
  rw [← hg] at hG2 hz2' ⊢
  have hgw : w.heap.size < g := by omega
  obtain ⟨Z, hZ⟩ : ∃ Z, Z = (madeCells (Value.int .u8 0).cells ((n + 10) * 1)).toList := ⟨_, rfl⟩
  rw [← hZ] at hG2
  have hZ' : Z = List.replicate (n + 10) (.int .u8 0) := by rw [hZ, Nat.mul_one]; exact toList_madeCells_one _ _
  have hZl : Z.length = n + 10 := by rw [hZ']; simp
  clear hown2 hg2 hb2 HB1 h1 ca_0 fa_0 ca_1 fa_1 ca_2 fa_2 ca_3 fa_3 ca_4 fa_4 la hZ hg
  have HZ := Lib.hid hZ'
  clear hZ'
  have cb_0 := blk_cell h2 0 rfl; have fb_0 := blk_free h2 0; have cb_1 := blk_cell h2 1 rfl; have fb_1 := blk_free h2 1; have cb_2 := blk_cell h2 2 rfl; have fb_2 := blk_free h2 2; have cb_3 := blk_cell h2 3 rfl; have fb_3 := blk_free h2 3; have cb_4 := blk_cell h2 4 rfl; have fb_4 := blk_free h2 4; have lb := lt_of_block h2
  go_wp2_with fail
  refine (start_any _).mono ?_
  rintro e w3 ⟨rfl, hb3⟩
  have hz3 := hb3.size
  have h3 := blk_below h2 hb3 (by first | omega | (simp; done) | (simp; omega))
  have hG3 := blk_below hG2 hb3 hz2'
  have HB3 := (show Below w.heap.size w w3 from (by repeat (first | (with_reducible exact Below.refl _ _) | (with_reducible refine Below.drew ?_) | (with_reducible refine below_drewN ?_ _) | ((with_reducible refine Below.alloc ?_ ?_ _); rotate_left; (first | omega | (simp <;> omega)); rotate_right) | ((with_reducible refine Below.setCell ?_ ?_ _); rotate_left; (first | omega | (simp <;> omega)); rotate_right) | (with_reducible assumption) | (refine Below.trans ?_ (Below.mono (by assumption) ?_); rotate_left; (first | omega | (simp <;> omega)); rotate_right))))
  clear cb_0 fb_0 cb_1 fb_1 cb_2 fb_2 cb_3 fb_3 cb_4 fb_4 hb3 h2 hG2 HB2
  go_wp2_with (refine wpList_copy_splice rfl (.tmp 17) (.tmp 18) _ _ rfl 5 Try.underlying28 size_u8 (some ⟨g, 0, none⟩) (some ⟨w3.heap.size, 0, none⟩) (n + 10) (n + 10) 2 2 rfl rfl g 0 Z 5 (blk_alloc hG3 _) (bv [213, 76]) (Nat.min_eq_left (show 2 ≤ n + 10 by omega)).symm (fun _ => ⟨rfl, _, rfl, fun j v hj => by rw [addr_add, Nat.zero_add]; exact blk_cell (l := bv [213, 76]) (heap_new _ _) j hj⟩) (by simp [bv]; omega) (bv_one _) g _ (Below.refl _ _) (Nat.le_refl _) ?_; intro w4 hG4 hb4)
  have hz4 := hb4.size; try simp at hz4
  have h4 := blk_below (blk_alloc h3 _) hb4 hgw
  have hG4' := hG4.out
  obtain ⟨Y, hY⟩ : ∃ Y, Y = splice Z 0 (bv [213, 76]) := ⟨_, rfl⟩
  rw [← hY] at hG4'
  have hYl : Y.length = n + 10 := by rw [hY, length_splice _ _ _ (by simp [bv]; omega), hZl]
  have HB4 : Below w.heap.size w w4 := Below.trans (show Below w.heap.size w (w3.alloc (.cells #[.int .u8 213, .int .u8 76] 143)) from (by repeat (first | (with_reducible exact Below.refl _ _) | (with_reducible refine Below.drew ?_) | (with_reducible refine below_drewN ?_ _) | ((with_reducible refine Below.alloc ?_ ?_ _); rotate_left; (first | omega | (simp <;> omega)); rotate_right) | ((with_reducible refine Below.setCell ?_ ?_ _); rotate_left; (first | omega | (simp <;> omega)); rotate_right) | (with_reducible assumption) | (refine Below.trans ?_ (Below.mono (by assumption) ?_); rotate_left; (first | omega | (simp <;> omega)); rotate_right)))) (hb4.mono (by omega))
  have HY := Lib.hid hY
  clear hY hG4 hb4 h3 hG3 HB3
  have hlt4 := lt_of_block hG4'
  have cc_0 := blk_cell h4 0 rfl; have fc_0 := blk_free h4 0; have cc_1 := blk_cell h4 1 rfl; have fc_1 := blk_free h4 1; have cc_2 := blk_cell h4 2 rfl; have fc_2 := blk_free h4 2; have cc_3 := blk_cell h4 3 rfl; have fc_3 := blk_free h4 3; have cc_4 := blk_cell h4 4 rfl; have fc_4 := blk_free h4 4; have lc := lt_of_block h4
  have q2 : (2 : Int) ≤ (n : Int) + 10 := by omega
  have wk : IntKind.u8.wrap k = k := by rw [IntKind.wrap_u8]; omega
  have wf : IntKind.u8.wrap f = f := by rw [IntKind.wrap_u8]; omega
  have wt : IntKind.u8.wrap t = t := by rw [IntKind.wrap_u8]; omega
  have ws : IntKind.u8.wrap (s / 256) = s / 256 := by rw [IntKind.wrap_u8]; omega
  have ws' : IntKind.u8.wrap s = s % 256 := by rw [IntKind.wrap_u8]
  have wn : IntKind.u8.wrap (n : Int) = (n : Int) := by rw [IntKind.wrap_u8]; omega
  go_region_held3 (fun w' => w'.cell? ⟨w.heap.size, 0, none⟩ = some (.int .i64 k) ∧ w'.cell? ⟨w.heap.size, 1, none⟩ = some (.int .i64 f) ∧ w'.cell? ⟨w.heap.size, 2, none⟩ = some (.int .i64 t) ∧ w'.cell? ⟨w.heap.size, 3, none⟩ = some (.int .i64 s) ∧ w'.cell? ⟨w.heap.size, 4, none⟩ = some (.slice A n cap)) (first | (refine ⟨?_, ?_, ?_, ?_, ?_⟩ <;> simp [go_sem, *]; done) | go_keep) (first | (refine step_copy_splice rfl (.tmp 21) (.tmp 42) _ _ rfl 5 Try.underlying28 size_u8 (some ⟨g, 2, none⟩) (some ⟨w4.heap.size, 0, none⟩) (n + 8) (n + 8) 6 6 rfl rfl g 2 Y 5 (by repeat (first | (with_reducible assumption) | ((with_reducible apply blk_far); rotate_left; (first | omega | (simp <;> omega)); rotate_right) | (with_reducible apply blk_drew) | (with_reducible apply blk_drewN) | (with_reducible exact heap_new _ _) | ((with_reducible apply heap_new'); (first | rfl | (simp <;> fail))) | (with_reducible apply blk_alloc))) (bv [k, f, t, s / 256, s % 256, (n : Int)]) (Nat.min_eq_left (show 6 ≤ n + 8 by omega)).symm (fun _ => ⟨rfl, _, rfl, fun j v hj => by rw [addr_add, Nat.zero_add]; exact blk_cell (l := bv [k, f, t, s / 256, s % 256, (n : Int)]) (t := 5) (blk_drew (heap_new w4 _)) j hj⟩) (by simp [bv]; omega) (bv_one _) g _ (Below.refl _ _) (Nat.le_refl _) ?_; intro w5 hG5 hb5; have h5 := blk_below (q := w.heap.size) (by repeat (first | (with_reducible assumption) | ((with_reducible apply blk_far); rotate_left; (first | omega | (simp <;> omega)); rotate_right) | (with_reducible apply blk_drew) | (with_reducible apply blk_drewN) | (with_reducible exact heap_new _ _) | ((with_reducible apply heap_new'); (first | rfl | (simp <;> fail))) | (with_reducible apply blk_alloc))) hb5 hgw; have cd_0 := blk_cell h5 0 rfl; have fd_0 := blk_free h5 0; have cd_1 := blk_cell h5 1 rfl; have fd_1 := blk_free h5 1; have cd_2 := blk_cell h5 2 rfl; have fd_2 := blk_free h5 2; have cd_3 := blk_cell h5 3 rfl; have fd_3 := blk_free h5 3; have cd_4 := blk_cell h5 4 rfl; have fd_4 := blk_free h5 4; have ld := lt_of_block h5))
  clear wk wf wt ws ws' wn q2
  have hz5 := hb5.size; try simp at hz5
  have hG5' := hG5.out
  obtain ⟨X, hX⟩ : ∃ X, X = splice Y 2 (bv [k, f, t, s / 256, s % 256, (n : Int)]) := ⟨_, rfl⟩
  rw [← hX] at hG5'
  have hXl : X.length = n + 10 := by rw [hX, length_splice _ _ _ (by simp [bv]; omega), hYl]
  have HB5 : Below w.heap.size w w5 := Below.trans (show Below w.heap.size w _ from (by repeat (first | (with_reducible exact Below.refl _ _) | (with_reducible refine Below.drew ?_) | (with_reducible refine below_drewN ?_ _) | ((with_reducible refine Below.alloc ?_ ?_ _); rotate_left; (first | omega | (simp <;> omega)); rotate_right) | ((with_reducible refine Below.setCell ?_ ?_ _); rotate_left; (first | omega | (simp <;> omega)); rotate_right) | (with_reducible assumption) | (refine Below.trans ?_ (Below.mono (by assumption) ?_); rotate_left; (first | omega | (simp <;> omega)); rotate_right)))) (hb5.mono (by omega))
  have HX := Lib.hid hX
  clear hX hG5 hb5 h4 hG4' HB4 hz4 cc_0 fc_0 cc_1 fc_1 cc_2 fc_2 cc_3 fc_3 cc_4 fc_4
  have hlt5 := lt_of_block hG5'
  have q8 : (8 : Int) ≤ (n : Int) + 10 := by omega
  go_wp2_with fail
  go_still_tail 4, (by kernel_rfl)
  change wpList _ _ _ _ _ w5.drew
  have hdl := HD.out.1
  have hRd := ((HD.out.below HB5 (Nat.le_refl _)).drew).reads
  refine wpList_copy_splice rfl (.tmp 45) (.tmp 47) _ _ rfl 5 Try.underlying28 size_u8 (some ⟨g, 8, none⟩) A (n + 2) (n + 2) n cap rfl rfl g 8 X 5 (blk_drew hG5') (bv d)
    (by rw [show (bv d).length = n by simp [bv, hdl]]; exact (Nat.min_eq_left (by omega)).symm) (fun hp => ⟨rfl, ?_⟩) (by simp [bv, hdl]; omega) (bv_one _) g _ (Below.refl _ _) (Nat.le_refl _) ?_
  · obtain ⟨ad, e, _, hc⟩ := hRd.2 (by simp [bv, hdl] at hp; omega)
    exact ⟨ad, e, hc⟩
  intro w6 hG6 hb6
  have hz6 := hb6.size; try simp at hz6
  have hG6' := hG6.out
  have hL : splice X 8 (bv d) = bv ([213, 76] ++ Frm.body k f t s d ++ [0, 0]) := by
    rw [HX.out, HY.out, HZ.out]
    simp [splice, bv, Frm.body, hdl, List.replicate_succ]
    rw [show 8 + n = n + 8 by omega]
    simp only [List.drop_succ_cons]
    rw [show (Value.int IntKind.u8 0 :: Value.int IntKind.u8 0 :: List.replicate n (Value.int IntKind.u8 0)) = List.replicate (n + 2) (Value.int IntKind.u8 0) by simp [List.replicate_succ], List.drop_replicate, show n + 2 - n = 2 by omega]
    rfl
  rw [hL] at hG6'
  have HB6 : Below w.heap.size w w6 := Below.trans (show Below w.heap.size w _ from (by repeat (first | (with_reducible exact Below.refl _ _) | (with_reducible refine Below.drew ?_) | (with_reducible refine below_drewN ?_ _) | ((with_reducible refine Below.alloc ?_ ?_ _); rotate_left; (first | omega | (simp <;> omega)); rotate_right) | ((with_reducible refine Below.setCell ?_ ?_ _); rotate_left; (first | omega | (simp <;> omega)); rotate_right) | (with_reducible assumption) | (refine Below.trans ?_ (Below.mono (by assumption) ?_); rotate_left; (first | omega | (simp <;> omega)); rotate_right)))) (hb6.mono (by omega))
  clear hL hG6 hb6 h5 hG5' HB5 hz5 hRd
  have hbb : By (Frm.body k f t s d) := Frm.body_by (by rw [hdl]; exact HV.out) HD.out.2.1
  have hlen6 : ([213, 76] ++ Frm.body k f t s d ++ [0, 0]).length = n + 10 := by simp [Frm.body, hdl]
  have hR6 := (Rd.of_block (B := w6.heap.size) hG6' (lt_of_block hG6') (Frm.By.append (Frm.By.append (by intro x hx; simp at hx; omega) hbb) (by intro x hx; simp at hx; omega)))
  rw [hlen6] at hR6
  have hsub := hR6.sub 2 (n + 6) (by omega)
  have hbod : (([213, 76] ++ Frm.body k f t s d ++ [0, 0]).drop 2).take (n + 6) = Frm.body k f t s d := by
    have : n + 6 = (Frm.body k f t s d).length := by simp [Frm.body, hdl]
    rw [this]
    simp
  rw [hbod, Nat.zero_add] at hsub
  have RS := Lib.hid (fun (W : World) hW => sum_any (some ⟨g, 2, none⟩) (n + 6) (n + 8) (Frm.body k f t s d) W (by omega) hW)
  have hcl := Frm.crcN_lt hbb
  have hc8 : w6.cell? ⟨g, n + 8, none⟩ = some (.int .u8 0) := blk_cell hG6' (n + 8) (by simp [bv, Frm.body, hdl])
  have hc9 : w6.cell? ⟨g, n + 9, none⟩ = some (.int .u8 0) := blk_cell hG6' (n + 9) (by simp [bv, Frm.body, hdl])
  have hf8 := blk_free hG6' (n + 8)
  have hf9 := blk_free hG6' (n + 9)
  have EB := Lib.hid (show Frm.enc k f t s d = [213, 76] ++ Frm.body k f t s d ++ [((Frm.crcN (Frm.body k f t s d) : Nat) : Int) / 256, ((Frm.crcN (Frm.body k f t s d) : Nat) : Int) % 256] from rfl)
  generalize Frm.crcN (Frm.body k f t s d) = c at hcl RS EB
  have HR := Lib.hid hsub
  have HBB := Lib.hid hbb
  clear hbod hR6 hlen6 hsub hbb hYl hXl hZl hdl
  go_wp2_with fail
  refine (RS.out _ HR.out).mono ?_
  rintro e w7 ⟨rfl, rfl⟩
  have wc := (show IntKind.u8.wrap (c : Int) = (c : Int) % 256 by rw [IntKind.wrap_u8])
  go_wp2_with fail
  go_ret2
  refine ⟨some ⟨g, 0, none⟩, n + 10, rfl, ?_, (by repeat (first | (with_reducible exact Below.refl _ _) | (with_reducible refine Below.drew ?_) | (with_reducible refine below_drewN ?_ _) | ((with_reducible refine Below.alloc ?_ ?_ _); rotate_left; (first | omega | (simp <;> omega)); rotate_right) | ((with_reducible refine Below.setCell ?_ ?_ _); rotate_left; (first | omega | (simp <;> omega)); rotate_right) | (with_reducible assumption) | (refine Below.trans ?_ (Below.mono (by assumption) ?_); rotate_left; (first | omega | (simp <;> omega)); rotate_right)))⟩
  rw [EB.out]
  have hset := blk_set (blk_set hG6' (n + 8) (.int .u8 ((c : Int) / 256))) (n + 8 + 1) (.int .u8 ((c : Int) % 256))
  rw [set_two ([213, 76] ++ Frm.body k f t s d) _ _ (n + 8) (by simp [Frm.body, HD.out.1])] at hset
  refine own_of_block hset (by omega) (by simp [Frm.body, HD.out.1]) (by unfold maxLen; omega) (Frm.By.append (Frm.By.append (by intro x hx; simp at hx; omega) HBB.out) (by intro x hx; simp at hx; omega))
end Go.Proofs.Ytgmejplcdecmkaa

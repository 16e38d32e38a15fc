/- The check sum of a record: the reference. -/
import Derived.Test.YtgmejplcdecmkaaLgG
namespace Go.Proofs.Ytgmejplcdecmkaa
open Go.RowKit
set_option maxHeartbeats 8000000
set_option maxRecDepth 100000
set_option linter.unusedSimpArgs false
set_option linter.unusedVariables false
attribute [local go_sem ↓] Go.wp_at_zero Go.wp_at_succ
theorem rput_yes (A : Option Addr) (n cap : Nat) (l : List Int) (w : World) (h : Ri w w.heap.size A n l) (hn : n ≤ 16) (hx : Frm.okAll l = true) :
    Calls Try.prog 44 #[.slice A n cap] w fun e w' => ∃ A' cap', e = .returned (.tuple #[.slice A' (4 * n) cap', .int .i64 0]) ∧ Ow w' w.heap.size A' (4 * n) cap' (Frm.pn l) ∧ Below w.heap.size w w' := by
  refine (rput_any A n cap l w (by omega) h).mono ?_
  intro e w' hp
  rcases hp with ⟨h1 | h1, _⟩ | ⟨_, h2⟩
  · omega
  · rw [hx] at h1; cases h1
  · exact h2
theorem rlsum_no (b : Int) (v : Lg.RV) (w : World) (hv : Lg.Ok w w.heap.size v) (hf : Lg.fine v.x = false) :
    Calls Try.prog 13 #[.int .u32 b, v.val] w fun e w' => e = .returned (.tuple #[.int .u32 0, .int .i64 2]) ∧ Below w.heap.size w w' := by
  have HV := Lib.hid hv
  have F := Lib.hid (fun (W : World) (hW : Below w.heap.size w W) => hf ▸ rfine_any v W ((HV.out.below hW (Nat.le_refl _)).more hW.size))
  clear hf hv
  simp only [Lg.RV.val, Lg.RV.cells] at F ⊢
  go_enter Try.func13, Try.ntmps13
  go_wp2_with fail
  refine (F.out _ (by repeat (first | (with_reducible exact Below.refl _ _) | (with_reducible refine Below.drew ?_) | (with_reducible refine below_drewN ?_ _) | ((with_reducible refine Below.alloc ?_ ?_ _); rotate_left; (first | omega | (simp <;> omega)); rotate_right) | ((with_reducible refine Below.setCell ?_ ?_ _); rotate_left; (first | omega | (simp <;> omega)); rotate_right) | (with_reducible assumption) | (refine Below.trans ?_ (Below.mono (by assumption) ?_); rotate_left; (first | omega | (simp <;> omega)); rotate_right)))).mono ?_
  rintro e w1 ⟨rfl, hb1⟩
  have hz1 := hb1.size
  simp only [World.size_alloc] at hz1
  go_wp2_with fail
  go_ret2
  exact ⟨rfl, (by repeat (first | (with_reducible exact Below.refl _ _) | (with_reducible refine Below.drew ?_) | (with_reducible refine below_drewN ?_ _) | ((with_reducible refine Below.alloc ?_ ?_ _); rotate_left; (first | omega | (simp <;> omega)); rotate_right) | ((with_reducible refine Below.setCell ?_ ?_ _); rotate_left; (first | omega | (simp <;> omega)); rotate_right) | (with_reducible assumption) | (refine Below.trans ?_ (Below.mono (by assumption) ?_); rotate_left; (first | omega | (simp <;> omega)); rotate_right)))⟩
/-- what the check sum leaves -/
def SumPost (b : Int) (L : List Int) (w : World) (e : Ending) (w' : World) : Prop := e = .returned (.tuple #[.int .u32 (L.foldl Lg.fh (Lg.h0 b)), .int .i64 0]) ∧ Below w.heap.size w w'
theorem rlsum_2 (b : Int) (v : Lg.RV) (w : World) (hk : v.x.k = 2) (hf : Lg.fine v.x = true) (hv : Lg.Ok w w.heap.size v) :
    Calls Try.prog 13 #[.int .u32 b, v.val] w fun e w' => SumPost b (Lg.content v.x) w e w' := by
  have HV := Lib.hid hv
  have h1 := Lg.fine_ta hf
  have h2 := Lg.fine_2 hf hk
  have hlen := Lib.hid (Lg.content_len hf)
  obtain ⟨⟨t, a, k, x, y, z, s, ⟨fk, ff, ft, fs, d⟩, sum⟩, A, cap⟩ := v
  have F := Lib.hid (fun (W : World) (hW : Below w.heap.size w W) => hf ▸ rfine_any _ W ((HV.out.below hW (Nat.le_refl _)).more hW.size))
  clear hf hv
  simp only at hk h1 h2
  subst hk
  obtain ⟨⟨t0, t1⟩, a0, a1⟩ := h1
  obtain ⟨L, hL⟩ : ∃ L, L = Lg.content ⟨t, a, 2, x, y, z, s, ⟨fk, ff, ft, fs, d⟩, sum⟩ := ⟨_, rfl⟩
  simp only at hlen ⊢
  rw [← hL] at hlen ⊢
  unfold SumPost
  obtain ⟨h0, hh0⟩ : ∃ h0, h0 = Lg.h0 b := ⟨_, rfl⟩
  rw [← hh0]
  unfold Lg.h0 at hh0
  have X0 : bits .xor .u32 b 2166136261 = h0 := hh0.symm
  clear hh0
  obtain ⟨n, hn⟩ : ∃ n, n = L.length := ⟨_, rfl⟩
  rw [← hn] at hlen
  have HN := Lib.hid hn
  have hlen2 := hlen.out
  clear hn hlen
  obtain ⟨s0, s1⟩ := h2
  have E := Lib.hid (show L = 2 :: (Frm.pn [t, a] ++ [s]) from hL)
  have hn10 : n = 10 := by rw [HN.out, E.out]; rfl
  clear hL
  have ws : IntKind.u8.wrap s = s := u8_in s (by omega)
  simp only [Lg.RV.val, Lg.RV.cells] at F ⊢
  have PY := Lib.hid (fun (q : Nat) (W : World) h => rput_yes (some ⟨q, 0, none⟩) 2 2 [t, a] W (num_rows W q t a ⟨t0, t1⟩ ⟨a0, a1⟩ h) (by omega) (ok_ta ⟨t0, t1⟩ ⟨a0, a1⟩))
  obtain ⟨i0, hi0, hz0, hz1, hz2⟩ := info_parts info_u8
  go_enter Try.func13, Try.ntmps13
  go_wp2_with fail
  refine (F.out _ (by repeat (first | (with_reducible exact Below.refl _ _) | (with_reducible refine Below.drew ?_) | (with_reducible refine below_drewN ?_ _) | ((with_reducible refine Below.alloc ?_ ?_ _); rotate_left; (first | omega | (simp <;> omega)); rotate_right) | ((with_reducible refine Below.setCell ?_ ?_ _); rotate_left; (first | omega | (simp <;> omega)); rotate_right) | (with_reducible assumption) | (refine Below.trans ?_ (Below.mono (by assumption) ?_); rotate_left; (first | omega | (simp <;> omega)); rotate_right)))).mono ?_
  rintro e w1 ⟨rfl, hb1⟩
  have hs1 := hb1.size
  have hx1 := blk_below (q := w.heap.size) (heap_new _ _) hb1 (by simp)
  have HB1 := (show Below w.heap.size w w1 from (by repeat (first | (with_reducible exact Below.refl _ _) | (with_reducible refine Below.drew ?_) | (with_reducible refine below_drewN ?_ _) | ((with_reducible refine Below.alloc ?_ ?_ _); rotate_left; (first | omega | (simp <;> omega)); rotate_right) | ((with_reducible refine Below.setCell ?_ ?_ _); rotate_left; (first | omega | (simp <;> omega)); rotate_right) | (with_reducible assumption) | (refine Below.trans ?_ (Below.mono (by assumption) ?_); rotate_left; (first | omega | (simp <;> omega)); rotate_right))))
  simp only [World.size_alloc] at hs1
  have ca_0 := blk_cell hx1 0 rfl; have fa_0 := blk_free hx1 0; have ca_1 := blk_cell hx1 1 rfl; have fa_1 := blk_free hx1 1; have ca_2 := blk_cell hx1 2 rfl; have fa_2 := blk_free hx1 2; have ca_3 := blk_cell hx1 3 rfl; have fa_3 := blk_free hx1 3; have ca_4 := blk_cell hx1 4 rfl; have fa_4 := blk_free hx1 4; have ca_5 := blk_cell hx1 5 rfl; have fa_5 := blk_free hx1 5; have ca_6 := blk_cell hx1 6 rfl; have fa_6 := blk_free hx1 6; have ca_7 := blk_cell hx1 7 rfl; have fa_7 := blk_free hx1 7; have ca_8 := blk_cell hx1 8 rfl; have fa_8 := blk_free hx1 8; have ca_9 := blk_cell hx1 9 rfl; have fa_9 := blk_free hx1 9; have ca_10 := blk_cell hx1 10 rfl; have fa_10 := blk_free hx1 10; have ca_11 := blk_cell hx1 11 rfl; have fa_11 := blk_free hx1 11; have ca_12 := blk_cell hx1 12 rfl; have fa_12 := blk_free hx1 12; have la := lt_of_block hx1
  clear hb1
  go_wp2_with fail
  refine (PY.out (w1.heap.size + 1) _ (heap_new' _ _ _ (by simp))).mono ?_
  rintro e w5 ⟨A5, c5, rfl, o5, hb5⟩
  have hs5 := hb5.size
  simp only [World.size_alloc] at hs5
  have hx5 := blk_below (q := w.heap.size) (blk_alloc (blk_alloc hx1 _) _) hb5 (by simp; omega)
  have hq5 := blk_below (q := w1.heap.size) (blk_alloc (heap_new w1 (.cells #[.int .u8 2] 5)) _) hb5 (by simp; omega)
  have HB5 := (show Below w.heap.size w w5 from (by repeat (first | (with_reducible exact Below.refl _ _) | (with_reducible refine Below.drew ?_) | (with_reducible refine below_drewN ?_ _) | ((with_reducible refine Below.alloc ?_ ?_ _); rotate_left; (first | omega | (simp <;> omega)); rotate_right) | ((with_reducible refine Below.setCell ?_ ?_ _); rotate_left; (first | omega | (simp <;> omega)); rotate_right) | (with_reducible assumption) | (refine Below.trans ?_ (Below.mono (by assumption) ?_); rotate_left; (first | omega | (simp <;> omega)); rotate_right))))
  have O5 := Lib.hid o5
  have W5 := Lib.hid (show w5.ownsRow (w.heap.size + 1) 5 1 (.slice (some ⟨w1.heap.size, 0, none⟩) 1 1) 1 (bv [2]) from ⟨rfl, .inr ⟨w1.heap.size, 1, #[.int .u8 2], rfl, by omega, hq5, Nat.le_refl _, by unfold maxLen; omega, rfl, rfl⟩⟩)
  clear ca_0 fa_0 ca_1 fa_1 ca_2 fa_2 ca_3 fa_3 ca_4 fa_4 ca_5 fa_5 ca_6 fa_6 ca_7 fa_7 ca_8 fa_8 ca_9 fa_9 ca_10 fa_10 ca_11 fa_11 ca_12 fa_12
  clear hb5 o5 hx1 hq5
  have cb_0 := blk_cell hx5 0 rfl; have fb_0 := blk_free hx5 0; have cb_1 := blk_cell hx5 1 rfl; have fb_1 := blk_free hx5 1; have cb_2 := blk_cell hx5 2 rfl; have fb_2 := blk_free hx5 2; have cb_3 := blk_cell hx5 3 rfl; have fb_3 := blk_free hx5 3; have cb_4 := blk_cell hx5 4 rfl; have fb_4 := blk_free hx5 4; have cb_5 := blk_cell hx5 5 rfl; have fb_5 := blk_free hx5 5; have cb_6 := blk_cell hx5 6 rfl; have fb_6 := blk_free hx5 6; have cb_7 := blk_cell hx5 7 rfl; have fb_7 := blk_free hx5 7; have cb_8 := blk_cell hx5 8 rfl; have fb_8 := blk_free hx5 8; have cb_9 := blk_cell hx5 9 rfl; have fb_9 := blk_free hx5 9; have cb_10 := blk_cell hx5 10 rfl; have fb_10 := blk_free hx5 10; have cb_11 := blk_cell hx5 11 rfl; have fb_11 := blk_free hx5 11; have cb_12 := blk_cell hx5 12 rfl; have fb_12 := blk_free hx5 12; have lb := lt_of_block hx5
  go_wp2_with (first | (at_builtin; refine wpList_append_any _ rfl (.tmp 27) (.tmp 28) _ rfl (w.heap.size + 1) 5 i0 _ 1 1 Try.underlying28 hi0 hz0 hz1 hz2 rfl (by omega) _ 1 _ rfl W5.out _ A5 8 c5 (bv (Frm.pn [t, a])) rfl O5.out.rd.reads (bv_one _) (by simp only [maxLen]; omega) (by omega) (by omega) ?_; intro v6 w6 hown6 hg6 hat6; obtain ⟨A6, c6, rfl⟩ := own_form hown6; have hx6 := blk_only hx5 hg6 (fun e => by have e' := (W5.out.lt w.heap.size e.symm).1; omega); have hs6 := hg6.size; (try simp only [World.size_alloc] at hs6); have HB6 := (HB5).grown hg6 (by first | omega | (simp; omega)) (fun g hg => Nat.le_of_succ_le (W5.out.lt g hg).1); have O6 := Lib.hid hown6; clear cb_0 fb_0 cb_1 fb_1 cb_2 fb_2 cb_3 fb_3 cb_4 fb_4 cb_5 fb_5 cb_6 fb_6 cb_7 fb_7 cb_8 fb_8 cb_9 fb_9 cb_10 fb_10 cb_11 fb_11 cb_12 fb_12; clear hown6 hg6 hat6; have cc_0 := blk_cell hx6 0 rfl; have fc_0 := blk_free hx6 0; have cc_1 := blk_cell hx6 1 rfl; have fc_1 := blk_free hx6 1; have cc_2 := blk_cell hx6 2 rfl; have fc_2 := blk_free hx6 2; have cc_3 := blk_cell hx6 3 rfl; have fc_3 := blk_free hx6 3; have cc_4 := blk_cell hx6 4 rfl; have fc_4 := blk_free hx6 4; have cc_5 := blk_cell hx6 5 rfl; have fc_5 := blk_free hx6 5; have cc_6 := blk_cell hx6 6 rfl; have fc_6 := blk_free hx6 6; have cc_7 := blk_cell hx6 7 rfl; have fc_7 := blk_free hx6 7; have cc_8 := blk_cell hx6 8 rfl; have fc_8 := blk_free hx6 8; have cc_9 := blk_cell hx6 9 rfl; have fc_9 := blk_free hx6 9; have cc_10 := blk_cell hx6 10 rfl; have fc_10 := blk_free hx6 10; have cc_11 := blk_cell hx6 11 rfl; have fc_11 := blk_free hx6 11; have cc_12 := blk_cell hx6 12 rfl; have fc_12 := blk_free hx6 12; have lc := lt_of_block hx6) | (at_builtin; refine wpList_append_any _ rfl (.tmp 56) (.tmp 60) _ rfl (w.heap.size + 1) 5 i0 _ 1 1 Try.underlying28 hi0 hz0 hz1 hz2 rfl (by omega) _ 9 _ rfl (World.ownsRow.alloc O6.out _) _ (some ⟨w6.heap.size, 0, none⟩) 1 1 (bv [s]) rfl (show Reads (w6.alloc (.cells #[.int .u8 s] 5)) (w6.heap.size + 1) 1 (some ⟨w6.heap.size, 0, none⟩) 1 (bv [s]) from Reads.new w6 #[.int .u8 s] 5) (bv_one _) (by simp only [maxLen]; omega) (by omega) (by simp; omega) ?_; intro v7 w7 hown7 hg7 hat7; obtain ⟨A7, c7, rfl⟩ := own_form hown7; have hx7 := blk_only (blk_alloc hx6 _) hg7 (fun e => by have e' := (O6.out.lt w.heap.size e.symm).1; omega); have hs7 := hg7.size; (try simp only [World.size_alloc] at hs7); have HB7 := (HB6.alloc (by omega) _).grown hg7 (by first | omega | (simp; omega)) (fun g hg => Nat.le_of_succ_le (O6.out.lt g hg).1); have O7 := Lib.hid hown7; clear cc_0 fc_0 cc_1 fc_1 cc_2 fc_2 cc_3 fc_3 cc_4 fc_4 cc_5 fc_5 cc_6 fc_6 cc_7 fc_7 cc_8 fc_8 cc_9 fc_9 cc_10 fc_10 cc_11 fc_11 cc_12 fc_12; clear hown7 hg7 hat7; have cd_0 := blk_cell hx7 0 rfl; have fd_0 := blk_free hx7 0; have cd_1 := blk_cell hx7 1 rfl; have fd_1 := blk_free hx7 1; have cd_2 := blk_cell hx7 2 rfl; have fd_2 := blk_free hx7 2; have cd_3 := blk_cell hx7 3 rfl; have fd_3 := blk_free hx7 3; have cd_4 := blk_cell hx7 4 rfl; have fd_4 := blk_free hx7 4; have cd_5 := blk_cell hx7 5 rfl; have fd_5 := blk_free hx7 5; have cd_6 := blk_cell hx7 6 rfl; have fd_6 := blk_free hx7 6; have cd_7 := blk_cell hx7 7 rfl; have fd_7 := blk_free hx7 7; have cd_8 := blk_cell hx7 8 rfl; have fd_8 := blk_free hx7 8; have cd_9 := blk_cell hx7 9 rfl; have fd_9 := blk_free hx7 9; have cd_10 := blk_cell hx7 10 rfl; have fd_10 := blk_free hx7 10; have cd_11 := blk_cell hx7 11 rfl; have fd_11 := blk_free hx7 11; have cd_12 := blk_cell hx7 12 rfl; have fd_12 := blk_free hx7 12; have ld := lt_of_block hx7))
  subst hn10
  have OL : Ow w7 (w.heap.size + 1) A7 10 c7 L := by
    refine ⟨?_, ?_⟩
    · have h7 := O7.out
      rw [E.out]
      simpa [bv] using h7
    · rw [E.out]
      refine Frm.By.append (l := [2]) (by intro q hq; simp at hq; omega) (Frm.By.append O5.out.2 (by intro q hq; simp at hq; omega))
  have rd := OL.rd
  have HBZ := HB7
  clear OL O7 O6 O5 W5
  go_wp2_with fail
  go_loop [9, 10] (fun s9 s10 => ∃ (j : Nat) (h : Int), s10 = .int .i64 j ∧ j ≤ 10 ∧ s9 = .int .u32 h ∧ Hid (h = (L.take j).foldl Lg.fh h0)) (fun _ s10 => 10 - (intOf s10).toNat)
  case atStart => exact ⟨0, h0, by go_num, by omega, by rfl, Lib.hid rfl⟩
  case round =>
    obtain ⟨j, h, rfl, hj, rfl, HH⟩ := hrel
    by_cases hlt : j < 10
    · obtain ⟨bl, o, rfl, hbl, hcl⟩ := rd.2.2 (by omega)
      have hck := hcl j hlt
      have hby := rd.2.1.at_ j
      have FT := Lib.hid (Lg.fold_take L h0 (j := j) (by rw [← HN.out]; exact hlt))
      obtain ⟨y, hy⟩ : ∃ y, L.getD j 0 = y := ⟨_, rfl⟩
      rw [hy] at hck hby FT
      rw [← HH.out] at FT
      have wy : IntKind.u32.wrap y = y := u32_in y hby
      clear hcl hy HH
      go_wp2_with fail
      go_round
      case rel => exact ⟨j + 1, _, by go_num, by omega, rfl, Lib.hid FT.out.symm⟩
      case measure => simp [intOf]; omega
    · obtain rfl : j = 10 := by omega
      have HE := Lib.hid (show h = L.foldl Lg.fh h0 by rw [HH.out, List.take_of_length_le (by rw [HN.out]; exact Nat.le_refl _)])
      clear HH
      go_wp2_with fail
      go_ret2
      exact ⟨ret_ii HE.out rfl, HBZ⟩
theorem rlsum_1 (b : Int) (v : Lg.RV) (w : World) (hk : v.x.k = 1) (hf : Lg.fine v.x = true) (hv : Lg.Ok w w.heap.size v) :
    Calls Try.prog 13 #[.int .u32 b, v.val] w fun e w' => SumPost b (Lg.content v.x) w e w' := by
  have HV := Lib.hid hv
  have h1 := Lg.fine_ta hf
  have h2 := Lg.fine_1 hf hk
  have hlen := Lib.hid (Lg.content_len hf)
  obtain ⟨⟨t, a, k, x, y, z, s, ⟨fk, ff, ft, fs, d⟩, sum⟩, A, cap⟩ := v
  have F := Lib.hid (fun (W : World) (hW : Below w.heap.size w W) => hf ▸ rfine_any _ W ((HV.out.below hW (Nat.le_refl _)).more hW.size))
  clear hf hv
  simp only at hk h1 h2
  subst hk
  obtain ⟨⟨t0, t1⟩, a0, a1⟩ := h1
  obtain ⟨L, hL⟩ : ∃ L, L = Lg.content ⟨t, a, 1, x, y, z, s, ⟨fk, ff, ft, fs, d⟩, sum⟩ := ⟨_, rfl⟩
  simp only at hlen ⊢
  rw [← hL] at hlen ⊢
  unfold SumPost
  obtain ⟨h0, hh0⟩ : ∃ h0, h0 = Lg.h0 b := ⟨_, rfl⟩
  rw [← hh0]
  unfold Lg.h0 at hh0
  have X0 : bits .xor .u32 b 2166136261 = h0 := hh0.symm
  clear hh0
  obtain ⟨n, hn⟩ : ∃ n, n = L.length := ⟨_, rfl⟩
  rw [← hn] at hlen
  have HN := Lib.hid hn
  have hlen2 := hlen.out
  clear hn hlen
  obtain ⟨⟨x0, x1⟩, ⟨y0, y1⟩, z0, z1⟩ := h2
  have E := Lib.hid (show L = 1 :: (Frm.pn [t, a] ++ Frm.pn [x + 1048576, y + 1048576, z + 1048576]) from hL)
  have hn10 : n = 21 := by rw [HN.out, E.out]; rfl
  clear hL
  have wx : IntKind.i64.wrap (x + 1048576) = x + 1048576 := IntWalk.i64_in _ (by omega)
  have wy : IntKind.i64.wrap (y + 1048576) = y + 1048576 := IntWalk.i64_in _ (by omega)
  have wz : IntKind.i64.wrap (z + 1048576) = z + 1048576 := IntWalk.i64_in _ (by omega)
  have P3 := Lib.hid (fun (q : Nat) (W : World) (h : W.heap[q]? = some (.cells #[.int .i64 (x + 1048576), .int .i64 (y + 1048576), .int .i64 (z + 1048576)] 3 (0, 0))) => rput_yes (some ⟨q, 0, none⟩) 3 3 [x + 1048576, y + 1048576, z + 1048576] W ⟨rfl, (by intro q hq; simp at hq; omega), fun _ => ⟨q, 0, rfl, lt_of_block h, fun i hi => (by
    rw [Nat.zero_add]
    refine blk_cell (l := [_, _, _]) h i ?_
    rcases i with _ | _ | _ | i <;> first | rfl | omega)⟩⟩ (by omega) (by
    simp only [Frm.okAll, List.all_cons, List.all_nil, Bool.and_true, Bool.and_eq_true, Frm.okN_iff]
    omega))
  simp only [Lg.RV.val, Lg.RV.cells] at F ⊢
  have PY := Lib.hid (fun (q : Nat) (W : World) h => rput_yes (some ⟨q, 0, none⟩) 2 2 [t, a] W (num_rows W q t a ⟨t0, t1⟩ ⟨a0, a1⟩ h) (by omega) (ok_ta ⟨t0, t1⟩ ⟨a0, a1⟩))
  obtain ⟨i0, hi0, hz0, hz1, hz2⟩ := info_parts info_u8
  go_enter Try.func13, Try.ntmps13
  go_wp2_with fail
  refine (F.out _ (by repeat (first | (with_reducible exact Below.refl _ _) | (with_reducible refine Below.drew ?_) | (with_reducible refine below_drewN ?_ _) | ((with_reducible refine Below.alloc ?_ ?_ _); rotate_left; (first | omega | (simp <;> omega)); rotate_right) | ((with_reducible refine Below.setCell ?_ ?_ _); rotate_left; (first | omega | (simp <;> omega)); rotate_right) | (with_reducible assumption) | (refine Below.trans ?_ (Below.mono (by assumption) ?_); rotate_left; (first | omega | (simp <;> omega)); rotate_right)))).mono ?_
  rintro e w1 ⟨rfl, hb1⟩
  have hs1 := hb1.size
  have hx1 := blk_below (q := w.heap.size) (heap_new _ _) hb1 (by simp)
  have HB1 := (show Below w.heap.size w w1 from (by repeat (first | (with_reducible exact Below.refl _ _) | (with_reducible refine Below.drew ?_) | (with_reducible refine below_drewN ?_ _) | ((with_reducible refine Below.alloc ?_ ?_ _); rotate_left; (first | omega | (simp <;> omega)); rotate_right) | ((with_reducible refine Below.setCell ?_ ?_ _); rotate_left; (first | omega | (simp <;> omega)); rotate_right) | (with_reducible assumption) | (refine Below.trans ?_ (Below.mono (by assumption) ?_); rotate_left; (first | omega | (simp <;> omega)); rotate_right))))
  simp only [World.size_alloc] at hs1
  have ca_0 := blk_cell hx1 0 rfl; have fa_0 := blk_free hx1 0; have ca_1 := blk_cell hx1 1 rfl; have fa_1 := blk_free hx1 1; have ca_2 := blk_cell hx1 2 rfl; have fa_2 := blk_free hx1 2; have ca_3 := blk_cell hx1 3 rfl; have fa_3 := blk_free hx1 3; have ca_4 := blk_cell hx1 4 rfl; have fa_4 := blk_free hx1 4; have ca_5 := blk_cell hx1 5 rfl; have fa_5 := blk_free hx1 5; have ca_6 := blk_cell hx1 6 rfl; have fa_6 := blk_free hx1 6; have ca_7 := blk_cell hx1 7 rfl; have fa_7 := blk_free hx1 7; have ca_8 := blk_cell hx1 8 rfl; have fa_8 := blk_free hx1 8; have ca_9 := blk_cell hx1 9 rfl; have fa_9 := blk_free hx1 9; have ca_10 := blk_cell hx1 10 rfl; have fa_10 := blk_free hx1 10; have ca_11 := blk_cell hx1 11 rfl; have fa_11 := blk_free hx1 11; have ca_12 := blk_cell hx1 12 rfl; have fa_12 := blk_free hx1 12; have la := lt_of_block hx1
  clear hb1
  go_wp2_with fail
  refine (PY.out (w1.heap.size + 1) _ (heap_new' _ _ _ (by simp))).mono ?_
  rintro e w5 ⟨A5, c5, rfl, o5, hb5⟩
  have hs5 := hb5.size
  simp only [World.size_alloc] at hs5
  have hx5 := blk_below (q := w.heap.size) (blk_alloc (blk_alloc hx1 _) _) hb5 (by simp; omega)
  have hq5 := blk_below (q := w1.heap.size) (blk_alloc (heap_new w1 (.cells #[.int .u8 1] 5)) _) hb5 (by simp; omega)
  have HB5 := (show Below w.heap.size w w5 from (by repeat (first | (with_reducible exact Below.refl _ _) | (with_reducible refine Below.drew ?_) | (with_reducible refine below_drewN ?_ _) | ((with_reducible refine Below.alloc ?_ ?_ _); rotate_left; (first | omega | (simp <;> omega)); rotate_right) | ((with_reducible refine Below.setCell ?_ ?_ _); rotate_left; (first | omega | (simp <;> omega)); rotate_right) | (with_reducible assumption) | (refine Below.trans ?_ (Below.mono (by assumption) ?_); rotate_left; (first | omega | (simp <;> omega)); rotate_right))))
  have O5 := Lib.hid o5
  have W5 := Lib.hid (show w5.ownsRow (w.heap.size + 1) 5 1 (.slice (some ⟨w1.heap.size, 0, none⟩) 1 1) 1 (bv [1]) from ⟨rfl, .inr ⟨w1.heap.size, 1, #[.int .u8 1], rfl, by omega, hq5, Nat.le_refl _, by unfold maxLen; omega, rfl, rfl⟩⟩)
  clear ca_0 fa_0 ca_1 fa_1 ca_2 fa_2 ca_3 fa_3 ca_4 fa_4 ca_5 fa_5 ca_6 fa_6 ca_7 fa_7 ca_8 fa_8 ca_9 fa_9 ca_10 fa_10 ca_11 fa_11 ca_12 fa_12
  clear hb5 o5 hx1 hq5
  have cb_0 := blk_cell hx5 0 rfl; have fb_0 := blk_free hx5 0; have cb_1 := blk_cell hx5 1 rfl; have fb_1 := blk_free hx5 1; have cb_2 := blk_cell hx5 2 rfl; have fb_2 := blk_free hx5 2; have cb_3 := blk_cell hx5 3 rfl; have fb_3 := blk_free hx5 3; have cb_4 := blk_cell hx5 4 rfl; have fb_4 := blk_free hx5 4; have cb_5 := blk_cell hx5 5 rfl; have fb_5 := blk_free hx5 5; have cb_6 := blk_cell hx5 6 rfl; have fb_6 := blk_free hx5 6; have cb_7 := blk_cell hx5 7 rfl; have fb_7 := blk_free hx5 7; have cb_8 := blk_cell hx5 8 rfl; have fb_8 := blk_free hx5 8; have cb_9 := blk_cell hx5 9 rfl; have fb_9 := blk_free hx5 9; have cb_10 := blk_cell hx5 10 rfl; have fb_10 := blk_free hx5 10; have cb_11 := blk_cell hx5 11 rfl; have fb_11 := blk_free hx5 11; have cb_12 := blk_cell hx5 12 rfl; have fb_12 := blk_free hx5 12; have lb := lt_of_block hx5
  go_wp2_with (at_builtin; refine wpList_append_any _ rfl (.tmp 27) (.tmp 28) _ rfl (w.heap.size + 1) 5 i0 _ 1 1 Try.underlying28 hi0 hz0 hz1 hz2 rfl (by omega) _ 1 _ rfl W5.out _ A5 8 c5 (bv (Frm.pn [t, a])) rfl O5.out.rd.reads (bv_one _) (by simp only [maxLen]; omega) (by omega) (by omega) ?_; intro v6 w6 hown6 hg6 hat6; obtain ⟨A6, c6, rfl⟩ := own_form hown6; have hx6 := blk_only hx5 hg6 (fun e => by have e' := (W5.out.lt w.heap.size e.symm).1; omega); have hs6 := hg6.size; (try simp only [World.size_alloc] at hs6); have HB6 := (HB5).grown hg6 (by first | omega | (simp; omega)) (fun g hg => Nat.le_of_succ_le (W5.out.lt g hg).1); have O6 := Lib.hid hown6; clear cb_0 fb_0 cb_1 fb_1 cb_2 fb_2 cb_3 fb_3 cb_4 fb_4 cb_5 fb_5 cb_6 fb_6 cb_7 fb_7 cb_8 fb_8 cb_9 fb_9 cb_10 fb_10 cb_11 fb_11 cb_12 fb_12; clear hown6 hg6 hat6; have cc_0 := blk_cell hx6 0 rfl; have fc_0 := blk_free hx6 0; have cc_1 := blk_cell hx6 1 rfl; have fc_1 := blk_free hx6 1; have cc_2 := blk_cell hx6 2 rfl; have fc_2 := blk_free hx6 2; have cc_3 := blk_cell hx6 3 rfl; have fc_3 := blk_free hx6 3; have cc_4 := blk_cell hx6 4 rfl; have fc_4 := blk_free hx6 4; have cc_5 := blk_cell hx6 5 rfl; have fc_5 := blk_free hx6 5; have cc_6 := blk_cell hx6 6 rfl; have fc_6 := blk_free hx6 6; have cc_7 := blk_cell hx6 7 rfl; have fc_7 := blk_free hx6 7; have cc_8 := blk_cell hx6 8 rfl; have fc_8 := blk_free hx6 8; have cc_9 := blk_cell hx6 9 rfl; have fc_9 := blk_free hx6 9; have cc_10 := blk_cell hx6 10 rfl; have fc_10 := blk_free hx6 10; have cc_11 := blk_cell hx6 11 rfl; have fc_11 := blk_free hx6 11; have cc_12 := blk_cell hx6 12 rfl; have fc_12 := blk_free hx6 12; have lc := lt_of_block hx6)
  go_wp2_with fail
  refine (P3.out w6.heap.size _ (heap_new _ _)).mono ?_
  rintro e w8 ⟨A8, c8, rfl, o8, hb8⟩
  have hs8 := hb8.size
  simp only [World.size_alloc] at hs8
  have hx8 := blk_below (q := w.heap.size) (blk_alloc hx6 _) hb8 (by simp; omega)
  have HB8 := (show Below w.heap.size w w8 from (by repeat (first | (with_reducible exact Below.refl _ _) | (with_reducible refine Below.drew ?_) | (with_reducible refine below_drewN ?_ _) | ((with_reducible refine Below.alloc ?_ ?_ _); rotate_left; (first | omega | (simp <;> omega)); rotate_right) | ((with_reducible refine Below.setCell ?_ ?_ _); rotate_left; (first | omega | (simp <;> omega)); rotate_right) | (with_reducible assumption) | (refine Below.trans ?_ (Below.mono (by assumption) ?_); rotate_left; (first | omega | (simp <;> omega)); rotate_right))))
  have O8 := Lib.hid o8
  have W8 := Lib.hid (own_below (World.ownsRow.alloc O6.out _) hb8)
  clear cc_0 fc_0 cc_1 fc_1 cc_2 fc_2 cc_3 fc_3 cc_4 fc_4 cc_5 fc_5 cc_6 fc_6 cc_7 fc_7 cc_8 fc_8 cc_9 fc_9 cc_10 fc_10 cc_11 fc_11 cc_12 fc_12
  clear hb8 o8 hx6
  have cd_0 := blk_cell hx8 0 rfl; have fd_0 := blk_free hx8 0; have cd_1 := blk_cell hx8 1 rfl; have fd_1 := blk_free hx8 1; have cd_2 := blk_cell hx8 2 rfl; have fd_2 := blk_free hx8 2; have cd_3 := blk_cell hx8 3 rfl; have fd_3 := blk_free hx8 3; have cd_4 := blk_cell hx8 4 rfl; have fd_4 := blk_free hx8 4; have cd_5 := blk_cell hx8 5 rfl; have fd_5 := blk_free hx8 5; have cd_6 := blk_cell hx8 6 rfl; have fd_6 := blk_free hx8 6; have cd_7 := blk_cell hx8 7 rfl; have fd_7 := blk_free hx8 7; have cd_8 := blk_cell hx8 8 rfl; have fd_8 := blk_free hx8 8; have cd_9 := blk_cell hx8 9 rfl; have fd_9 := blk_free hx8 9; have cd_10 := blk_cell hx8 10 rfl; have fd_10 := blk_free hx8 10; have cd_11 := blk_cell hx8 11 rfl; have fd_11 := blk_free hx8 11; have cd_12 := blk_cell hx8 12 rfl; have fd_12 := blk_free hx8 12; have ld := lt_of_block hx8
  go_wp2_with (at_builtin; refine wpList_append_any _ rfl (.tmp 50) (.tmp 51) _ rfl (w.heap.size + 1) 5 i0 _ 1 1 Try.underlying28 hi0 hz0 hz1 hz2 rfl (by omega) _ 9 _ rfl W8.out _ A8 12 c8 (bv (Frm.pn [x + 1048576, y + 1048576, z + 1048576])) rfl O8.out.rd.reads (bv_one _) (by simp only [maxLen]; omega) (by omega) (by omega) ?_; intro v9 w9 hown9 hg9 hat9; obtain ⟨A9, c9, rfl⟩ := own_form hown9; have hx9 := blk_only hx8 hg9 (fun e => by have e' := (W8.out.lt w.heap.size e.symm).1; omega); have hs9 := hg9.size; (try simp only [World.size_alloc] at hs9); have HB9 := (HB8).grown hg9 (by first | omega | (simp; omega)) (fun g hg => Nat.le_of_succ_le (W8.out.lt g hg).1); have O9 := Lib.hid hown9; clear cd_0 fd_0 cd_1 fd_1 cd_2 fd_2 cd_3 fd_3 cd_4 fd_4 cd_5 fd_5 cd_6 fd_6 cd_7 fd_7 cd_8 fd_8 cd_9 fd_9 cd_10 fd_10 cd_11 fd_11 cd_12 fd_12; clear hown9 hg9 hat9; have cf_0 := blk_cell hx9 0 rfl; have ff_0 := blk_free hx9 0; have cf_1 := blk_cell hx9 1 rfl; have ff_1 := blk_free hx9 1; have cf_2 := blk_cell hx9 2 rfl; have ff_2 := blk_free hx9 2; have cf_3 := blk_cell hx9 3 rfl; have ff_3 := blk_free hx9 3; have cf_4 := blk_cell hx9 4 rfl; have ff_4 := blk_free hx9 4; have cf_5 := blk_cell hx9 5 rfl; have ff_5 := blk_free hx9 5; have cf_6 := blk_cell hx9 6 rfl; have ff_6 := blk_free hx9 6; have cf_7 := blk_cell hx9 7 rfl; have ff_7 := blk_free hx9 7; have cf_8 := blk_cell hx9 8 rfl; have ff_8 := blk_free hx9 8; have cf_9 := blk_cell hx9 9 rfl; have ff_9 := blk_free hx9 9; have cf_10 := blk_cell hx9 10 rfl; have ff_10 := blk_free hx9 10; have cf_11 := blk_cell hx9 11 rfl; have ff_11 := blk_free hx9 11; have cf_12 := blk_cell hx9 12 rfl; have ff_12 := blk_free hx9 12; have lf := lt_of_block hx9)
  subst hn10
  have OL : Ow w9 (w.heap.size + 1) A9 21 c9 L := by
    refine ⟨?_, ?_⟩
    · have h9 := O9.out
      rw [E.out]
      simpa [bv] using h9
    · rw [E.out]
      refine Frm.By.append (l := [1]) (by intro q hq; simp at hq; omega) (Frm.By.append O5.out.2 O8.out.2)
  have rd := OL.rd
  have HBZ := HB9
  clear OL O9 O8 O6 O5 W5 W8
  go_wp2_with fail
  go_loop [9, 10] (fun s9 s10 => ∃ (j : Nat) (h : Int), s10 = .int .i64 j ∧ j ≤ 21 ∧ s9 = .int .u32 h ∧ Hid (h = (L.take j).foldl Lg.fh h0)) (fun _ s10 => 21 - (intOf s10).toNat)
  case atStart => exact ⟨0, h0, by go_num, by omega, by rfl, Lib.hid rfl⟩
  case round =>
    obtain ⟨j, h, rfl, hj, rfl, HH⟩ := hrel
    by_cases hlt : j < 21
    · obtain ⟨bl, o, rfl, hbl, hcl⟩ := rd.2.2 (by omega)
      have hck := hcl j hlt
      have hby := rd.2.1.at_ j
      have FT := Lib.hid (Lg.fold_take L h0 (j := j) (by rw [← HN.out]; exact hlt))
      obtain ⟨y, hy⟩ : ∃ y, L.getD j 0 = y := ⟨_, rfl⟩
      rw [hy] at hck hby FT
      rw [← HH.out] at FT
      have wy : IntKind.u32.wrap y = y := u32_in y hby
      clear hcl hy HH
      go_wp2_with fail
      go_round
      case rel => exact ⟨j + 1, _, by go_num, by omega, rfl, Lib.hid FT.out.symm⟩
      case measure => simp [intOf]; omega
    · obtain rfl : j = 21 := by omega
      have HE := Lib.hid (show h = L.foldl Lg.fh h0 by rw [HH.out, List.take_of_length_le (by rw [HN.out]; exact Nat.le_refl _)])
      clear HH
      go_wp2_with fail
      go_ret2
      exact ⟨ret_ii HE.out rfl, HBZ⟩
theorem rlsum_3 (b : Int) (v : Lg.RV) (w : World) (hk : v.x.k = 3) (hf : Lg.fine v.x = true) (hv : Lg.Ok w w.heap.size v) :
    Calls Try.prog 13 #[.int .u32 b, v.val] w fun e w' => SumPost b (Lg.content v.x) w e w' := by
  have HV := Lib.hid hv
  have h1 := Lg.fine_ta hf
  have h2 := Lg.fine_3 hf hk
  have hlen := Lib.hid (Lg.content_len hf)
  obtain ⟨⟨t, a, k, x, y, z, s, ⟨fk, ff, ft, fs, d⟩, sum⟩, A, cap⟩ := v
  have F := Lib.hid (fun (W : World) (hW : Below w.heap.size w W) => hf ▸ rfine_any _ W ((HV.out.below hW (Nat.le_refl _)).more hW.size))
  clear hf hv
  simp only at hk h1 h2
  subst hk
  obtain ⟨⟨t0, t1⟩, a0, a1⟩ := h1
  obtain ⟨L, hL⟩ : ∃ L, L = Lg.content ⟨t, a, 3, x, y, z, s, ⟨fk, ff, ft, fs, d⟩, sum⟩ := ⟨_, rfl⟩
  simp only at hlen ⊢
  rw [← hL] at hlen ⊢
  unfold SumPost
  obtain ⟨h0, hh0⟩ : ∃ h0, h0 = Lg.h0 b := ⟨_, rfl⟩
  rw [← hh0]
  unfold Lg.h0 at hh0
  have X0 : bits .xor .u32 b 2166136261 = h0 := hh0.symm
  clear hh0
  obtain ⟨n, hn⟩ : ∃ n, n = L.length := ⟨_, rfl⟩
  rw [← hn] at hlen
  have HN := Lib.hid hn
  have hlen2 := hlen.out
  clear hn hlen
  have E := Lib.hid (show L = 3 :: (Frm.pn [t, a] ++ Frm.enc fk ff ft fs d) from hL)
  have hdl := (Frm.vd_bd h2).2.2.2.2
  have hn10 : n = d.length + 19 := by
    rw [HN.out, E.out]
    simp only [List.length_cons, List.length_append, Lg.enc_len, Frm.pn_len, List.length_nil]
    omega
  have EN := Lib.hid (fun (W : World) (hW : Below w.heap.size w W) => renc_yes fk ff ft fs A d.length cap d W h2 ((HV.out.1.below hW (Nat.le_refl _)).more hW.size))
  clear hL h2
  simp only [Lg.RV.val, Lg.RV.cells] at F ⊢
  have PY := Lib.hid (fun (q : Nat) (W : World) h => rput_yes (some ⟨q, 0, none⟩) 2 2 [t, a] W (num_rows W q t a ⟨t0, t1⟩ ⟨a0, a1⟩ h) (by omega) (ok_ta ⟨t0, t1⟩ ⟨a0, a1⟩))
  obtain ⟨i0, hi0, hz0, hz1, hz2⟩ := info_parts info_u8
  go_enter Try.func13, Try.ntmps13
  go_wp2_with fail
  refine (F.out _ (by repeat (first | (with_reducible exact Below.refl _ _) | (with_reducible refine Below.drew ?_) | (with_reducible refine below_drewN ?_ _) | ((with_reducible refine Below.alloc ?_ ?_ _); rotate_left; (first | omega | (simp <;> omega)); rotate_right) | ((with_reducible refine Below.setCell ?_ ?_ _); rotate_left; (first | omega | (simp <;> omega)); rotate_right) | (with_reducible assumption) | (refine Below.trans ?_ (Below.mono (by assumption) ?_); rotate_left; (first | omega | (simp <;> omega)); rotate_right)))).mono ?_
  rintro e w1 ⟨rfl, hb1⟩
  have hs1 := hb1.size
  have hx1 := blk_below (q := w.heap.size) (heap_new _ _) hb1 (by simp)
  have HB1 := (show Below w.heap.size w w1 from (by repeat (first | (with_reducible exact Below.refl _ _) | (with_reducible refine Below.drew ?_) | (with_reducible refine below_drewN ?_ _) | ((with_reducible refine Below.alloc ?_ ?_ _); rotate_left; (first | omega | (simp <;> omega)); rotate_right) | ((with_reducible refine Below.setCell ?_ ?_ _); rotate_left; (first | omega | (simp <;> omega)); rotate_right) | (with_reducible assumption) | (refine Below.trans ?_ (Below.mono (by assumption) ?_); rotate_left; (first | omega | (simp <;> omega)); rotate_right))))
  simp only [World.size_alloc] at hs1
  have ca_0 := blk_cell hx1 0 rfl; have fa_0 := blk_free hx1 0; have ca_1 := blk_cell hx1 1 rfl; have fa_1 := blk_free hx1 1; have ca_2 := blk_cell hx1 2 rfl; have fa_2 := blk_free hx1 2; have ca_3 := blk_cell hx1 3 rfl; have fa_3 := blk_free hx1 3; have ca_4 := blk_cell hx1 4 rfl; have fa_4 := blk_free hx1 4; have ca_5 := blk_cell hx1 5 rfl; have fa_5 := blk_free hx1 5; have ca_6 := blk_cell hx1 6 rfl; have fa_6 := blk_free hx1 6; have ca_7 := blk_cell hx1 7 rfl; have fa_7 := blk_free hx1 7; have ca_8 := blk_cell hx1 8 rfl; have fa_8 := blk_free hx1 8; have ca_9 := blk_cell hx1 9 rfl; have fa_9 := blk_free hx1 9; have ca_10 := blk_cell hx1 10 rfl; have fa_10 := blk_free hx1 10; have ca_11 := blk_cell hx1 11 rfl; have fa_11 := blk_free hx1 11; have ca_12 := blk_cell hx1 12 rfl; have fa_12 := blk_free hx1 12; have la := lt_of_block hx1
  clear hb1
  go_wp2_with fail
  refine (PY.out (w1.heap.size + 1) _ (heap_new' _ _ _ (by simp))).mono ?_
  rintro e w5 ⟨A5, c5, rfl, o5, hb5⟩
  have hs5 := hb5.size
  simp only [World.size_alloc] at hs5
  have hx5 := blk_below (q := w.heap.size) (blk_alloc (blk_alloc hx1 _) _) hb5 (by simp; omega)
  have hq5 := blk_below (q := w1.heap.size) (blk_alloc (heap_new w1 (.cells #[.int .u8 3] 5)) _) hb5 (by simp; omega)
  have HB5 := (show Below w.heap.size w w5 from (by repeat (first | (with_reducible exact Below.refl _ _) | (with_reducible refine Below.drew ?_) | (with_reducible refine below_drewN ?_ _) | ((with_reducible refine Below.alloc ?_ ?_ _); rotate_left; (first | omega | (simp <;> omega)); rotate_right) | ((with_reducible refine Below.setCell ?_ ?_ _); rotate_left; (first | omega | (simp <;> omega)); rotate_right) | (with_reducible assumption) | (refine Below.trans ?_ (Below.mono (by assumption) ?_); rotate_left; (first | omega | (simp <;> omega)); rotate_right))))
  have O5 := Lib.hid o5
  have W5 := Lib.hid (show w5.ownsRow (w.heap.size + 1) 5 1 (.slice (some ⟨w1.heap.size, 0, none⟩) 1 1) 1 (bv [3]) from ⟨rfl, .inr ⟨w1.heap.size, 1, #[.int .u8 3], rfl, by omega, hq5, Nat.le_refl _, by unfold maxLen; omega, rfl, rfl⟩⟩)
  clear ca_0 fa_0 ca_1 fa_1 ca_2 fa_2 ca_3 fa_3 ca_4 fa_4 ca_5 fa_5 ca_6 fa_6 ca_7 fa_7 ca_8 fa_8 ca_9 fa_9 ca_10 fa_10 ca_11 fa_11 ca_12 fa_12
  clear hb5 o5 hx1 hq5
  have cb_0 := blk_cell hx5 0 rfl; have fb_0 := blk_free hx5 0; have cb_1 := blk_cell hx5 1 rfl; have fb_1 := blk_free hx5 1; have cb_2 := blk_cell hx5 2 rfl; have fb_2 := blk_free hx5 2; have cb_3 := blk_cell hx5 3 rfl; have fb_3 := blk_free hx5 3; have cb_4 := blk_cell hx5 4 rfl; have fb_4 := blk_free hx5 4; have cb_5 := blk_cell hx5 5 rfl; have fb_5 := blk_free hx5 5; have cb_6 := blk_cell hx5 6 rfl; have fb_6 := blk_free hx5 6; have cb_7 := blk_cell hx5 7 rfl; have fb_7 := blk_free hx5 7; have cb_8 := blk_cell hx5 8 rfl; have fb_8 := blk_free hx5 8; have cb_9 := blk_cell hx5 9 rfl; have fb_9 := blk_free hx5 9; have cb_10 := blk_cell hx5 10 rfl; have fb_10 := blk_free hx5 10; have cb_11 := blk_cell hx5 11 rfl; have fb_11 := blk_free hx5 11; have cb_12 := blk_cell hx5 12 rfl; have fb_12 := blk_free hx5 12; have lb := lt_of_block hx5
  go_wp2_with (at_builtin; refine wpList_append_any _ rfl (.tmp 27) (.tmp 28) _ rfl (w.heap.size + 1) 5 i0 _ 1 1 Try.underlying28 hi0 hz0 hz1 hz2 rfl (by omega) _ 1 _ rfl W5.out _ A5 8 c5 (bv (Frm.pn [t, a])) rfl O5.out.rd.reads (bv_one _) (by simp only [maxLen]; omega) (by omega) (by omega) ?_; intro v6 w6 hown6 hg6 hat6; obtain ⟨A6, c6, rfl⟩ := own_form hown6; have hx6 := blk_only hx5 hg6 (fun e => by have e' := (W5.out.lt w.heap.size e.symm).1; omega); have hs6 := hg6.size; (try simp only [World.size_alloc] at hs6); have HB6 := (HB5).grown hg6 (by first | omega | (simp; omega)) (fun g hg => Nat.le_of_succ_le (W5.out.lt g hg).1); have O6 := Lib.hid hown6; clear cb_0 fb_0 cb_1 fb_1 cb_2 fb_2 cb_3 fb_3 cb_4 fb_4 cb_5 fb_5 cb_6 fb_6 cb_7 fb_7 cb_8 fb_8 cb_9 fb_9 cb_10 fb_10 cb_11 fb_11 cb_12 fb_12; clear hown6 hg6 hat6; have cc_0 := blk_cell hx6 0 rfl; have fc_0 := blk_free hx6 0; have cc_1 := blk_cell hx6 1 rfl; have fc_1 := blk_free hx6 1; have cc_2 := blk_cell hx6 2 rfl; have fc_2 := blk_free hx6 2; have cc_3 := blk_cell hx6 3 rfl; have fc_3 := blk_free hx6 3; have cc_4 := blk_cell hx6 4 rfl; have fc_4 := blk_free hx6 4; have cc_5 := blk_cell hx6 5 rfl; have fc_5 := blk_free hx6 5; have cc_6 := blk_cell hx6 6 rfl; have fc_6 := blk_free hx6 6; have cc_7 := blk_cell hx6 7 rfl; have fc_7 := blk_free hx6 7; have cc_8 := blk_cell hx6 8 rfl; have fc_8 := blk_free hx6 8; have cc_9 := blk_cell hx6 9 rfl; have fc_9 := blk_free hx6 9; have cc_10 := blk_cell hx6 10 rfl; have fc_10 := blk_free hx6 10; have cc_11 := blk_cell hx6 11 rfl; have fc_11 := blk_free hx6 11; have cc_12 := blk_cell hx6 12 rfl; have fc_12 := blk_free hx6 12; have lc := lt_of_block hx6)
  go_wp2_with fail
  refine (EN.out _ HB6).mono ?_
  rintro e w8 ⟨A8, c8, rfl, o8, hb8⟩
  have hs8 := hb8.size
  have hx8 := blk_below (q := w.heap.size) hx6 hb8 (by omega)
  have HB8 := (show Below w.heap.size w w8 from (by repeat (first | (with_reducible exact Below.refl _ _) | (with_reducible refine Below.drew ?_) | (with_reducible refine below_drewN ?_ _) | ((with_reducible refine Below.alloc ?_ ?_ _); rotate_left; (first | omega | (simp <;> omega)); rotate_right) | ((with_reducible refine Below.setCell ?_ ?_ _); rotate_left; (first | omega | (simp <;> omega)); rotate_right) | (with_reducible assumption) | (refine Below.trans ?_ (Below.mono (by assumption) ?_); rotate_left; (first | omega | (simp <;> omega)); rotate_right))))
  have O8 := Lib.hid o8
  have W8 := Lib.hid (own_below O6.out hb8)
  clear cc_0 fc_0 cc_1 fc_1 cc_2 fc_2 cc_3 fc_3 cc_4 fc_4 cc_5 fc_5 cc_6 fc_6 cc_7 fc_7 cc_8 fc_8 cc_9 fc_9 cc_10 fc_10 cc_11 fc_11 cc_12 fc_12
  clear hb8 o8 hx6
  have cd_0 := blk_cell hx8 0 rfl; have fd_0 := blk_free hx8 0; have cd_1 := blk_cell hx8 1 rfl; have fd_1 := blk_free hx8 1; have cd_2 := blk_cell hx8 2 rfl; have fd_2 := blk_free hx8 2; have cd_3 := blk_cell hx8 3 rfl; have fd_3 := blk_free hx8 3; have cd_4 := blk_cell hx8 4 rfl; have fd_4 := blk_free hx8 4; have cd_5 := blk_cell hx8 5 rfl; have fd_5 := blk_free hx8 5; have cd_6 := blk_cell hx8 6 rfl; have fd_6 := blk_free hx8 6; have cd_7 := blk_cell hx8 7 rfl; have fd_7 := blk_free hx8 7; have cd_8 := blk_cell hx8 8 rfl; have fd_8 := blk_free hx8 8; have cd_9 := blk_cell hx8 9 rfl; have fd_9 := blk_free hx8 9; have cd_10 := blk_cell hx8 10 rfl; have fd_10 := blk_free hx8 10; have cd_11 := blk_cell hx8 11 rfl; have fd_11 := blk_free hx8 11; have cd_12 := blk_cell hx8 12 rfl; have fd_12 := blk_free hx8 12; have ld := lt_of_block hx8
  go_wp2_with (at_builtin; refine wpList_append_any _ rfl (.tmp 71) (.tmp 72) _ rfl (w.heap.size + 1) 5 i0 _ 1 1 Try.underlying28 hi0 hz0 hz1 hz2 rfl (by omega) _ 9 _ rfl W8.out _ A8 (d.length + 10) c8 (bv (Frm.enc fk ff ft fs d)) rfl O8.out.rd.reads (bv_one _) (by simp only [maxLen]; omega) (by omega) (by omega) ?_; intro v9 w9 hown9 hg9 hat9; obtain ⟨A9, c9, rfl⟩ := own_form hown9; have hx9 := blk_only hx8 hg9 (fun e => by have e' := (W8.out.lt w.heap.size e.symm).1; omega); have hs9 := hg9.size; (try simp only [World.size_alloc] at hs9); have HB9 := (HB8).grown hg9 (by first | omega | (simp; omega)) (fun g hg => Nat.le_of_succ_le (W8.out.lt g hg).1); have O9 := Lib.hid hown9; clear cd_0 fd_0 cd_1 fd_1 cd_2 fd_2 cd_3 fd_3 cd_4 fd_4 cd_5 fd_5 cd_6 fd_6 cd_7 fd_7 cd_8 fd_8 cd_9 fd_9 cd_10 fd_10 cd_11 fd_11 cd_12 fd_12; clear hown9 hg9 hat9; have cf_0 := blk_cell hx9 0 rfl; have ff_0 := blk_free hx9 0; have cf_1 := blk_cell hx9 1 rfl; have ff_1 := blk_free hx9 1; have cf_2 := blk_cell hx9 2 rfl; have ff_2 := blk_free hx9 2; have cf_3 := blk_cell hx9 3 rfl; have ff_3 := blk_free hx9 3; have cf_4 := blk_cell hx9 4 rfl; have ff_4 := blk_free hx9 4; have cf_5 := blk_cell hx9 5 rfl; have ff_5 := blk_free hx9 5; have cf_6 := blk_cell hx9 6 rfl; have ff_6 := blk_free hx9 6; have cf_7 := blk_cell hx9 7 rfl; have ff_7 := blk_free hx9 7; have cf_8 := blk_cell hx9 8 rfl; have ff_8 := blk_free hx9 8; have cf_9 := blk_cell hx9 9 rfl; have ff_9 := blk_free hx9 9; have cf_10 := blk_cell hx9 10 rfl; have ff_10 := blk_free hx9 10; have cf_11 := blk_cell hx9 11 rfl; have ff_11 := blk_free hx9 11; have cf_12 := blk_cell hx9 12 rfl; have ff_12 := blk_free hx9 12; have lf := lt_of_block hx9)
  subst hn10
  have OL : Ow w9 (w.heap.size + 1) A9 (d.length + 19) c9 L := by
    refine ⟨?_, ?_⟩
    · have h9 := O9.out
      rw [E.out]
      rw [show d.length + 19 = 9 + (d.length + 10) by omega]
      simpa [bv] using h9
    · rw [E.out]
      refine Frm.By.append (l := [3]) (by intro q hq; simp at hq; omega) (Frm.By.append O5.out.2 O8.out.2)
  have rd := OL.rd
  have HBZ := HB9
  clear OL O9 O8 O6 O5 W5 W8
  go_wp2_with fail
  go_loop [9, 10] (fun s9 s10 => ∃ (j : Nat) (h : Int), s10 = .int .i64 j ∧ j ≤ d.length + 19 ∧ s9 = .int .u32 h ∧ Hid (h = (L.take j).foldl Lg.fh h0)) (fun _ s10 => d.length + 19 - (intOf s10).toNat)
  case atStart => exact ⟨0, h0, by go_num, by omega, by rfl, Lib.hid rfl⟩
  case round =>
    obtain ⟨j, h, rfl, hj, rfl, HH⟩ := hrel
    by_cases hlt : j < d.length + 19
    · obtain ⟨bl, o, rfl, hbl, hcl⟩ := rd.2.2 (by omega)
      have hck := hcl j hlt
      have hby := rd.2.1.at_ j
      have FT := Lib.hid (Lg.fold_take L h0 (j := j) (by rw [← HN.out]; exact hlt))
      obtain ⟨y, hy⟩ : ∃ y, L.getD j 0 = y := ⟨_, rfl⟩
      rw [hy] at hck hby FT
      rw [← HH.out] at FT
      have wy : IntKind.u32.wrap y = y := u32_in y hby
      clear hcl hy HH
      go_wp2_with fail
      go_round
      case rel => exact ⟨j + 1, _, by go_num, by omega, rfl, Lib.hid FT.out.symm⟩
      case measure => simp [intOf]; omega
    · have hjn : j = d.length + 19 := by omega
      subst hjn
      have HE := Lib.hid (show h = L.foldl Lg.fh h0 by rw [HH.out, List.take_of_length_le (by rw [HN.out]; exact Nat.le_refl _)])
      clear HH
      go_wp2_with fail
      go_ret2
      exact ⟨ret_ii HE.out rfl, HBZ⟩
theorem rlsum_any (b : Int) (v : Lg.RV) (w : World) (hv : Lg.Ok w w.heap.size v) :
    Calls Try.prog 13 #[.int .u32 b, v.val] w fun e w' => e = .returned (.tuple #[.int .u32 (Lg.sumO b v.x), .int .i64 (Lg.sumE v.x)]) ∧ Below w.heap.size w w' := by
  cases hf : Lg.fine v.x
  · have E1 : Lg.sumO b v.x = 0 := by unfold Lg.sumO; rw [hf]; rfl
    have E2 : Lg.sumE v.x = 2 := by unfold Lg.sumE; rw [hf]; rfl
    rw [E1, E2]
    exact rlsum_no b v w hv hf
  · have E1 : Lg.sumO b v.x = (Lg.content v.x).foldl Lg.fh (Lg.h0 b) := by unfold Lg.sumO Lg.sumN; rw [hf]; rfl
    have E2 : Lg.sumE v.x = 0 := by unfold Lg.sumE; rw [hf]; rfl
    rw [E1, E2]
    rcases Lg.fine_kind hf with h | h | h
    · exact rlsum_1 b v w h hf hv
    · exact rlsum_2 b v w h hf hv
    · exact rlsum_3 b v w h hf hv
end Go.Proofs.Ytgmejplcdecmkaa

/- The reference's link: Next, put, Send, SendFrame. -/
import Derived.Test.YtgdpoiapkaahfaaRLkA
import Derived.Test.YtgdpoiapkaahfaaLkE
import Derived.Test.YtgdpoiapkaahfaaREnc
namespace Go.Proofs.Ytgdpoiapkaahfaa
open Go.RowKit
set_option maxHeartbeats 8000000
set_option maxRecDepth 100000
set_option linter.unusedSimpArgs false
set_option linter.unusedVariables false
attribute [local go_sem ↓] Go.wp_at_zero Go.wp_at_succ
theorem rnext_yes (r : Lnk.Ru) (s : Lnk.St) (A : Option Addr) (n c : Nat) (w : World) (hn0 : 0 < n) (hn : n ≤ 1000000) (X : Nat → Prop) (h : RWay w X A n s.u) :
    Calls Try.prog 36 #[rlv r s A n c] w fun e w' => e = .returned (.tuple #[.int .i64 (Lnk.nextN s), .int .i64 0]) ∧ Below w.heap.size w w' := by
  obtain ⟨rl, hu, hr, hg, _, _⟩ := h
  have hlen := hr.1
  rw [length_rmcs] at hlen
  have hlen : rl.length = n := by omega
  obtain ⟨b, o, rfl, hb, hc⟩ := hr.2 hn0
  obtain ⟨m0, hm0⟩ : ∃ m, rl[0]? = some m := ⟨_, List.getElem?_eq_getElem (by omega)⟩
  have E := Lib.hid (show leastT m0.t s.u = Lnk.nextN s from by
    unfold Lnk.nextN
    have hh : s.u.head? = some m0.msg := by rw [← hu]; cases rl with | nil => simp at hm0 | cons a l => simp at hm0; subst hm0; rfl
    exact (least_srt s.u m0.msg (Lnk.srt s.u) hh rfl).symm)
  have c0 : w.cell? ⟨b, o, none⟩ = some (.int .i64 m0.t) := by simpa using hc _ _ (rmcs_at hm0).1
  have HC := Lib.hid (show ∀ k m, rl[k]? = some m → w.cell? ⟨b, o + k * 2, none⟩ = some (.int .i64 m.t) from fun k m hm => hc _ _ (rmcs_at hm).1)
  have HU := Lib.hid hu
  have HLN := Lib.hid hlen
  clear hr hg hlen hc hm0 hu
  obtain ⟨lo, tw, le, mo, se⟩ := r
  obtain ⟨x, now, u, sent, lost, dbl⟩ := s
  simp only [rlv, rll] at *
  have hz0 : ((n : Int) == 0) = false := by rw [beq_eq_false_iff_ne]; omega
  have hn1 : (0 : Int) < (n : Int) := by omega
  go_enter Try.func36, Try.ntmps36
  go_wp2_with fail
  go_loopw [4, 5] (fun a i wr => ∃ k : Nat, i = .int .i64 k ∧ k ≤ n ∧ a = .int .i64 (leastT m0.t (u.take k)) ∧ wr = w.alloc (.cells #[.int .i64 lo, .int .i64 tw, .int .i64 le, .int .i64 mo, .int .i64 se, .int .u64 x, .int .i64 now, .slice (some ⟨b, o, none⟩) n c, .int .i64 sent, .int .i64 lost, .int .i64 dbl] 28)) (fun _ i _ => n - (intOf i).toNat)
  case atStart => exact ⟨0, by go_num, Nat.zero_le _, rfl, rfl⟩
  case round =>
    obtain ⟨k, rfl, hk, rfl, rfl⟩ := hrel
    by_cases hlt : k < n
    · obtain ⟨m, hm⟩ : ∃ m, rl[k]? = some m := ⟨_, List.getElem?_eq_getElem (by rw [HLN.out]; exact hlt)⟩
      have cm := HC.out k m hm
      have HS := Lib.hid (show leastT m0.t (u.take (k + 1)) = min (leastT m0.t (u.take k)) m.t from by
        rw [List.take_add_one, show u[k]? = some m.msg by rw [← HU.out]; simp [hm]]
        exact leastT_snoc _ _ _)
      clear hm
      generalize leastT m0.t (u.take k) = acc at HS ⊢
      rcases Int.lt_or_le m.t acc with hc | hc
      all_goals
        go_wp2_with fail
        go_roundw
        case rel => exact ⟨k + 1, by go_num, by omega, by rw [HS.out, Int.min_def]; first | rw [if_pos (by omega)] | rw [if_neg (by omega)], trivial⟩
        case measure => simp [intOf]; omega
    · obtain rfl : k = n := by omega
      go_wp2_with fail
      go_ret2
      exact ⟨ret_ii (by rw [List.take_of_length_le (by rw [← HU.out]; simp [HLN.out])]; exact E.out) rfl, (by repeat (first | (with_reducible exact Below.refl _ _) | (with_reducible refine Below.drew ?_) | (with_reducible refine below_drewN ?_ _) | ((with_reducible refine Below.alloc ?_ ?_ _); rotate_left; (first | omega | (simp <;> omega)); rotate_right) | ((with_reducible refine Below.setCell ?_ ?_ _); rotate_left; (first | omega | (simp <;> omega)); rotate_right) | (with_reducible assumption) | (refine Below.trans ?_ (Below.mono (by assumption) ?_); rotate_left; (first | omega | (simp <;> omega)); rotate_right)))⟩
theorem rmsg_info : (Try.prog.info? 99).map (fun i => (i.zero, i.size, i.bytes)) = some (some (.agg #[.int .i64 0, .slice none 0 0]), 2, 32) := by kernel_rfl
theorem pair_one {x y : Value} (hx : x.oneCell' = true) (hy : y.oneCell' = true) : ∀ u ∈ [x, y], u.oneCell' = true := by
  intro u hu
  simp at hu
  rcases hu with rfl | rfl
  · exact hx
  · exact hy
/-- what the reference's put gives -/
def RPutPost (X : Nat → Prop) (r : Lnk.Ru) (s : Lnk.St) (n : Nat) (w : World) (e : Ending) (w' : World) : Prop :=
  ∃ A' c', e = .returned (rlv r s A' n c') ∧ RWay w' (fun i => X i ∨ w.heap.size ≤ i) A' n s.u ∧ n ≤ c' ∧ Below w.heap.size w w'
theorem rput_any0 (r : Lnk.Ru) (s : Lnk.St) (A : Option Addr) (n c : Nat) (now : Int) (D : Option Addr) (m cap : Nat) (d : List Int) (w : World) (hr : Lnk.vld r = true) (hnow : 0 ≤ now ∧ now ≤ 1073741824) (hs : s.now = now) (hn : n ≤ 1000000) (X : Nat → Prop) (hX : ∀ i, X i → i < w.heap.size) (h : RWay w X A n s.u) (hm : m ≤ 1000000) (hd : Rd w w.heap.size D m d) :
    Calls Try.prog 46 #[rlv r s A n c, .int .i64 now, .slice D m cap] w (RPutPost X r (Lnk.put r s d) (n + 1) w) := by
  obtain ⟨i0, hi0, hz0, hz1, hz2⟩ := info_parts rmsg_info
  obtain ⟨j0, hj0, hy0, hy1, hy2⟩ := info_parts info_u8
  have DR := Lib.hid (fun W : World => rdraw_any r s A n c W)
  rw [Lnk.vld_iff] at hr
  obtain ⟨⟨r1, r2⟩, ⟨r3, r4⟩, ⟨r5, r6⟩, r7, r8⟩ := hr
  obtain ⟨d1, d2⟩ := Lnk.dr_bd s.x
  have hat1 := Int.emod_nonneg (Lnk.dr s.x) (show r.most - r.least + 1 ≠ 0 by omega)
  have hat2 := Int.emod_lt_of_pos (Lnk.dr s.x) (show 0 < r.most - r.least + 1 by omega)
  have HW := Lib.hid h
  have HD := Lib.hid hd
  have HP := Lib.hid (show ∀ t, t = now + r.least + Lnk.dr s.x % (r.most - r.least + 1) → Lnk.put r s d = { s with x := Lnk.nx s.x, u := s.u ++ [(t, d)] } from fun t ht => by unfold Lnk.put; rw [hs, ht])
  clear h hd hs
  obtain ⟨dx, hdx⟩ : ∃ dx, dx = Lnk.dr s.x := ⟨_, rfl⟩
  rw [← hdx] at DR d1 d2 hat1 hat2 HP
  clear hdx
  obtain ⟨nxx, hnx⟩ : ∃ nxx, nxx = Lnk.nx s.x := ⟨_, rfl⟩
  rw [← hnx] at DR HP
  clear hnx
  obtain ⟨lo, tw, le, mo, se⟩ := r
  obtain ⟨x, nw, u, sent, lost, dbl⟩ := s
  simp only [rlv, rll] at *
  go_enter Try.func46, Try.ntmps46
  go_wp2_with fail
  refine (DR.out _).mono ?_
  rintro e w1 ⟨rfl, hb1⟩
  have hz1' := hb1.size; try simp at hz1'
  have h0 := blk_below (q := w.heap.size) (by repeat (first | (with_reducible assumption) | ((with_reducible apply blk_far); rotate_left; (first | omega | (simp <;> omega)); rotate_right) | (with_reducible apply blk_drew) | (with_reducible apply blk_drewN) | (with_reducible exact heap_new _ _) | ((with_reducible apply heap_new'); (first | rfl | (simp <;> fail))) | (with_reducible apply blk_alloc))) hb1 (by first | omega | (simp; done) | (simp; omega))
  have h1 := blk_below (q := w.heap.size + 1) (by repeat (first | (with_reducible assumption) | ((with_reducible apply blk_far); rotate_left; (first | omega | (simp <;> omega)); rotate_right) | (with_reducible apply blk_drew) | (with_reducible apply blk_drewN) | (with_reducible exact heap_new _ _) | ((with_reducible apply heap_new'); (first | rfl | (simp <;> fail))) | (with_reducible apply blk_alloc))) hb1 (by first | omega | (simp; done) | (simp; omega))
  have HB1 := (show Below w.heap.size w w1 from (by repeat (first | (with_reducible exact Below.refl _ _) | (with_reducible refine Below.drew ?_) | (with_reducible refine below_drewN ?_ _) | ((with_reducible refine Below.alloc ?_ ?_ _); rotate_left; (first | omega | (simp <;> omega)); rotate_right) | ((with_reducible refine Below.setCell ?_ ?_ _); rotate_left; (first | omega | (simp <;> omega)); rotate_right) | (with_reducible assumption) | (refine Below.trans ?_ (Below.mono (by assumption) ?_); rotate_left; (first | omega | (simp <;> omega)); rotate_right))))
  have ca_0 := blk_cell h0 0 rfl; have fa_0 := blk_free h0 0; have ca_1 := blk_cell h0 1 rfl; have fa_1 := blk_free h0 1; have ca_2 := blk_cell h0 2 rfl; have fa_2 := blk_free h0 2; have ca_3 := blk_cell h0 3 rfl; have fa_3 := blk_free h0 3; have ca_4 := blk_cell h0 4 rfl; have fa_4 := blk_free h0 4; have ca_5 := blk_cell h0 5 rfl; have fa_5 := blk_free h0 5; have ca_6 := blk_cell h0 6 rfl; have fa_6 := blk_free h0 6; have ca_7 := blk_cell h0 7 rfl; have fa_7 := blk_free h0 7; have ca_8 := blk_cell h0 8 rfl; have fa_8 := blk_free h0 8; have ca_9 := blk_cell h0 9 rfl; have fa_9 := blk_free h0 9; have ca_10 := blk_cell h0 10 rfl; have fa_10 := blk_free h0 10; have la := lt_of_block h0
  clear hb1
  go_wp2_with fail
  generalize hW : World.setCell _ _ _ = W
  have h0' : W.heap[w.heap.size]? = some (.cells #[.int .i64 lo, .int .i64 tw, .int .i64 le, .int .i64 mo, .int .i64 se, .int .u64 nxx, .int .i64 nw, .slice A n c, .int .i64 sent, .int .i64 lost, .int .i64 dbl] 28 (0, 0)) := by rw [← hW]; exact (by apply Eq.trans; (repeat (first | (with_reducible assumption) | (with_reducible apply blk_set) | ((with_reducible apply blk_far); rotate_left; (first | omega | (simp <;> omega)); rotate_right) | (with_reducible apply blk_drew) | (with_reducible apply blk_drewN) | ((with_reducible apply heap_new'); (first | rfl | (simp <;> fail))) | (with_reducible apply blk_alloc))); (first | with_reducible rfl | (simp <;> fail) | rfl))
  have h1' : W.heap[w.heap.size + 1]? = some (.cells #[.int .i64 0, .int .i64 0, .int .i64 0, .int .i64 0, .int .i64 0, .int .u64 0, .int .i64 0, .slice none 0 0, .int .i64 0, .int .i64 0, .int .i64 0] 28 (0, 0)) := by rw [← hW]; exact (by repeat (first | (with_reducible assumption) | ((with_reducible apply blk_far); rotate_left; (first | omega | (simp <;> omega)); rotate_right) | (with_reducible apply blk_drew) | (with_reducible apply blk_drewN) | (with_reducible exact heap_new _ _) | ((with_reducible apply heap_new'); (first | rfl | (simp <;> fail))) | (with_reducible apply blk_alloc)))
  have HBW : Below w.heap.size w W := by rw [← hW]; exact (by repeat (first | (with_reducible exact Below.refl _ _) | (with_reducible refine Below.drew ?_) | (with_reducible refine below_drewN ?_ _) | ((with_reducible refine Below.alloc ?_ ?_ _); rotate_left; (first | omega | (simp <;> omega)); rotate_right) | ((with_reducible refine Below.setCell ?_ ?_ _); rotate_left; (first | omega | (simp <;> omega)); rotate_right) | (with_reducible assumption) | (refine Below.trans ?_ (Below.mono (by assumption) ?_); rotate_left; (first | omega | (simp <;> omega)); rotate_right)))
  have hzW := lt_of_block h1'
  clear hW la ca_0 fa_0 ca_1 fa_1 ca_2 fa_2 ca_3 fa_3 ca_4 fa_4 ca_5 fa_5 ca_6 fa_6 ca_7 fa_7 ca_8 fa_8 ca_9 fa_9 ca_10 fa_10 h0 h1 HB1
  have cb_0 := blk_cell h0' 0 rfl; have fb_0 := blk_free h0' 0; have cb_1 := blk_cell h0' 1 rfl; have fb_1 := blk_free h0' 1; have cb_2 := blk_cell h0' 2 rfl; have fb_2 := blk_free h0' 2; have cb_3 := blk_cell h0' 3 rfl; have fb_3 := blk_free h0' 3; have cb_4 := blk_cell h0' 4 rfl; have fb_4 := blk_free h0' 4; have cb_5 := blk_cell h0' 5 rfl; have fb_5 := blk_free h0' 5; have cb_6 := blk_cell h0' 6 rfl; have fb_6 := blk_free h0' 6; have cb_7 := blk_cell h0' 7 rfl; have fb_7 := blk_free h0' 7; have cb_8 := blk_cell h0' 8 rfl; have fb_8 := blk_free h0' 8; have cb_9 := blk_cell h0' 9 rfl; have fb_9 := blk_free h0' 9; have cb_10 := blk_cell h0' 10 rfl; have fb_10 := blk_free h0' 10; have lb := lt_of_block h0'
  obtain ⟨q, hq⟩ : ∃ q, q = dx % (mo - le + 1) := ⟨_, rfl⟩
  rw [← hq] at hat1 hat2
  have HQ := Lib.hid hq
  have wa : IntKind.i64.wrap (now + le) = now + le := IntWalk.i64_in _ (by omega)
  have wb : IntKind.i64.wrap (mo - le) = mo - le := IntWalk.i64_in _ (by omega)
  have wc : IntKind.i64.wrap (mo - le + 1) = mo - le + 1 := IntWalk.i64_in _ (by omega)
  have wd : IntKind.i64.wrap (now + le + q) = now + le + q := IntWalk.i64_in _ (by omega)
  have wm : dx.tmod (mo - le + 1) = q := by rw [hq, Int.tmod_eq_emod_of_nonneg d1]
  have wm2 : IntKind.i64.wrap q = q := IntWalk.i64_in _ (by omega)
  have hne : ¬ (mo - le + 1 = 0) := by omega
  clear hq
  go_quiet (fail)
  clear wa wb wc wd wm wm2
  generalize hWq : World.drewN _ _ = Wq
  have h0' : Wq.heap[w.heap.size]? = some (.cells #[.int .i64 lo, .int .i64 tw, .int .i64 le, .int .i64 mo, .int .i64 se, .int .u64 nxx, .int .i64 nw, .slice A n c, .int .i64 sent, .int .i64 lost, .int .i64 dbl] 28 (0, 0)) := by rw [← hWq]; exact h0'
  have h1' : Wq.heap[w.heap.size + 1]? = some (.cells #[.int .i64 0, .int .i64 0, .int .i64 0, .int .i64 0, .int .i64 0, .int .u64 0, .int .i64 0, .slice none 0 0, .int .i64 0, .int .i64 0, .int .i64 0] 28 (0, 0)) := by rw [← hWq]; exact h1'
  have HBW : Below w.heap.size w Wq := by rw [← hWq]; exact below_drewN HBW _
  have hzW := lt_of_block h1'
  clear hWq cb_0 fb_0 cb_1 fb_1 cb_2 fb_2 cb_3 fb_3 cb_4 fb_4 cb_5 fb_5 cb_6 fb_6 cb_7 fb_7 cb_8 fb_8 cb_9 fb_9 cb_10 fb_10
  have cd_0 := blk_cell h0' 0 rfl; have fd_0 := blk_free h0' 0; have cd_1 := blk_cell h0' 1 rfl; have fd_1 := blk_free h0' 1; have cd_2 := blk_cell h0' 2 rfl; have fd_2 := blk_free h0' 2; have cd_3 := blk_cell h0' 3 rfl; have fd_3 := blk_free h0' 3; have cd_4 := blk_cell h0' 4 rfl; have fd_4 := blk_free h0' 4; have cd_5 := blk_cell h0' 5 rfl; have fd_5 := blk_free h0' 5; have cd_6 := blk_cell h0' 6 rfl; have fd_6 := blk_free h0' 6; have cd_7 := blk_cell h0' 7 rfl; have fd_7 := blk_free h0' 7; have cd_8 := blk_cell h0' 8 rfl; have fd_8 := blk_free h0' 8; have cd_9 := blk_cell h0' 9 rfl; have fd_9 := blk_free h0' 9; have cd_10 := blk_cell h0' 10 rfl; have fd_10 := blk_free h0' 10; have ld := lt_of_block h0'
  have HX := Lib.hid hX
  obtain ⟨rl, hu, hrd, hgood, hxa, hxm⟩ := HW.out.below HBW hX
  have HU := Lib.hid hu
  have HRD := Lib.hid hrd
  have HG := Lib.hid hgood
  have HXA := Lib.hid hxa
  have HXM := Lib.hid hxm
  have HDW := Lib.hid (HD.out.below HBW (Nat.le_refl _))
  have HB := Lib.hid HBW
  have H0 := Lib.hid h0'
  have H1 := Lib.hid h1'
  have hzW2 := HBW.size
  clear hu hrd hgood hxa hxm hX HBW h0' h1'
  go_wp2_with (first
    | (at_builtin; refine wpList_append_any _ rfl (.const (.slice none 0 0)) (.tmp 31) _ rfl Wq.heap.size 99 i0 _ 2 32 Try.underlying26 hi0 hz0 hz1 hz2 rfl (by omega) (.slice none 0 0) 0 [] rfl (World.ownsRow_nil _ _ _ _) Wq.heap.size A n c (rmcs rl) rfl HRD.out.reads (rmcs_one _) (by unfold maxLen; omega) (by omega) (Nat.le_refl _) ?_; intro v1 w2 hown1 hg1 hat1; simp only [Nat.zero_add, List.nil_append] at hown1; obtain ⟨A1, c1, rfl⟩ := own_formS hown1; have HO1 := Lib.hid hown1; have HG1 := Lib.hid hg1; have hz2' := hg1.size; have HBA := Lib.hid (show Below Wq.heap.size Wq w2 from ⟨hg1.os, hg1.tape, hg1.output, hg1.size, fun k hk => hg1.block k hk (by simp [Value.ownBlock])⟩); clear hown1 hg1 hat1)
    | (at_builtin; refine wpList_append_any _ rfl (.const (.slice none 0 0)) (.tmp 34) _ rfl w2.heap.size 5 j0 _ 1 1 Try.underlying37 hj0 hy0 hy1 hy2 rfl (by omega) (.slice none 0 0) 0 [] rfl (World.ownsRow_nil _ _ _ _) w.heap.size D m cap (bv d) rfl (HDW.out.below HBA.out (by omega)).reads (bv_one _) (by unfold maxLen; omega) (by omega) (by omega) ?_; intro v2 w3 hown2 hg2 hat2; simp only [Nat.zero_add, List.nil_append] at hown2; obtain ⟨A2, c2, rfl⟩ := own_formS hown2; have HO2 := Lib.hid hown2; have HG2 := Lib.hid hg2; have hz3' := hg2.size; have HBC := Lib.hid (show Below w2.heap.size w2 w3 from ⟨hg2.os, hg2.tape, hg2.output, hg2.size, fun k hk => hg2.block k hk (by simp [Value.ownBlock])⟩); clear hown2 hg2 hat2)
    | (at_builtin; refine wpList_append_row rfl (.tmp 32) (.tmp 37) _ rfl Wq.heap.size 99 i0 _ 2 32 Try.underlying26 hi0 hz0 hz1 hz2 rfl A1 n c1 (rmcs rl) rfl (((Row.of_own HO1.out).below HBC.out (Nat.le_refl _)).alloc _) ⟨w3.heap.size, 0, none⟩ 1 1 [.int .i64 (now + le + q), .slice A2 m c2] rfl rfl (fun j u hu => by rw [addr_add, Nat.zero_add]; exact blk_cell (heap_new _ _) j hu) (pair_one rfl rfl) (by omega) (by unfold maxLen; omega) (by omega) (by simp; omega) ?_; intro A4 c4 w4 hown4 hg4 hat4; have hz4 := hg4.size; (try simp at hz4); have HO4 := Lib.hid hown4; have HA1 := Lib.hid (fun g hg => ((Row.of_own HO1.out).lt (g := g) hg).1); have HBD := Lib.hid (show Below Wq.heap.size Wq w4 from Below.grown ((HBA.out.trans (HBC.out.mono (by omega))).alloc (by omega) _) hg4 (by simp; omega) (fun g hg => HA1.out g hg)); have k0 := blk_below H0.out HBD.out (by omega); have k1 := blk_below H1.out HBD.out (by omega); have HG4 := Lib.hid hg4; clear hown4 hg4 hat4; have K0 := Lib.hid k0; have K1 := Lib.hid k1; have ck_0 := blk_cell k0 0 rfl; have fk_0 := blk_free k0 0; have ck_1 := blk_cell k0 1 rfl; have fk_1 := blk_free k0 1; have ck_2 := blk_cell k0 2 rfl; have fk_2 := blk_free k0 2; have ck_3 := blk_cell k0 3 rfl; have fk_3 := blk_free k0 3; have ck_4 := blk_cell k0 4 rfl; have fk_4 := blk_free k0 4; have ck_5 := blk_cell k0 5 rfl; have fk_5 := blk_free k0 5; have ck_6 := blk_cell k0 6 rfl; have fk_6 := blk_free k0 6; have ck_7 := blk_cell k0 7 rfl; have fk_7 := blk_free k0 7; have ck_8 := blk_cell k0 8 rfl; have fk_8 := blk_free k0 8; have ck_9 := blk_cell k0 9 rfl; have fk_9 := blk_free k0 9; have ck_10 := blk_cell k0 10 rfl; have fk_10 := blk_free k0 10; have lk := lt_of_block k0; have cg_0 := blk_cell k1 0 rfl; have fg_0 := blk_free k1 0; have cg_1 := blk_cell k1 1 rfl; have fg_1 := blk_free k1 1; have cg_2 := blk_cell k1 2 rfl; have fg_2 := blk_free k1 2; have cg_3 := blk_cell k1 3 rfl; have fg_3 := blk_free k1 3; have cg_4 := blk_cell k1 4 rfl; have fg_4 := blk_free k1 4; have cg_5 := blk_cell k1 5 rfl; have fg_5 := blk_free k1 5; have cg_6 := blk_cell k1 6 rfl; have fg_6 := blk_free k1 6; have cg_7 := blk_cell k1 7 rfl; have fg_7 := blk_free k1 7; have cg_8 := blk_cell k1 8 rfl; have fg_8 := blk_free k1 8; have cg_9 := blk_cell k1 9 rfl; have fg_9 := blk_free k1 9; have cg_10 := blk_cell k1 10 rfl; have fg_10 := blk_free k1 10; have lg := lt_of_block k1; clear k0 k1))
  clear ck_0 fk_0 ck_1 fk_1 ck_2 fk_2 ck_3 fk_3 ck_4 fk_4 ck_5 fk_5 ck_6 fk_6 ck_7 fk_7 ck_8 fk_8 ck_9 fk_9 ck_10 fk_10 cg_0 fg_0 cg_1 fg_1 cg_2 fg_2 cg_3 fg_3 cg_4 fg_4 cg_5 fg_5 cg_6 fg_6 cg_7 fg_7 cg_8 fg_8 cg_9 fg_9 cg_10 fg_10
  have k0 := K0.out
  have k1 := K1.out
  generalize hWf : World.setCell _ _ _ = Wf
  have hf : Wf.heap[w.heap.size + 1]? = some (.cells #[.int .i64 lo, .int .i64 tw, .int .i64 le, .int .i64 mo, .int .i64 se, .int .u64 nxx, .int .i64 nw, .slice A4 (n + 1) c4, .int .i64 sent, .int .i64 lost, .int .i64 dbl] 28 (0, 0)) := by rw [← hWf]; exact (by apply Eq.trans; (repeat (first | (with_reducible assumption) | (with_reducible apply blk_set) | ((with_reducible apply blk_far); rotate_left; (first | omega | (simp <;> omega)); rotate_right) | (with_reducible apply blk_drew) | (with_reducible apply blk_drewN) | ((with_reducible apply heap_new'); (first | rfl | (simp <;> fail))) | (with_reducible apply blk_alloc))); (first | with_reducible rfl | (simp <;> fail) | rfl))
  have hKf : Keeps (fun i => i = w.heap.size ∨ i = w.heap.size + 1) w4 Wf := by
    rw [← hWf]
    repeat (first | with_reducible exact Keeps.refl _ _ | (with_reducible refine Keeps.setCell ?_ (.inl (.inr rfl)) _) | (with_reducible refine Keeps.setCell ?_ (.inl (.inl rfl)) _))
  clear hWf k0 k1
  have cm_0 := blk_cell hf 0 rfl; have fm_0 := blk_free hf 0; have cm_1 := blk_cell hf 1 rfl; have fm_1 := blk_free hf 1; have cm_2 := blk_cell hf 2 rfl; have fm_2 := blk_free hf 2; have cm_3 := blk_cell hf 3 rfl; have fm_3 := blk_free hf 3; have cm_4 := blk_cell hf 4 rfl; have fm_4 := blk_free hf 4; have cm_5 := blk_cell hf 5 rfl; have fm_5 := blk_free hf 5; have cm_6 := blk_cell hf 6 rfl; have fm_6 := blk_free hf 6; have cm_7 := blk_cell hf 7 rfl; have fm_7 := blk_free hf 7; have cm_8 := blk_cell hf 8 rfl; have fm_8 := blk_free hf 8; have cm_9 := blk_cell hf 9 rfl; have fm_9 := blk_free hf 9; have cm_10 := blk_cell hf 10 rfl; have fm_10 := blk_free hf 10; have lm := lt_of_block hf
  refine bodyPost_ret (v := .agg #[.int .i64 lo, .int .i64 tw, .int .i64 le, .int .i64 mo, .int .i64 se, .int .u64 nxx, .int .i64 nw, .slice A4 (n + 1) c4, .int .i64 sent, .int .i64 lost, .int .i64 dbl]) ?_ rfl ?_
  · simp [results, Try.results46, go_sem, cm_0, cm_1, cm_2, cm_3, cm_4, cm_5, cm_6, cm_7, cm_8, cm_9, cm_10]
  · have hput := HP.out (now + le + q) (by rw [HQ.out])
    have hzf := hKf.size
    have hrow := HO4.out.kept hKf (fun g hg => by have := (HO4.out.lt hg).1; omega)
    have hBall : Below w.heap.size Wq Wf := (HBD.out.mono (by omega)).trans (hKf.below (fun i _ hi => by omega) (by omega))
    refine ⟨A4, c4, by rw [hput]; rfl, ?_, hrow.le.1, ?_⟩
    · rw [hput]
      refine ⟨rl ++ [⟨now + le + q, A2, c2, d⟩], by simp [HU.out, RM.msg], ?_, ?_, ?_, ?_⟩
      · rw [rmcs_append, show rmcs [⟨now + le + q, A2, c2, d⟩] = [.int .i64 (now + le + q), .slice A2 m c2] by simp [rmcs, rmc, HD.out.1]]
        exact Rds.of_row hrow
      · refine RMGood.append ?_ ?_
        · exact HG.out.keepX (S := fun i => w.heap.size ≤ i) ⟨hBall.os, hBall.tape, hBall.output, hBall.size, fun i _ hi => hBall.block i (by omega)⟩ (fun y hy a ha hl => by have := HX.out _ (HXM.out y hy a ha hl); omega)
        · have how : Ow w3 w2.heap.size A2 m c2 d := ⟨HO2.out, HD.out.2.1⟩
          have hA2 : ∀ a, A2 = some a → w2.heap.size ≤ a.block ∧ a.block < w3.heap.size := by
            intro a ha
            rcases how.form with ⟨h1, _⟩ | ⟨g, h1, h2, h3, _⟩
            · rw [h1] at ha; cases ha
            · rw [h1] at ha; injection ha with ha; rw [← ha]; exact ⟨h2, h3⟩
          have hk34 : Keeps (fun g => blkOf A1 = some g) w3 w4 := ((Keeps.refl _ w3).alloc _).trans (Keeps.of_grown HG4.out (S := fun g => blkOf A1 = some g) (fun g hg => hg)) (fun _ _ h => h)
          have hrd3 : Rd w3 w3.heap.size A2 m d := how.rd
          have hrd4 : Rd w4 w3.heap.size A2 m d := hrd3.kept hk34 (Nat.le_refl _) (fun a ha e => by
            have h1 := ((Row.of_own HO1.out).lt e).2
            have h2 := (hA2 a ha).1
            omega)
          have hrd5 : Rd Wf w3.heap.size A2 m d := hrd4.kept hKf (by omega) (fun a ha e => by have := (hA2 a ha).1; omega)
          intro y hy
          rw [List.mem_singleton.1 hy]
          have hdl : d.length = m := HD.out.1
          refine ⟨by simp only [hdl]; exact hrd5.more (by omega), ?_, ?_, ?_⟩
          · simp only [hdl]
            rcases how.form with ⟨h1, h2, h3⟩ | ⟨g, h1, h2, h3, h4, h5⟩
            · omega
            · exact h4
          · rcases how.form with ⟨h1, h2, h3⟩ | ⟨g, h1, h2, h3, h4, h5⟩
            · simp only [h3]; unfold maxLen; omega
            · exact h5
          · intro h0
            simp only [hdl]
            rcases how.form with ⟨h1, h2, h3⟩ | ⟨g, h1, h2, h3, h4, h5⟩
            · exact h2
            · simp only [h1] at h0; cases h0
      · intro a ha _
        right
        have h1 : blkOf A4 = some a.block := by rw [ha]; rfl
        have h2 := (HO4.out.lt h1).1
        omega
      · intro y hy a ha hl
        rcases List.mem_append.1 hy with hy | hy
        · exact .inl (HXM.out y hy a ha hl)
        · right
          rw [List.mem_singleton.1 hy] at ha
          have how : Ow w3 w2.heap.size A2 m c2 d := ⟨HO2.out, HD.out.2.1⟩
          rcases how.form with ⟨h1, _⟩ | ⟨g, h1, h2, h3, _⟩
          · rw [h1] at ha; cases ha
          · rw [h1] at ha; injection ha with ha; rw [← ha]; show w.heap.size ≤ g; omega
    · exact HB.out.trans hBall
theorem rput_any (r : Lnk.Ru) (s : Lnk.St) (A : Option Addr) (n c : Nat) (now : Int) (D : Option Addr) (m cap : Nat) (d : List Int) (w : World) (hr : Lnk.vld r = true) (hnow : 0 ≤ now ∧ now ≤ 1073741824) (hs : s.now = now) (hn : n ≤ 1000000) (X : Nat → Prop) (h : RWay w X A n s.u) (hm : m ≤ 1000000) (hd : Rd w w.heap.size D m d) :
    Calls Try.prog 46 #[rlv r s A n c, .int .i64 now, .slice D m cap] w (RPutPost X r (Lnk.put r s d) (n + 1) w) :=
  (rput_any0 r s A n c now D m cap d w hr hnow hs hn (fun i => X i ∧ i < w.heap.size) (fun i h => h.2) h.bound hm hd).mono fun e w' ⟨A', c', h1, h2, h3, h4⟩ => ⟨A', c', h1, h2.mono (fun i hi => hi.imp (fun h => h.1) id), h3, h4⟩
end Go.Proofs.Ytgdpoiapkaahfaa

/- act: SendFrame. -/
import Derived.Test.YtgdpoiapkaahfaaLkAc
namespace Go.Proofs.Ytgdpoiapkaahfaa
open Go.RowKit
set_option maxHeartbeats 16000000
set_option maxRecDepth 100000
set_option linter.unusedSimpArgs false
set_option linter.unusedVariables false
attribute [local go_sem ↓] Go.wp_at_zero Go.wp_at_succ
theorem act_sendf (base b c : Nat) (A : Option Addr) (r : Lnk.Ru) (s : Lnk.St) (A' : Option Addr) (n c' : Nat) (a : LAct) (D E : Option Addr) (cd ce : Nat) (w : World) (h : IsLk w base b A c r s) (hr : Lnk.vld r = true) (hs : Lnk.Inv s) (hsent : s.sent < 1000000000) (hn : n = s.u.length) (hnc : n ≤ c') (hbase : base ≤ w.heap.size) (X : Nat → Prop) (hw : RWay w X A' n s.u) (hX : ∀ i, X i → ¬ Two b A i)
    (hd : a.d.length ≤ 200) (hf : a.f.d.length ≤ 100) (hk1 : a.kind = 1) (hde : Rd w w.heap.size E a.f.d.length a.f.d) :
    Calls Try.prog 14 #[.pointer (some ⟨b, 0, none⟩), rlv r s A' n c', .agg #[.int .i64 a.kind, .int .i64 a.now, .slice D a.d.length cd, .int .i64 a.f.k, .int .i64 a.f.f, .int .i64 a.f.t, .int .i64 a.f.s, .slice E a.f.d.length ce]] w (ActPost base b A X r (actS r s a) w) := by
  have HL := Lib.hid h
  have HT := Lib.hid h.two
  have HW := Lib.hid hw.bound
  have HX := Lib.hid (show ∀ i, (X i ∧ i < w.heap.size) → ¬ Two b A i from fun i hi => hX i hi.1)
  obtain ⟨s', hs'⟩ : ∃ s', s' = actS r s a := ⟨_, rfl⟩
  rw [← hs']
  have hs'' : s' = sfS r s a.now a.f.k a.f.f a.f.t a.f.s a.f.d := by rw [hs', actS, if_neg (by omega), if_pos hk1]
  have z0 : (a.kind == 0) = false := by rw [hk1]; rfl
  have z1 : (a.kind == 1) = true := by rw [hk1]; rfl
  obtain ⟨x, hx⟩ : ∃ x, x = sfE s a.now a.f.k a.f.f a.f.t a.f.s a.f.d.length := ⟨_, rfl⟩
  have R1 := Lib.hid (show ∀ W : World, RWay W (fun i => X i ∧ i < w.heap.size) A' n s.u → Rd W W.heap.size E a.f.d.length a.f.d → Calls Try.prog 34 #[rlv r s A' n c', .int .i64 a.now, .agg #[.int .i64 a.f.k, .int .i64 a.f.f, .int .i64 a.f.t, .int .i64 a.f.s, .slice E a.f.d.length ce]] W (RSendPost (fun i => X i ∧ i < w.heap.size) r s' x W) from fun W hW hD => by
    rw [hs'', hx]; exact rsendf_any r s A' n c' a.now a.f.k a.f.f a.f.t a.f.s E a.f.d.length ce a.f.d W hn hr hs hsent _ hW hnc (by omega) hD)
  have R2 := Lib.hid (show ∀ W : World, IsLk W base b A c r s → base ≤ W.heap.size → Rd W W.heap.size E a.f.d.length a.f.d → Calls Try.prog 21 #[.pointer (some ⟨b, 0, none⟩), .int .i64 a.now, .agg #[.int .i64 a.f.k, .int .i64 a.f.f, .int .i64 a.f.t, .int .i64 a.f.s, .slice E a.f.d.length ce]] W (SendPost base b A r s' x W) from fun W hW hb hD => by
    rw [hs'', hx]; exact sendf_any base b c A r s a.now a.f.k a.f.f a.f.t a.f.s E a.f.d.length ce a.f.d W hW hr hs hsent hb (by omega) hD)
  have HDE := Lib.hid hde
  clear h hw hX hs' hs'' hx hn hs hk1 hde
  simp only [rlv, rll] at *
  go_enter Try.func14, Try.ntmps14
  go_wp2_with fail
  generalize hV : World.alloc _ _ = V
  have k1 : V.heap[w.heap.size + 1]? = some (.cells #[.int .i64 a.kind, .int .i64 a.now, .slice D a.d.length cd, .int .i64 a.f.k, .int .i64 a.f.f, .int .i64 a.f.t, .int .i64 a.f.s, .slice E a.f.d.length ce] 42 (0, 0)) := by rw [← hV]; exact (by repeat (first | (with_reducible assumption) | ((with_reducible apply blk_far); rotate_left; (first | omega | (simp <;> omega)); rotate_right) | (with_reducible apply blk_drew) | (with_reducible apply blk_drewN) | (with_reducible exact heap_new _ _) | ((with_reducible apply heap_new'); (first | rfl | (simp <;> fail))) | (with_reducible apply blk_alloc)))
  have k2 : V.heap[w.heap.size + 2]? = some (.cells #[.int .i64 0, .int .i64 0, .int .i64 0, .int .i64 0, .int .i64 0, .int .u64 0, .int .i64 0, .slice none 0 0, .int .i64 0, .int .i64 0, .int .i64 0] 28 (0, 0)) := by rw [← hV]; exact (by repeat (first | (with_reducible assumption) | ((with_reducible apply blk_far); rotate_left; (first | omega | (simp <;> omega)); rotate_right) | (with_reducible apply blk_drew) | (with_reducible apply blk_drewN) | (with_reducible exact heap_new _ _) | ((with_reducible apply heap_new'); (first | rfl | (simp <;> fail))) | (with_reducible apply blk_alloc)))
  have hBV : Below w.heap.size w V := by rw [← hV]; exact (by repeat (first | (with_reducible exact Below.refl _ _) | (with_reducible refine Below.drew ?_) | (with_reducible refine below_drewN ?_ _) | ((with_reducible refine Below.alloc ?_ ?_ _); rotate_left; (first | omega | (simp <;> omega)); rotate_right) | ((with_reducible refine Below.setCell ?_ ?_ _); rotate_left; (first | omega | (simp <;> omega)); rotate_right) | (with_reducible assumption) | (refine Below.trans ?_ (Below.mono (by assumption) ?_); rotate_left; (first | omega | (simp <;> omega)); rotate_right)))
  have hzV : w.heap.size + 3 ≤ V.heap.size := by have := lt_of_block k2; omega
  have HBV := Lib.hid hBV
  have K1 := Lib.hid k1
  have K2 := Lib.hid k2
  clear hV k1 k2 hBV
  refine (R1.out _ (HW.out.below HBV.out (fun i hi => hi.2)) ((HDE.out.below HBV.out (Nat.le_refl _)).more (by omega))).mono ?_
  rintro e w1 ⟨A2, c2, rfl, hw1, hc2, hb1⟩
  have hz1 := hb1.size
  have hlt1 : w.heap.size + 1 < w1.heap.size := by omega
  have J1 := Lib.hid (blk_below K1.out hb1 (by omega))
  have J2 := Lib.hid (blk_below K2.out hb1 (by omega))
  have HW1 := Lib.hid hw1
  have HB1 := Lib.hid (HBV.out.trans (hb1.mono (by omega)))
  have HL1 := Lib.hid (HL.out.below HB1.out (Nat.le_refl _))
  clear hb1 hw1 R1
  simp only [rlv, rll] at *
  go_wp2_with fail
  generalize hV : World.alloc _ _ = V1
  have e0 : V1.heap[w1.heap.size]? = some (.cells #[.int .i64 r.loss, .int .i64 r.twice, .int .i64 r.least, .int .i64 r.most, .int .i64 r.seed, .int .u64 s'.x, .int .i64 s'.now, .slice A2 s'.u.length c2, .int .i64 s'.sent, .int .i64 s'.lost, .int .i64 s'.dbl] 28 (0, 0)) := by rw [← hV]; exact heap_new _ _
  have hB1 : Below w1.heap.size w1 V1 := by rw [← hV]; exact (Below.refl _ _).alloc (Nat.le_refl _) _
  have hzV1 : w1.heap.size + 1 ≤ V1.heap.size := by have := lt_of_block e0; omega
  have HBV1 := Lib.hid hB1
  have E0 := Lib.hid e0
  have HLV := Lib.hid (HL1.out.below hB1 (Nat.le_refl _))
  have j1 := blk_below J1.out hB1 (by omega)
  have HDV := Lib.hid (((HDE.out.below HB1.out (Nat.le_refl _)).below hB1 (by omega)).more (show w.heap.size ≤ V1.heap.size by omega))
  have NT := Lib.hid (show ∀ i, w.heap.size ≤ i → ¬ Two b A i from fun i hi ht => by have := HT.out i ht; omega)
  clear hV hB1
  have ca_0 := blk_cell e0 0 rfl; have fa_0 := blk_free e0 0; have ca_1 := blk_cell e0 1 rfl; have fa_1 := blk_free e0 1; have ca_2 := blk_cell e0 2 rfl; have fa_2 := blk_free e0 2; have ca_3 := blk_cell e0 3 rfl; have fa_3 := blk_free e0 3; have ca_4 := blk_cell e0 4 rfl; have fa_4 := blk_free e0 4; have ca_5 := blk_cell e0 5 rfl; have fa_5 := blk_free e0 5; have ca_6 := blk_cell e0 6 rfl; have fa_6 := blk_free e0 6; have ca_7 := blk_cell e0 7 rfl; have fa_7 := blk_free e0 7; have ca_8 := blk_cell e0 8 rfl; have fa_8 := blk_free e0 8; have ca_9 := blk_cell e0 9 rfl; have fa_9 := blk_free e0 9; have ca_10 := blk_cell e0 10 rfl; have fa_10 := blk_free e0 10; have la := lt_of_block e0
  have cd_0 := blk_cell j1 0 rfl; have fd_0 := blk_free j1 0; have cd_1 := blk_cell j1 1 rfl; have fd_1 := blk_free j1 1; have cd_2 := blk_cell j1 2 rfl; have fd_2 := blk_free j1 2; have cd_3 := blk_cell j1 3 rfl; have fd_3 := blk_free j1 3; have cd_4 := blk_cell j1 4 rfl; have fd_4 := blk_free j1 4; have cd_5 := blk_cell j1 5 rfl; have fd_5 := blk_free j1 5; have cd_6 := blk_cell j1 6 rfl; have fd_6 := blk_free j1 6; have cd_7 := blk_cell j1 7 rfl; have fd_7 := blk_free j1 7; have ld := lt_of_block j1
  go_region_with (first | (go_at_call 21; refine (R2.out _ (by first | exact HLV.out | exact HLV.out.drew) (by first | omega | (simp; omega)) (by first | exact HDV.out | exact HDV.out.drew)).mono ?_; rintro e w2 ⟨rfl, A1, c1, hl2, hk2, hat⟩; have hz2 := hk2.size; (try simp at hz2); have hk2 : Keeps (Two b A) V1 w2 := ⟨hk2.os, hk2.tape, hk2.output, hk2.size, hk2.block⟩; have g0 := blk_keep E0.out hk2 (NT.out _ (by omega)); have g2 := blk_keep (blk_below J2.out HBV1.out (by omega)) hk2 (NT.out _ (by omega)); have HK12 := Lib.hid (show Keeps (Two b A) w1 w2 from (Keeps.of_below HBV1.out).trans hk2 (fun _ _ h => h)); have HL2 := Lib.hid hl2; have hat2 : blkOf A1 = blkOf A ∨ ∃ g, blkOf A1 = some g ∧ V1.heap.size ≤ g := hat; have HAT := Lib.hid (show blkOf A1 = blkOf A ∨ ∃ g, blkOf A1 = some g ∧ w1.heap.size ≤ g from hat2.imp id (fun ⟨g, h, hg⟩ => ⟨g, h, by omega⟩)); clear hl2 hk2 hat hat2; have ck_0 := blk_cell g0 0 rfl; have fk_0 := blk_free g0 0; have ck_1 := blk_cell g0 1 rfl; have fk_1 := blk_free g0 1; have ck_2 := blk_cell g0 2 rfl; have fk_2 := blk_free g0 2; have ck_3 := blk_cell g0 3 rfl; have fk_3 := blk_free g0 3; have ck_4 := blk_cell g0 4 rfl; have fk_4 := blk_free g0 4; have ck_5 := blk_cell g0 5 rfl; have fk_5 := blk_free g0 5; have ck_6 := blk_cell g0 6 rfl; have fk_6 := blk_free g0 6; have ck_7 := blk_cell g0 7 rfl; have fk_7 := blk_free g0 7; have ck_8 := blk_cell g0 8 rfl; have fk_8 := blk_free g0 8; have ck_9 := blk_cell g0 9 rfl; have fk_9 := blk_free g0 9; have ck_10 := blk_cell g0 10 rfl; have fk_10 := blk_free g0 10; have lk := lt_of_block g0; have cg_0 := blk_cell g2 0 rfl; have fg_0 := blk_free g2 0; have cg_1 := blk_cell g2 1 rfl; have fg_1 := blk_free g2 1; have cg_2 := blk_cell g2 2 rfl; have fg_2 := blk_free g2 2; have cg_3 := blk_cell g2 3 rfl; have fg_3 := blk_free g2 3; have cg_4 := blk_cell g2 4 rfl; have fg_4 := blk_free g2 4; have cg_5 := blk_cell g2 5 rfl; have fg_5 := blk_free g2 5; have cg_6 := blk_cell g2 6 rfl; have fg_6 := blk_free g2 6; have cg_7 := blk_cell g2 7 rfl; have fg_7 := blk_free g2 7; have cg_8 := blk_cell g2 8 rfl; have fg_8 := blk_free g2 8; have cg_9 := blk_cell g2 9 rfl; have fg_9 := blk_free g2 9; have cg_10 := blk_cell g2 10 rfl; have fg_10 := blk_free g2 10; have lg := lt_of_block g2))
  all_goals go_wp2_with fail
  all_goals clear ca_0 fa_0 cd_0 fd_0
  all_goals
    generalize hWf : World.setCell _ _ _ = Wf
    have hf : Wf.heap[w.heap.size + 2]? = some (.cells #[.int .i64 r.loss, .int .i64 r.twice, .int .i64 r.least, .int .i64 r.most, .int .i64 r.seed, .int .u64 s'.x, .int .i64 s'.now, .slice A2 s'.u.length c2, .int .i64 s'.sent, .int .i64 s'.lost, .int .i64 s'.dbl] 28 (0, 0)) := by rw [← hWf]; exact (by apply Eq.trans; (repeat (first | (with_reducible assumption) | (with_reducible apply blk_set) | ((with_reducible apply blk_far); rotate_left; (first | omega | (simp <;> omega)); rotate_right) | (with_reducible apply blk_drew) | (with_reducible apply blk_drewN) | ((with_reducible apply heap_new'); (first | rfl | (simp <;> fail))) | (with_reducible apply blk_alloc))); (first | with_reducible rfl | (simp <;> fail) | rfl))
    have hKf : Keeps (fun i => i = w.heap.size ∨ i = w.heap.size + 2) w2 Wf := by
      rw [← hWf]
      repeat (first | with_reducible exact Keeps.refl _ _ | (with_reducible refine Keeps.setCell ?_ (.inl (.inr rfl)) _) | (with_reducible refine Keeps.setCell ?_ (.inl (.inl rfl)) _) | (with_reducible refine Keeps.drew ?_) | (with_reducible refine Keeps.drewN ?_ _))
    clear hWf g0 g2
    have cm_0 := blk_cell hf 0 rfl; have fm_0 := blk_free hf 0; have cm_1 := blk_cell hf 1 rfl; have fm_1 := blk_free hf 1; have cm_2 := blk_cell hf 2 rfl; have fm_2 := blk_free hf 2; have cm_3 := blk_cell hf 3 rfl; have fm_3 := blk_free hf 3; have cm_4 := blk_cell hf 4 rfl; have fm_4 := blk_free hf 4; have cm_5 := blk_cell hf 5 rfl; have fm_5 := blk_free hf 5; have cm_6 := blk_cell hf 6 rfl; have fm_6 := blk_free hf 6; have cm_7 := blk_cell hf 7 rfl; have fm_7 := blk_free hf 7; have cm_8 := blk_cell hf 8 rfl; have fm_8 := blk_free hf 8; have cm_9 := blk_cell hf 9 rfl; have fm_9 := blk_free hf 9; have cm_10 := blk_cell hf 10 rfl; have fm_10 := blk_free hf 10; have lm := lt_of_block hf
    refine bodyPost_ret (v := .tuple #[.agg #[.int .i64 r.loss, .int .i64 r.twice, .int .i64 r.least, .int .i64 r.most, .int .i64 r.seed, .int .u64 s'.x, .int .i64 s'.now, .slice A2 s'.u.length c2, .int .i64 s'.sent, .int .i64 s'.lost, .int .i64 s'.dbl], .bool true]) ?_ rfl ?_
    · simp [results, Try.results14, go_sem, cm_0, cm_1, cm_2, cm_3, cm_4, cm_5, cm_6, cm_7, cm_8, cm_9, cm_10]
    · have hzf := hKf.size
      have nt : ∀ i, Two b A1 i → ¬ (i = w.heap.size ∨ i = w.heap.size + 2) := fun i hi h => by
        by_cases hl : i < w1.heap.size
        · have := HT.out i (two_new (b := b) HAT.out i hl hi)
          omega
        · omega
      have hk1 : Keeps (Two b A) w w1 := Keeps.of_below HB1.out
      have hk2 : Keeps (Two b A) w w2 := hk1.trans HK12.out (fun _ _ h => h)
      have hkAll : Keeps (Two b A) w Wf := hk2.trans hKf (fun i hi h => by omega)
      have hz9 := hk1.size
      have hrw := act_rw HW1.out (fun i hi => HX.out i hi) (fun i hi => hi.2) HT.out (by omega : w.heap.size ≤ V.heap.size) hz9 HK12.out HAT.out
      have hrw2 := hrw.keep hKf (fun i hi h => by
        rcases hi.1 with h1 | h1
        · have := h1.2; omega
        · omega)
      exact ⟨A1, c1, A2, c2, rfl, hrw2.mono (fun i hi => ⟨hi.1.imp (fun h => h.1) (fun h => by omega), hi.2⟩), hc2, HL2.out.kept hKf nt, hkAll, HAT.out.imp id (fun ⟨g, h, hg⟩ => ⟨g, h, by omega⟩)⟩
end Go.Proofs.Ytgdpoiapkaahfaa

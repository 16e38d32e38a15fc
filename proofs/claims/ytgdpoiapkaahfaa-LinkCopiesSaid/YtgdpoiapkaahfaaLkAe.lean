/- act: Send. -/
import Derived.Test.YtgdpoiapkaahfaaLkAc
namespace Go.Proofs.Ytgdpoiapkaahfaa
open Go.RowKit
set_option maxHeartbeats 16000000
set_option maxRecDepth 100000
set_option linter.unusedSimpArgs false
set_option linter.unusedVariables false
attribute [local go_sem ↓] Go.wp_at_zero Go.wp_at_succ
/-- the caller's own bytes, while they are changed -/
def ORel (O : Option Addr) (m lo hi : Nat) (w2 wy : World) : Prop :=
  (0 < m → ∃ g cur, O = some ⟨g, 0, none⟩ ∧ lo ≤ g ∧ g < hi ∧ wy.heap[g]? = some (.cells cur 5 (0, 0)) ∧ ∀ i, i < m → ∃ z, cur[i]? = some (.int .u8 z) ∧ 0 ≤ z ∧ z < 256) ∧ Keeps (fun i => lo ≤ i ∧ i < hi) w2 wy
theorem ORel.set {m lo hi g j : Nat} {w2 wy : World} {z : Int} (h : ORel (some ⟨g, 0, none⟩) m lo hi w2 wy) (hj : j < m) (hz : 0 ≤ z ∧ z < 256) : ORel (some ⟨g, 0, none⟩) m lo hi w2 (wy.setCell ⟨g, j, none⟩ (.int .u8 z)) := by
  obtain ⟨g', cur, e, h1, h2, h3, h4⟩ := h.1 (by omega)
  injection e with e; injection e with e
  subst e
  refine ⟨fun _ => ⟨g, cur.setIfInBounds j (.int .u8 z), rfl, h1, h2, blk_set h3 j _, fun i hi => ?_⟩, h.2.setCell (.inl ⟨h1, h2⟩) _⟩
  rw [Array.getElem?_setIfInBounds]
  obtain ⟨y, hy, hy2⟩ := h4 i hi
  have hlt : i < cur.size := by
    rcases Nat.lt_or_ge i cur.size with h | h
    · exact h
    · rw [Array.getElem?_eq_none h] at hy; cases hy
  by_cases e : j = i
  · subst e
    rw [if_pos rfl, if_pos hlt]
    exact ⟨z, rfl, hz⟩
  · rw [if_neg e]
    exact ⟨y, hy, hy2⟩
theorem act_send (base b c : Nat) (A : Option Addr) (r : Lnk.Ru) (s : Lnk.St) (A' : Option Addr) (n c' : Nat) (a : LAct) (D E : Option Addr) (cd ce : Nat) (w : World) (h : IsLk w base b A c r s) (hr : Lnk.vld r = true) (hs : Lnk.Inv s) (hsent : s.sent < 1000000000) (hn : n = s.u.length) (hnc : n ≤ c') (hbase : base ≤ w.heap.size) (X : Nat → Prop) (hw : RWay w X A' n s.u) (hX : ∀ i, X i → ¬ Two b A i)
    (hd : a.d.length ≤ 200) (hf : a.f.d.length ≤ 100) (hk0 : a.kind = 0) (hdd : Rd w w.heap.size D a.d.length a.d) :
    Calls Try.prog 14 #[.pointer (some ⟨b, 0, none⟩), rlv r s A' n c', .agg #[.int .i64 a.kind, .int .i64 a.now, .slice D a.d.length cd, .int .i64 a.f.k, .int .i64 a.f.f, .int .i64 a.f.t, .int .i64 a.f.s, .slice E a.f.d.length ce]] w (ActPost base b A X r (actS r s a) w) := by
  have HL := Lib.hid h
  have HT := Lib.hid h.two
  have HW := Lib.hid hw.bound
  have HX := Lib.hid (show ∀ i, (X i ∧ i < w.heap.size) → ¬ Two b A i from fun i hi => hX i hi.1)
  obtain ⟨s', hs'⟩ : ∃ s', s' = actS r s a := ⟨_, rfl⟩
  rw [← hs']
  obtain ⟨j0, hjA, hyA, hyB, hyC⟩ := info_parts info_u8
  have hs'' : s' = Lnk.send r s a.now a.d := by rw [hs', actS, if_pos hk0]
  have z0 : (a.kind == 0) = true := by rw [hk0]; rfl
  obtain ⟨x, hx⟩ : ∃ x, x = Lnk.sendE s a.now a.d.length := ⟨_, rfl⟩
  have R1 := Lib.hid (show ∀ W : World, RWay W (fun i => X i ∧ i < w.heap.size) A' n s.u → Rd W W.heap.size D a.d.length a.d → Calls Try.prog 33 #[rlv r s A' n c', .int .i64 a.now, .slice D a.d.length cd] W (RSendPost (fun i => X i ∧ i < w.heap.size) r s' x W) from fun W hW hD => by
    rw [hs'', hx]; exact rsend_any r s A' n c' a.now D a.d.length cd a.d W hn hr hs hsent _ hW hnc (by omega) hD)
  have R2 := Lib.hid (show ∀ (W : World) (O : Option Addr) (co : Nat), IsLk W base b A c r s → base ≤ W.heap.size → Rd W W.heap.size O a.d.length a.d → (∀ q, O = some q → ¬ Two b A q.block) → Calls Try.prog 16 #[.pointer (some ⟨b, 0, none⟩), .int .i64 a.now, .slice O a.d.length co] W (SendPost base b A r s' x W) from fun W O co hW hb hD hO => by
    rw [hs'', hx]; exact send_any base b c A r s a.now O a.d.length co a.d W hW hr hs hsent hb (by omega) hD hO)
  have HDD := Lib.hid hdd
  have NT := Lib.hid (show ∀ i, w.heap.size ≤ i → ¬ Two b A i from fun i hi ht => by have := HT.out i ht; omega)
  clear h hw hX hs' hs'' hx hn hs hk0 hdd
  simp only [rlv, rll] at *
  go_enter Try.func14, Try.ntmps14
  go_upto_region 3 with fail
  generalize hV : World.alloc _ _ = V
  have k0 : V.heap[w.heap.size]? = some (.cells #[.int .i64 r.loss, .int .i64 r.twice, .int .i64 r.least, .int .i64 r.most, .int .i64 r.seed, .int .u64 s.x, .int .i64 s.now, .slice A' n c', .int .i64 s.sent, .int .i64 s.lost, .int .i64 s.dbl] 28 (0, 0)) := by rw [← hV]; exact (by repeat (first | (with_reducible assumption) | ((with_reducible apply blk_far); rotate_left; (first | omega | (simp <;> omega)); rotate_right) | (with_reducible apply blk_drew) | (with_reducible apply blk_drewN) | (with_reducible exact heap_new _ _) | ((with_reducible apply heap_new'); (first | rfl | (simp <;> fail))) | (with_reducible apply blk_alloc)))
  have k1 : V.heap[w.heap.size + 1]? = some (.cells #[.int .i64 a.kind, .int .i64 a.now, .slice D a.d.length cd, .int .i64 a.f.k, .int .i64 a.f.f, .int .i64 a.f.t, .int .i64 a.f.s, .slice E a.f.d.length ce] 42 (0, 0)) := by rw [← hV]; exact (by repeat (first | (with_reducible assumption) | ((with_reducible apply blk_far); rotate_left; (first | omega | (simp <;> omega)); rotate_right) | (with_reducible apply blk_drew) | (with_reducible apply blk_drewN) | (with_reducible exact heap_new _ _) | ((with_reducible apply heap_new'); (first | rfl | (simp <;> fail))) | (with_reducible apply blk_alloc)))
  have k2 : V.heap[w.heap.size + 2]? = some (.cells #[.int .i64 0, .int .i64 0, .int .i64 0, .int .i64 0, .int .i64 0, .int .u64 0, .int .i64 0, .slice none 0 0, .int .i64 0, .int .i64 0, .int .i64 0] 28 (0, 0)) := by rw [← hV]; exact (by repeat (first | (with_reducible assumption) | ((with_reducible apply blk_far); rotate_left; (first | omega | (simp <;> omega)); rotate_right) | (with_reducible apply blk_drew) | (with_reducible apply blk_drewN) | (with_reducible exact heap_new _ _) | ((with_reducible apply heap_new'); (first | rfl | (simp <;> fail))) | (with_reducible apply blk_alloc)))
  have hBV : Below w.heap.size w V := by rw [← hV]; exact (by repeat (first | (with_reducible exact Below.refl _ _) | (with_reducible refine Below.drew ?_) | (with_reducible refine below_drewN ?_ _) | ((with_reducible refine Below.alloc ?_ ?_ _); rotate_left; (first | omega | (simp <;> omega)); rotate_right) | ((with_reducible refine Below.setCell ?_ ?_ _); rotate_left; (first | omega | (simp <;> omega)); rotate_right) | (with_reducible assumption) | (refine Below.trans ?_ (Below.mono (by assumption) ?_); rotate_left; (first | omega | (simp <;> omega)); rotate_right)))
  have hzV : w.heap.size + 3 ≤ V.heap.size := by have := lt_of_block k2; omega
  have HBV := Lib.hid hBV
  have K0 := Lib.hid k0
  have K1 := Lib.hid k1
  have K2 := Lib.hid k2
  have HDV := Lib.hid ((HDD.out.below hBV (Nat.le_refl _)).more (show w.heap.size ≤ V.heap.size by omega))
  clear hV k0 k2 hBV
  have ca_0 := blk_cell k1 0 rfl; have fa_0 := blk_free k1 0; have ca_1 := blk_cell k1 1 rfl; have fa_1 := blk_free k1 1; have ca_2 := blk_cell k1 2 rfl; have fa_2 := blk_free k1 2; have ca_3 := blk_cell k1 3 rfl; have fa_3 := blk_free k1 3; have ca_4 := blk_cell k1 4 rfl; have fa_4 := blk_free k1 4; have ca_5 := blk_cell k1 5 rfl; have fa_5 := blk_free k1 5; have ca_6 := blk_cell k1 6 rfl; have fa_6 := blk_free k1 6; have ca_7 := blk_cell k1 7 rfl; have fa_7 := blk_free k1 7; have la := lt_of_block k1
  go_wp2_with (at_builtin; refine wpList_append_any _ rfl (.const (.slice none 0 0)) (.tmp 25) _ rfl V.heap.size 5 j0 _ 1 1 Try.underlying37 hjA hyA hyB hyC rfl (by omega) (.slice none 0 0) 0 [] rfl (World.ownsRow_nil _ _ _ _) V.heap.size D a.d.length cd (bv a.d) rfl HDV.out.reads (bv_one _) (by unfold maxLen; omega) (by omega) (Nat.le_refl _) ?_; intro v1 wo hown1 hg1 hat1; simp only [Nat.zero_add, List.nil_append] at hown1; obtain ⟨O, co, rfl⟩ := own_formS hown1; have hzo := hg1.size; have HO := Lib.hid (show Ow wo V.heap.size O a.d.length co a.d from ⟨hown1, HDV.out.2.1⟩); have HBO := Lib.hid (show Below V.heap.size V wo from ⟨hg1.os, hg1.tape, hg1.output, hg1.size, fun i hi => hg1.block i hi (by simp [Value.ownBlock])⟩); have d0 := blk_below K0.out HBO.out (by omega); have d1 := blk_below K1.out HBO.out (by omega); clear hown1 hg1 hat1 ca_0 fa_0 ca_1 fa_1 ca_2 fa_2 ca_3 fa_3 ca_4 fa_4 ca_5 fa_5 ca_6 fa_6 ca_7 fa_7 k1; have cx_0 := blk_cell d0 0 rfl; have fx_0 := blk_free d0 0; have cx_1 := blk_cell d0 1 rfl; have fx_1 := blk_free d0 1; have cx_2 := blk_cell d0 2 rfl; have fx_2 := blk_free d0 2; have cx_3 := blk_cell d0 3 rfl; have fx_3 := blk_free d0 3; have cx_4 := blk_cell d0 4 rfl; have fx_4 := blk_free d0 4; have cx_5 := blk_cell d0 5 rfl; have fx_5 := blk_free d0 5; have cx_6 := blk_cell d0 6 rfl; have fx_6 := blk_free d0 6; have cx_7 := blk_cell d0 7 rfl; have fx_7 := blk_free d0 7; have cx_8 := blk_cell d0 8 rfl; have fx_8 := blk_free d0 8; have cx_9 := blk_cell d0 9 rfl; have fx_9 := blk_free d0 9; have cx_10 := blk_cell d0 10 rfl; have fx_10 := blk_free d0 10; have lx := lt_of_block d0; have cy_0 := blk_cell d1 0 rfl; have fy_0 := blk_free d1 0; have cy_1 := blk_cell d1 1 rfl; have fy_1 := blk_free d1 1; have cy_2 := blk_cell d1 2 rfl; have fy_2 := blk_free d1 2; have cy_3 := blk_cell d1 3 rfl; have fy_3 := blk_free d1 3; have cy_4 := blk_cell d1 4 rfl; have fy_4 := blk_free d1 4; have cy_5 := blk_cell d1 5 rfl; have fy_5 := blk_free d1 5; have cy_6 := blk_cell d1 6 rfl; have fy_6 := blk_free d1 6; have cy_7 := blk_cell d1 7 rfl; have fy_7 := blk_free d1 7; have ly := lt_of_block d1)
  have HBO2 := Lib.hid (HBV.out.trans (HBO.out.mono (by omega)))
  refine (R1.out _ (HW.out.below HBO2.out (fun i hi => hi.2)) ((HDD.out.below HBO2.out (Nat.le_refl _)).more (by omega))).mono ?_
  rintro e w1 ⟨A2, c2, rfl, hw1, hc2, hb1⟩
  have hz1 := hb1.size
  have hlt1 : w.heap.size + 1 < w1.heap.size := by omega
  have j1 := blk_below d1 hb1 (by omega)
  have J2 := Lib.hid (blk_below (blk_below K2.out HBO.out (by omega)) hb1 (by omega))
  have HW1 := Lib.hid hw1
  have HB1 := Lib.hid (HBO2.out.trans (hb1.mono (by omega)))
  have HL1 := Lib.hid (HL.out.below HB1.out (Nat.le_refl _))
  have HOo := Lib.hid (HO.out.below hb1 (Nat.le_refl _))
  clear hb1 hw1 R1 d0 d1 cx_0 fx_0 cx_1 fx_1 cx_2 fx_2 cx_3 fx_3 cx_4 fx_4 cx_5 fx_5 cx_6 fx_6 cx_7 fx_7 cx_8 fx_8 cx_9 fx_9 cx_10 fx_10 cy_0 fy_0 cy_1 fy_1 cy_2 fy_2 cy_3 fy_3 cy_4 fy_4 cy_5 fy_5 cy_6 fy_6 cy_7 fy_7 lx ly
  have ca_0 := blk_cell j1 0 rfl; have fa_0 := blk_free j1 0; have ca_1 := blk_cell j1 1 rfl; have fa_1 := blk_free j1 1; have ca_2 := blk_cell j1 2 rfl; have fa_2 := blk_free j1 2; have ca_3 := blk_cell j1 3 rfl; have fa_3 := blk_free j1 3; have ca_4 := blk_cell j1 4 rfl; have fa_4 := blk_free j1 4; have ca_5 := blk_cell j1 5 rfl; have fa_5 := blk_free j1 5; have ca_6 := blk_cell j1 6 rfl; have fa_6 := blk_free j1 6; have ca_7 := blk_cell j1 7 rfl; have fa_7 := blk_free j1 7; have la := lt_of_block j1
  simp only [rlv, rll] at *
  go_wp2_with fail
  generalize hV : World.alloc _ _ = V1
  have e0 : V1.heap[w1.heap.size]? = some (.cells #[.int .i64 r.loss, .int .i64 r.twice, .int .i64 r.least, .int .i64 r.most, .int .i64 r.seed, .int .u64 s'.x, .int .i64 s'.now, .slice A2 s'.u.length c2, .int .i64 s'.sent, .int .i64 s'.lost, .int .i64 s'.dbl] 28 (0, 0)) := by rw [← hV]; exact heap_new _ _
  have hB1 : Below w1.heap.size w1 V1 := by rw [← hV]; exact (Below.refl _ _).alloc (Nat.le_refl _) _
  have hzV1 : w1.heap.size + 1 ≤ V1.heap.size := by have := lt_of_block e0; omega
  have HBV1 := Lib.hid hB1
  have E0 := Lib.hid e0
  have HLV := Lib.hid (HL1.out.below hB1 (Nat.le_refl _))
  have HOv := Lib.hid (HOo.out.below hB1 (Nat.le_refl _))
  have HJ2 := Lib.hid (blk_below J2.out hB1 (by omega))
  have HON := Lib.hid (show ∀ q, O = some q → V.heap.size ≤ q.block ∧ q.block < wo.heap.size from by
    intro q hq
    rcases HO.out.form with ⟨h1, _⟩ | ⟨g, h1, h2, h3, _⟩
    · rw [h1] at hq; cases hq
    · rw [h1] at hq; injection hq with hq; rw [← hq]; exact ⟨h2, h3⟩)
  clear hV hB1 e0 ca_0 fa_0 ca_1 fa_1 ca_2 fa_2 ca_3 fa_3 ca_4 fa_4 ca_5 fa_5 ca_6 fa_6 ca_7 fa_7 j1 la
  refine (R2.out _ O co HLV.out (by omega) HOv.out.rd (fun q hq => NT.out _ (by have := (HON.out q hq).1; omega))).mono ?_
  rintro e w2 ⟨rfl, A1, c1, hl2, hk2, hat⟩
  have hz2 := hk2.size
  have g0 := blk_keep E0.out hk2 (NT.out _ (by omega))
  have g2 := blk_keep HJ2.out hk2 (NT.out _ (by omega))
  have HG0 := Lib.hid g0
  have HG2 := Lib.hid g2
  have HK12 := Lib.hid (show Keeps (Two b A) w1 w2 from (Keeps.of_below HBV1.out).trans hk2 (fun _ _ h => h))
  have HL2 := Lib.hid hl2
  have HAT := Lib.hid (show blkOf A1 = blkOf A ∨ ∃ g, blkOf A1 = some g ∧ w1.heap.size ≤ g from hat.imp id (fun ⟨g, h, hg⟩ => ⟨g, h, by omega⟩))
  have HKV := Lib.hid hk2
  clear hl2 hat g0 g2 hk2
  have ho2 : ORel O a.d.length V.heap.size wo.heap.size w2 w2 := by
    refine ⟨fun hm => ?_, Keeps.refl _ _⟩
    rcases HOv.out.form with ⟨h1, h2, _⟩ | ⟨g, h1, h2, h3, _⟩
    · omega
    · have hg := HON.out _ h1
      have hov := HOv.out
      subst h1
      obtain ⟨cur, q1, q2, q3, q4⟩ := hov.block
      refine ⟨g, cur, rfl, hg.1, hg.2, blk_keep q1 HKV.out (NT.out _ (by have := hg.1; omega)), fun i hi => ?_⟩
      have hlen : a.d.length = (bv a.d).length := by simp [bv]
      have h5 : (cur.toList.take a.d.length)[i]? = (bv a.d)[i]? := by rw [q4]
      rw [List.getElem?_take, if_pos hi] at h5
      have h6 := hov.2.at_ i
      refine ⟨a.d.getD i 0, ?_, h6.1, h6.2⟩
      rw [← Array.getElem?_toList, h5]
      simp [bv, List.getElem?_eq_getElem hi, List.getD]
  have HO2 := Lib.hid ho2
  clear ho2
  go_wp2_with fail
  go_loopw [12] (fun v wy => ∃ j : Nat, v = .int .i64 j ∧ j ≤ a.d.length ∧ ORel O a.d.length V.heap.size wo.heap.size w2 wy) (fun v _ => a.d.length - (intOf v).toNat)
  case atStart => exact ⟨0, by go_num, Nat.zero_le _, HO2.out⟩
  case round =>
    obtain ⟨j, rfl, hj, hrel⟩ := hrel
    by_cases hjl : j < a.d.length
    · obtain ⟨g, cur, rfl, hg1, hg2, hg3, hg4⟩ := hrel.1 (by omega)
      obtain ⟨z, hz, hz1', hz2'⟩ := hg4 j hjl
      have cz : wr.cell? ⟨g, j, none⟩ = some (.int .u8 z) := by simp only [World.cell?, hg3]; exact hz
      have fz := blk_free hg3 j
      have HR := Lib.hid hrel
      have hjn : (j : Int) < (a.d.length : Int) := by omega
      clear hg3 hg4 hz hrel
      go_wp2_with fail
      go_roundw
      case rel => exact ⟨j + 1, by go_num, by omega, HR.out.set hjl (by first | (rw [IntKind.wrap_u8]; omega) | omega)⟩
      case measure => simp [intOf]; omega
    · obtain rfl : j = a.d.length := by omega
      have hkw := hrel.2
      have g0 := blk_keep HG0.out hkw (by omega)
      have g2 := blk_keep HG2.out hkw (by omega)
      have HKW := Lib.hid hkw
      have hzw := hkw.size
      clear hrel hkw
      have ca_0 := blk_cell g0 0 rfl; have fa_0 := blk_free g0 0; have ca_1 := blk_cell g0 1 rfl; have fa_1 := blk_free g0 1; have ca_2 := blk_cell g0 2 rfl; have fa_2 := blk_free g0 2; have ca_3 := blk_cell g0 3 rfl; have fa_3 := blk_free g0 3; have ca_4 := blk_cell g0 4 rfl; have fa_4 := blk_free g0 4; have ca_5 := blk_cell g0 5 rfl; have fa_5 := blk_free g0 5; have ca_6 := blk_cell g0 6 rfl; have fa_6 := blk_free g0 6; have ca_7 := blk_cell g0 7 rfl; have fa_7 := blk_free g0 7; have ca_8 := blk_cell g0 8 rfl; have fa_8 := blk_free g0 8; have ca_9 := blk_cell g0 9 rfl; have fa_9 := blk_free g0 9; have ca_10 := blk_cell g0 10 rfl; have fa_10 := blk_free g0 10; have la := lt_of_block g0
      have cb_0 := blk_cell g2 0 rfl; have fb_0 := blk_free g2 0; have cb_1 := blk_cell g2 1 rfl; have fb_1 := blk_free g2 1; have cb_2 := blk_cell g2 2 rfl; have fb_2 := blk_free g2 2; have cb_3 := blk_cell g2 3 rfl; have fb_3 := blk_free g2 3; have cb_4 := blk_cell g2 4 rfl; have fb_4 := blk_free g2 4; have cb_5 := blk_cell g2 5 rfl; have fb_5 := blk_free g2 5; have cb_6 := blk_cell g2 6 rfl; have fb_6 := blk_free g2 6; have cb_7 := blk_cell g2 7 rfl; have fb_7 := blk_free g2 7; have cb_8 := blk_cell g2 8 rfl; have fb_8 := blk_free g2 8; have cb_9 := blk_cell g2 9 rfl; have fb_9 := blk_free g2 9; have cb_10 := blk_cell g2 10 rfl; have fb_10 := blk_free g2 10; have lb := lt_of_block g2
      go_wp2_with fail
      generalize hWf : World.setCell _ _ _ = Wf
      have hf : Wf.heap[w.heap.size + 2]? = some (.cells #[.int .i64 r.loss, .int .i64 r.twice, .int .i64 r.least, .int .i64 r.most, .int .i64 r.seed, .int .u64 s'.x, .int .i64 s'.now, .slice A2 s'.u.length c2, .int .i64 s'.sent, .int .i64 s'.lost, .int .i64 s'.dbl] 28 (0, 0)) := by rw [← hWf]; exact (by apply Eq.trans; (repeat (first | (with_reducible assumption) | (with_reducible apply blk_set) | ((with_reducible apply blk_far); rotate_left; (first | omega | (simp <;> omega)); rotate_right) | (with_reducible apply blk_drew) | (with_reducible apply blk_drewN) | ((with_reducible apply heap_new'); (first | rfl | (simp <;> fail))) | (with_reducible apply blk_alloc))); (first | with_reducible rfl | (simp <;> fail) | rfl))
      have hKf : Keeps (fun i => i = w.heap.size ∨ i = w.heap.size + 2) wr Wf := by
        rw [← hWf]
        repeat (first | with_reducible exact Keeps.refl _ _ | (with_reducible refine Keeps.setCell ?_ (.inl (.inr rfl)) _) | (with_reducible refine Keeps.setCell ?_ (.inl (.inl rfl)) _))
      clear hWf g0 g2 ca_0 fa_0 ca_1 fa_1 ca_2 fa_2 ca_3 fa_3 ca_4 fa_4 ca_5 fa_5 ca_6 fa_6 ca_7 fa_7 ca_8 fa_8 ca_9 fa_9 ca_10 fa_10 cb_0 fb_0 cb_1 fb_1 cb_2 fb_2 cb_3 fb_3 cb_4 fb_4 cb_5 fb_5 cb_6 fb_6 cb_7 fb_7 cb_8 fb_8 cb_9 fb_9 cb_10 fb_10
      have cm_0 := blk_cell hf 0 rfl; have fm_0 := blk_free hf 0; have cm_1 := blk_cell hf 1 rfl; have fm_1 := blk_free hf 1; have cm_2 := blk_cell hf 2 rfl; have fm_2 := blk_free hf 2; have cm_3 := blk_cell hf 3 rfl; have fm_3 := blk_free hf 3; have cm_4 := blk_cell hf 4 rfl; have fm_4 := blk_free hf 4; have cm_5 := blk_cell hf 5 rfl; have fm_5 := blk_free hf 5; have cm_6 := blk_cell hf 6 rfl; have fm_6 := blk_free hf 6; have cm_7 := blk_cell hf 7 rfl; have fm_7 := blk_free hf 7; have cm_8 := blk_cell hf 8 rfl; have fm_8 := blk_free hf 8; have cm_9 := blk_cell hf 9 rfl; have fm_9 := blk_free hf 9; have cm_10 := blk_cell hf 10 rfl; have fm_10 := blk_free hf 10; have lm := lt_of_block hf
      refine bodyPost_ret (v := .tuple #[.agg #[.int .i64 r.loss, .int .i64 r.twice, .int .i64 r.least, .int .i64 r.most, .int .i64 r.seed, .int .u64 s'.x, .int .i64 s'.now, .slice A2 s'.u.length c2, .int .i64 s'.sent, .int .i64 s'.lost, .int .i64 s'.dbl], .bool true]) ?_ rfl ?_
      · simp [results, Try.results14, go_sem, cm_0, cm_1, cm_2, cm_3, cm_4, cm_5, cm_6, cm_7, cm_8, cm_9, cm_10]
      · have hzf := hKf.size
        have hzO := HBO.out.size
        have hkS : Keeps (fun i => i = w.heap.size ∨ i = w.heap.size + 2 ∨ (V.heap.size ≤ i ∧ i < wo.heap.size)) w2 Wf := (HKW.out.mono (fun i _ h => .inr (.inr h))).trans hKf (fun i _ h => by rcases h with h | h; (· exact .inl h); (· exact .inr (.inl h)))
        have nt : ∀ i, Two b A1 i → ¬ (i = w.heap.size ∨ i = w.heap.size + 2 ∨ (V.heap.size ≤ i ∧ i < wo.heap.size)) := fun i hi h => by
          by_cases hl : i < w1.heap.size
          · have := HT.out i (two_new (b := b) HAT.out i hl hi)
            omega
          · omega
        have hk1 : Keeps (Two b A) w w1 := Keeps.of_below HB1.out
        have hk2 : Keeps (Two b A) w w2 := hk1.trans HK12.out (fun _ _ h => h)
        have hkAll : Keeps (Two b A) w Wf := hk2.trans hkS (fun i hi h => by omega)
        have hz9 := hk1.size
        have hrw := act_rw HW1.out (fun i hi => HX.out i hi) (fun i hi => hi.2) HT.out (by omega : w.heap.size ≤ wo.heap.size) hz9 HK12.out HAT.out
        have hrw2 := hrw.keep hkS (fun i hi h => by
          rcases hi.1 with h1 | h1
          · have := h1.2; omega
          · omega)
        exact ⟨A1, c1, A2, c2, rfl, hrw2.mono (fun i hi => ⟨hi.1.imp (fun h => h.1) (fun h => by omega), hi.2⟩), hc2, HL2.out.kept hkS nt, hkAll, HAT.out.imp id (fun ⟨g, h, hg⟩ => ⟨g, h, by omega⟩)⟩
end Go.Proofs.Ytgdpoiapkaahfaa

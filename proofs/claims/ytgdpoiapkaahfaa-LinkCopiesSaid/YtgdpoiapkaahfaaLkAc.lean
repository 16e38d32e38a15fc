/- act. -/
import Derived.Test.YtgdpoiapkaahfaaLkSh
namespace Go.Proofs.Ytgdpoiapkaahfaa
open Go.RowKit
set_option maxHeartbeats 16000000
set_option maxRecDepth 100000
set_option linter.unusedSimpArgs false
set_option linter.unusedVariables false
attribute [local go_sem ↓] Go.wp_at_zero Go.wp_at_succ
/-- the state behind a call -/
def actS (r : Lnk.Ru) (s : Lnk.St) (a : LAct) : Lnk.St :=
  if a.kind = 0 then Lnk.send r s a.now a.d else if a.kind = 1 then sfS r s a.now a.f.k a.f.f a.f.t a.f.s a.f.d else Lnk.recv s a.now
theorem inv_sfS {r : Lnk.Ru} {s : Lnk.St} {now k f t q : Int} {d : List Int} (hr : Lnk.vld r = true) (h : Lnk.Inv s) (hd : By d) (hs : s.sent < 1000000000) : Lnk.Inv (sfS r s now k f t q d) := by
  unfold sfS
  split
  · rename_i hv
    refine Lnk.inv_send hr h ?_ hs
    have hb := Frm.body_by hv hd
    have hc := Frm.crcN_lt hb
    refine Frm.By.append (Frm.By.append (by intro x hx; simp at hx; omega) hb) (by intro x hx; simp at hx; omega)
  · exact h
theorem inv_actS {r : Lnk.Ru} {s : Lnk.St} {a : LAct} (hr : Lnk.vld r = true) (h : Lnk.Inv s) (hd : By a.d) (hf : By a.f.d) (hs : s.sent < 1000000000) : Lnk.Inv (actS r s a) := by
  unfold actS
  split
  · exact Lnk.inv_send hr h hd hs
  · split
    · exact inv_sfS hr h hf hs
    · exact Lnk.inv_recv h
theorem sent_send (r : Lnk.Ru) (s : Lnk.St) (now : Int) (b : List Int) : (Lnk.send r s now b).sent ≤ s.sent + 1 := by
  unfold Lnk.send
  split
  · split
    · simp [Lnk.send0]
    · split
      · simp [Lnk.send2, Lnk.send1, Lnk.put, Lnk.send0]
      · simp [Lnk.send1, Lnk.put, Lnk.send0]
  · omega
theorem sent_actS (r : Lnk.Ru) (s : Lnk.St) (a : LAct) : (actS r s a).sent ≤ s.sent + 1 := by
  unfold actS
  split
  · exact sent_send _ _ _ _
  · split
    · unfold sfS
      split
      · exact sent_send _ _ _ _
      · omega
    · unfold Lnk.recv
      split
      · simp only; omega
      · omega
theorem Rb.drewN {w : World} {lo B n : Nat} {A : Option Addr} {l : List (List Int)} (h : Rb w lo B A n l) (q : Nat) : Rb (w.drewN q) lo B A n l := h
theorem Rb.drew {w : World} {lo B n : Nat} {A : Option Addr} {l : List (List Int)} (h : Rb w lo B A n l) : Rb w.drew lo B A n l := h
/-- what act gives: both are s' now, and lie apart -/
def ActPost (base b : Nat) (A : Option Addr) (X : Nat → Prop) (r : Lnk.Ru) (s' : Lnk.St) (w : World) (e : Ending) (w' : World) : Prop :=
  ∃ A1 c1 A2 c2, e = .returned (.tuple #[rlv r s' A2 s'.u.length c2, .bool true]) ∧ RWay w' (fun i => (X i ∨ w.heap.size ≤ i) ∧ ¬ Two b A1 i) A2 s'.u.length s'.u ∧ s'.u.length ≤ c2 ∧ IsLk w' base b A1 c1 r s' ∧ Keeps (Two b A) w w' ∧ (blkOf A1 = blkOf A ∨ ∃ g, blkOf A1 = some g ∧ w.heap.size ≤ g)
/-- the closing: the reference's slices of w1, the link's blocks of w2 -/
theorem act_rw {b : Nat} {A A1 : Option Addr} {n H : Nat} {X : Nat → Prop} {w w1 w2 : World} {A2 : Option Addr} {u : List Lnk.Msg} (hw : RWay w1 (fun i => X i ∨ H ≤ i) A2 n u) (hX : ∀ i, X i → ¬ Two b A i) (hXw : ∀ i, X i → i < w.heap.size) (hT : ∀ i, Two b A i → i < w.heap.size) (hH : w.heap.size ≤ H) (hz : w.heap.size ≤ w1.heap.size)
    (k : Keeps (Two b A) w1 w2) (hat : blkOf A1 = blkOf A ∨ ∃ g, blkOf A1 = some g ∧ w1.heap.size ≤ g) : RWay w2 (fun i => (X i ∨ H ≤ i) ∧ ¬ Two b A1 i) A2 n u := by
  have h1 := hw.bound
  have h2 := h1.keep k (fun i hi ht => by
    rcases hi.1 with h | h
    · exact hX i h ht
    · have := hT i ht; omega)
  refine h2.mono (fun i hi => ⟨hi.1, fun ht => ?_⟩)
  have ht' := two_new (b := b) hat i hi.2 ht
  rcases hi.1 with h | h
  · exact hX i h ht'
  · have := hT i ht'; omega
theorem act_recv (base b c : Nat) (A : Option Addr) (r : Lnk.Ru) (s : Lnk.St) (A' : Option Addr) (n c' : Nat) (a : LAct) (D E : Option Addr) (cd ce : Nat) (w : World) (h : IsLk w base b A c r s) (hr : Lnk.vld r = true) (hs : Lnk.Inv s) (hn : n = s.u.length) (hnc : n ≤ c') (hbase : base ≤ w.heap.size) (X : Nat → Prop) (hw : RWay w X A' n s.u) (hX : ∀ i, X i → ¬ Two b A i)
    (hk0 : a.kind ≠ 0) (hk1 : a.kind ≠ 1) (hd : a.d.length ≤ 200) (hf : a.f.d.length ≤ 100) :
    Calls Try.prog 14 #[.pointer (some ⟨b, 0, none⟩), rlv r s A' n c', .agg #[.int .i64 a.kind, .int .i64 a.now, .slice D a.d.length cd, .int .i64 a.f.k, .int .i64 a.f.f, .int .i64 a.f.t, .int .i64 a.f.s, .slice E a.f.d.length ce]] w (ActPost base b A X r (actS r s a) w) := by
  have HL := Lib.hid h
  have HT := Lib.hid h.two
  have HW := Lib.hid hw.bound
  have HX := Lib.hid (show ∀ i, (X i ∧ i < w.heap.size) → ¬ Two b A i from fun i hi => hX i hi.1)
  obtain ⟨s', hs'⟩ : ∃ s', s' = actS r s a := ⟨_, rfl⟩
  rw [← hs']
  have hs'' : s' = Lnk.recv s a.now := by rw [hs', actS, if_neg hk0, if_neg hk1]
  have z0 : (a.kind == 0) = false := by rw [beq_eq_false_iff_ne]; exact hk0
  have z1 : (a.kind == 1) = false := by rw [beq_eq_false_iff_ne]; exact hk1
  by_cases he : Lnk.recvE s a.now = 0
  · have R1 := Lib.hid (show ∀ W : World, RWay W (fun i => X i ∧ i < w.heap.size) A' n s.u → Calls Try.prog 35 #[rlv r s A' n c', .int .i64 a.now] W (fun e w' => ∃ A2 c2 oA m oc, e = .returned (.tuple #[rlv r s' A2 s'.u.length c2, .slice oA m oc, .int .i64 0]) ∧ RWay w' (fun i => (X i ∧ i < w.heap.size) ∨ W.heap.size ≤ i) A2 s'.u.length s'.u ∧ s'.u.length ≤ c2 ∧
      Rb w' W.heap.size w'.heap.size oA m ((Lnk.got s a.now).map (·.2)) ∧ Below W.heap.size W w') from fun W hW => by rw [hs'']; exact rrecv_yes r s A' n c' a.now W hn hs _ hW hnc he)
    have R2 := Lib.hid (show ∀ W : World, IsLk W base b A c r s → base ≤ W.heap.size → Calls Try.prog 18 #[.pointer (some ⟨b, 0, none⟩), .int .i64 a.now] W (fun e w' => ∃ oA m oc, e = .returned (.tuple #[.slice oA m oc, .int .i64 0]) ∧ Rb w' W.heap.size w'.heap.size oA m ((Lnk.got s a.now).map (·.2)) ∧ LkTo base b A r s' W w') from fun W hW hb => by
      rw [hs'']; exact recv_yes base b c A r s a.now W hW hs hb he)
    obtain ⟨l, hl⟩ : ∃ l, l = (Lnk.got s a.now).map (·.2) := ⟨_, rfl⟩
    rw [← hl] at R1 R2
    have hlb : l.length ≤ 1000 := by
      rw [hl, List.length_map]
      unfold Lnk.got
      rw [if_pos he, Lnk.length_srt]
      exact Nat.le_trans (List.length_filter_le _ _) hs.2.2.1
    clear h hw hX hs' hs'' hl hn hs hk0 hk1 he
    simp only [rlv, rll] at *
    go_enter Try.func14, Try.ntmps14
    go_wp2_with fail
    generalize hV : World.alloc _ _ = V
    have k1 : V.heap[w.heap.size + 1]? = some (.cells #[.int .i64 a.kind, .int .i64 a.now, .slice D a.d.length cd, .int .i64 a.f.k, .int .i64 a.f.f, .int .i64 a.f.t, .int .i64 a.f.s, .slice E a.f.d.length ce] 42 (0, 0)) := by rw [← hV]; exact (by repeat (first | (with_reducible assumption) | ((with_reducible apply blk_far); rotate_left; (first | omega | (simp <;> omega)); rotate_right) | (with_reducible apply blk_drew) | (with_reducible apply blk_drewN) | (with_reducible exact heap_new _ _) | ((with_reducible apply heap_new'); (first | rfl | (simp <;> fail))) | (with_reducible apply blk_alloc)))
    have k2 : V.heap[w.heap.size + 2]? = some (.cells #[.int .i64 0, .int .i64 0, .int .i64 0, .int .i64 0, .int .i64 0, .int .u64 0, .int .i64 0, .slice none 0 0, .int .i64 0, .int .i64 0, .int .i64 0] 28 (0, 0)) := by rw [← hV]; exact (by repeat (first | (with_reducible assumption) | ((with_reducible apply blk_far); rotate_left; (first | omega | (simp <;> omega)); rotate_right) | (with_reducible apply blk_drew) | (with_reducible apply blk_drewN) | (with_reducible exact heap_new _ _) | ((with_reducible apply heap_new'); (first | rfl | (simp <;> fail))) | (with_reducible apply blk_alloc)))
    have hBV : Below w.heap.size w V := by rw [← hV]; exact (by repeat (first | (with_reducible exact Below.refl _ _) | (with_reducible refine Below.drew ?_) | (with_reducible refine below_drewN ?_ _) | ((with_reducible refine Below.alloc ?_ ?_ _); rotate_left; (first | omega | (simp <;> omega)); rotate_right) | ((with_reducible refine Below.setCell ?_ ?_ _); rotate_left; (first | omega | (simp <;> omega)); rotate_right) | (with_reducible assumption) | (refine Below.trans ?_ (Below.mono (by assumption) ?_); rotate_left; (first | omega | (simp <;> omega)); rotate_right)))
    have hzV : w.heap.size + 3 ≤ V.heap.size := by have := lt_of_block k2; omega
    have HBV := Lib.hid hBV
    have K1 := Lib.hid k1
    have K2 := Lib.hid k2
    clear hV k1 k2 hBV
    refine (R1.out _ (HW.out.below HBV.out (fun i hi => hi.2))).mono ?_
    rintro e w1 ⟨A2, c2, oA, m, oc, rfl, hw1, hc2, hrb, hb1⟩
    have hz1 := hb1.size
    have hlt1 : w.heap.size + 1 < w1.heap.size := by omega
    have j1 := blk_below K1.out hb1 (by omega)
    have J2 := Lib.hid (blk_below K2.out hb1 (by omega))
    have HW1 := Lib.hid hw1
    have HRB := Lib.hid hrb
    have HB1 := Lib.hid (HBV.out.trans (hb1.mono (by omega)))
    have HL1 := Lib.hid (HL.out.below HB1.out (Nat.le_refl _))
    have a1 := blk_cell (l := [.int .i64 a.kind, .int .i64 a.now, .slice D a.d.length cd, .int .i64 a.f.k, .int .i64 a.f.f, .int .i64 a.f.t, .int .i64 a.f.s, .slice E a.f.d.length ce]) j1 1 rfl
    have J1 := Lib.hid j1
    clear hb1 hw1 hrb j1 R1
    simp only [rlv, rll] at *
    go_wp2_with fail
    generalize hV : World.alloc _ _ = V1
    have e0 : V1.heap[w1.heap.size]? = some (.cells #[.int .i64 r.loss, .int .i64 r.twice, .int .i64 r.least, .int .i64 r.most, .int .i64 r.seed, .int .u64 s'.x, .int .i64 s'.now, .slice A2 s'.u.length c2, .int .i64 s'.sent, .int .i64 s'.lost, .int .i64 s'.dbl] 28 (0, 0)) := by rw [← hV]; exact heap_new _ _
    have hB1 : Below w1.heap.size w1 V1 := by rw [← hV]; exact (Below.refl _ _).alloc (Nat.le_refl _) _
    have hzV1 : w1.heap.size + 1 ≤ V1.heap.size := by have := lt_of_block e0; omega
    have HBV1 := Lib.hid hB1
    have E0 := Lib.hid e0
    have HLV := Lib.hid (HL1.out.below hB1 (Nat.le_refl _))
    clear hV e0 hB1 a1
    refine (R2.out _ HLV.out (by omega)).mono ?_
    rintro e w2 ⟨oA2, m2, oc2, rfl, hrb2, A1, c1, hl2, hk2, hat⟩
    have hz2 := hk2.size
    have nt : ∀ i, w.heap.size ≤ i → ¬ Two b A i := fun i hi ht => by have := HT.out i ht; omega
    have g0 := blk_keep E0.out hk2 (nt _ (by omega))
    have G2 := Lib.hid (blk_keep (blk_below J2.out HBV1.out (by omega)) hk2 (nt _ (by omega)))
    have HRB2 := Lib.hid (show Rb w2 V.heap.size w1.heap.size oA m l from by
      have k12 : Keeps (Two b A) w1 w2 := (Keeps.of_below HBV1.out).trans hk2 (fun _ _ h => h)
      exact HRB.out.keep k12 (Nat.le_refl _) (fun i hi => nt i (by omega)))
    have HRB3 := Lib.hid hrb2
    have HK12 := Lib.hid (show Keeps (Two b A) w1 w2 from (Keeps.of_below HBV1.out).trans hk2 (fun _ _ h => h))
    have HL2 := Lib.hid hl2
    have HAT := Lib.hid (show blkOf A1 = blkOf A ∨ ∃ g, blkOf A1 = some g ∧ w1.heap.size ≤ g from hat.imp id (fun ⟨g, h, hg⟩ => ⟨g, h, by omega⟩))
    have hml : m = l.length := HRB.out.len.symm
    have hml2 : m2 = l.length := hrb2.len.symm
    obtain rfl : m2 = m := by omega
    have hmb : m2 ≤ 1000000000 := by omega
    have hG2 := G2.out
    have SM := Lib.hid (fun (W : World) (h1 : Rb W V.heap.size w1.heap.size oA m2 l) (h2 : Rb W V1.heap.size w2.heap.size oA2 m2 l) => (by rw [decide_eq_true rfl] : (decide (l = l)) = true) ▸ samer_any oA oA2 m2 m2 oc oc2 V.heap.size w1.heap.size V1.heap.size w2.heap.size l l W hmb hmb h1 h2)
    clear hrb2 hl2 hk2 hat hml hml2 nt
    have ca_0 := blk_cell g0 0 rfl; have fa_0 := blk_free g0 0; have ca_1 := blk_cell g0 1 rfl; have fa_1 := blk_free g0 1; have ca_2 := blk_cell g0 2 rfl; have fa_2 := blk_free g0 2; have ca_3 := blk_cell g0 3 rfl; have fa_3 := blk_free g0 3; have ca_4 := blk_cell g0 4 rfl; have fa_4 := blk_free g0 4; have ca_5 := blk_cell g0 5 rfl; have fa_5 := blk_free g0 5; have ca_6 := blk_cell g0 6 rfl; have fa_6 := blk_free g0 6; have ca_7 := blk_cell g0 7 rfl; have fa_7 := blk_free g0 7; have ca_8 := blk_cell g0 8 rfl; have fa_8 := blk_free g0 8; have ca_9 := blk_cell g0 9 rfl; have fa_9 := blk_free g0 9; have ca_10 := blk_cell g0 10 rfl; have fa_10 := blk_free g0 10; have la := lt_of_block g0
    have cb_0 := blk_cell hG2 0 rfl; have fb_0 := blk_free hG2 0; have cb_1 := blk_cell hG2 1 rfl; have fb_1 := blk_free hG2 1; have cb_2 := blk_cell hG2 2 rfl; have fb_2 := blk_free hG2 2; have cb_3 := blk_cell hG2 3 rfl; have fb_3 := blk_free hG2 3; have cb_4 := blk_cell hG2 4 rfl; have fb_4 := blk_free hG2 4; have cb_5 := blk_cell hG2 5 rfl; have fb_5 := blk_free hG2 5; have cb_6 := blk_cell hG2 6 rfl; have fb_6 := blk_free hG2 6; have cb_7 := blk_cell hG2 7 rfl; have fb_7 := blk_free hG2 7; have cb_8 := blk_cell hG2 8 rfl; have fb_8 := blk_free hG2 8; have cb_9 := blk_cell hG2 9 rfl; have fb_9 := blk_free hG2 9; have cb_10 := blk_cell hG2 10 rfl; have fb_10 := blk_free hG2 10; have lb := lt_of_block hG2
    go_wp2_with fail
    go_region_with (first | (go_at_call 27; refine (SM.out _ (by first | exact HRB2.out | exact HRB2.out.drew) (by first | exact HRB3.out | exact HRB3.out.drew)).mono ?_; rintro e w' ⟨rfl, q, rfl⟩))
    all_goals go_wp2_with fail
    all_goals
      generalize hWf : World.setCell _ _ _ = Wf
      have hf : Wf.heap[w.heap.size + 2]? = some (.cells #[.int .i64 r.loss, .int .i64 r.twice, .int .i64 r.least, .int .i64 r.most, .int .i64 r.seed, .int .u64 s'.x, .int .i64 s'.now, .slice A2 s'.u.length c2, .int .i64 s'.sent, .int .i64 s'.lost, .int .i64 s'.dbl] 28 (0, 0)) := by rw [← hWf]; exact (by apply Eq.trans; (repeat (first | (with_reducible assumption) | (with_reducible apply blk_set) | ((with_reducible apply blk_far); rotate_left; (first | omega | (simp <;> omega)); rotate_right) | (with_reducible apply blk_drew) | (with_reducible apply blk_drewN) | ((with_reducible apply heap_new'); (first | rfl | (simp <;> fail))) | (with_reducible apply blk_alloc))); (first | with_reducible rfl | (simp <;> fail) | rfl))
      have hKf : Keeps (fun i => i = w.heap.size ∨ i = w.heap.size + 2) w2 Wf := by
        rw [← hWf]
        repeat (first | with_reducible exact Keeps.refl _ _ | (with_reducible refine Keeps.setCell ?_ (.inl (.inr rfl)) _) | (with_reducible refine Keeps.setCell ?_ (.inl (.inl rfl)) _) | (with_reducible refine Keeps.drew ?_) | (with_reducible refine Keeps.drewN ?_ _))
      clear hWf g0 hG2 ca_0 fa_0 ca_1 fa_1 ca_2 fa_2 ca_3 fa_3 ca_4 fa_4 ca_5 fa_5 ca_6 fa_6 ca_7 fa_7 ca_8 fa_8 ca_9 fa_9 ca_10 fa_10 cb_0 fb_0 cb_1 fb_1 cb_2 fb_2 cb_3 fb_3 cb_4 fb_4 cb_5 fb_5 cb_6 fb_6 cb_7 fb_7 cb_8 fb_8 cb_9 fb_9 cb_10 fb_10
      have cm_0 := blk_cell hf 0 rfl; have fm_0 := blk_free hf 0; have cm_1 := blk_cell hf 1 rfl; have fm_1 := blk_free hf 1; have cm_2 := blk_cell hf 2 rfl; have fm_2 := blk_free hf 2; have cm_3 := blk_cell hf 3 rfl; have fm_3 := blk_free hf 3; have cm_4 := blk_cell hf 4 rfl; have fm_4 := blk_free hf 4; have cm_5 := blk_cell hf 5 rfl; have fm_5 := blk_free hf 5; have cm_6 := blk_cell hf 6 rfl; have fm_6 := blk_free hf 6; have cm_7 := blk_cell hf 7 rfl; have fm_7 := blk_free hf 7; have cm_8 := blk_cell hf 8 rfl; have fm_8 := blk_free hf 8; have cm_9 := blk_cell hf 9 rfl; have fm_9 := blk_free hf 9; have cm_10 := blk_cell hf 10 rfl; have fm_10 := blk_free hf 10; have lm := lt_of_block hf
      refine bodyPost_ret (v := .tuple #[.agg #[.int .i64 r.loss, .int .i64 r.twice, .int .i64 r.least, .int .i64 r.most, .int .i64 r.seed, .int .u64 s'.x, .int .i64 s'.now, .slice A2 s'.u.length c2, .int .i64 s'.sent, .int .i64 s'.lost, .int .i64 s'.dbl], .bool true]) ?_ rfl ?_
      · simp [results, Try.results14, go_sem, cm_0, cm_1, cm_2, cm_3, cm_4, cm_5, cm_6, cm_7, cm_8, cm_9, cm_10]
      · have hzf := hKf.size
        have nt : ∀ i, Two b A1 i → ¬ (i = w.heap.size ∨ i = w.heap.size + 2) := fun i hi h => by
          by_cases hl : i < w1.heap.size
          · have := HT.out i (two_new (b := b) HAT.out i hl hi)
            omega
          · omega
        have hk1 : Keeps (Two b A) w w1 := Keeps.of_below HB1.out
        have hk2 : Keeps (Two b A) w w2 := hk1.trans HK12.out (fun _ _ h => h)
        have hkAll : Keeps (Two b A) w Wf := hk2.trans hKf (fun i hi h => by omega)
        have hz9 := hk1.size
        have hrw := act_rw HW1.out (fun i hi => HX.out i hi) (fun i hi => hi.2) HT.out (by omega : w.heap.size ≤ V.heap.size) hz9 HK12.out HAT.out
        have hrw2 := hrw.keep hKf (fun i hi h => by
          rcases hi.1 with h1 | h1
          · have := h1.2; omega
          · omega)
        exact ⟨A1, c1, A2, c2, rfl, hrw2.mono (fun i hi => ⟨hi.1.imp (fun h => h.1) (fun h => by omega), hi.2⟩), hc2, HL2.out.kept hKf nt, hkAll, HAT.out.imp id (fun ⟨g, h, hg⟩ => ⟨g, h, by omega⟩)⟩
  · have hsx : s' = s := by rw [hs'']; unfold Lnk.recv; rw [if_neg he]
    have R1 := Lib.hid (fun W : World => rrecv_no r s A' n c' a.now W he)
    have R2 := Lib.hid (fun (W : World) (hW : IsLk W base b A c r s) => recv_no base b c A r s a.now W hW he)
    have HSX := Lib.hid hsx
    have hnn : n ≤ 1000 := by have := hs.2.2.1; omega
    clear h hw hX hs' hs'' hs hk0 hk1 he hsx
    subst hn
    simp only [rlv, rll] at *
    go_enter Try.func14, Try.ntmps14
    go_wp2_with fail
    generalize hV : World.alloc _ _ = V
    have k1 : V.heap[w.heap.size + 1]? = some (.cells #[.int .i64 a.kind, .int .i64 a.now, .slice D a.d.length cd, .int .i64 a.f.k, .int .i64 a.f.f, .int .i64 a.f.t, .int .i64 a.f.s, .slice E a.f.d.length ce] 42 (0, 0)) := by rw [← hV]; exact (by repeat (first | (with_reducible assumption) | ((with_reducible apply blk_far); rotate_left; (first | omega | (simp <;> omega)); rotate_right) | (with_reducible apply blk_drew) | (with_reducible apply blk_drewN) | (with_reducible exact heap_new _ _) | ((with_reducible apply heap_new'); (first | rfl | (simp <;> fail))) | (with_reducible apply blk_alloc)))
    have k2 : V.heap[w.heap.size + 2]? = some (.cells #[.int .i64 0, .int .i64 0, .int .i64 0, .int .i64 0, .int .i64 0, .int .u64 0, .int .i64 0, .slice none 0 0, .int .i64 0, .int .i64 0, .int .i64 0] 28 (0, 0)) := by rw [← hV]; exact (by repeat (first | (with_reducible assumption) | ((with_reducible apply blk_far); rotate_left; (first | omega | (simp <;> omega)); rotate_right) | (with_reducible apply blk_drew) | (with_reducible apply blk_drewN) | (with_reducible exact heap_new _ _) | ((with_reducible apply heap_new'); (first | rfl | (simp <;> fail))) | (with_reducible apply blk_alloc)))
    have hBV : Below w.heap.size w V := by rw [← hV]; exact (by repeat (first | (with_reducible exact Below.refl _ _) | (with_reducible refine Below.drew ?_) | (with_reducible refine below_drewN ?_ _) | ((with_reducible refine Below.alloc ?_ ?_ _); rotate_left; (first | omega | (simp <;> omega)); rotate_right) | ((with_reducible refine Below.setCell ?_ ?_ _); rotate_left; (first | omega | (simp <;> omega)); rotate_right) | (with_reducible assumption) | (refine Below.trans ?_ (Below.mono (by assumption) ?_); rotate_left; (first | omega | (simp <;> omega)); rotate_right)))
    have hzV : w.heap.size + 3 ≤ V.heap.size := by have := lt_of_block k2; omega
    have HBV := Lib.hid hBV
    have K1 := Lib.hid k1
    have K2 := Lib.hid k2
    clear hV k1 k2 hBV
    refine (R1.out _).mono ?_
    rintro e w1 ⟨rfl, hb1⟩
    have hz1 := hb1.size
    have hlt1 : w.heap.size + 1 < w1.heap.size := by omega
    have j1 := blk_below K1.out hb1 (by omega)
    have J2 := Lib.hid (blk_below K2.out hb1 (by omega))
    have HB1 := Lib.hid (HBV.out.trans (hb1.mono (by omega)))
    have HL1 := Lib.hid (HL.out.below HB1.out (Nat.le_refl _))
    have a1 := blk_cell (l := [.int .i64 a.kind, .int .i64 a.now, .slice D a.d.length cd, .int .i64 a.f.k, .int .i64 a.f.f, .int .i64 a.f.t, .int .i64 a.f.s, .slice E a.f.d.length ce]) j1 1 rfl
    clear hb1 j1 R1
    go_wp2_with fail
    generalize hV : World.alloc _ _ = V1
    have e0 : V1.heap[w1.heap.size]? = some (.cells #[.int .i64 r.loss, .int .i64 r.twice, .int .i64 r.least, .int .i64 r.most, .int .i64 r.seed, .int .u64 s.x, .int .i64 s.now, .slice A' s.u.length c', .int .i64 s.sent, .int .i64 s.lost, .int .i64 s.dbl] 28 (0, 0)) := by rw [← hV]; exact heap_new _ _
    have hB1 : Below w1.heap.size w1 V1 := by rw [← hV]; exact (Below.refl _ _).alloc (Nat.le_refl _) _
    have hzV1 : w1.heap.size + 1 ≤ V1.heap.size := by have := lt_of_block e0; omega
    have HBV1 := Lib.hid hB1
    have HLV := Lib.hid (HL1.out.below hB1 (Nat.le_refl _))
    have g2 := blk_below J2.out hB1 (by omega)
    clear hV hB1 a1
    refine (R2.out _ HLV.out).mono ?_
    rintro e w' ⟨rfl, rfl⟩
    have SM := Lib.hid (fun (W : World) => samer_any none none 0 0 0 0 0 0 0 0 [] [] W (by omega) (by omega) (Rb.nil _ _ _ _) (Rb.nil _ _ _ _))
    have ca_0 := blk_cell e0 0 rfl; have fa_0 := blk_free e0 0; have ca_1 := blk_cell e0 1 rfl; have fa_1 := blk_free e0 1; have ca_2 := blk_cell e0 2 rfl; have fa_2 := blk_free e0 2; have ca_3 := blk_cell e0 3 rfl; have fa_3 := blk_free e0 3; have ca_4 := blk_cell e0 4 rfl; have fa_4 := blk_free e0 4; have ca_5 := blk_cell e0 5 rfl; have fa_5 := blk_free e0 5; have ca_6 := blk_cell e0 6 rfl; have fa_6 := blk_free e0 6; have ca_7 := blk_cell e0 7 rfl; have fa_7 := blk_free e0 7; have ca_8 := blk_cell e0 8 rfl; have fa_8 := blk_free e0 8; have ca_9 := blk_cell e0 9 rfl; have fa_9 := blk_free e0 9; have ca_10 := blk_cell e0 10 rfl; have fa_10 := blk_free e0 10; have la := lt_of_block e0
    have cb_0 := blk_cell g2 0 rfl; have fb_0 := blk_free g2 0; have cb_1 := blk_cell g2 1 rfl; have fb_1 := blk_free g2 1; have cb_2 := blk_cell g2 2 rfl; have fb_2 := blk_free g2 2; have cb_3 := blk_cell g2 3 rfl; have fb_3 := blk_free g2 3; have cb_4 := blk_cell g2 4 rfl; have fb_4 := blk_free g2 4; have cb_5 := blk_cell g2 5 rfl; have fb_5 := blk_free g2 5; have cb_6 := blk_cell g2 6 rfl; have fb_6 := blk_free g2 6; have cb_7 := blk_cell g2 7 rfl; have fb_7 := blk_free g2 7; have cb_8 := blk_cell g2 8 rfl; have fb_8 := blk_free g2 8; have cb_9 := blk_cell g2 9 rfl; have fb_9 := blk_free g2 9; have cb_10 := blk_cell g2 10 rfl; have fb_10 := blk_free g2 10; have lb := lt_of_block g2
    go_wp2_with fail
    go_region_with (first | (go_at_call 27; refine (SM.out _).mono ?_; rintro e w' ⟨rfl, q, rfl⟩))
    all_goals go_wp2_with fail
    all_goals
      generalize hWf : World.setCell _ _ _ = Wf
      have hf : Wf.heap[w.heap.size + 2]? = some (.cells #[.int .i64 r.loss, .int .i64 r.twice, .int .i64 r.least, .int .i64 r.most, .int .i64 r.seed, .int .u64 s.x, .int .i64 s.now, .slice A' s.u.length c', .int .i64 s.sent, .int .i64 s.lost, .int .i64 s.dbl] 28 (0, 0)) := by rw [← hWf]; exact (by apply Eq.trans; (repeat (first | (with_reducible assumption) | (with_reducible apply blk_set) | ((with_reducible apply blk_far); rotate_left; (first | omega | (simp <;> omega)); rotate_right) | (with_reducible apply blk_drew) | (with_reducible apply blk_drewN) | ((with_reducible apply heap_new'); (first | rfl | (simp <;> fail))) | (with_reducible apply blk_alloc))); (first | with_reducible rfl | (simp <;> fail) | rfl))
      have hKf : Keeps (fun i => i = w.heap.size ∨ i = w.heap.size + 2) V1 Wf := by
        rw [← hWf]
        repeat (first | with_reducible exact Keeps.refl _ _ | (with_reducible refine Keeps.setCell ?_ (.inl (.inr rfl)) _) | (with_reducible refine Keeps.setCell ?_ (.inl (.inl rfl)) _) | (with_reducible refine Keeps.drew ?_) | (with_reducible refine Keeps.drewN ?_ _))
      clear hWf e0 g2 ca_0 fa_0 ca_1 fa_1 ca_2 fa_2 ca_3 fa_3 ca_4 fa_4 ca_5 fa_5 ca_6 fa_6 ca_7 fa_7 ca_8 fa_8 ca_9 fa_9 ca_10 fa_10 cb_0 fb_0 cb_1 fb_1 cb_2 fb_2 cb_3 fb_3 cb_4 fb_4 cb_5 fb_5 cb_6 fb_6 cb_7 fb_7 cb_8 fb_8 cb_9 fb_9 cb_10 fb_10
      have cm_0 := blk_cell hf 0 rfl; have fm_0 := blk_free hf 0; have cm_1 := blk_cell hf 1 rfl; have fm_1 := blk_free hf 1; have cm_2 := blk_cell hf 2 rfl; have fm_2 := blk_free hf 2; have cm_3 := blk_cell hf 3 rfl; have fm_3 := blk_free hf 3; have cm_4 := blk_cell hf 4 rfl; have fm_4 := blk_free hf 4; have cm_5 := blk_cell hf 5 rfl; have fm_5 := blk_free hf 5; have cm_6 := blk_cell hf 6 rfl; have fm_6 := blk_free hf 6; have cm_7 := blk_cell hf 7 rfl; have fm_7 := blk_free hf 7; have cm_8 := blk_cell hf 8 rfl; have fm_8 := blk_free hf 8; have cm_9 := blk_cell hf 9 rfl; have fm_9 := blk_free hf 9; have cm_10 := blk_cell hf 10 rfl; have fm_10 := blk_free hf 10; have lm := lt_of_block hf
      refine bodyPost_ret (v := .tuple #[.agg #[.int .i64 r.loss, .int .i64 r.twice, .int .i64 r.least, .int .i64 r.most, .int .i64 r.seed, .int .u64 s.x, .int .i64 s.now, .slice A' s.u.length c', .int .i64 s.sent, .int .i64 s.lost, .int .i64 s.dbl], .bool true]) ?_ rfl ?_
      · simp [results, Try.results14, go_sem, cm_0, cm_1, cm_2, cm_3, cm_4, cm_5, cm_6, cm_7, cm_8, cm_9, cm_10]
      · have hB1 := HB1.out
        have hBV1 := HBV1.out
        have hB : Below w.heap.size w Wf := (hB1.trans (hBV1.mono (by omega))).trans (hKf.below (fun i _ hi => by omega) (by omega))
        rw [HSX.out]
        exact ⟨A, c, A', c', rfl, (HW.out.below hB (fun i hi => hi.2)).mono (fun i hi => ⟨.inl hi.1, HX.out i hi⟩), hnc, HL.out.below hB (Nat.le_refl _), Keeps.of_below hB, .inl rfl⟩
end Go.Proofs.Ytgdpoiapkaahfaa

import Derived.Test.YtdocdgcdldpagaaGreatAp
import Derived.Test.YtdocdgcdldpagaaGreatAv11
import Derived.Test.YtdocdgcdldpagaaGreatAv01
import Derived.Test.YtdocdgcdldpagaaGreatAv10
namespace Go.Proofs.YtdocdgcdldpagaaGreat
open Go.RowKit
set_option maxHeartbeats 4000000
set_option maxRecDepth 100000
set_option linter.unusedSimpArgs false
set_option linter.unusedVariables false
attribute [local go_sem ↓] Go.wp_at_zero Go.wp_at_succ
def PutPost (base b : Nat) (A : Option Addr) (r : Lnk.Ru) (s : Lnk.St) (w : World) (e : Ending) (w' : World) : Prop :=
  e = .returned (.tuple #[]) ∧ ∃ A' c', IsLk w' base b A' c' r s ∧ Keeps (Two b A) w w' ∧ (blkOf A' = blkOf A ∨ ∃ g, blkOf A' = some g ∧ w.heap.size ≤ g)
def PutCut (base b c : Nat) (A : Option Addr) (r : Lnk.Ru) (s : Lnk.St) (t : Int) (d : List Int) (w : World) (v : Value) (wx : World) : Prop :=
  v = .pointer (some ⟨w.heap.size, 0, none⟩) ∧ IsLk wx base b A c r { s with x := Lnk.nx s.x } ∧ wx.heap[w.heap.size]? = some (.cells #[.int .i64 t, .string (strOfNums d)] 175 (0, 0)) ∧ Keeps (Two b A) w wx
theorem put_close (base b c c' : Nat) (A A' : Option Addr) (r : Lnk.Ru) (s : Lnk.St) (d : List Int) (t : Int) (i : Nat) (w wc W w4 : World) (hL2 : IsLk wc base b A c r { s with x := Lnk.nx s.x }) (hK2 : Keeps (Two b A) w wc) (hKW : Keeps (Two b A) wc W)
    (hTE : s.now + r.least + Lnk.dr s.x % (r.most - r.least + 1) = t) (hB4 : w4.heap[b]? = some (.cells (lkl r { s with x := Lnk.nx s.x } A c).toArray 172 (0, 0)))
    (hR4 : Row w4 base 175 2 A' (s.u.length + 1) c' ((mcells (Lnk.srt s.u)).take (i * 2) ++ (mcell (t, d) ++ (mcells (Lnk.srt s.u)).drop (i * 2)))) (hG4 : W.grownBy w4 (blkOf A))
    (hat : blkOf A' = blkOf A ∨ ∃ g, blkOf A' = some g ∧ W.heap.size ≤ g) (hi : i ≤ s.u.length) (h1 : ∀ (h : 0 < i), ∀ x, (Lnk.srt s.u)[i - 1]? = some x → x.1 ≤ t) (h2 : ∀ j x, (Lnk.srt s.u)[j]? = some x → i ≤ j → t < x.1) :
    PutPost base b A r (Lnk.put r s d) w (.returned (.tuple #[])) (w4.setCell ⟨b, 8, none⟩ (.slice A' (s.u.length + 1) c')) := by
  have hne : ∀ g, blkOf A' = some g → g ≠ b := by
    intro g hg
    rcases hat with h | ⟨g', h, hge⟩
    · exact hL2.ne (by rw [← h]; exact hg)
    · rw [h] at hg
      injection hg with hg
      have := hL2.lt
      have := hKW.size
      omega
  rw [mcells_put r s (t, d) hi h1 h2] at hR4
  have hput : Lnk.put r s d = { s with x := Lnk.nx s.x, u := s.u ++ [(t, d)] } := by unfold Lnk.put; rw [hTE]
  have hblk := blk_set hB4 8 (.slice A' (s.u.length + 1) c')
  rw [List.setIfInBounds_toArray] at hblk
  refine ⟨rfl, A', c', ⟨?_, ?_, hL2.ge⟩, ?_, ?_⟩
  · rw [hput]
    simpa [lkl] using hblk
  · rw [hput]
    simpa using hR4.far (p := ⟨b, 8, none⟩) (fun g hg => hne g hg) _
  · refine ((hK2.trans hKW (fun _ _ h => h)).trans (Keeps.of_grown hG4 (S := Two b A) (fun g hg => .inr hg)) (fun _ _ h => h)).setCell (.inl (Or.inl rfl)) _
  · rcases hat with h | ⟨g, h, hge⟩
    · exact .inl h
    · exact .inr ⟨g, h, by have := hK2.size; have := hKW.size; omega⟩
theorem lkput_any (base b c : Nat) (A : Option Addr) (r : Lnk.Ru) (s : Lnk.St) (d : List Int) (w : World) (h : IsLk w base b A c r s) (hr : Lnk.vld r = true) (hs : Lnk.Inv s) (hn : s.u.length < 1000) (hbase : base ≤ w.heap.size) :
    Calls Tryz.prog 153 #[.pointer (some ⟨b, 0, none⟩), .string (strOfNums d)] w (PutPost base b A r (Lnk.put r s d) w) := by
  rw [Lnk.vld_iff] at hr
  obtain ⟨⟨r1, r2⟩, ⟨r3, r4⟩, ⟨r5, r6⟩, r7, r8⟩ := hr
  obtain ⟨⟨x1, x2⟩, ⟨n1, n2⟩, hu, hm, _⟩ := hs
  obtain ⟨d1, d2⟩ := Lnk.dr_bd s.x
  have hD := Lib.hid (fun (W : World) (hW : IsLk W base b A c r s) => draw_lk base b c A r s (r.most - r.least + 1) W hW Cb Cb)
  have hat1 := Int.emod_nonneg (Lnk.dr s.x) (show r.most - r.least + 1 ≠ 0 by omega)
  have hat2 := Int.emod_lt_of_pos (Lnk.dr s.x) (show 0 < r.most - r.least + 1 by omega)
  obtain ⟨at_, hat⟩ : ∃ at_, at_ = Lnk.dr s.x % (r.most - r.least + 1) := ⟨_, rfl⟩
  rw [← hat] at hat1 hat2
  have HA := Lib.hid hat
  rw [← hat] at hD
  have HM := Lib.hid hm
  have HU := Lib.hid hu
  clear hat hm x1 x2 d1 d2 hu
  have hL := h
  have hB := h.blk
  have hlt := h.lt
  have c7 : w.cell? ⟨b, 7, none⟩ = some (.int .i64 s.now) := blk_cell hB 7 rfl
  have c3 : w.cell? ⟨b, 3, none⟩ = some (.int .i64 r.least) := blk_cell hB 3 rfl
  have c4 : w.cell? ⟨b, 4, none⟩ = some (.int .i64 r.most) := blk_cell hB 4 rfl
  have HL := Lib.hid hL
  clear hL h hB
  have HT := Lib.hid HL.out.two
  go_enter Tryz.func153, Tryz.ntmps153
  go_upto_region 0 with fail
  go_cut [4] (fun s4 wx => PutCut base b c A r s (s.now + r.least + at_) d w s4 wx)
  case first =>
    have wa : IntKind.i64.wrap (s.now + r.least) = s.now + r.least := IntWalk.i64_in _ Cb
    have wb : IntKind.i64.wrap (r.most - r.least) = r.most - r.least := IntWalk.i64_in _ Cb
    have wc : IntKind.i64.wrap (r.most - r.least + 1) = r.most - r.least + 1 := IntWalk.i64_in _ Cb
    have wd : IntKind.i64.wrap (s.now + r.least + at_) = s.now + r.least + at_ := IntWalk.i64_in _ Cb
    go_region_held3 (fun w' => w'.cell? ⟨b, 7, none⟩ = some (.int .i64 s.now) ∧ w'.cell? ⟨b, 3, none⟩ = some (.int .i64 r.least) ∧ w'.cell? ⟨b, 4, none⟩ = some (.int .i64 r.most)) (first | (refine ⟨?_, ?_, ?_⟩ <;> simp [go_sem, *]; done) | go_keep) (first | (go_at_call 152; refine (hD.out _ (by first | exact HL.out | exact HL.out.drew | exact HL.out.alloc _ | exact HL.out.drew.alloc _ | exact (HL.out.alloc _).drew)).mono ?_; rintro e w2 ⟨rfl, hw2, hL2⟩; have HW2 := Lib.hid hw2; have HL2 := Lib.hid hL2; have d7 : w2.cell? ⟨b, 7, none⟩ = some (.int .i64 s.now) := blk_cell hL2.blk 7 rfl; have d3 : w2.cell? ⟨b, 3, none⟩ = some (.int .i64 r.least) := blk_cell hL2.blk 3 rfl; have d4 : w2.cell? ⟨b, 4, none⟩ = some (.int .i64 r.most) := blk_cell hL2.blk 4 rfl; try (have hN : w2.heap[w.heap.size]? = some (.cells #[.int .i64 0, .string ⟨#[]⟩] 175 (0, 0)) := (by rw [hw2]; refine blk_far ?_ C6 _; first | exact heap_new _ _ | exact heap_new' _ _ _ C9); have e0 := blk_cell (l := [.int .i64 0, .string ⟨#[]⟩]) hN 0 rfl; have e1 := blk_cell (l := [.int .i64 0, .string ⟨#[]⟩]) hN 1 rfl; have g0 := blk_free hN 0; have g1 := blk_free hN 1); clear hw2 hL2))
    all_goals (go_wp2_with fail; go_meet)
    all_goals refine ⟨rfl, ?_, ?_, ?_⟩
    · have h2 := HL2.out
      rw [HW2.out] at h2
      first | exact h2.alloc _ | exact (h2.alloc _).drew
    · exact heap_new' _ _ _ C9
    · exact Ad
    · refine IsLk.far (IsLk.far HL2.out ?_ _) ?_ _ <;> (intro i hi; have := HT.out i hi; simp; omega)
    · exact (blk_set (blk_set hN 0 _) 1 _).trans C9
    · rw [HW2.out]
      exact Ad
  case rest =>
    obtain ⟨rfl, hL2, hM2, hK2⟩ := hcut
    obtain ⟨t, ht⟩ : ∃ t, t = s.now + r.least + at_ := ⟨_, rfl⟩
    rw [← ht] at hM2
    have HTE := Lib.hid (show s.now + r.least + Lnk.dr s.x % (r.most - r.least + 1) = t by rw [ht, HA.out])
    clear ht hat1 hat2 hD HA
    have c8 : wc.cell? ⟨b, 8, none⟩ = some (.slice A s.u.length c) := blk_cell hL2.blk 8 rfl
    have f8 := blk_free hL2.blk 8
    have cm : wc.cell? ⟨w.heap.size, 0, none⟩ = some (.int .i64 t) := blk_cell (l := [.int .i64 t, .string (strOfNums d)]) hM2 0 rfl
    have cn : wc.cell? ⟨w.heap.size, 1, none⟩ = some (.string (strOfNums d)) := blk_cell (l := [.int .i64 t, .string (strOfNums d)]) hM2 1 rfl
    have hzc := hK2.size
    have HL2 := Lib.hid hL2
    have HM2 := Lib.hid hM2
    have HK2 := Lib.hid hK2
    clear hL2 hM2 hK2 c7 c3 c4 HL
    go_wp2_with fail
    go_loopw [5] (fun v wr => ∃ i q : Nat, v = .int .i64 i ∧ i ≤ s.u.length ∧ wr = wc.drewN q ∧ Hid (∀ j x, (Lnk.srt s.u)[j]? = some x → i ≤ j → t < x.1)) (fun v _ => (intOf v).toNat)
    case atStart => exact ⟨s.u.length, 0, by go_num, Nat.le_refl _, rfl, Lib.hid (fun j x hx hj => by rw [List.getElem?_eq_none (by rw [Lnk.length_srt]; exact hj)] at hx; cases hx)⟩
    case round =>
      obtain ⟨i, q, rfl, hi, rfl, HI⟩ := hrel
      rcases Nat.eq_zero_or_pos i with h0 | h0
      · subst h0
        go_wp2_with fail
        go_quiet (fail)
        go_wp2_with fail
        have HIE := Lib.hid (show ∀ (h : 0 < 0), ∀ x, (Lnk.srt s.u)[0 - 1]? = some x → x.1 ≤ t from (fun h => absurd h Cb))
        have HINS := Lib.hid (fun (W : World) (vb : Nat) (hW : Row W base 175 2 A s.u.length c (mcells (Lnk.srt s.u))) (hv : W.heap[vb]? = some (.cells #[.int .i64 t, .string (strOfNums d)] 175 (0, 0))) (hne : wc.heap.size ≤ vb) (hb : base ≤ W.heap.size) => ins_any A s.u.length c 0 (mcells (Lnk.srt s.u)) (mcell (t, d)) vb base W hW Cb Cb hv rfl (mcells_one [(t, d)]) (mcells_one _) (fun e => by have := (HL2.out.row.lt e).2; omega) hb)
        have HROW := HL2.out.row
        have hM2 := HM2.out
        have hB2 := HL2.out.blk
        have hwlt := lt_of_block hM2
        have hblt := HL2.out.lt
        have HNE := Lib.hid (show some w.heap.size ≠ blkOf A from fun e => absurd (HT.out _ (.inr e.symm)) Cb)
        have HI2 := Lib.hid HI.out
        clear HI
        have al8 : ∀ k ob, ((wc.drewN k).alloc ob).cell? ⟨b, 8, none⟩ = some (.slice A s.u.length c) := fun k ob => (World.cell?_alloc_past ob b 8 hblt).trans c8
        have alm : ∀ k ob, ((wc.drewN k).alloc ob).cell? ⟨w.heap.size, 0, none⟩ = some (.int .i64 t) := fun k ob => (World.cell?_alloc_past ob w.heap.size 0 hwlt).trans cm
        have aln : ∀ k ob, ((wc.drewN k).alloc ob).cell? ⟨w.heap.size, 1, none⟩ = some (.string (strOfNums d)) := fun k ob => (World.cell?_alloc_past ob w.heap.size 1 hwlt).trans cn
        go_region_law (first | (go_simp; go_at_call 172; refine (HINS.out _ _ Al Ae Ba Ba).mono ?_; rintro e w4 ⟨A', c', rfl, hrow4, hg4, hat4⟩; have hz4 := hg4.size; try simp at hz4; have hb4 : w4.heap[b]? = some (.cells (lkl r { s with x := Lnk.nx s.x } A c).toArray 172 (0, 0)) := (hg4.block b Ba (by have := HL2.out.ne (g := b); intro e; exact this e.symm rfl)).trans Ae; have hM4 : w4.heap[w.heap.size]? = some (.cells #[.int .i64 t, .string (strOfNums d)] 175 (0, 0)) := (hg4.block w.heap.size Ba HNE.out).trans Ae; have dm := blk_cell (l := [.int .i64 t, .string (strOfNums d)]) hM4 0 rfl; have dn := blk_cell (l := [.int .i64 t, .string (strOfNums d)]) hM4 1 rfl; have d8 : w4.cell? ⟨b, 8, none⟩ = some (.slice A s.u.length c) := blk_cell hb4 8 rfl; have f84 := blk_free hb4 8; have HB4 := Lib.hid hb4; have HR4 := Lib.hid hrow4; have HG4 := Lib.hid hg4; have HAT4 := Lib.hid hat4; clear hb4 hrow4 hg4 hat4))
        all_goals (go_end0; exact put_close base b c _ A _ r s d t 0 w wc _ w4 HL2.out HK2.out Ad HTE.out HB4.out HR4.out HG4.out HAT4.out Cb HIE.out HI2.out)
      · have hg0 : (0 : Int) < (i : Int) := by omega
        obtain ⟨x, hx⟩ : ∃ x, (Lnk.srt s.u)[i - 1]? = some x := ⟨_, List.getElem?_eq_getElem Bm⟩
        obtain ⟨g, o, cur, rfl, hgb, hgl, hgg, hgn, hgc, hgf, hgt, hgx, hgz⟩ := HL2.out.row.some_ (show 0 < s.u.length by omega)
        have c5 : wc.cell? ⟨g, o + (i - 1) * 2, none⟩ = some (.int .i64 x.1) := hgx _ _ ((mcells_at (Lnk.srt s.u) (i - 1) Bm).1.trans (by rw [List.getElem?_eq_getElem Bm] at hx; injection hx with hx; rw [hx]))
        have i1 : (0 : Int) ≤ (i : Int) - 1 := by omega
        have i2 : (i : Int) - 1 < (s.u.length : Int) := by omega
        have i3 : ((i : Int) - 1).toNat = i - 1 := by omega
        have i4 : IntKind.i64.wrap ((i : Int) - 1) = (i : Int) - 1 := IntWalk.i64_in _ Cb
        have HXX := Lib.hid hx
        have HGT := Lib.hid hgt
        clear hx hgt hgx hgz hgg
        by_cases htx : t < x.1
        · go_wp2_with fail
          go_quiet (fail)
          go_wp2_with fail
          go_roundw
          case rel => exact ⟨i - 1, _, by go_num, by omega, rfl, Lib.hid (fun j y hy hj => by
            rcases Nat.lt_or_ge j i with h | h
            · obtain rfl : j = i - 1 := by omega
              rw [HXX.out] at hy
              injection hy with hy
              rw [← hy]; exact htx
            · exact HI.out j y hy h)⟩
          case measure => simp [intOf]; omega
        · go_wp2_with fail
          go_quiet (fail)
          go_wp2_with fail
          have HIE := Lib.hid (show ∀ (h : 0 < i), ∀ x, (Lnk.srt s.u)[i - 1]? = some x → x.1 ≤ t from (fun h y hy => by rw [HXX.out] at hy; injection hy with hy; rw [← hy]; omega))
          have HINS := Lib.hid (fun (W : World) (vb : Nat) (hW : Row W base 175 2 (some ⟨g, o, none⟩) s.u.length c (mcells (Lnk.srt s.u))) (hv : W.heap[vb]? = some (.cells #[.int .i64 t, .string (strOfNums d)] 175 (0, 0))) (hne : wc.heap.size ≤ vb) (hb : base ≤ W.heap.size) => ins_any (some ⟨g, o, none⟩) s.u.length c i (mcells (Lnk.srt s.u)) (mcell (t, d)) vb base W hW Cb Cb hv rfl (mcells_one [(t, d)]) (mcells_one _) (fun e => by have := (HL2.out.row.lt e).2; omega) hb)
          have HROW := HL2.out.row
          have hM2 := HM2.out
          have hB2 := HL2.out.blk
          have hwlt := lt_of_block hM2
          have hblt := HL2.out.lt
          have HNE := Lib.hid (show some w.heap.size ≠ blkOf (some ⟨g, o, none⟩) from fun e => absurd (HT.out _ (.inr e.symm)) Cb)
          have HI2 := Lib.hid HI.out
          clear HI
          have al8 : ∀ k ob, ((wc.drewN k).alloc ob).cell? ⟨b, 8, none⟩ = some (.slice (some ⟨g, o, none⟩) s.u.length c) := fun k ob => (World.cell?_alloc_past ob b 8 hblt).trans c8
          have alm : ∀ k ob, ((wc.drewN k).alloc ob).cell? ⟨w.heap.size, 0, none⟩ = some (.int .i64 t) := fun k ob => (World.cell?_alloc_past ob w.heap.size 0 hwlt).trans cm
          have aln : ∀ k ob, ((wc.drewN k).alloc ob).cell? ⟨w.heap.size, 1, none⟩ = some (.string (strOfNums d)) := fun k ob => (World.cell?_alloc_past ob w.heap.size 1 hwlt).trans cn
          go_region_law (first | (go_simp; go_at_call 172; refine (HINS.out _ _ Al Ae Ba Ba).mono ?_; rintro e w4 ⟨A', c', rfl, hrow4, hg4, hat4⟩; have hz4 := hg4.size; try simp at hz4; have hb4 : w4.heap[b]? = some (.cells (lkl r { s with x := Lnk.nx s.x } (some ⟨g, o, none⟩) c).toArray 172 (0, 0)) := (hg4.block b Ba (by have := HL2.out.ne (g := b); intro e; exact this e.symm rfl)).trans Ae; have hM4 : w4.heap[w.heap.size]? = some (.cells #[.int .i64 t, .string (strOfNums d)] 175 (0, 0)) := (hg4.block w.heap.size Ba HNE.out).trans Ae; have dm := blk_cell (l := [.int .i64 t, .string (strOfNums d)]) hM4 0 rfl; have dn := blk_cell (l := [.int .i64 t, .string (strOfNums d)]) hM4 1 rfl; have d8 : w4.cell? ⟨b, 8, none⟩ = some (.slice (some ⟨g, o, none⟩) s.u.length c) := blk_cell hb4 8 rfl; have f84 := blk_free hb4 8; have HB4 := Lib.hid hb4; have HR4 := Lib.hid hrow4; have HG4 := Lib.hid hg4; have HAT4 := Lib.hid hat4; clear hb4 hrow4 hg4 hat4))
          all_goals (go_end0; exact put_close base b c _ (some ⟨g, o, none⟩) _ r s d t i w wc _ w4 HL2.out HK2.out Ad HTE.out HB4.out HR4.out HG4.out HAT4.out Cb HIE.out HI2.out)
end Go.Proofs.YtdocdgcdldpagaaGreat
namespace Go.Proofs.YtdocdgcdldpagaaGreat
open Go.RowKit
set_option maxHeartbeats 4000000
set_option maxRecDepth 100000
set_option linter.unusedSimpArgs false
set_option linter.unusedVariables false
theorem lwithin_any (n a b : Int) (w : World) :
    Calls Tryz.prog 74 #[.int .i64 n, .int .i64 a, .int .i64 b] w fun e w' => e = .returned (.bool (Frm.inB n a b)) ∧ w = w' := by
  by_cases h : a ≤ n
  all_goals
    go_enter Tryz.func74, Tryz.ntmps74
    go_wp2_with fail
    go_ret
    exact ⟨ret_bool Bj, rfl⟩
theorem lwithin_yes (n a b : Int) (w : World) (h : a ≤ n ∧ n ≤ b) :
    Calls Tryz.prog 74 #[.int .i64 n, .int .i64 a, .int .i64 b] w fun e w' => e = .returned (.bool true) ∧ w = w' :=
  (lwithin_any n a b w).mono fun e w' ⟨h1, h2⟩ => ⟨by rw [h1, Frm.inB_iff.2 h], h2⟩
theorem lwithin_no (n a b : Int) (w : World) (h : ¬ (a ≤ n ∧ n ≤ b)) :
    Calls Tryz.prog 74 #[.int .i64 n, .int .i64 a, .int .i64 b] w fun e w' => e = .returned (.bool false) ∧ w = w' :=
  (lwithin_any n a b w).mono fun e w' ⟨h1, h2⟩ => ⟨by rw [h1, Frm.inB_no.2 h], h2⟩
theorem lto_any (n a b : Int) (w : World) :
    Calls Tryz.prog 76 #[.int .i64 n, .int .i64 a, .int .i64 b] w fun e w' => e = .returned (.bool (Frm.inB n a b)) ∧ w = w' := by
  by_cases h : a ≤ n
  all_goals
    go_enter Tryz.func76, Tryz.ntmps76
    go_wp2_with fail
    go_ret
    exact ⟨ret_bool Bj, rfl⟩
theorem lto_yes (n a b : Int) (w : World) (h : a ≤ n ∧ n ≤ b) :
    Calls Tryz.prog 76 #[.int .i64 n, .int .i64 a, .int .i64 b] w fun e w' => e = .returned (.bool true) ∧ w = w' :=
  (lto_any n a b w).mono fun e w' ⟨h1, h2⟩ => ⟨by rw [h1, Frm.inB_iff.2 h], h2⟩
theorem lto_no (n a b : Int) (w : World) (h : ¬ (a ≤ n ∧ n ≤ b)) :
    Calls Tryz.prog 76 #[.int .i64 n, .int .i64 a, .int .i64 b] w fun e w' => e = .returned (.bool false) ∧ w = w' :=
  (lto_any n a b w).mono fun e w' ⟨h1, h2⟩ => ⟨by rw [h1, Frm.inB_no.2 h], h2⟩
def rul (r : Lnk.Ru) : List Value := [.int .i64 r.loss, .int .i64 r.twice, .int .i64 r.least, .int .i64 r.most, .int .i64 r.seed]
theorem vld_cases (r : Lnk.Ru) : (¬ (0 ≤ r.loss ∧ r.loss ≤ 1000) ∧ Lnk.vld r = false) ∨ ((0 ≤ r.loss ∧ r.loss ≤ 1000) ∧ ¬ (0 ≤ r.twice ∧ r.twice ≤ 1000) ∧ Lnk.vld r = false) ∨
    ((0 ≤ r.loss ∧ r.loss ≤ 1000) ∧ (0 ≤ r.twice ∧ r.twice ≤ 1000) ∧ ¬ (0 ≤ r.least ∧ r.least ≤ r.most) ∧ Lnk.vld r = false) ∨ ((0 ≤ r.loss ∧ r.loss ≤ 1000) ∧ (0 ≤ r.twice ∧ r.twice ≤ 1000) ∧ (0 ≤ r.least ∧ r.least ≤ r.most) ∧ 60000 < r.most ∧ Lnk.vld r = false) ∨
    ((0 ≤ r.loss ∧ r.loss ≤ 1000) ∧ (0 ≤ r.twice ∧ r.twice ≤ 1000) ∧ (0 ≤ r.least ∧ r.least ≤ r.most) ∧ r.most ≤ 60000 ∧ r.seed < 0 ∧ Lnk.vld r = false) ∨ ((0 ≤ r.loss ∧ r.loss ≤ 1000) ∧ (0 ≤ r.twice ∧ r.twice ≤ 1000) ∧ (0 ≤ r.least ∧ r.least ≤ r.most) ∧ r.most ≤ 60000 ∧ 0 ≤ r.seed ∧ Lnk.vld r = true) := by
  have no : ∀ p : Prop, (¬ ((0 ≤ r.loss ∧ r.loss ≤ 1000) ∧ (0 ≤ r.twice ∧ r.twice ≤ 1000) ∧ (0 ≤ r.least ∧ r.least ≤ r.most) ∧ r.most ≤ 60000 ∧ 0 ≤ r.seed)) → Lnk.vld r = false := fun _ h => by
    cases hv : Lnk.vld r
    · rfl
    · exact absurd (Lnk.vld_iff.1 hv) h
  by_cases a : 0 ≤ r.loss ∧ r.loss ≤ 1000
  · right
    by_cases b : 0 ≤ r.twice ∧ r.twice ≤ 1000
    · right
      by_cases c : 0 ≤ r.least ∧ r.least ≤ r.most
      · right
        by_cases d : 60000 < r.most
        · exact .inl ⟨a, b, c, d, no True Cb⟩
        · right
          by_cases e : r.seed < 0
          · exact .inl ⟨a, b, c, by omega, e, no True Cb⟩
          · exact .inr ⟨a, b, c, by omega, by omega, Lnk.vld_iff.2 ⟨a, b, c, by omega, by omega⟩⟩
      · exact .inl ⟨a, b, c, no True (fun h => c h.2.2.1)⟩
    · exact .inl ⟨a, b, no True (fun h => b h.2.1)⟩
  · exact .inl ⟨a, no True (fun h => a h.1)⟩
theorem lvalid_any (r : Lnk.Ru) (w : World) :
    Calls Tryz.prog 33 #[.agg (rul r).toArray] w fun e w' => e = .returned (.bool (Lnk.vld r)) ∧ Below w.heap.size w w' := by
  obtain ⟨lo, tw, le, mo, se⟩ := r
  rcases vld_cases ⟨lo, tw, le, mo, se⟩ with ⟨h1, E⟩ | ⟨h1, h2, E⟩ | ⟨h1, h2, h3, E⟩ | ⟨h1, h2, h3, h4, E⟩ | ⟨h1, h2, h3, h4, h5, E⟩ | ⟨h1, h2, h3, h4, h5, E⟩
  all_goals
    have HE := Lib.hid E
    clear E
    simp only [rul] at *
    try dsimp only at h1
    try dsimp only at h2
    try dsimp only at h3
    try dsimp only at h3'
    try dsimp only at h4
    try dsimp only at h5
    go_enter Tryz.func33, Tryz.ntmps33
    go_wp2_with (first | (refine (lwithin_yes _ _ _ _ Cb).mono ?_; rintro e w' ⟨rfl, rfl⟩) | (refine (lwithin_no _ _ _ _ Cb).mono ?_; rintro e w' ⟨rfl, rfl⟩))
    go_ret
    exact ⟨ret_bool Az, A9⟩
theorem Ct {p : Prop} (h : p := by
  have HE := Lib.hid E
  clear E
  simp only [rul] at *
  try dsimp only at h1
  try dsimp only at h2
  try dsimp only at h3
  try dsimp only at h3'
  try dsimp only at h4
  try dsimp only at h5
  go_enter Tryz.func36, Tryz.ntmps36
  go_wp2_with (first | (refine (lto_yes _ _ _ _ Cb).mono ?_; rintro e w' ⟨rfl, rfl⟩) | (refine (lto_no _ _ _ _ Cb).mono ?_; rintro e w' ⟨rfl, rfl⟩))
  go_ret
  exact ⟨ret_bool Az, A9⟩
 ) : p := h
theorem rlvalid_any (r : Lnk.Ru) (w : World) :
    Calls Tryz.prog 36 #[.agg (rul r).toArray] w fun e w' => e = .returned (.bool (Lnk.vld r)) ∧ Below w.heap.size w w' := by
  obtain ⟨lo, tw, le, mo, se⟩ := r
  rcases vld_cases ⟨lo, tw, le, mo, se⟩ with ⟨h1, E⟩ | ⟨h1, h2, E⟩ | ⟨h1, h2, h3, E⟩ | ⟨h1, h2, h3, h4, E⟩ | ⟨h1, h2, h3, h4, h5, E⟩ | ⟨h1, h2, h3, h4, h5, E⟩
  case inr.inr.inl =>
    by_cases h0 : 0 ≤ le
    · have h3' : mo < le := by simp only at h3; omega
      clear h3
      exact Ct
    · have h3' : le < 0 := by omega
      clear h3 h0
      exact Ct
  all_goals
    exact Ct
def NewPost (r : Lnk.Ru) (w : World) (e : Ending) (w' : World) : Prop :=
  ∃ b, e = .returned (.tuple #[.pointer (some ⟨b, 0, none⟩), .int .i64 0]) ∧ IsLk w' w.heap.size b none 0 r (Lnk.new r) ∧ Below w.heap.size w w'
theorem lnew_yes (r : Lnk.Ru) (w : World) (hv : Lnk.vld r = true) (hse : r.seed ≤ 9223372036854775807) :
    Calls Tryz.prog 65 #[.agg (rul r).toArray] w (NewPost r w) := by
  have V := Lib.hid (fun W : World => hv ▸ lvalid_any r W)
  rw [Lnk.vld_iff] at hv
  obtain ⟨_, _, _, _, h5⟩ := hv
  obtain ⟨lo, tw, le, mo, se⟩ := r
  simp only [rul] at *
  have hw : IntKind.u64.wrap se = se := by rw [IntKind.wrap_u64]; omega
  go_enter Tryz.func65, Tryz.ntmps65
  go_wp2_with fail
  refine (V.out _).mono ?_
  rintro e w1 ⟨rfl, hb1⟩
  have hz1 := hb1.size; try simp at hz1
  have h1 := blk_below (q := w.heap.size) (heap_new _ _) hb1 Ba
  have ca_0 := blk_cell h1 0 rfl; have fa_0 := blk_free h1 0; have ca_1 := blk_cell h1 1 rfl; have fa_1 := blk_free h1 1; have ca_2 := blk_cell h1 2 rfl; have fa_2 := blk_free h1 2; have ca_3 := blk_cell h1 3 rfl; have fa_3 := blk_free h1 3; have ca_4 := blk_cell h1 4 rfl; have fa_4 := blk_free h1 4; have la := lt_of_block h1
  go_wp2_with fail
  go_ret2
  refine ⟨w1.heap.size, rfl, ⟨heap_new _ _, Row.nil _ _ _ _, by omega⟩, A9⟩
end Go.Proofs.YtdocdgcdldpagaaGreat
namespace Go.Proofs.YtdocdgcdldpagaaGreat
namespace Lnk
open Go.RowKit
set_option linter.unusedSimpArgs false
set_option linter.unusedVariables false
theorem inv_new {r : Ru} (h : vld r = true) (h2 : r.seed ≤ 9223372036854775807) : Inv (new r) := by
  rw [vld_iff] at h
  refine ⟨⟨h.2.2.2.2, ?_⟩, by unfold new; simp, by simp [new], by simp [new], by simp [new], by simp [new], by simp [new]⟩
  show r.seed ≤ _
  omega
theorem inv_send0 {s : St} {now : Int} (h : Inv s) (hn : s.now ≤ now ∧ now ≤ 1073741824) (hs : s.sent < 1000000000000000) : Inv (send0 s now) := by
  obtain ⟨h1, h2, h3, h4, h5, h6, h7⟩ := h
  refine ⟨nx_bd _, ?_, h3, h4, ?_, ?_, ?_⟩ <;> simp only [send0] <;> omega
theorem inv_x {s : St} (h : Inv s) (x : Int) : Inv { s with x := nx x } := ⟨nx_bd _, h.2⟩
theorem inv_put {r : Ru} {s : St} {b : List Int} (hr : vld r = true) (h : Inv s) (hb : By b) (hl : b.length ≤ 128) (hu : s.u.length < 1000) : Inv (put r s b) := by
  rw [vld_iff] at hr
  obtain ⟨h1, h2, h3, h4, h5⟩ := h
  refine ⟨nx_bd _, h2, ?_, ?_, h5⟩
  · simp only [put, List.length_append, List.length_cons, List.length_nil]; omega
  · intro m hm
    simp only [put, List.mem_append, List.mem_singleton] at hm
    rcases hm with hm | rfl
    · exact h4 m hm
    · have e1 := Int.emod_nonneg (dr s.x) (show r.most - r.least + 1 ≠ 0 by omega)
      have e2 := Int.emod_lt_of_pos (dr s.x) (show 0 < r.most - r.least + 1 by omega)
      exact ⟨by simp only; omega, by simp only; omega, hb, hl⟩
theorem sendE_ok {s : St} {now : Int} {n : Nat} (h : sendE s now n = 0) : (1 ≤ n ∧ n ≤ 128) ∧ (s.now ≤ now ∧ now ≤ 1073741824) ∧ s.u.length < 999 := by
  unfold sendE at h
  by_cases h1 : 1 ≤ n ∧ n ≤ 128
  · rw [if_neg C2] at h
    by_cases h2 : s.now ≤ now ∧ now ≤ 1073741824
    · rw [if_neg (by simpa using h2)] at h
      rcases Nat.lt_or_ge s.u.length 999 with h3 | h3
      · exact ⟨h1, h2, h3⟩
      · rw [if_pos h3] at h; omega
    · rw [if_pos h2] at h; omega
  · rw [if_pos h1] at h; omega
theorem inv_send2 {r : Ru} {s : St} {b : List Int} (hr : vld r = true) (h : Inv s) (hb : By b) (hl : b.length ≤ 128) (hu : s.u.length < 1000) (hd : s.dbl < s.sent) : Inv (send2 r s b) := by
  refine inv_put hr ?_ hb hl hu
  obtain ⟨h1, h2, h3, h4, h5, h6, h7⟩ := h
  exact ⟨nx_bd _, h2, h3, h4, h5, h6, by constructor <;> simp only <;> omega⟩
theorem inv_send {r : Ru} {s : St} {now : Int} {b : List Int} (hr : vld r = true) (h : Inv s) (hb : By b) (hs : s.sent < 1000000000000000) : Inv (send r s now b) := by
  unfold send
  by_cases he : sendE s now b.length = 0
  · rw [if_pos he]
    obtain ⟨h1, h2, h3⟩ := sendE_ok he
    have i0 := inv_send0 h h2 hs
    have i1 : Inv (send1 r s now b) := inv_put hr i0 hb h1.2 (show s.u.length < 1000 by omega)
    split
    · obtain ⟨a1, a2, a3, a4, a5, a6, a7⟩ := i0
      obtain ⟨b1, b2, b3, b4, b5, b6, b7⟩ := h
      refine ⟨a1, a2, a3, a4, a5, ?_, a7⟩
      simp only [send0]; omega
    · split
      · refine inv_send2 hr i1 hb h1.2 ?_ ?_
        · simp only [send1, put, send0, List.length_append, List.length_cons, List.length_nil]; omega
        · obtain ⟨b1, b2, b3, b4, b5, b6, b7⟩ := h
          simp only [send1, put, send0]; omega
      · exact inv_x i1 _
  · rw [if_neg he]; exact h
theorem inv_recv {s : St} {now : Int} (h : Inv s) : Inv (recv s now) := by
  unfold recv
  split
  · rename_i he
    obtain ⟨h1, h2, h3, h4, h5⟩ := h
    have hn : s.now ≤ now ∧ now ≤ 1073741824 := by
      unfold recvE at he
      split at he
      · assumption
      · omega
    refine ⟨h1, by simp only; omega, Nat.le_trans (List.length_filter_le _ _) h3, fun m hm => h4 m (List.mem_filter.1 hm |>.1), h5⟩
  · exact h
end Lnk
end Go.Proofs.YtdocdgcdldpagaaGreat

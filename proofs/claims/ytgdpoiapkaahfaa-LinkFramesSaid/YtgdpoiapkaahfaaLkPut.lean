/- put. -/
import Derived.Test.YtgdpoiapkaahfaaLkA
namespace Go.Proofs.Ytgdpoiapkaahfaa
open Go.RowKit
set_option maxHeartbeats 4000000
set_option maxRecDepth 100000
set_option linter.unusedSimpArgs false
set_option linter.unusedVariables false
attribute [local go_sem ↓] Go.wp_at_zero Go.wp_at_succ
/-- what put leaves -/
def PutPost (base b : Nat) (A : Option Addr) (r : Lnk.Ru) (s : Lnk.St) (w : World) (e : Ending) (w' : World) : Prop :=
  e = .returned (.tuple #[]) ∧ ∃ A' c', IsLk w' base b A' c' r s ∧ Keeps (Two b A) w w' ∧ (blkOf A' = blkOf A ∨ ∃ g, blkOf A' = some g ∧ w.heap.size ≤ g)
/-- behind put's first statement -/
def PutCut (base b c : Nat) (A : Option Addr) (r : Lnk.Ru) (s : Lnk.St) (t : Int) (d : List Int) (w : World) (v : Value) (wx : World) : Prop :=
  v = .pointer (some ⟨w.heap.size, 0, none⟩) ∧ IsLk wx base b A c r { s with x := Lnk.nx s.x } ∧ wx.heap[w.heap.size]? = some (.cells #[.int .i64 t, .string (strOfNums d)] 87 (0, 0)) ∧ Keeps (Two b A) w wx
theorem put_close (base b c c' : Nat) (A A' : Option Addr) (r : Lnk.Ru) (s : Lnk.St) (d : List Int) (t : Int) (i : Nat) (w wc W w4 : World) (hL2 : IsLk wc base b A c r { s with x := Lnk.nx s.x }) (hK2 : Keeps (Two b A) w wc) (hKW : Keeps (Two b A) wc W)
    (hTE : s.now + r.least + Lnk.dr s.x % (r.most - r.least + 1) = t) (hB4 : w4.heap[b]? = some (.cells (lkl r { s with x := Lnk.nx s.x } A c).toArray 77 (0, 0)))
    (hR4 : Row w4 base 87 2 A' (s.u.length + 1) c' ((mcells (Lnk.srt s.u)).take (i * 2) ++ (mcell (t, d) ++ (mcells (Lnk.srt s.u)).drop (i * 2)))) (hG4 : W.grownBy w4 (blkOf A))
    (hat : blkOf A' = blkOf A ∨ ∃ g, blkOf A' = some g ∧ W.heap.size ≤ g) (hi : i ≤ s.u.length) (h1 : ∀ (h : 0 < i), ∀ x, (Lnk.srt s.u)[i - 1]? = some x → x.1 ≤ t) (h2 : ∀ j x, (Lnk.srt s.u)[j]? = some x → i ≤ j → t < x.1) :
    PutPost base b A r (Lnk.put r s d) w (.returned (.tuple #[])) (w4.setCell ⟨b, 8, none⟩ (.slice A' (s.u.length + 1) c')) := by
  have hne : ∀ g, blkOf A' = some g → g ≠ b := by
    intro g hg
    rcases hat with h | ⟨g', h, hge⟩
    · exact hL2.ne (by rw [← h]; exact hg)
    · rw [h] at hg
      injection hg with hg
      have := hL2.lt
      have := hKW.size
      omega
  rw [mcells_put r s (t, d) hi h1 h2] at hR4
  have hput : Lnk.put r s d = { s with x := Lnk.nx s.x, u := s.u ++ [(t, d)] } := by unfold Lnk.put; rw [hTE]
  have hblk := blk_set hB4 8 (.slice A' (s.u.length + 1) c')
  rw [List.setIfInBounds_toArray] at hblk
  refine ⟨rfl, A', c', ⟨?_, ?_, hL2.ge⟩, ?_, ?_⟩
  · rw [hput]
    simpa [lkl] using hblk
  · rw [hput]
    simpa using hR4.far (p := ⟨b, 8, none⟩) (fun g hg => hne g hg) _
  · refine ((hK2.trans hKW (fun _ _ h => h)).trans (Keeps.of_grown hG4 (S := Two b A) (fun g hg => .inr hg)) (fun _ _ h => h)).setCell (.inl (Or.inl rfl)) _
  · rcases hat with h | ⟨g, h, hge⟩
    · exact .inl h
    · exact .inr ⟨g, h, by have := hK2.size; have := hKW.size; omega⟩
theorem put_any (base b c : Nat) (A : Option Addr) (r : Lnk.Ru) (s : Lnk.St) (d : List Int) (w : World) (h : IsLk w base b A c r s) (hr : Lnk.vld r = true) (hs : Lnk.Inv s) (hn : s.u.length < 1000) (hbase : base ≤ w.heap.size) :
    Calls Try.prog 39 #[.pointer (some ⟨b, 0, none⟩), .string (strOfNums d)] w (PutPost base b A r (Lnk.put r s d) w) := by
  rw [Lnk.vld_iff] at hr
  obtain ⟨⟨r1, r2⟩, ⟨r3, r4⟩, ⟨r5, r6⟩, r7, r8⟩ := hr
  obtain ⟨⟨x1, x2⟩, ⟨n1, n2⟩, hu, hm, _⟩ := hs
  obtain ⟨d1, d2⟩ := Lnk.dr_bd s.x
  have hD := Lib.hid (fun (W : World) (hW : IsLk W base b A c r s) => draw_lk base b c A r s (r.most - r.least + 1) W hW (by omega) (by omega))
  have hat1 := Int.emod_nonneg (Lnk.dr s.x) (show r.most - r.least + 1 ≠ 0 by omega)
  have hat2 := Int.emod_lt_of_pos (Lnk.dr s.x) (show 0 < r.most - r.least + 1 by omega)
  obtain ⟨at_, hat⟩ : ∃ at_, at_ = Lnk.dr s.x % (r.most - r.least + 1) := ⟨_, rfl⟩
  rw [← hat] at hat1 hat2
  have HA := Lib.hid hat
  rw [← hat] at hD
  have HM := Lib.hid hm
  have HU := Lib.hid hu
  clear hat hm x1 x2 d1 d2 hu
  have hL := h
  have hB := h.blk
  have hlt := h.lt
  have c7 : w.cell? ⟨b, 7, none⟩ = some (.int .i64 s.now) := blk_cell hB 7 rfl
  have c3 : w.cell? ⟨b, 3, none⟩ = some (.int .i64 r.least) := blk_cell hB 3 rfl
  have c4 : w.cell? ⟨b, 4, none⟩ = some (.int .i64 r.most) := blk_cell hB 4 rfl
  have HL := Lib.hid hL
  clear hL h hB
  have HT := Lib.hid HL.out.two
  go_enter Try.func39, Try.ntmps39
  go_upto_region 0 with fail
  go_cut [4] (fun s4 wx => PutCut base b c A r s (s.now + r.least + at_) d w s4 wx)
  case first =>
    have wa : IntKind.i64.wrap (s.now + r.least) = s.now + r.least := IntWalk.i64_in _ (by omega)
    have wb : IntKind.i64.wrap (r.most - r.least) = r.most - r.least := IntWalk.i64_in _ (by omega)
    have wc : IntKind.i64.wrap (r.most - r.least + 1) = r.most - r.least + 1 := IntWalk.i64_in _ (by omega)
    have wd : IntKind.i64.wrap (s.now + r.least + at_) = s.now + r.least + at_ := IntWalk.i64_in _ (by omega)
    go_region_held3 (fun w' => w'.cell? ⟨b, 7, none⟩ = some (.int .i64 s.now) ∧ w'.cell? ⟨b, 3, none⟩ = some (.int .i64 r.least) ∧ w'.cell? ⟨b, 4, none⟩ = some (.int .i64 r.most)) (first | (refine ⟨?_, ?_, ?_⟩ <;> simp [go_sem, *]; done) | go_keep) (first | (go_at_call 38; refine (hD.out _ (by first | exact HL.out | exact HL.out.drew | exact HL.out.alloc _ | exact HL.out.drew.alloc _ | exact (HL.out.alloc _).drew)).mono ?_; rintro e w2 ⟨rfl, hw2, hL2⟩; have HW2 := Lib.hid hw2; have HL2 := Lib.hid hL2; have d7 : w2.cell? ⟨b, 7, none⟩ = some (.int .i64 s.now) := blk_cell hL2.blk 7 rfl; have d3 : w2.cell? ⟨b, 3, none⟩ = some (.int .i64 r.least) := blk_cell hL2.blk 3 rfl; have d4 : w2.cell? ⟨b, 4, none⟩ = some (.int .i64 r.most) := blk_cell hL2.blk 4 rfl; try (have hN : w2.heap[w.heap.size]? = some (.cells #[.int .i64 0, .string ⟨#[]⟩] 87 (0, 0)) := (by rw [hw2]; refine blk_far ?_ (by simp; omega) _; first | exact heap_new _ _ | exact heap_new' _ _ _ (by simp)); have e0 := blk_cell (l := [.int .i64 0, .string ⟨#[]⟩]) hN 0 rfl; have e1 := blk_cell (l := [.int .i64 0, .string ⟨#[]⟩]) hN 1 rfl; have g0 := blk_free hN 0; have g1 := blk_free hN 1); clear hw2 hL2))
    all_goals (go_wp2_with fail; go_meet)
    all_goals refine ⟨rfl, ?_, ?_, ?_⟩
    · have h2 := HL2.out
      rw [HW2.out] at h2
      first | exact h2.alloc _ | exact (h2.alloc _).drew
    · exact heap_new' _ _ _ (by simp)
    · exact (by repeat (first | (with_reducible exact Keeps.refl _ _) | (with_reducible assumption) | (with_reducible refine Keeps.drew ?_) | (with_reducible refine Keeps.drewN ?_ _) | (with_reducible refine Keeps.alloc ?_ _) | ((with_reducible refine Keeps.setCell ?_ ?_ _); rotate_left; (first | (left; exact Or.inl rfl) | (right; (first | omega | (simp <;> omega)))); rotate_right)))
    · refine IsLk.far (IsLk.far HL2.out ?_ _) ?_ _ <;> (intro i hi; have := HT.out i hi; simp; omega)
    · exact (blk_set (blk_set hN 0 _) 1 _).trans (by simp)
    · rw [HW2.out]
      exact (by repeat (first | (with_reducible exact Keeps.refl _ _) | (with_reducible assumption) | (with_reducible refine Keeps.drew ?_) | (with_reducible refine Keeps.drewN ?_ _) | (with_reducible refine Keeps.alloc ?_ _) | ((with_reducible refine Keeps.setCell ?_ ?_ _); rotate_left; (first | (left; exact Or.inl rfl) | (right; (first | omega | (simp <;> omega)))); rotate_right)))
  case rest =>
    obtain ⟨rfl, hL2, hM2, hK2⟩ := hcut
    obtain ⟨t, ht⟩ : ∃ t, t = s.now + r.least + at_ := ⟨_, rfl⟩
    rw [← ht] at hM2
    have HTE := Lib.hid (show s.now + r.least + Lnk.dr s.x % (r.most - r.least + 1) = t by rw [ht, HA.out])
    clear ht hat1 hat2 hD HA
    have c8 : wc.cell? ⟨b, 8, none⟩ = some (.slice A s.u.length c) := blk_cell hL2.blk 8 rfl
    have f8 := blk_free hL2.blk 8
    have cm : wc.cell? ⟨w.heap.size, 0, none⟩ = some (.int .i64 t) := blk_cell (l := [.int .i64 t, .string (strOfNums d)]) hM2 0 rfl
    have cn : wc.cell? ⟨w.heap.size, 1, none⟩ = some (.string (strOfNums d)) := blk_cell (l := [.int .i64 t, .string (strOfNums d)]) hM2 1 rfl
    have hzc := hK2.size
    have HL2 := Lib.hid hL2
    have HM2 := Lib.hid hM2
    have HK2 := Lib.hid hK2
    clear hL2 hM2 hK2 c7 c3 c4 HL
    go_wp2_with fail
    go_loopw [5] (fun v wr => ∃ i q : Nat, v = .int .i64 i ∧ i ≤ s.u.length ∧ wr = wc.drewN q ∧ Hid (∀ j x, (Lnk.srt s.u)[j]? = some x → i ≤ j → t < x.1)) (fun v _ => (intOf v).toNat)
    case atStart => exact ⟨s.u.length, 0, by go_num, Nat.le_refl _, rfl, Lib.hid (fun j x hx hj => by rw [List.getElem?_eq_none (by rw [Lnk.length_srt]; exact hj)] at hx; cases hx)⟩
    case round =>
      obtain ⟨i, q, rfl, hi, rfl, HI⟩ := hrel
      rcases Nat.eq_zero_or_pos i with h0 | h0
      · subst h0
        go_wp2_with fail
        go_quiet (fail)
        go_wp2_with fail
        have HIE := Lib.hid (show ∀ (h : 0 < 0), ∀ x, (Lnk.srt s.u)[0 - 1]? = some x → x.1 ≤ t from (fun h => absurd h (by omega)))
        have HINS := Lib.hid (fun (W : World) (vb : Nat) (hW : Row W base 87 2 A s.u.length c (mcells (Lnk.srt s.u))) (hv : W.heap[vb]? = some (.cells #[.int .i64 t, .string (strOfNums d)] 87 (0, 0))) (hne : wc.heap.size ≤ vb) (hb : base ≤ W.heap.size) => ins_any A s.u.length c 0 (mcells (Lnk.srt s.u)) (mcell (t, d)) vb base W hW (by omega) (by omega) hv rfl (mcells_one [(t, d)]) (mcells_one _) (fun e => by have := (HL2.out.row.lt e).2; omega) hb)
        have HROW := HL2.out.row
        have hM2 := HM2.out
        have hB2 := HL2.out.blk
        have hwlt := lt_of_block hM2
        have hblt := HL2.out.lt
        have HNE := Lib.hid (show some w.heap.size ≠ blkOf A from fun e => absurd (HT.out _ (.inr e.symm)) (by omega))
        have HI2 := Lib.hid HI.out
        clear HI
        have al8 : ∀ k ob, ((wc.drewN k).alloc ob).cell? ⟨b, 8, none⟩ = some (.slice A s.u.length c) := fun k ob => (World.cell?_alloc_past ob b 8 hblt).trans c8
        have alm : ∀ k ob, ((wc.drewN k).alloc ob).cell? ⟨w.heap.size, 0, none⟩ = some (.int .i64 t) := fun k ob => (World.cell?_alloc_past ob w.heap.size 0 hwlt).trans cm
        have aln : ∀ k ob, ((wc.drewN k).alloc ob).cell? ⟨w.heap.size, 1, none⟩ = some (.string (strOfNums d)) := fun k ob => (World.cell?_alloc_past ob w.heap.size 1 hwlt).trans cn
        go_region_law (first | (go_simp; go_at_call 48; refine (HINS.out _ _ (by repeat (first | (with_reducible assumption) | (with_reducible apply Row.drew) | (with_reducible apply Row.drewN) | (with_reducible apply Row.alloc))) (by repeat (first | (with_reducible assumption) | ((with_reducible apply blk_far); rotate_left; (first | omega | (simp <;> omega)); rotate_right) | (with_reducible apply blk_drew) | (with_reducible apply blk_drewN) | (with_reducible exact heap_new _ _) | ((with_reducible apply heap_new'); (first | rfl | (simp <;> fail))) | (with_reducible apply blk_alloc))) (by first | omega | (simp; done) | (simp; omega)) (by first | omega | (simp; done) | (simp; omega))).mono ?_; rintro e w4 ⟨A', c', rfl, hrow4, hg4, hat4⟩; have hz4 := hg4.size; try simp at hz4; have hb4 : w4.heap[b]? = some (.cells (lkl r { s with x := Lnk.nx s.x } A c).toArray 77 (0, 0)) := (hg4.block b (by first | omega | (simp; done) | (simp; omega)) (by have := HL2.out.ne (g := b); intro e; exact this e.symm rfl)).trans (by repeat (first | (with_reducible assumption) | ((with_reducible apply blk_far); rotate_left; (first | omega | (simp <;> omega)); rotate_right) | (with_reducible apply blk_drew) | (with_reducible apply blk_drewN) | (with_reducible exact heap_new _ _) | ((with_reducible apply heap_new'); (first | rfl | (simp <;> fail))) | (with_reducible apply blk_alloc))); have hM4 : w4.heap[w.heap.size]? = some (.cells #[.int .i64 t, .string (strOfNums d)] 87 (0, 0)) := (hg4.block w.heap.size (by first | omega | (simp; done) | (simp; omega)) HNE.out).trans (by repeat (first | (with_reducible assumption) | ((with_reducible apply blk_far); rotate_left; (first | omega | (simp <;> omega)); rotate_right) | (with_reducible apply blk_drew) | (with_reducible apply blk_drewN) | (with_reducible exact heap_new _ _) | ((with_reducible apply heap_new'); (first | rfl | (simp <;> fail))) | (with_reducible apply blk_alloc))); have dm := blk_cell (l := [.int .i64 t, .string (strOfNums d)]) hM4 0 rfl; have dn := blk_cell (l := [.int .i64 t, .string (strOfNums d)]) hM4 1 rfl; have d8 : w4.cell? ⟨b, 8, none⟩ = some (.slice A s.u.length c) := blk_cell hb4 8 rfl; have f84 := blk_free hb4 8; have HB4 := Lib.hid hb4; have HR4 := Lib.hid hrow4; have HG4 := Lib.hid hg4; have HAT4 := Lib.hid hat4; clear hb4 hrow4 hg4 hat4))
        all_goals (go_end0; exact put_close base b c _ A _ r s d t 0 w wc _ w4 HL2.out HK2.out (by repeat (first | (with_reducible exact Keeps.refl _ _) | (with_reducible assumption) | (with_reducible refine Keeps.drew ?_) | (with_reducible refine Keeps.drewN ?_ _) | (with_reducible refine Keeps.alloc ?_ _) | ((with_reducible refine Keeps.setCell ?_ ?_ _); rotate_left; (first | (left; exact Or.inl rfl) | (right; (first | omega | (simp <;> omega)))); rotate_right))) HTE.out HB4.out HR4.out HG4.out HAT4.out (by omega) HIE.out HI2.out)
      · have hg0 : (0 : Int) < (i : Int) := by omega
        obtain ⟨x, hx⟩ : ∃ x, (Lnk.srt s.u)[i - 1]? = some x := ⟨_, List.getElem?_eq_getElem (by rw [Lnk.length_srt]; omega)⟩
        obtain ⟨g, o, cur, rfl, hgb, hgl, hgg, hgn, hgc, hgf, hgt, hgx, hgz⟩ := HL2.out.row.some_ (show 0 < s.u.length by omega)
        have c5 : wc.cell? ⟨g, o + (i - 1) * 2, none⟩ = some (.int .i64 x.1) := hgx _ _ ((mcells_at (Lnk.srt s.u) (i - 1) (by rw [Lnk.length_srt]; omega)).1.trans (by rw [List.getElem?_eq_getElem (by rw [Lnk.length_srt]; omega)] at hx; injection hx with hx; rw [hx]))
        have i1 : (0 : Int) ≤ (i : Int) - 1 := by omega
        have i2 : (i : Int) - 1 < (s.u.length : Int) := by omega
        have i3 : ((i : Int) - 1).toNat = i - 1 := by omega
        have i4 : IntKind.i64.wrap ((i : Int) - 1) = (i : Int) - 1 := IntWalk.i64_in _ (by omega)
        have HXX := Lib.hid hx
        have HGT := Lib.hid hgt
        clear hx hgt hgx hgz hgg
        by_cases htx : t < x.1
        · go_wp2_with fail
          go_quiet (fail)
          go_wp2_with fail
          go_roundw
          case rel => exact ⟨i - 1, _, by go_num, by omega, rfl, Lib.hid (fun j y hy hj => by
            rcases Nat.lt_or_ge j i with h | h
            · obtain rfl : j = i - 1 := by omega
              rw [HXX.out] at hy
              injection hy with hy
              rw [← hy]; exact htx
            · exact HI.out j y hy h)⟩
          case measure => simp [intOf]; omega
        · go_wp2_with fail
          go_quiet (fail)
          go_wp2_with fail
          have HIE := Lib.hid (show ∀ (h : 0 < i), ∀ x, (Lnk.srt s.u)[i - 1]? = some x → x.1 ≤ t from (fun h y hy => by rw [HXX.out] at hy; injection hy with hy; rw [← hy]; omega))
          have HINS := Lib.hid (fun (W : World) (vb : Nat) (hW : Row W base 87 2 (some ⟨g, o, none⟩) s.u.length c (mcells (Lnk.srt s.u))) (hv : W.heap[vb]? = some (.cells #[.int .i64 t, .string (strOfNums d)] 87 (0, 0))) (hne : wc.heap.size ≤ vb) (hb : base ≤ W.heap.size) => ins_any (some ⟨g, o, none⟩) s.u.length c i (mcells (Lnk.srt s.u)) (mcell (t, d)) vb base W hW (by omega) (by omega) hv rfl (mcells_one [(t, d)]) (mcells_one _) (fun e => by have := (HL2.out.row.lt e).2; omega) hb)
          have HROW := HL2.out.row
          have hM2 := HM2.out
          have hB2 := HL2.out.blk
          have hwlt := lt_of_block hM2
          have hblt := HL2.out.lt
          have HNE := Lib.hid (show some w.heap.size ≠ blkOf (some ⟨g, o, none⟩) from fun e => absurd (HT.out _ (.inr e.symm)) (by omega))
          have HI2 := Lib.hid HI.out
          clear HI
          have al8 : ∀ k ob, ((wc.drewN k).alloc ob).cell? ⟨b, 8, none⟩ = some (.slice (some ⟨g, o, none⟩) s.u.length c) := fun k ob => (World.cell?_alloc_past ob b 8 hblt).trans c8
          have alm : ∀ k ob, ((wc.drewN k).alloc ob).cell? ⟨w.heap.size, 0, none⟩ = some (.int .i64 t) := fun k ob => (World.cell?_alloc_past ob w.heap.size 0 hwlt).trans cm
          have aln : ∀ k ob, ((wc.drewN k).alloc ob).cell? ⟨w.heap.size, 1, none⟩ = some (.string (strOfNums d)) := fun k ob => (World.cell?_alloc_past ob w.heap.size 1 hwlt).trans cn
          go_region_law (first | (go_simp; go_at_call 48; refine (HINS.out _ _ (by repeat (first | (with_reducible assumption) | (with_reducible apply Row.drew) | (with_reducible apply Row.drewN) | (with_reducible apply Row.alloc))) (by repeat (first | (with_reducible assumption) | ((with_reducible apply blk_far); rotate_left; (first | omega | (simp <;> omega)); rotate_right) | (with_reducible apply blk_drew) | (with_reducible apply blk_drewN) | (with_reducible exact heap_new _ _) | ((with_reducible apply heap_new'); (first | rfl | (simp <;> fail))) | (with_reducible apply blk_alloc))) (by first | omega | (simp; done) | (simp; omega)) (by first | omega | (simp; done) | (simp; omega))).mono ?_; rintro e w4 ⟨A', c', rfl, hrow4, hg4, hat4⟩; have hz4 := hg4.size; try simp at hz4; have hb4 : w4.heap[b]? = some (.cells (lkl r { s with x := Lnk.nx s.x } (some ⟨g, o, none⟩) c).toArray 77 (0, 0)) := (hg4.block b (by first | omega | (simp; done) | (simp; omega)) (by have := HL2.out.ne (g := b); intro e; exact this e.symm rfl)).trans (by repeat (first | (with_reducible assumption) | ((with_reducible apply blk_far); rotate_left; (first | omega | (simp <;> omega)); rotate_right) | (with_reducible apply blk_drew) | (with_reducible apply blk_drewN) | (with_reducible exact heap_new _ _) | ((with_reducible apply heap_new'); (first | rfl | (simp <;> fail))) | (with_reducible apply blk_alloc))); have hM4 : w4.heap[w.heap.size]? = some (.cells #[.int .i64 t, .string (strOfNums d)] 87 (0, 0)) := (hg4.block w.heap.size (by first | omega | (simp; done) | (simp; omega)) HNE.out).trans (by repeat (first | (with_reducible assumption) | ((with_reducible apply blk_far); rotate_left; (first | omega | (simp <;> omega)); rotate_right) | (with_reducible apply blk_drew) | (with_reducible apply blk_drewN) | (with_reducible exact heap_new _ _) | ((with_reducible apply heap_new'); (first | rfl | (simp <;> fail))) | (with_reducible apply blk_alloc))); have dm := blk_cell (l := [.int .i64 t, .string (strOfNums d)]) hM4 0 rfl; have dn := blk_cell (l := [.int .i64 t, .string (strOfNums d)]) hM4 1 rfl; have d8 : w4.cell? ⟨b, 8, none⟩ = some (.slice (some ⟨g, o, none⟩) s.u.length c) := blk_cell hb4 8 rfl; have f84 := blk_free hb4 8; have HB4 := Lib.hid hb4; have HR4 := Lib.hid hrow4; have HG4 := Lib.hid hg4; have HAT4 := Lib.hid hat4; clear hb4 hrow4 hg4 hat4))
          all_goals (go_end0; exact put_close base b c _ (some ⟨g, o, none⟩) _ r s d t i w wc _ w4 HL2.out HK2.out (by repeat (first | (with_reducible exact Keeps.refl _ _) | (with_reducible assumption) | (with_reducible refine Keeps.drew ?_) | (with_reducible refine Keeps.drewN ?_ _) | (with_reducible refine Keeps.alloc ?_ _) | ((with_reducible refine Keeps.setCell ?_ ?_ _); rotate_left; (first | (left; exact Or.inl rfl) | (right; (first | omega | (simp <;> omega)))); rotate_right))) HTE.out HB4.out HR4.out HG4.out HAT4.out (by omega) HIE.out HI2.out)
end Go.Proofs.Ytgdpoiapkaahfaa

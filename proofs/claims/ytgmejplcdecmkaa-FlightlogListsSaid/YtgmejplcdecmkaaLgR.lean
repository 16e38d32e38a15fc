/- Append of the reference. -/
import Derived.Test.YtgmejplcdecmkaaLgO
namespace Go.Proofs.Ytgmejplcdecmkaa
open Go.RowKit
set_option maxHeartbeats 16000000
set_option maxRecDepth 100000
set_option linter.unusedSimpArgs false
set_option linter.unusedVariables false
attribute [local go_sem ↓] Go.wp_at_zero Go.wp_at_succ
/-- behind the reference's append of the record x -/
def RAppPost (vs : List Lg.RV) (X : Nat → Prop) (x : Lg.Rc) (w : World) (e : Ending) (w' : World) : Prop :=
  ∃ A' c' vs', e = .returned (.tuple #[.slice A' vs'.length c', .int .i64 (Lg.addE (Lg.xs vs) x)]) ∧ Lg.IsJ w' (fun i => X i ∨ w.heap.size ≤ i) A' vs'.length vs' ∧ Lg.xs vs' = Lg.add (Lg.xs vs) x ∧ Below w.heap.size w w'
section
variable {w w' : World} {base p c n : Nat} {X X' : Nat → Prop} {A : Option Addr} {vs : List Lg.RV}
theorem rjapp_no (h : Lg.Rr w w.heap.size A n vs) (hn : n ≤ 1000000) (v : Lg.RV) (hv : Lg.Ok w w.heap.size v) (he : Lg.addE (Lg.xs vs) v.x ≠ 0) :
    Calls Try.prog 50 #[.slice A n c, v.val] w fun e w' => e = .returned (.tuple #[.slice A n c, .int .i64 (Lg.addE (Lg.xs vs) v.x)]) ∧ Below w.heap.size w w' := by
  have M := Lib.hid (fun (W : World) (hW : Below w.heap.size w W) => rjmay_any (c := c) (h.up hW) hn v (hv.up hW))
  have HN := Lib.hid (show (Lg.xs vs).length = n by rw [Lg.xs_len, h.len])
  obtain ⟨C, hval, hC, hCs⟩ := rv_opaque v
  rw [hval] at M ⊢
  clear h hv hval hC
  obtain ⟨m, hm⟩ : ∃ m, m = Lg.mayE (Lg.xs vs) v.x := ⟨_, rfl⟩
  rw [← hm] at M
  by_cases h0 : m = 0
  · have hfull : 10000 ≤ n := by
      rcases Nat.lt_or_ge n 10000 with h1 | h1
      · exact absurd (Lg.addE_ok (by rw [← hm]; exact h0) (by rw [HN.out]; exact h1)) he
      · exact h1
    have E := Lib.hid (show Lg.addE (Lg.xs vs) v.x = 7 by unfold Lg.addE; rw [if_neg (by rw [← hm]; simp [h0]), if_pos (by rw [HN.out]; exact hfull)])
    subst h0
    clear he hm
    rw [E.out]
    go_enter Try.func50, Try.ntmps50
    go_upto_region 1 with fail
    have hbx := heap_new w (.cells C 32 (0, 0))
    go_wp2_with (refine wpList_load_row rfl 32 _ rfl _ rfl 32 _ (0, 0) _ hbx Try.underlying32 rfl (by rw [hCs]; kernel_rfl) ?_)
    refine (M.out _ (by repeat (first | (with_reducible exact Below.refl _ _) | (with_reducible refine Below.drew ?_) | (with_reducible refine below_drewN ?_ _) | ((with_reducible refine Below.alloc ?_ ?_ _); rotate_left; (first | omega | (simp <;> omega)); rotate_right) | ((with_reducible refine Below.setCell ?_ ?_ _); rotate_left; (first | omega | (simp <;> omega)); rotate_right) | (with_reducible assumption) | (refine Below.trans ?_ (Below.mono (by assumption) ?_); rotate_left; (first | omega | (simp <;> omega)); rotate_right)))).mono ?_
    rintro e w1 ⟨rfl, hb1⟩
    have hz1 := hb1.size
    simp only [World.size_alloc] at hz1
    go_wp2_with fail
    go_ret2
    exact ⟨rfl, (by repeat (first | (with_reducible exact Below.refl _ _) | (with_reducible refine Below.drew ?_) | (with_reducible refine below_drewN ?_ _) | ((with_reducible refine Below.alloc ?_ ?_ _); rotate_left; (first | omega | (simp <;> omega)); rotate_right) | ((with_reducible refine Below.setCell ?_ ?_ _); rotate_left; (first | omega | (simp <;> omega)); rotate_right) | (with_reducible assumption) | (refine Below.trans ?_ (Below.mono (by assumption) ?_); rotate_left; (first | omega | (simp <;> omega)); rotate_right)))⟩
  · have E := Lib.hid (show Lg.addE (Lg.xs vs) v.x = m by unfold Lg.addE; rw [if_pos (by rw [← hm]; exact h0), ← hm])
    have hmz : (m != 0) = true := by simp [h0]
    clear he hm
    rw [E.out]
    go_enter Try.func50, Try.ntmps50
    go_upto_region 1 with fail
    have hbx := heap_new w (.cells C 32 (0, 0))
    go_wp2_with (refine wpList_load_row rfl 32 _ rfl _ rfl 32 _ (0, 0) _ hbx Try.underlying32 rfl (by rw [hCs]; kernel_rfl) ?_)
    refine (M.out _ (by repeat (first | (with_reducible exact Below.refl _ _) | (with_reducible refine Below.drew ?_) | (with_reducible refine below_drewN ?_ _) | ((with_reducible refine Below.alloc ?_ ?_ _); rotate_left; (first | omega | (simp <;> omega)); rotate_right) | ((with_reducible refine Below.setCell ?_ ?_ _); rotate_left; (first | omega | (simp <;> omega)); rotate_right) | (with_reducible assumption) | (refine Below.trans ?_ (Below.mono (by assumption) ?_); rotate_left; (first | omega | (simp <;> omega)); rotate_right)))).mono ?_
    rintro e w1 ⟨rfl, hb1⟩
    have hz1 := hb1.size
    simp only [World.size_alloc] at hz1
    go_wp2_with fail
    go_ret2
    exact ⟨rfl, (by repeat (first | (with_reducible exact Below.refl _ _) | (with_reducible refine Below.drew ?_) | (with_reducible refine below_drewN ?_ _) | ((with_reducible refine Below.alloc ?_ ?_ _); rotate_left; (first | omega | (simp <;> omega)); rotate_right) | ((with_reducible refine Below.setCell ?_ ?_ _); rotate_left; (first | omega | (simp <;> omega)); rotate_right) | (with_reducible assumption) | (refine Below.trans ?_ (Below.mono (by assumption) ?_); rotate_left; (first | omega | (simp <;> omega)); rotate_right)))⟩
namespace Lg
/-- the list and the record's box, ahead of the append -/
def RAppCut (w : World) (A : Option Addr) (n : Nat) (vs : List RV) (X : Nat → Prop) (y : RV) (wx : World) : Prop :=
  wx.heap[w.heap.size]? = some (.cells y.cells.toArray 32 (0, 0)) ∧ IsJ wx X A n vs ∧ Ow wx w.heap.size y.A y.x.f.d.length y.cap y.x.f.d ∧ Below w.heap.size w wx
theorem RAppCut.of {w w3 w5 : World} {A : Option Addr} {n : Nat} {vs : List RV} {X : Nat → Prop} {x : Rc} {A1 : Option Addr} {c1 : Nat} (J0 : IsJ w X A n vs) (HB3 : Below w.heap.size w w3) (O3 : Ow w3 w.heap.size A1 x.f.d.length c1 x.f.d) (HB5 : Below w3.heap.size w3 w5)
    (k5 : w5.heap[w.heap.size]? = some (.cells (RV.cells ⟨x, A1, c1⟩).toArray 32 (0, 0))) (N0 : Int) :
    RAppCut w A n vs X ⟨{ x with sum := N0 }, A1, c1⟩ (w5.setCell ⟨w.heap.size, 12, none⟩ (.int .u32 N0)) := by
  have HB : Below w.heap.size w (w5.setCell ⟨w.heap.size, 12, none⟩ (.int .u32 N0)) := ((HB3.trans (HB5.mono HB3.size))).setCell (p := ⟨w.heap.size, 12, none⟩) (Nat.le_refl _) _
  have K : Keeps (fun i => i = w.heap.size) w5 (w5.setCell ⟨w.heap.size, 12, none⟩ (.int .u32 N0)) := (Keeps.refl (fun i => i = w.heap.size) w5).setCell (p := ⟨w.heap.size, 12, none⟩) (.inl rfl) _
  refine ⟨blk_set k5 12 _, J0.below HB, Ow.kept (O3.below HB5 (Nat.le_refl _)) K (fun g e hg => ?_), HB⟩
  have O5 := O3.below HB5 (Nat.le_refl _)
  simp only at e
  rw [e] at O5
  obtain ⟨cur, hc, _⟩ := O5.block
  exact (Ty.ne ⟨_, hc⟩ ⟨_, k5⟩ (by decide)) hg
end Lg
theorem rjapp_done {wc w7 : World} {x : Lg.Rc} {N0 : Int} {A1 A2 : Option Addr} {c1 c2 m : Nat} (J0 : Lg.IsJ w X A n vs) (hm : m = n + 1) (HA : Lg.addE (Lg.xs vs) x = 0 ∧ Lg.add (Lg.xs vs) x = Lg.xs vs ++ [Lg.own (Lg.xs vs) x]) (NX : N0 = Lg.sumN (Lg.endS (Lg.xs vs)) x)
    (HB : Below w.heap.size w wc) (O4 : Ow wc w.heap.size A1 x.f.d.length c1 x.f.d) (HB7 : Below wc.heap.size wc w7)
    (RO : w7.ownsRow w.heap.size 32 13 (.slice A2 m c2) m (Lg.cs vs ++ Lg.RV.cells ⟨{ x with sum := N0 }, A1, c1⟩)) : RAppPost vs X x w (.returned (.tuple #[.slice A2 m c2, .int .i64 0])) w7 := by
  have hy : Lg.Dt wc (fun i => w.heap.size ≤ i) ⟨{ x with sum := N0 }, A1, c1⟩ := Lg.Dt.of_own (x := { x with sum := N0 }) O4 (fun g e => by
    rcases O4.form with ⟨e', _⟩ | ⟨g', e', hh, _⟩
    · rw [e'] at e; cases e
    · rw [e'] at e; injection e with e; injection e with e; omega)
  have hown : ({ x with sum := N0 } : Lg.Rc) = Lg.own (Lg.xs vs) x := by rw [NX]; rfl
  have HBw : Below w.heap.size w w7 := HB.trans (HB7.mono HB.size)
  have hl : (vs ++ [(⟨{ x with sum := N0 }, A1, c1⟩ : Lg.RV)]).length = m := by rw [List.length_append, J0.len, hm]; rfl
  refine ⟨A2, c2, vs ++ [⟨{ x with sum := N0 }, A1, c1⟩], by rw [hl, HA.1], ⟨?_, ?_, ?_⟩, ?_, HBw⟩
  · rw [hl, Lg.cs_app, Lg.cs_one]
    exact Rds.of_own RO
  · intro hn a e
    subst e
    rcases RO.2 with ⟨e', _⟩ | ⟨g, cap, cur, e', hb, hh, _⟩
    · cases e'
    · injection e' with e1 e2 e3
      injection e1 with e1
      subst e1
      exact ⟨.inr hb, ⟨_, hh⟩⟩
  · intro y hm
    rcases List.mem_append.1 hm with hm | hm
    · exact ((J0.below HBw).dat y hm).mono (fun i _ h => .inl h)
    · rw [List.mem_singleton.1 hm]
      exact (hy.below HB7).mono (fun i _ h => .inr h)
  · rw [Lg.xs_app, HA.2]
    show Lg.xs vs ++ [_] = _
    rw [← hown]
theorem rjapp_yes (h : Lg.IsJ w X A n vs) (v : Lg.RV) (hv : Lg.Ok w w.heap.size v) (he : Lg.addE (Lg.xs vs) v.x = 0) (hd : v.x.f.d.length ≤ 1000) :
    Calls Try.prog 50 #[.slice A n c, v.val] w fun e w' => RAppPost vs X v.x w e w' := by
  obtain ⟨hm0, hlen0⟩ := Lg.addE_zero he
  rw [Lg.xs_len, h.len] at hlen0
  have M := Lib.hid (fun (W : World) (hW : Below w.heap.size w W) => hm0 ▸ rjmay_any (c := c) (h.rr.up hW) (by omega) v (hv.up hW))
  have EN := Lib.hid (fun (W : World) (hW : Below w.heap.size w W) => rjend_any (c := c) (h.rr.up hW) (by omega))
  have SU := Lib.hid (fun (b : Int) (W : World) (A1 : Option Addr) (c1 : Nat) (hW : Lg.Ok W W.heap.size ⟨v.x, A1, c1⟩) => rlsum_any b ⟨v.x, A1, c1⟩ W hW)
  have hs0 : Lg.sumO (Lg.endS (Lg.xs vs)) v.x = Lg.sumN (Lg.endS (Lg.xs vs)) v.x := by unfold Lg.sumO; rw [if_pos (Lg.mayE_fine hm0)]
  have HJ := Lib.hid h
  have HV := Lib.hid hv
  have HA := Lib.hid (show Lg.addE (Lg.xs vs) v.x = 0 ∧ Lg.add (Lg.xs vs) v.x = Lg.xs vs ++ [Lg.own (Lg.xs vs) v.x] from ⟨he, by unfold Lg.add; rw [if_pos he]⟩)
  obtain ⟨i0, hi0, hza, hzb, hzc⟩ := info_parts info_u8
  obtain ⟨j0, hj0, hya, hyb, hyc⟩ := info_parts info_rec
  clear h hv hm0 he
  obtain ⟨⟨t, a, k, x, y, z, s, ⟨fk, ff, ft, fs, d⟩, sum⟩, D, cap⟩ := v
  simp only at SU hd hs0
  simp only [Lg.RV.val, Lg.RV.cells] at M SU ⊢
  have HD := Lib.hid (show Rd w w.heap.size D d.length d from HV.out.1)
  go_enter Try.func50, Try.ntmps50
  go_upto_region 1 with fail
  have hbx := heap_new w (.cells #[.int .i64 t, .int .i64 a, .int .i64 k, .int .i64 x, .int .i64 y, .int .i64 z, .int .i64 s, .int .i64 fk, .int .i64 ff, .int .i64 ft, .int .i64 fs, .slice D d.length cap, .int .u32 sum] 32 (0, 0))
  go_wp2_with (refine wpList_load_row rfl 32 _ rfl _ rfl 32 _ (0, 0) _ hbx Try.underlying32 rfl (by kernel_rfl) ?_)
  refine (M.out _ (by repeat (first | (with_reducible exact Below.refl _ _) | (with_reducible refine Below.drew ?_) | (with_reducible refine below_drewN ?_ _) | ((with_reducible refine Below.alloc ?_ ?_ _); rotate_left; (first | omega | (simp <;> omega)); rotate_right) | ((with_reducible refine Below.setCell ?_ ?_ _); rotate_left; (first | omega | (simp <;> omega)); rotate_right) | (with_reducible assumption) | (refine Below.trans ?_ (Below.mono (by assumption) ?_); rotate_left; (first | omega | (simp <;> omega)); rotate_right)))).mono ?_
  rintro e w1 ⟨rfl, hb1⟩
  have hz1 := hb1.size
  simp only [World.size_alloc] at hz1
  have hby := blk_below hbx hb1 (by simp)
  have HB1 := (show Below w.heap.size w w1 from (by repeat (first | (with_reducible exact Below.refl _ _) | (with_reducible refine Below.drew ?_) | (with_reducible refine below_drewN ?_ _) | ((with_reducible refine Below.alloc ?_ ?_ _); rotate_left; (first | omega | (simp <;> omega)); rotate_right) | ((with_reducible refine Below.setCell ?_ ?_ _); rotate_left; (first | omega | (simp <;> omega)); rotate_right) | (with_reducible assumption) | (refine Below.trans ?_ (Below.mono (by assumption) ?_); rotate_left; (first | omega | (simp <;> omega)); rotate_right))))
  have rd1 := (HD.out.below HB1 (Nat.le_refl _)).reads
  clear hb1 hbx
  have cy_0 := blk_cell hby 0 rfl; have fy_0 := blk_free hby 0; have cy_1 := blk_cell hby 1 rfl; have fy_1 := blk_free hby 1; have cy_2 := blk_cell hby 2 rfl; have fy_2 := blk_free hby 2; have cy_3 := blk_cell hby 3 rfl; have fy_3 := blk_free hby 3; have cy_4 := blk_cell hby 4 rfl; have fy_4 := blk_free hby 4; have cy_5 := blk_cell hby 5 rfl; have fy_5 := blk_free hby 5; have cy_6 := blk_cell hby 6 rfl; have fy_6 := blk_free hby 6; have cy_7 := blk_cell hby 7 rfl; have fy_7 := blk_free hby 7; have cy_8 := blk_cell hby 8 rfl; have fy_8 := blk_free hby 8; have cy_9 := blk_cell hby 9 rfl; have fy_9 := blk_free hby 9; have cy_10 := blk_cell hby 10 rfl; have fy_10 := blk_free hby 10; have cy_11 := blk_cell hby 11 rfl; have fy_11 := blk_free hby 11; have cy_12 := blk_cell hby 12 rfl; have fy_12 := blk_free hby 12; have ly := lt_of_block hby
  go_upto_region 7 with (at_builtin; refine wpList_append_any _ rfl (.const (.slice none 0 0)) (.tmp 20) 28 rfl (w.heap.size + 1) 5 i0 _ 1 1 Try.underlying28 hi0 hza hzb hzc rfl (by omega) (.slice none 0 0) 0 [] rfl (World.ownsRow_nil _ _ _ _) w.heap.size D d.length cap (bv d) rfl rd1 (bv_one d) (by simp only [maxLen]; omega) (by omega) (by omega) ?_; intro v2 w2 hown2 hg2 hat2; obtain ⟨A1, c1, rfl⟩ := own_form hown2; have hbz := blk_only hby hg2 (by intro e; cases e); have hs2 := hg2.size; (try simp only [World.size_alloc] at hs2); have HB2 := HB1.grown hg2 (by omega) (fun g e => by cases e); have O2 := Lib.hid hown2; clear cy_0 fy_0 cy_1 fy_1 cy_2 fy_2 cy_3 fy_3 cy_4 fy_4 cy_5 fy_5 cy_6 fy_6 cy_7 fy_7 cy_8 fy_8 cy_9 fy_9 cy_10 fy_10 cy_11 fy_11 cy_12 fy_12; clear hown2 hg2 hat2; have cz_0 := blk_cell hbz 0 rfl; have fz_0 := blk_free hbz 0; have cz_1 := blk_cell hbz 1 rfl; have fz_1 := blk_free hbz 1; have cz_2 := blk_cell hbz 2 rfl; have fz_2 := blk_free hbz 2; have cz_3 := blk_cell hbz 3 rfl; have fz_3 := blk_free hbz 3; have cz_4 := blk_cell hbz 4 rfl; have fz_4 := blk_free hbz 4; have cz_5 := blk_cell hbz 5 rfl; have fz_5 := blk_free hbz 5; have cz_6 := blk_cell hbz 6 rfl; have fz_6 := blk_free hbz 6; have cz_7 := blk_cell hbz 7 rfl; have fz_7 := blk_free hbz 7; have cz_8 := blk_cell hbz 8 rfl; have fz_8 := blk_free hbz 8; have cz_9 := blk_cell hbz 9 rfl; have fz_9 := blk_free hbz 9; have cz_10 := blk_cell hbz 10 rfl; have fz_10 := blk_free hbz 10; have cz_11 := blk_cell hbz 11 rfl; have fz_11 := blk_free hbz 11; have cz_12 := blk_cell hbz 12 rfl; have fz_12 := blk_free hbz 12; have lz := lt_of_block hbz)
  simp only [Nat.zero_add, List.nil_append] at O2 ⊢
  have O2' := Lib.hid (show Ow w2 (w.heap.size + 1) A1 d.length c1 d from ⟨O2.out, HD.out.2.1⟩)
  generalize hW3 : World.setCell _ _ _ = w3
  have hb3 : w3.heap[w.heap.size]? = some (.cells #[.int .i64 t, .int .i64 a, .int .i64 k, .int .i64 x, .int .i64 y, .int .i64 z, .int .i64 s, .int .i64 fk, .int .i64 ff, .int .i64 ft, .int .i64 fs, .slice A1 d.length c1, .int .u32 sum] 32 (0, 0)) := by rw [← hW3]; exact (by apply Eq.trans; (repeat (first | (with_reducible assumption) | (with_reducible apply blk_set) | ((with_reducible apply blk_far); rotate_left; (first | omega | (simp <;> omega)); rotate_right) | (with_reducible apply blk_drew) | (with_reducible apply blk_drewN) | ((with_reducible apply heap_new'); (first | rfl | (simp <;> fail))) | (with_reducible apply blk_alloc))); (first | with_reducible rfl | (simp <;> fail) | rfl))
  have HB3 := Lib.hid (show Below w.heap.size w w3 by rw [← hW3]; exact HB2.setCell (p := ⟨w.heap.size, 11, none⟩) (Nat.le_refl _) _)
  have O3 := Lib.hid (show Ow w3 w.heap.size A1 d.length c1 d by
    rw [← hW3]
    refine (Ow.kept O2'.out ((Keeps.refl (fun i => i = w.heap.size) w2).setCell (p := ⟨w.heap.size, 11, none⟩) (.inl rfl) _) (fun g e => ?_)).more (Nat.le_succ _)
    rcases O2'.out.form with ⟨e', _⟩ | ⟨g', e', hh, _⟩
    · rw [e'] at e; cases e
    · rw [e'] at e; injection e with e; injection e with e; omega)
  clear hW3 O2 O2' HB2 HB1 hs2 rd1
  clear cz_0 fz_0 cz_1 fz_1 cz_2 fz_2 cz_3 fz_3 cz_4 fz_4 cz_5 fz_5 cz_6 fz_6 cz_7 fz_7 cz_8 fz_8 cz_9 fz_9 cz_10 fz_10 cz_11 fz_11 cz_12 fz_12
  clear hbz hby
  have HB3v := HB3.out
  have hz3 := HB3v.size
  have hlt3 := lt_of_block hb3
  have HS : Hid (∀ S0, S0 = Lg.endS (Lg.xs vs) → Lg.sumO S0 ⟨t, a, k, x, y, z, s, ⟨fk, ff, ft, fs, d⟩, sum⟩ = Lg.sumN (Lg.endS (Lg.xs vs)) ⟨t, a, k, x, y, z, s, ⟨fk, ff, ft, fs, d⟩, sum⟩) := Lib.hid (fun S0 e => by rw [e]; exact hs0)
  clear hs0
  obtain ⟨S0, hS0⟩ : ∃ S0, S0 = Lg.endS (Lg.xs vs) := ⟨_, rfl⟩
  have HS1 := Lib.hid (HS.out S0 hS0)
  rw [← hS0] at EN
  obtain ⟨N0, hN0⟩ : ∃ N0, N0 = Lg.sumO S0 ⟨t, a, k, x, y, z, s, ⟨fk, ff, ft, fs, d⟩, sum⟩ := ⟨_, rfl⟩
  have NX := Lib.hid (show N0 = Lg.sumN (Lg.endS (Lg.xs vs)) ⟨t, a, k, x, y, z, s, ⟨fk, ff, ft, fs, d⟩, sum⟩ from hN0.trans HS1.out)
  have HNN := Lib.hid hN0
  clear HS HS1 hS0 hN0
  go_cut [] from 24 to 31 (fun wx => Lg.RAppCut w A n vs X ⟨⟨t, a, k, x, y, z, s, ⟨fk, ff, ft, fs, d⟩, N0⟩, A1, c1⟩ wx)
  case first =>
    have cz_0 := blk_cell hb3 0 rfl; have fz_0 := blk_free hb3 0; have cz_1 := blk_cell hb3 1 rfl; have fz_1 := blk_free hb3 1; have cz_2 := blk_cell hb3 2 rfl; have fz_2 := blk_free hb3 2; have cz_3 := blk_cell hb3 3 rfl; have fz_3 := blk_free hb3 3; have cz_4 := blk_cell hb3 4 rfl; have fz_4 := blk_free hb3 4; have cz_5 := blk_cell hb3 5 rfl; have fz_5 := blk_free hb3 5; have cz_6 := blk_cell hb3 6 rfl; have fz_6 := blk_free hb3 6; have cz_7 := blk_cell hb3 7 rfl; have fz_7 := blk_free hb3 7; have cz_8 := blk_cell hb3 8 rfl; have fz_8 := blk_free hb3 8; have cz_9 := blk_cell hb3 9 rfl; have fz_9 := blk_free hb3 9; have cz_10 := blk_cell hb3 10 rfl; have fz_10 := blk_free hb3 10; have cz_11 := blk_cell hb3 11 rfl; have fz_11 := blk_free hb3 11; have cz_12 := blk_cell hb3 12 rfl; have fz_12 := blk_free hb3 12; have lz := lt_of_block hb3
    go_region_with (first | (go_at_call 49; refine (EN.out _ (by repeat (first | (with_reducible exact Below.refl _ _) | (with_reducible refine Below.drew ?_) | (with_reducible refine below_drewN ?_ _) | ((with_reducible refine Below.alloc ?_ ?_ _); rotate_left; (first | omega | (simp <;> omega)); rotate_right) | ((with_reducible refine Below.setCell ?_ ?_ _); rotate_left; (first | omega | (simp <;> omega)); rotate_right) | (with_reducible assumption) | (refine Below.trans ?_ (Below.mono (by assumption) ?_); rotate_left; (first | omega | (simp <;> omega)); rotate_right)))).mono ?_; rintro e w4 ⟨rfl, rfl⟩) | (go_at_call 13; refine (SU.out _ _ _ _ (Lg.Dt.ok (Lg.Dt.of_own (X := fun _ => True) (x := ⟨t, a, k, x, y, z, s, ⟨fk, ff, ft, fs, d⟩, sum⟩) (O3.out.below (B := w3.heap.size) (by repeat (first | (with_reducible exact Below.refl _ _) | (with_reducible refine Below.drew ?_) | (with_reducible refine below_drewN ?_ _) | ((with_reducible refine Below.alloc ?_ ?_ _); rotate_left; (first | omega | (simp <;> omega)); rotate_right) | ((with_reducible refine Below.setCell ?_ ?_ _); rotate_left; (first | omega | (simp <;> omega)); rotate_right) | (with_reducible assumption) | (refine Below.trans ?_ (Below.mono (by assumption) ?_); rotate_left; (first | omega | (simp <;> omega)); rotate_right))) (Nat.le_refl _)) (fun _ _ => trivial)))).mono ?_; rintro e w5 ⟨rfl, hb5⟩; have hz5 := hb5.size; (try simp at hz5); have k5 := blk_below (q := w.heap.size) (by repeat (first | (with_reducible assumption) | (with_reducible apply blk_drew) | (with_reducible apply blk_drewN) | ((with_reducible apply blk_far); rotate_left; (first | omega | (simp <;> omega)); rotate_right) | (with_reducible apply blk_alloc))) hb5 (by first | omega | (simp; done) | (simp; omega)); have cz := blk_cell k5 12 rfl; have fz := blk_free k5 12; have HB5 := Lib.hid (show Below w3.heap.size w3 w5 from (by repeat (first | (with_reducible exact Below.refl _ _) | (with_reducible refine Below.drew ?_) | (with_reducible refine below_drewN ?_ _) | ((with_reducible refine Below.alloc ?_ ?_ _); rotate_left; (first | omega | (simp <;> omega)); rotate_right) | ((with_reducible refine Below.setCell ?_ ?_ _); rotate_left; (first | omega | (simp <;> omega)); rotate_right) | (with_reducible assumption) | (refine Below.trans ?_ (Below.mono (by assumption) ?_); rotate_left; (first | omega | (simp <;> omega)); rotate_right))))))
    all_goals (go_wp2_with fail; rw [← HNN.out]; go_meet; exact Lg.RAppCut.of (x := ⟨t, a, k, x, y, z, s, ⟨fk, ff, ft, fs, d⟩, sum⟩) HJ.out HB3.out O3.out HB5.out k5 N0)
  case rest =>
    obtain ⟨hbx, hj, ho, hB⟩ := hcut
    have O4 := Lib.hid ho
    have HB4 := Lib.hid hB
    have hzx := hB.size
    have RJ := hj.row.reads
    have hlx := lt_of_block hbx
    simp only [Lg.RV.cells] at hbx
    have cy_0 := blk_cell hbx 0 rfl; have fy_0 := blk_free hbx 0; have cy_1 := blk_cell hbx 1 rfl; have fy_1 := blk_free hbx 1; have cy_2 := blk_cell hbx 2 rfl; have fy_2 := blk_free hbx 2; have cy_3 := blk_cell hbx 3 rfl; have fy_3 := blk_free hbx 3; have cy_4 := blk_cell hbx 4 rfl; have fy_4 := blk_free hbx 4; have cy_5 := blk_cell hbx 5 rfl; have fy_5 := blk_free hbx 5; have cy_6 := blk_cell hbx 6 rfl; have fy_6 := blk_free hbx 6; have cy_7 := blk_cell hbx 7 rfl; have fy_7 := blk_free hbx 7; have cy_8 := blk_cell hbx 8 rfl; have fy_8 := blk_free hbx 8; have cy_9 := blk_cell hbx 9 rfl; have fy_9 := blk_free hbx 9; have cy_10 := blk_cell hbx 10 rfl; have fy_10 := blk_free hbx 10; have cy_11 := blk_cell hbx 11 rfl; have fy_11 := blk_free hbx 11; have cy_12 := blk_cell hbx 12 rfl; have fy_12 := blk_free hbx 12; have ly := lt_of_block hbx
    clear hj ho hB SU EN M HB3v O3 HB3 hb3
    go_upto_region 8 with fail
    go_region_law (first | (refine step_append_any _ rfl (.const (.slice none 0 0)) (.tmp 32) 45 rfl w.heap.size 32 j0 _ 13 120 Try.underlying45 hj0 hya hyb hyc rfl (by omega) (.slice none 0 0) 0 [] rfl (World.ownsRow_nil _ _ _ _) wc.heap.size A n c (Lg.cs vs) rfl (by repeat (first | (with_reducible assumption) | (with_reducible apply Reads.drew) | (with_reducible apply Reads.drewN) | ((with_reducible apply Reads.alloc); rotate_left; (first | omega | (simp <;> omega)); rotate_right))) (Lg.cs_ones vs) (by simp only [maxLen]; omega) (by omega) (by first | omega | (simp; try omega)) ?_; intro v6 w6 hown6 hg6 hat6; have kb := blk_only (q := w.heap.size) (by repeat (first | (with_reducible assumption) | (with_reducible apply blk_drew) | (with_reducible apply blk_drewN) | ((with_reducible apply blk_far); rotate_left; (first | omega | (simp <;> omega)); rotate_right) | (with_reducible apply blk_alloc))) hg6 (by intro e; cases e); have G6 := Lib.hid hg6; have AT6 := Lib.hid (show ∀ g, v6.ownBlock = some g → wc.heap.size ≤ g from fun g e => by (rcases hat6 with h | h <;> rw [h] at e); (· cases e); (· injection e with e; simp at e; omega)); have HB6 := Lib.hid (show Below wc.heap.size wc w6 from Below.grown (by repeat (first | (with_reducible exact Below.refl _ _) | (with_reducible refine Below.drew ?_) | (with_reducible refine below_drewN ?_ _) | ((with_reducible refine Below.alloc ?_ ?_ _); rotate_left; (first | omega | (simp <;> omega)); rotate_right) | ((with_reducible refine Below.setCell ?_ ?_ _); rotate_left; (first | omega | (simp <;> omega)); rotate_right) | (with_reducible assumption) | (refine Below.trans ?_ (Below.mono (by assumption) ?_); rotate_left; (first | omega | (simp <;> omega)); rotate_right))) hg6 (by simp) (fun g e => by cases e)); have O6 := Lib.hid hown6; have hz6 := HB6.out.size; clear hown6 hg6 hat6; clear cy_0 fy_0 cy_1 fy_1 cy_2 fy_2 cy_3 fy_3 cy_4 fy_4 cy_5 fy_5 cy_6 fy_6 cy_7 fy_7 cy_8 fy_8 cy_9 fy_9 cy_10 fy_10 cy_11 fy_11 cy_12 fy_12; (have cx_0 := blk_cell kb 0 rfl; have fx_0 := blk_free kb 0; have cx_1 := blk_cell kb 1 rfl; have fx_1 := blk_free kb 1; have cx_2 := blk_cell kb 2 rfl; have fx_2 := blk_free kb 2; have cx_3 := blk_cell kb 3 rfl; have fx_3 := blk_free kb 3; have cx_4 := blk_cell kb 4 rfl; have fx_4 := blk_free kb 4; have cx_5 := blk_cell kb 5 rfl; have fx_5 := blk_free kb 5; have cx_6 := blk_cell kb 6 rfl; have fx_6 := blk_free kb 6; have cx_7 := blk_cell kb 7 rfl; have fx_7 := blk_free kb 7; have cx_8 := blk_cell kb 8 rfl; have fx_8 := blk_free kb 8; have cx_9 := blk_cell kb 9 rfl; have fx_9 := blk_free kb 9; have cx_10 := blk_cell kb 10 rfl; have fx_10 := blk_free kb 10; have cx_11 := blk_cell kb 11 rfl; have fx_11 := blk_free kb 11; have cx_12 := blk_cell kb 12 rfl; have fx_12 := blk_free kb 12; have lx := lt_of_block kb)) | (refine step_append_any _ rfl (.tmp 33) (.tmp 35) 45 rfl w.heap.size 32 j0 _ 13 120 Try.underlying45 hj0 hya hyb hyc rfl (by omega) v6 (0 + n) _ rfl (by first | exact O6.out | exact O6.out.alloc _ | exact O6.out.drew | exact (O6.out.alloc _).drew) _ _ 1 1 [.int .i64 t, .int .i64 a, .int .i64 k, .int .i64 x, .int .i64 y, .int .i64 z, .int .i64 s, .int .i64 fk, .int .i64 ff, .int .i64 ft, .int .i64 fs, .slice A1 d.length c1, .int .u32 N0] rfl ⟨rfl, fun _ => ⟨_, rfl, Nat.lt_succ_self _, fun j u hu => by rw [addr_add, Nat.zero_add]; exact blk_cell (l := [_, _, _, _, _, _, _, _, _, _, _, _, _]) (by first | ((repeat (first | (with_reducible assumption) | (with_reducible apply blk_drew) | (with_reducible apply blk_drewN) | (with_reducible exact heap_new _ _) | ((with_reducible apply heap_new'); (first | rfl | simp)))); done) | (refine blk_only ?_ G6.out ?_; rotate_left; (intro e; cases e); ((repeat (first | (with_reducible assumption) | (with_reducible apply blk_drew) | (with_reducible apply blk_drewN) | (with_reducible exact heap_new _ _) | ((with_reducible apply heap_new'); (first | rfl | simp)))); done))) j hu⟩⟩ (Lg.RV.one ⟨⟨t, a, k, x, y, z, s, ⟨fk, ff, ft, fs, d⟩, N0⟩, A1, c1⟩) (by simp only [maxLen]; omega) (by omega) (by first | omega | (simp; try omega)) ?_; intro v7 w7 hown7 hg7 hat7; have O7 := Lib.hid hown7; have G7 := Lib.hid hg7; clear hown7 hg7 hat7))
    all_goals
      obtain ⟨A2, c2, rfl⟩ := own_formS O7.out
      have HB7 := Lib.hid (show Below wc.heap.size wc w7 from by
        refine Below.grown ?_ G7.out ?_ AT6.out
        · have HB6v := HB6.out
          exact (by repeat (first | (with_reducible exact Below.refl _ _) | (with_reducible refine Below.drew ?_) | (with_reducible refine below_drewN ?_ _) | ((with_reducible refine Below.alloc ?_ ?_ _); rotate_left; (first | omega | (simp <;> omega)); rotate_right) | ((with_reducible refine Below.setCell ?_ ?_ _); rotate_left; (first | omega | (simp <;> omega)); rotate_right) | (with_reducible assumption) | (refine Below.trans ?_ (Below.mono (by assumption) ?_); rotate_left; (first | omega | (simp <;> omega)); rotate_right)))
        · first | omega | (simp; omega))
      have O8 := O7.out
      simp only [List.nil_append, Nat.zero_add] at O8
      go_wp2_with fail
      go_ret2
      exact rjapp_done (x := ⟨t, a, k, x, y, z, s, ⟨fk, ff, ft, fs, d⟩, sum⟩) HJ.out (by omega) HA.out NX.out HB4.out O4.out HB7.out O8
end
end Go.Proofs.Ytgmejplcdecmkaa

import Derived.Test.YtdocdgcdldpagaaGreatAp
import Derived.Test.YtdocdgcdldpagaaGreatAv25
namespace Go.Proofs.YtdocdgcdldpagaaGreat
open Go.RowKit
set_option maxHeartbeats 8000000
set_option maxRecDepth 100000
set_option linter.unusedSimpArgs false
set_option linter.unusedVariables false
attribute [local go_sem ↓] Go.wp_at_zero Go.wp_at_succ
theorem keeps_cell {S : Nat → Prop} {w w' : World} {g o : Nat} {v : Value} (h : Keeps S w w') (hg : ¬ S g) (hc : w.cell? ⟨g, o, none⟩ = some v) : w'.cell? ⟨g, o, none⟩ = w.cell? ⟨g, o, none⟩ := by
  have hl := cell_lt hc
  unfold World.cell?
  rw [h.block g hl hg]
theorem keeps_clk {w w' : World} {c : Nat} (h : w.grownBy w' (some c)) : Keeps (fun i => i = c) w w' := Keeps.of_grown h (fun g hg => by injection hg with hg; exact hg.symm)
theorem pand_16 (u : Int) (hu : 0 ≤ u ∧ u < 4611686018427387904) : bits .and .i64 u 65535 = u % 65536 := by
  obtain ⟨a, rfl⟩ : ∃ a : Nat, u = a := ⟨u.toNat, by omega⟩
  show IntKind.i64.wrap ((BitVec.ofInt 64 (a : Int) &&& BitVec.ofInt 64 ((65535 : Nat) : Int)).toNat : Int) = _
  rw [BitVec.toNat_and, ofInt_nat 64 a Cb, ofInt_nat 64 65535 Cb, show (65535 : Nat) = 2 ^ 16 - 1 by rfl, Nat.and_two_pow_sub_one_eq_mod, IntKind.wrap_i64]
  omega
section
variable {w : World} {base b c : Nat} {s : Plt.St}
theorem Dp {p : Prop} (h : p := by
  go_enter Tryz.func140, Tryz.ntmps140; go_upto_region 1 with fail; generalize hV : World.alloc _ _ = V; have k0 : V.heap[w.heap.size]? = some (.cells #[.int .i64 k, .int .i64 f, .int .i64 t, .int .i64 q, .slice A n cap] 147 (0, 0)) := Bd; have HV := Lib.hid (show Below w.heap.size w V by rw [← hV]; exact (Below.refl _ _).alloc (Nat.le_refl _) _); have hzV : w.heap.size < V.heap.size := lt_of_block k0; clear hV; have cf_0 := blk_cell k0 0 rfl; have ff_0 := blk_free k0 0; have cf_1 := blk_cell k0 1 rfl; have ff_1 := blk_free k0 1; have cf_2 := blk_cell k0 2 rfl; have ff_2 := blk_free k0 2; have cf_3 := blk_cell k0 3 rfl; have ff_3 := blk_free k0 3; have cf_4 := blk_cell k0 4 rfl; have ff_4 := blk_free k0 4; have lf := lt_of_block k0; have K0 := Lib.hid k0; clear k0
  (go_region_held3 (fun w' => w'.cell? ⟨w.heap.size, 0, none⟩ = some (.int .i64 k) ∧ w'.cell? ⟨w.heap.size, 1, none⟩ = some (.int .i64 f) ∧ w'.cell? ⟨w.heap.size, 2, none⟩ = some (.int .i64 t) ∧ w'.cell? ⟨w.heap.size, 3, none⟩ = some (.int .i64 q) ∧ w'.cell? ⟨w.heap.size, 4, none⟩ = some (.slice A n cap)) (first | (refine ⟨?_, ?_, ?_, ?_, ?_⟩ <;> simp [go_sem, *]; done) | go_keep) (first | (go_at_call 162; refine (NU.out _ B4).mono ?_; rintro e w1 ⟨rfl, hb1⟩; have hb2 : Below V.heap.size V w1 := As; have HB1 := Lib.hid (HV.out.trans (hb2.mono HV.out.size)); have j0 := blk_below K0.out hb2 hzV; have HJ := Lib.hid j0; have HP := Lib.hid (HH.out.below HB1.out (Nat.le_refl _)); clear hb1 hb2; clear cf_0 ff_0 cf_1 ff_1 cf_2 ff_2 cf_3 ff_3 cf_4 ff_4; have cg_0 := blk_cell j0 0 rfl; have fg_0 := blk_free j0 0; have cg_1 := blk_cell j0 1 rfl; have fg_1 := blk_free j0 1; have cg_2 := blk_cell j0 2 rfl; have fg_2 := blk_free j0 2; have cg_3 := blk_cell j0 3 rfl; have fg_3 := blk_free j0 3; have cg_4 := blk_cell j0 4 rfl; have fg_4 := blk_free j0 4; have lg := lt_of_block j0; clear j0)))
  have hk := HP.out.blk; simp only [pcl] at hk; have ca_0 := blk_cell hk 0 rfl; have fa_0 := blk_free hk 0; have ca_1 := blk_cell hk 1 rfl; have fa_1 := blk_free hk 1; have ca_2 := blk_cell hk 2 rfl; have fa_2 := blk_free hk 2; have ca_3 := blk_cell hk 3 rfl; have fa_3 := blk_free hk 3; have ca_4 := blk_cell hk 4 rfl; have fa_4 := blk_free hk 4; have ca_5 := blk_cell hk 5 rfl; have fa_5 := blk_free hk 5; have ca_6 := blk_cell hk 6 rfl; have fa_6 := blk_free hk 6; have ca_7 := blk_cell hk 7 rfl; have fa_7 := blk_free hk 7; have ca_8 := blk_cell hk 8 rfl; have fa_8 := blk_free hk 8; have ca_9 := blk_cell hk 9 rfl; have fa_9 := blk_free hk 9; have ca_10 := blk_cell hk 10 rfl; have fa_10 := blk_free hk 10; have ca_11 := blk_cell hk 11 rfl; have fa_11 := blk_free hk 11; have ca_12 := blk_cell hk 12 rfl; have fa_12 := blk_free hk 12; have ca_13 := blk_cell hk 13 rfl; have fa_13 := blk_free hk 13; have ca_14 := blk_cell hk 14 rfl; have fa_14 := blk_free hk 14; have ca_15 := blk_cell hk 15 rfl; have fa_15 := blk_free hk 15; have ca_16 := blk_cell hk 16 rfl; have fa_16 := blk_free hk 16; have ca_17 := blk_cell hk 17 rfl; have fa_17 := blk_free hk 17; have ca_18 := blk_cell hk 18 rfl; have fa_18 := blk_free hk 18; have la := lt_of_block hk; clear hk
  go_wp2_with fail
  go_ret; exact ⟨ret_bool Bg, by rw [E.out]; exact HP.out, Keeps.of_below HB1.out⟩
 ) : p := h
theorem Ds {p : Prop} (h : p := by
  go_wp2_with fail
  go_ret; exact ⟨ret_bool Bg, by rw [E.out]; exact HP2.out, (Keeps.of_below HB1.out).trans HK2.out (fun _ _ h => .inl h)⟩
 ) : p := h
theorem Dt {p : Prop} (h : p := by
  clear hk hmk hmn hmp hx hm hn hr hs h hn2 hcap hcm hpl hp2 hst
  exact Dp
 ) : p := h
theorem Dx {p : Prop} (h : p := by
  have E := Lib.hid (show Plt.take s x = (s, true) by unfold Plt.take; rw [if_neg Cb, if_neg Cb, if_neg Cb, if_pos Cb, if_pos hp2, if_neg Cb, if_neg Cb, decide_eq_true Cb])
  exact Dt
 ) : p := h
theorem Dy {p : Prop} (h : p := by
  clear hk hmk hmn hmp hx hm hn hr hs h hn2 hcap hcm hpl
  exact Dp
 ) : p := h
theorem take_4 (h : IsP w base b c s) (hs : Plt.Inv s) (k f t q : Int) (A : Option Addr) (n cap : Nat) (l : List Int) (hn : n = l.length) (hn2 : n ≤ 64) (hcap : n ≤ cap) (hcm : cap ≤ 9223372036854775807) (hr : Rd w w.heap.size A n l) (hk : k = 4) :
    Calls Tryz.prog 140 #[.pointer (some ⟨b, 0, none⟩), .agg #[.int .i64 k, .int .i64 f, .int .i64 t, .int .i64 q, .slice A n cap]] w (TakePost base b c (Plt.take s (Plt.fmOf ⟨k, f, t, q, l⟩)) w) := by
  have HH := Lib.hid h
  have HS := Lib.hid hs
  obtain ⟨m, hm⟩ : ∃ m, m = (if l.length = 4 then Frm.gnAt l 0 else -1) := ⟨_, rfl⟩
  have NU := Lib.hid (fun (W : World) (hW : Below w.heap.size w W) => show Calls Tryz.prog 162 #[.agg #[.int .i64 k, .int .i64 f, .int .i64 t, .int .i64 q, .slice A n cap]] W fun e w' => e = .returned (.int .i64 m) ∧ Below W.heap.size W w' from by
    rw [hm]
    exact number_any k f t q A n cap l W hn Cb hcap hcm ((hr.below hW (Nat.le_refl _)).more hW.size))
  have hmn : (Plt.fmOf ⟨k, f, t, q, l⟩).n = m := hm.symm
  have hmk : (Plt.fmOf ⟨k, f, t, q, l⟩).k = k := rfl
  have hmp : (Plt.fmOf ⟨k, f, t, q, l⟩).plain = decide (n = 0) := by rw [hn]; rfl
  obtain ⟨x, hx⟩ : ∃ x, x = Plt.fmOf ⟨k, f, t, q, l⟩ := ⟨_, rfl⟩
  rw [← hx] at hmn hmk hmp ⊢
  have y1 : (k == 1) = false := by rw [hk]; rfl
  have y2 : (k == 2) = false := by rw [hk]; rfl
  have y3 : (k == 3) = false := by rw [hk]; rfl
  have y4 : (k == 4) = true := by rw [hk]; rfl
  by_cases hpl : n = 0
  case neg =>
    have y0 : ((n : Int) == 0) = false := by rw [beq_eq_false_iff_ne]; omega
    have E := Lib.hid (show Plt.take s x = (s, false) by unfold Plt.take; rw [if_neg Cb, if_neg Cb, if_neg Cb, if_pos Cb, if_neg (by rw [hmp]; simp [hpl])])
    exact Dy
  case pos =>
  have hp2 : x.plain = true := by rw [hmp, hpl]; rfl
  have y0 : ((n : Int) == 0) = true := by rw [hpl]; rfl
  have key : s.st = 3 ∨ s.st = 4 ∨ s.st = 2 ∨ s.st = 5 ∨ ¬ (s.st = 3 ∨ s.st = 4 ∨ s.st = 2 ∨ s.st = 5) := by omega
  rcases key with hst | hst | hst | hst | hst
  · have z2 : (s.st == 2) = false := C3; have z3 : (s.st == 3) = true := C3; have z4 : (s.st == 4) = false := C3; have z5 : (s.st == 5) = false := C3; 
    have E := Lib.hid (show Plt.take s x = (Plt.ent s 2 s.now, true) by unfold Plt.take; rw [if_neg Cb, if_neg Cb, if_neg Cb, if_pos Cb, if_pos hp2, if_pos hst])
    have hst' := Lib.hid hst
    clear hk hmk hmn hmp hx hm hn hr hs h hn2 hcap hcm hpl hp2 hst
    go_enter Tryz.func140, Tryz.ntmps140; go_upto_region 1 with fail; generalize hV : World.alloc _ _ = V; have k0 : V.heap[w.heap.size]? = some (.cells #[.int .i64 k, .int .i64 f, .int .i64 t, .int .i64 q, .slice A n cap] 147 (0, 0)) := Bd; have HV := Lib.hid (show Below w.heap.size w V by rw [← hV]; exact (Below.refl _ _).alloc (Nat.le_refl _) _); have hzV : w.heap.size < V.heap.size := lt_of_block k0; clear hV; have cf_0 := blk_cell k0 0 rfl; have ff_0 := blk_free k0 0; have cf_1 := blk_cell k0 1 rfl; have ff_1 := blk_free k0 1; have cf_2 := blk_cell k0 2 rfl; have ff_2 := blk_free k0 2; have cf_3 := blk_cell k0 3 rfl; have ff_3 := blk_free k0 3; have cf_4 := blk_cell k0 4 rfl; have ff_4 := blk_free k0 4; have lf := lt_of_block k0; have K0 := Lib.hid k0; clear k0
    (go_region_held3 (fun w' => w'.cell? ⟨w.heap.size, 0, none⟩ = some (.int .i64 k) ∧ w'.cell? ⟨w.heap.size, 1, none⟩ = some (.int .i64 f) ∧ w'.cell? ⟨w.heap.size, 2, none⟩ = some (.int .i64 t) ∧ w'.cell? ⟨w.heap.size, 3, none⟩ = some (.int .i64 q) ∧ w'.cell? ⟨w.heap.size, 4, none⟩ = some (.slice A n cap)) (first | (refine ⟨?_, ?_, ?_, ?_, ?_⟩ <;> simp [go_sem, *]; done) | go_keep) (first | (go_at_call 162; refine (NU.out _ B4).mono ?_; rintro e w1 ⟨rfl, hb1⟩; have hb2 : Below V.heap.size V w1 := As; have HB1 := Lib.hid (HV.out.trans (hb2.mono HV.out.size)); have j0 := blk_below K0.out hb2 hzV; have HJ := Lib.hid j0; have HP := Lib.hid (HH.out.below HB1.out (Nat.le_refl _)); clear hb1 hb2; clear cf_0 ff_0 cf_1 ff_1 cf_2 ff_2 cf_3 ff_3 cf_4 ff_4; have cg_0 := blk_cell j0 0 rfl; have fg_0 := blk_free j0 0; have cg_1 := blk_cell j0 1 rfl; have fg_1 := blk_free j0 1; have cg_2 := blk_cell j0 2 rfl; have fg_2 := blk_free j0 2; have cg_3 := blk_cell j0 3 rfl; have fg_3 := blk_free j0 3; have cg_4 := blk_cell j0 4 rfl; have fg_4 := blk_free j0 4; have lg := lt_of_block j0; clear j0)))
    have hk := HP.out.blk; simp only [pcl] at hk; have ca_0 := blk_cell hk 0 rfl; have fa_0 := blk_free hk 0; have ca_1 := blk_cell hk 1 rfl; have fa_1 := blk_free hk 1; have ca_2 := blk_cell hk 2 rfl; have fa_2 := blk_free hk 2; have ca_3 := blk_cell hk 3 rfl; have fa_3 := blk_free hk 3; have ca_4 := blk_cell hk 4 rfl; have fa_4 := blk_free hk 4; have ca_5 := blk_cell hk 5 rfl; have fa_5 := blk_free hk 5; have ca_6 := blk_cell hk 6 rfl; have fa_6 := blk_free hk 6; have ca_7 := blk_cell hk 7 rfl; have fa_7 := blk_free hk 7; have ca_8 := blk_cell hk 8 rfl; have fa_8 := blk_free hk 8; have ca_9 := blk_cell hk 9 rfl; have fa_9 := blk_free hk 9; have ca_10 := blk_cell hk 10 rfl; have fa_10 := blk_free hk 10; have ca_11 := blk_cell hk 11 rfl; have fa_11 := blk_free hk 11; have ca_12 := blk_cell hk 12 rfl; have fa_12 := blk_free hk 12; have ca_13 := blk_cell hk 13 rfl; have fa_13 := blk_free hk 13; have ca_14 := blk_cell hk 14 rfl; have fa_14 := blk_free hk 14; have ca_15 := blk_cell hk 15 rfl; have fa_15 := blk_free hk 15; have ca_16 := blk_cell hk 16 rfl; have fa_16 := blk_free hk 16; have ca_17 := blk_cell hk 17 rfl; have fa_17 := blk_free hk 17; have ca_18 := blk_cell hk 18 rfl; have fa_18 := blk_free hk 18; have la := lt_of_block hk; clear hk
    go_wp2_with fail
    refine (enter_any HP.out _ _).mono ?_; rintro e w2 ⟨rfl, hp2, hk2⟩; have HP2 := Lib.hid hp2; have HK2 := Lib.hid hk2; clear hp2 hk2; clear ca_0 fa_0 ca_1 fa_1 ca_2 fa_2 ca_3 fa_3 ca_4 fa_4 ca_5 fa_5 ca_6 fa_6 ca_7 fa_7 ca_8 fa_8 ca_9 fa_9 ca_10 fa_10 ca_11 fa_11 ca_12 fa_12 ca_13 fa_13 ca_14 fa_14 ca_15 fa_15 ca_16 fa_16 ca_17 fa_17 ca_18 fa_18
    obtain ⟨s2, hs2⟩ : ∃ s2, s2 = Plt.ent s 2 s.now := ⟨_, rfl⟩
    have e2 : s2.st = 2 := by rw [hs2]; unfold Plt.ent; split <;> simp_all
    rw [← hs2] at HP2 E
    have ek := blk_cell HP2.out.blk 7 rfl
    rw [e2] at ek
    clear hs2 e2
    exact Ds
  · have z2 : (s.st == 2) = false := C3; have z3 : (s.st == 3) = false := C3; have z4 : (s.st == 4) = true := C3; have z5 : (s.st == 5) = false := C3; 
    have E := Lib.hid (show Plt.take s x = (Plt.ent s 5 s.now, true) by unfold Plt.take; rw [if_neg Cb, if_neg Cb, if_neg Cb, if_pos Cb, if_pos hp2, if_neg Cb, if_pos hst])
    have hst' := Lib.hid hst
    clear hk hmk hmn hmp hx hm hn hr hs h hn2 hcap hcm hpl hp2 hst
    go_enter Tryz.func140, Tryz.ntmps140; go_upto_region 1 with fail; generalize hV : World.alloc _ _ = V; have k0 : V.heap[w.heap.size]? = some (.cells #[.int .i64 k, .int .i64 f, .int .i64 t, .int .i64 q, .slice A n cap] 147 (0, 0)) := Bd; have HV := Lib.hid (show Below w.heap.size w V by rw [← hV]; exact (Below.refl _ _).alloc (Nat.le_refl _) _); have hzV : w.heap.size < V.heap.size := lt_of_block k0; clear hV; have cf_0 := blk_cell k0 0 rfl; have ff_0 := blk_free k0 0; have cf_1 := blk_cell k0 1 rfl; have ff_1 := blk_free k0 1; have cf_2 := blk_cell k0 2 rfl; have ff_2 := blk_free k0 2; have cf_3 := blk_cell k0 3 rfl; have ff_3 := blk_free k0 3; have cf_4 := blk_cell k0 4 rfl; have ff_4 := blk_free k0 4; have lf := lt_of_block k0; have K0 := Lib.hid k0; clear k0
    (go_region_held3 (fun w' => w'.cell? ⟨w.heap.size, 0, none⟩ = some (.int .i64 k) ∧ w'.cell? ⟨w.heap.size, 1, none⟩ = some (.int .i64 f) ∧ w'.cell? ⟨w.heap.size, 2, none⟩ = some (.int .i64 t) ∧ w'.cell? ⟨w.heap.size, 3, none⟩ = some (.int .i64 q) ∧ w'.cell? ⟨w.heap.size, 4, none⟩ = some (.slice A n cap)) (first | (refine ⟨?_, ?_, ?_, ?_, ?_⟩ <;> simp [go_sem, *]; done) | go_keep) (first | (go_at_call 162; refine (NU.out _ B4).mono ?_; rintro e w1 ⟨rfl, hb1⟩; have hb2 : Below V.heap.size V w1 := As; have HB1 := Lib.hid (HV.out.trans (hb2.mono HV.out.size)); have j0 := blk_below K0.out hb2 hzV; have HJ := Lib.hid j0; have HP := Lib.hid (HH.out.below HB1.out (Nat.le_refl _)); clear hb1 hb2; clear cf_0 ff_0 cf_1 ff_1 cf_2 ff_2 cf_3 ff_3 cf_4 ff_4; have cg_0 := blk_cell j0 0 rfl; have fg_0 := blk_free j0 0; have cg_1 := blk_cell j0 1 rfl; have fg_1 := blk_free j0 1; have cg_2 := blk_cell j0 2 rfl; have fg_2 := blk_free j0 2; have cg_3 := blk_cell j0 3 rfl; have fg_3 := blk_free j0 3; have cg_4 := blk_cell j0 4 rfl; have fg_4 := blk_free j0 4; have lg := lt_of_block j0; clear j0)))
    have hk := HP.out.blk; simp only [pcl] at hk; have ca_0 := blk_cell hk 0 rfl; have fa_0 := blk_free hk 0; have ca_1 := blk_cell hk 1 rfl; have fa_1 := blk_free hk 1; have ca_2 := blk_cell hk 2 rfl; have fa_2 := blk_free hk 2; have ca_3 := blk_cell hk 3 rfl; have fa_3 := blk_free hk 3; have ca_4 := blk_cell hk 4 rfl; have fa_4 := blk_free hk 4; have ca_5 := blk_cell hk 5 rfl; have fa_5 := blk_free hk 5; have ca_6 := blk_cell hk 6 rfl; have fa_6 := blk_free hk 6; have ca_7 := blk_cell hk 7 rfl; have fa_7 := blk_free hk 7; have ca_8 := blk_cell hk 8 rfl; have fa_8 := blk_free hk 8; have ca_9 := blk_cell hk 9 rfl; have fa_9 := blk_free hk 9; have ca_10 := blk_cell hk 10 rfl; have fa_10 := blk_free hk 10; have ca_11 := blk_cell hk 11 rfl; have fa_11 := blk_free hk 11; have ca_12 := blk_cell hk 12 rfl; have fa_12 := blk_free hk 12; have ca_13 := blk_cell hk 13 rfl; have fa_13 := blk_free hk 13; have ca_14 := blk_cell hk 14 rfl; have fa_14 := blk_free hk 14; have ca_15 := blk_cell hk 15 rfl; have fa_15 := blk_free hk 15; have ca_16 := blk_cell hk 16 rfl; have fa_16 := blk_free hk 16; have ca_17 := blk_cell hk 17 rfl; have fa_17 := blk_free hk 17; have ca_18 := blk_cell hk 18 rfl; have fa_18 := blk_free hk 18; have la := lt_of_block hk; clear hk
    go_wp2_with fail
    refine (enter_any HP.out _ _).mono ?_; rintro e w2 ⟨rfl, hp2, hk2⟩; have HP2 := Lib.hid hp2; have HK2 := Lib.hid hk2; clear hp2 hk2; clear ca_0 fa_0 ca_1 fa_1 ca_2 fa_2 ca_3 fa_3 ca_4 fa_4 ca_5 fa_5 ca_6 fa_6 ca_7 fa_7 ca_8 fa_8 ca_9 fa_9 ca_10 fa_10 ca_11 fa_11 ca_12 fa_12 ca_13 fa_13 ca_14 fa_14 ca_15 fa_15 ca_16 fa_16 ca_17 fa_17 ca_18 fa_18
    obtain ⟨s2, hs2⟩ : ∃ s2, s2 = Plt.ent s 5 s.now := ⟨_, rfl⟩
    have e2 : s2.st = 5 := by rw [hs2]; unfold Plt.ent; split <;> simp_all
    rw [← hs2] at HP2 E
    have ek := blk_cell HP2.out.blk 7 rfl
    rw [e2] at ek
    clear hs2 e2
    exact Ds
  · have z2 : (s.st == 2) = true := C3; have z3 : (s.st == 3) = false := C3; have z4 : (s.st == 4) = false := C3; have z5 : (s.st == 5) = false := C3; 
    exact Dx
  · have z2 : (s.st == 2) = false := C3; have z3 : (s.st == 3) = false := C3; have z4 : (s.st == 4) = false := C3; have z5 : (s.st == 5) = true := C3; 
    exact Dx
  · have z2 : (s.st == 2) = false := Be; have z3 : (s.st == 3) = false := Be; have z4 : (s.st == 4) = false := Be; have z5 : (s.st == 5) = false := Be; 
    have E := Lib.hid (show Plt.take s x = (s, false) by unfold Plt.take; rw [if_neg Cb, if_neg Cb, if_neg Cb, if_pos Cb, if_pos hp2, if_neg Cb, if_neg Cb, decide_eq_false Cb])
    exact Dt
theorem Dq {p : Prop} (h : p := by
  clear hk hmk hmn hmp hx hm hn hr hs h hn2 hcap hcm hpl hp2 hst
  go_enter Tryz.func140, Tryz.ntmps140; go_upto_region 1 with fail; generalize hV : World.alloc _ _ = V; have k0 : V.heap[w.heap.size]? = some (.cells #[.int .i64 k, .int .i64 f, .int .i64 t, .int .i64 q, .slice A n cap] 147 (0, 0)) := Bd; have HV := Lib.hid (show Below w.heap.size w V by rw [← hV]; exact (Below.refl _ _).alloc (Nat.le_refl _) _); have hzV : w.heap.size < V.heap.size := lt_of_block k0; clear hV; have cf_0 := blk_cell k0 0 rfl; have ff_0 := blk_free k0 0; have cf_1 := blk_cell k0 1 rfl; have ff_1 := blk_free k0 1; have cf_2 := blk_cell k0 2 rfl; have ff_2 := blk_free k0 2; have cf_3 := blk_cell k0 3 rfl; have ff_3 := blk_free k0 3; have cf_4 := blk_cell k0 4 rfl; have ff_4 := blk_free k0 4; have lf := lt_of_block k0; have K0 := Lib.hid k0; clear k0
  (go_region_held3 (fun w' => w'.cell? ⟨w.heap.size, 0, none⟩ = some (.int .i64 k) ∧ w'.cell? ⟨w.heap.size, 1, none⟩ = some (.int .i64 f) ∧ w'.cell? ⟨w.heap.size, 2, none⟩ = some (.int .i64 t) ∧ w'.cell? ⟨w.heap.size, 3, none⟩ = some (.int .i64 q) ∧ w'.cell? ⟨w.heap.size, 4, none⟩ = some (.slice A n cap)) (first | (refine ⟨?_, ?_, ?_, ?_, ?_⟩ <;> simp [go_sem, *]; done) | go_keep) (first | (go_at_call 162; refine (NU.out _ B4).mono ?_; rintro e w1 ⟨rfl, hb1⟩; have hb2 : Below V.heap.size V w1 := As; have HB1 := Lib.hid (HV.out.trans (hb2.mono HV.out.size)); have j0 := blk_below K0.out hb2 hzV; have HJ := Lib.hid j0; have HP := Lib.hid (HH.out.below HB1.out (Nat.le_refl _)); clear hb1 hb2; clear cf_0 ff_0 cf_1 ff_1 cf_2 ff_2 cf_3 ff_3 cf_4 ff_4; have cg_0 := blk_cell j0 0 rfl; have fg_0 := blk_free j0 0; have cg_1 := blk_cell j0 1 rfl; have fg_1 := blk_free j0 1; have cg_2 := blk_cell j0 2 rfl; have fg_2 := blk_free j0 2; have cg_3 := blk_cell j0 3 rfl; have fg_3 := blk_free j0 3; have cg_4 := blk_cell j0 4 rfl; have fg_4 := blk_free j0 4; have lg := lt_of_block j0; clear j0)))
  have hk := HP.out.blk; simp only [pcl] at hk; have ca_0 := blk_cell hk 0 rfl; have fa_0 := blk_free hk 0; have ca_1 := blk_cell hk 1 rfl; have fa_1 := blk_free hk 1; have ca_2 := blk_cell hk 2 rfl; have fa_2 := blk_free hk 2; have ca_3 := blk_cell hk 3 rfl; have fa_3 := blk_free hk 3; have ca_4 := blk_cell hk 4 rfl; have fa_4 := blk_free hk 4; have ca_5 := blk_cell hk 5 rfl; have fa_5 := blk_free hk 5; have ca_6 := blk_cell hk 6 rfl; have fa_6 := blk_free hk 6; have ca_7 := blk_cell hk 7 rfl; have fa_7 := blk_free hk 7; have ca_8 := blk_cell hk 8 rfl; have fa_8 := blk_free hk 8; have ca_9 := blk_cell hk 9 rfl; have fa_9 := blk_free hk 9; have ca_10 := blk_cell hk 10 rfl; have fa_10 := blk_free hk 10; have ca_11 := blk_cell hk 11 rfl; have fa_11 := blk_free hk 11; have ca_12 := blk_cell hk 12 rfl; have fa_12 := blk_free hk 12; have ca_13 := blk_cell hk 13 rfl; have fa_13 := blk_free hk 13; have ca_14 := blk_cell hk 14 rfl; have fa_14 := blk_free hk 14; have ca_15 := blk_cell hk 15 rfl; have fa_15 := blk_free hk 15; have ca_16 := blk_cell hk 16 rfl; have fa_16 := blk_free hk 16; have ca_17 := blk_cell hk 17 rfl; have fa_17 := blk_free hk 17; have ca_18 := blk_cell hk 18 rfl; have fa_18 := blk_free hk 18; have la := lt_of_block hk; clear hk
  go_wp2_with fail
  refine (enter_any HP.out _ _).mono ?_; rintro e w2 ⟨rfl, hp2, hk2⟩; have HP2 := Lib.hid hp2; have HK2 := Lib.hid hk2; clear hp2 hk2; clear ca_0 fa_0 ca_1 fa_1 ca_2 fa_2 ca_3 fa_3 ca_4 fa_4 ca_5 fa_5 ca_6 fa_6 ca_7 fa_7 ca_8 fa_8 ca_9 fa_9 ca_10 fa_10 ca_11 fa_11 ca_12 fa_12 ca_13 fa_13 ca_14 fa_14 ca_15 fa_15 ca_16 fa_16 ca_17 fa_17 ca_18 fa_18
  exact Ds
 ) : p := h
theorem Dw {p : Prop} (h : p := by
  have E := Lib.hid (show Plt.take s x = (Plt.ent s 4 s.now, true) by unfold Plt.take; rw [if_neg Cb, if_neg Cb, if_neg Cb, if_neg Cb, if_pos Cb, if_pos ⟨hp2, by omega⟩])
  exact Dq
 ) : p := h
theorem take_5 (h : IsP w base b c s) (hs : Plt.Inv s) (k f t q : Int) (A : Option Addr) (n cap : Nat) (l : List Int) (hn : n = l.length) (hn2 : n ≤ 64) (hcap : n ≤ cap) (hcm : cap ≤ 9223372036854775807) (hr : Rd w w.heap.size A n l) (hk : k = 5) :
    Calls Tryz.prog 140 #[.pointer (some ⟨b, 0, none⟩), .agg #[.int .i64 k, .int .i64 f, .int .i64 t, .int .i64 q, .slice A n cap]] w (TakePost base b c (Plt.take s (Plt.fmOf ⟨k, f, t, q, l⟩)) w) := by
  have HH := Lib.hid h
  have HS := Lib.hid hs
  obtain ⟨m, hm⟩ : ∃ m, m = (if l.length = 4 then Frm.gnAt l 0 else -1) := ⟨_, rfl⟩
  have NU := Lib.hid (fun (W : World) (hW : Below w.heap.size w W) => show Calls Tryz.prog 162 #[.agg #[.int .i64 k, .int .i64 f, .int .i64 t, .int .i64 q, .slice A n cap]] W fun e w' => e = .returned (.int .i64 m) ∧ Below W.heap.size W w' from by
    rw [hm]
    exact number_any k f t q A n cap l W hn Cb hcap hcm ((hr.below hW (Nat.le_refl _)).more hW.size))
  have hmn : (Plt.fmOf ⟨k, f, t, q, l⟩).n = m := hm.symm
  have hmk : (Plt.fmOf ⟨k, f, t, q, l⟩).k = k := rfl
  have hmp : (Plt.fmOf ⟨k, f, t, q, l⟩).plain = decide (n = 0) := by rw [hn]; rfl
  obtain ⟨x, hx⟩ : ∃ x, x = Plt.fmOf ⟨k, f, t, q, l⟩ := ⟨_, rfl⟩
  rw [← hx] at hmn hmk hmp ⊢
  have y1 : (k == 1) = false := by rw [hk]; rfl
  have y2 : (k == 2) = false := by rw [hk]; rfl
  have y3 : (k == 3) = false := by rw [hk]; rfl
  have y4 : (k == 4) = false := by rw [hk]; rfl
  have y5 : (k == 5) = true := by rw [hk]; rfl
  by_cases hpl : n = 0
  case neg =>
    have y0 : ((n : Int) == 0) = false := by rw [beq_eq_false_iff_ne]; omega
    have E := Lib.hid (show Plt.take s x = (s, false) by unfold Plt.take; rw [if_neg Cb, if_neg Cb, if_neg Cb, if_neg Cb, if_pos Cb, if_neg (by rw [hmp]; simp [hpl])])
    exact Dy
  case pos =>
  have hp2 : x.plain = true := by rw [hmp, hpl]; rfl
  have y0 : ((n : Int) == 0) = true := by rw [hpl]; rfl
  have key : s.st = 4 ∨ s.st = 5 ∨ ¬ (s.st = 4 ∨ s.st = 5) := by omega
  rcases key with hst | hst | hst
  · have z4 : (s.st == 4) = true := C3; have z5 : (s.st == 5) = false := C3; 
    exact Dw
  · have z4 : (s.st == 4) = false := C3; have z5 : (s.st == 5) = true := C3; 
    exact Dw
  · have z4 : (s.st == 4) = false := Be; have z5 : (s.st == 5) = false := Be; 
    have E := Lib.hid (show Plt.take s x = (s, false) by unfold Plt.take; rw [if_neg Cb, if_neg Cb, if_neg Cb, if_neg Cb, if_pos Cb, if_neg Cb])
    exact Dt
theorem Du {p : Prop} (h : p := by
  have E := Lib.hid (show Plt.take s x = (Plt.ent s 6 s.now, true) by unfold Plt.take; rw [if_neg Cb, if_neg Cb, if_neg Cb, if_neg Cb, if_neg Cb, if_pos Cb, if_pos hp2, if_neg Cb, if_pos Cb])
  exact Dq
 ) : p := h
theorem Dv {p : Prop} (h : p := by
  have E := Lib.hid (show Plt.take s x = (Plt.ent s 1 s.now, true) by unfold Plt.take; rw [if_neg Cb, if_neg Cb, if_neg Cb, if_neg Cb, if_neg Cb, if_pos Cb, if_pos hp2, if_pos Cb])
  exact Dq
 ) : p := h
theorem take_6 (h : IsP w base b c s) (hs : Plt.Inv s) (k f t q : Int) (A : Option Addr) (n cap : Nat) (l : List Int) (hn : n = l.length) (hn2 : n ≤ 64) (hcap : n ≤ cap) (hcm : cap ≤ 9223372036854775807) (hr : Rd w w.heap.size A n l) (hk : k = 6) :
    Calls Tryz.prog 140 #[.pointer (some ⟨b, 0, none⟩), .agg #[.int .i64 k, .int .i64 f, .int .i64 t, .int .i64 q, .slice A n cap]] w (TakePost base b c (Plt.take s (Plt.fmOf ⟨k, f, t, q, l⟩)) w) := by
  have HH := Lib.hid h
  have HS := Lib.hid hs
  obtain ⟨m, hm⟩ : ∃ m, m = (if l.length = 4 then Frm.gnAt l 0 else -1) := ⟨_, rfl⟩
  have NU := Lib.hid (fun (W : World) (hW : Below w.heap.size w W) => show Calls Tryz.prog 162 #[.agg #[.int .i64 k, .int .i64 f, .int .i64 t, .int .i64 q, .slice A n cap]] W fun e w' => e = .returned (.int .i64 m) ∧ Below W.heap.size W w' from by
    rw [hm]
    exact number_any k f t q A n cap l W hn Cb hcap hcm ((hr.below hW (Nat.le_refl _)).more hW.size))
  have hmn : (Plt.fmOf ⟨k, f, t, q, l⟩).n = m := hm.symm
  have hmk : (Plt.fmOf ⟨k, f, t, q, l⟩).k = k := rfl
  have hmp : (Plt.fmOf ⟨k, f, t, q, l⟩).plain = decide (n = 0) := by rw [hn]; rfl
  obtain ⟨x, hx⟩ : ∃ x, x = Plt.fmOf ⟨k, f, t, q, l⟩ := ⟨_, rfl⟩
  rw [← hx] at hmn hmk hmp ⊢
  have y1 : (k == 1) = false := by rw [hk]; rfl
  have y2 : (k == 2) = false := by rw [hk]; rfl
  have y3 : (k == 3) = false := by rw [hk]; rfl
  have y4 : (k == 4) = false := by rw [hk]; rfl
  have y5 : (k == 5) = false := by rw [hk]; rfl
  have y6 : (k == 6) = true := by rw [hk]; rfl
  by_cases hpl : n = 0
  case neg =>
    have y0 : ((n : Int) == 0) = false := by rw [beq_eq_false_iff_ne]; omega
    have E := Lib.hid (show Plt.take s x = (s, false) by unfold Plt.take; rw [if_neg Cb, if_neg Cb, if_neg Cb, if_neg Cb, if_neg Cb, if_pos Cb, if_neg (by rw [hmp]; simp [hpl])])
    exact Dy
  case pos =>
  have hp2 : x.plain = true := by rw [hmp, hpl]; rfl
  have y0 : ((n : Int) == 0) = true := by rw [hpl]; rfl
  have key : s.st = 2 ∨ s.st = 3 ∨ s.st = 4 ∨ s.st = 5 ∨ ¬ (s.st = 2 ∨ s.st = 3 ∨ s.st = 4 ∨ s.st = 5) := by omega
  rcases key with hst | hst | hst | hst | hst
  · have z2 : (s.st == 2) = true := C3; have z3 : (s.st == 3) = false := C3; have z4 : (s.st == 4) = false := C3; have z5 : (s.st == 5) = false := C3; 
    exact Dv
  · have z2 : (s.st == 2) = false := C3; have z3 : (s.st == 3) = true := C3; have z4 : (s.st == 4) = false := C3; have z5 : (s.st == 5) = false := C3; 
    exact Dv
  · have z2 : (s.st == 2) = false := C3; have z3 : (s.st == 3) = false := C3; have z4 : (s.st == 4) = true := C3; have z5 : (s.st == 5) = false := C3; 
    exact Du
  · have z2 : (s.st == 2) = false := C3; have z3 : (s.st == 3) = false := C3; have z4 : (s.st == 4) = false := C3; have z5 : (s.st == 5) = true := C3; 
    exact Du
  · have z2 : (s.st == 2) = false := Be; have z3 : (s.st == 3) = false := Be; have z4 : (s.st == 4) = false := Be; have z5 : (s.st == 5) = false := Be; 
    have E := Lib.hid (show Plt.take s x = (s, true) by unfold Plt.take; rw [if_neg Cb, if_neg Cb, if_neg Cb, if_neg Cb, if_neg Cb, if_pos Cb, if_pos hp2, if_neg Cb, if_neg Cb])
    exact Dt
theorem Dr {p : Prop} (h : p := by
  go_wp2_with fail
  go_ret; exact ⟨ret_bool (by rw [E.out]), by rw [E.out]; exact HP.out.drewN _, Keeps.of_below (below_drewN HB1.out _)⟩
 ) : p := h
theorem take_7 (h : IsP w base b c s) (hs : Plt.Inv s) (k f t q : Int) (A : Option Addr) (n cap : Nat) (l : List Int) (hn : n = l.length) (hn2 : n ≤ 64) (hcap : n ≤ cap) (hcm : cap ≤ 9223372036854775807) (hr : Rd w w.heap.size A n l) (hk : k = 7) (hrep : s.reports < 1000000000000000) :
    Calls Tryz.prog 140 #[.pointer (some ⟨b, 0, none⟩), .agg #[.int .i64 k, .int .i64 f, .int .i64 t, .int .i64 q, .slice A n cap]] w (TakePost base b c (Plt.take s (Plt.fmOf ⟨k, f, t, q, l⟩)) w) := by
  have HH := Lib.hid h
  have HS := Lib.hid hs
  obtain ⟨m, hm⟩ : ∃ m, m = (if l.length = 4 then Frm.gnAt l 0 else -1) := ⟨_, rfl⟩
  have NU := Lib.hid (fun (W : World) (hW : Below w.heap.size w W) => show Calls Tryz.prog 162 #[.agg #[.int .i64 k, .int .i64 f, .int .i64 t, .int .i64 q, .slice A n cap]] W fun e w' => e = .returned (.int .i64 m) ∧ Below W.heap.size W w' from by
    rw [hm]
    exact number_any k f t q A n cap l W hn Cb hcap hcm ((hr.below hW (Nat.le_refl _)).more hW.size))
  have hmn : (Plt.fmOf ⟨k, f, t, q, l⟩).n = m := hm.symm
  have hmk : (Plt.fmOf ⟨k, f, t, q, l⟩).k = k := rfl
  have hmp : (Plt.fmOf ⟨k, f, t, q, l⟩).plain = decide (n = 0) := by rw [hn]; rfl
  obtain ⟨x, hx⟩ : ∃ x, x = Plt.fmOf ⟨k, f, t, q, l⟩ := ⟨_, rfl⟩
  rw [← hx] at hmn hmk hmp ⊢
  have y1 : (k == 1) = false := by rw [hk]; rfl
  have y2 : (k == 2) = false := by rw [hk]; rfl
  have y3 : (k == 3) = false := by rw [hk]; rfl
  have y4 : (k == 4) = false := by rw [hk]; rfl
  have y5 : (k == 5) = false := by rw [hk]; rfl
  have y6 : (k == 6) = false := by rw [hk]; rfl
  have y7 : (k == 7) = true := by rw [hk]; rfl
  have hmt : x.two = decide (l.length = 8) := by rw [hx]; rfl
  have hms : x.seq = q := by rw [hx]; rfl
  have hrp := hs.rp
  have hask := hs.ask
  by_cases h8 : l.length = 8
  · have G := Lib.hid (fun (W : World) (hW : Below w.heap.size w W) => getk_yes A n cap 2 l W Cb hn Cb Cb hcap hcm ((hr.below hW (Nat.le_refl _)).more hW.size))
    have hm8 : x.two = true := by rw [hmt, decide_eq_true h8]
    cases ha : s.asked
    · have E := Lib.hid (show Plt.take s x = (s, false) by unfold Plt.take; rw [if_neg Cb, if_neg Cb, if_neg Cb, if_neg Cb, if_neg Cb, if_neg Cb, if_pos Cb, if_neg (fun hh => by rw [ha] at hh; cases hh.2.1)])
      have HA := Lib.hid ha
      clear hk hmk hmn hmp hx hm hn hr hs h hn2 hcap hcm ha hmt hms h8 hm8 hrp hask
      go_enter Tryz.func140, Tryz.ntmps140; go_upto_region 1 with fail; generalize hV : World.alloc _ _ = V; have k0 : V.heap[w.heap.size]? = some (.cells #[.int .i64 k, .int .i64 f, .int .i64 t, .int .i64 q, .slice A n cap] 147 (0, 0)) := Bd; have HV := Lib.hid (show Below w.heap.size w V by rw [← hV]; exact (Below.refl _ _).alloc (Nat.le_refl _) _); have hzV : w.heap.size < V.heap.size := lt_of_block k0; clear hV; have cf_0 := blk_cell k0 0 rfl; have ff_0 := blk_free k0 0; have cf_1 := blk_cell k0 1 rfl; have ff_1 := blk_free k0 1; have cf_2 := blk_cell k0 2 rfl; have ff_2 := blk_free k0 2; have cf_3 := blk_cell k0 3 rfl; have ff_3 := blk_free k0 3; have cf_4 := blk_cell k0 4 rfl; have ff_4 := blk_free k0 4; have lf := lt_of_block k0; have K0 := Lib.hid k0; clear k0
      (go_region_held3 (fun w' => w'.cell? ⟨w.heap.size, 0, none⟩ = some (.int .i64 k) ∧ w'.cell? ⟨w.heap.size, 1, none⟩ = some (.int .i64 f) ∧ w'.cell? ⟨w.heap.size, 2, none⟩ = some (.int .i64 t) ∧ w'.cell? ⟨w.heap.size, 3, none⟩ = some (.int .i64 q) ∧ w'.cell? ⟨w.heap.size, 4, none⟩ = some (.slice A n cap)) (first | (refine ⟨?_, ?_, ?_, ?_, ?_⟩ <;> simp [go_sem, *]; done) | go_keep) (first | (go_at_call 162; refine (NU.out _ B4).mono ?_; rintro e w1 ⟨rfl, hb1⟩; have hb2 : Below V.heap.size V w1 := As; have HB1 := Lib.hid (HV.out.trans (hb2.mono HV.out.size)); have j0 := blk_below K0.out hb2 hzV; have HJ := Lib.hid j0; have HP := Lib.hid (HH.out.below HB1.out (Nat.le_refl _)); clear hb1 hb2; clear cf_0 ff_0 cf_1 ff_1 cf_2 ff_2 cf_3 ff_3 cf_4 ff_4; have cg_0 := blk_cell j0 0 rfl; have fg_0 := blk_free j0 0; have cg_1 := blk_cell j0 1 rfl; have fg_1 := blk_free j0 1; have cg_2 := blk_cell j0 2 rfl; have fg_2 := blk_free j0 2; have cg_3 := blk_cell j0 3 rfl; have fg_3 := blk_free j0 3; have cg_4 := blk_cell j0 4 rfl; have fg_4 := blk_free j0 4; have lg := lt_of_block j0; clear j0)))
      have hk := HP.out.blk; simp only [pcl] at hk; have ca_0 := blk_cell hk 0 rfl; have fa_0 := blk_free hk 0; have ca_1 := blk_cell hk 1 rfl; have fa_1 := blk_free hk 1; have ca_2 := blk_cell hk 2 rfl; have fa_2 := blk_free hk 2; have ca_3 := blk_cell hk 3 rfl; have fa_3 := blk_free hk 3; have ca_4 := blk_cell hk 4 rfl; have fa_4 := blk_free hk 4; have ca_5 := blk_cell hk 5 rfl; have fa_5 := blk_free hk 5; have ca_6 := blk_cell hk 6 rfl; have fa_6 := blk_free hk 6; have ca_7 := blk_cell hk 7 rfl; have fa_7 := blk_free hk 7; have ca_8 := blk_cell hk 8 rfl; have fa_8 := blk_free hk 8; have ca_9 := blk_cell hk 9 rfl; have fa_9 := blk_free hk 9; have ca_10 := blk_cell hk 10 rfl; have fa_10 := blk_free hk 10; have ca_11 := blk_cell hk 11 rfl; have fa_11 := blk_free hk 11; have ca_12 := blk_cell hk 12 rfl; have fa_12 := blk_free hk 12; have ca_13 := blk_cell hk 13 rfl; have fa_13 := blk_free hk 13; have ca_14 := blk_cell hk 14 rfl; have fa_14 := blk_free hk 14; have ca_15 := blk_cell hk 15 rfl; have fa_15 := blk_free hk 15; have ca_16 := blk_cell hk 16 rfl; have fa_16 := blk_free hk 16; have ca_17 := blk_cell hk 17 rfl; have fa_17 := blk_free hk 17; have ca_18 := blk_cell hk 18 rfl; have fa_18 := blk_free hk 18; have la := lt_of_block hk; clear hk
      rw [HA.out] at ca_11
      have e7 := ca_11; have e8 := ca_12; have e13 := ca_17; have e14 := ca_18; have e6 := ca_6; clear ca_0 fa_0 ca_1 fa_1 ca_2 fa_2 ca_3 fa_3 ca_4 fa_4 ca_5 fa_5 ca_6 fa_6 ca_7 fa_7 ca_8 fa_8 ca_9 fa_9 ca_10 fa_10 ca_11 fa_11 ca_12 fa_12 ca_13 fa_13 ca_14 fa_14 ca_15 fa_15 ca_16 fa_16 ca_17 fa_17 ca_18 fa_18; have ca_11 := e7; have ca_12 := e8; have ca_17 := e13; have ca_18 := e14; have ca_6 := e6; clear e7 e8 e13 e14 e6
      go_wp2_with fail
      refine (G.out _ HB1.out).mono ?_
      rintro e w3 ⟨g, o, c2, rfl, hc, hb3, _⟩
      have HP3 := Lib.hid (HP.out.below hb3 (Nat.le_refl _)); have HB3 := Lib.hid (HB1.out.trans (hb3.mono HB1.out.size)); have j3 := blk_below HJ.out (hb3.mono (Nat.le_refl _)) (lt_of_block HJ.out); clear cg_0 fg_0 cg_1 fg_1 cg_2 fg_2 cg_3 fg_3 cg_4 fg_4; have cg_0 := blk_cell j3 0 rfl; have fg_0 := blk_free j3 0; have cg_1 := blk_cell j3 1 rfl; have fg_1 := blk_free j3 1; have cg_2 := blk_cell j3 2 rfl; have fg_2 := blk_free j3 2; have cg_3 := blk_cell j3 3 rfl; have fg_3 := blk_free j3 3; have cg_4 := blk_cell j3 4 rfl; have fg_4 := blk_free j3 4; have lg := lt_of_block j3; clear j3 hb3 HP HB1 HJ ca_11 ca_12 ca_17 ca_18 ca_6; have HP := HP3; have HB1 := HB3; clear HP3 HB3; (have ca_6 := blk_cell HP.out.blk 6 rfl); (have ca_11 := blk_cell HP.out.blk 11 rfl); (have fa_11 := blk_free HP.out.blk 11); (have ca_12 := blk_cell HP.out.blk 12 rfl); (have ca_17 := blk_cell HP.out.blk 17 rfl); (have ca_18 := blk_cell HP.out.blk 18 rfl); (try rw [HA.out] at ca_11)
      clear hc
      go_wp2_with fail
      go_quiet (fail)
      exact Dr
    · have r1 := (hask ha).1
      obtain ⟨u, hu⟩ : ∃ u, u = (s.reports - 1) % 65536 := ⟨_, rfl⟩
      have w1r : IntKind.i64.wrap (s.reports - 1) = s.reports - 1 := IntWalk.i64_in _ Cb
      have w2r : bits .and .i64 (s.reports - 1) 65535 = u := by rw [hu]; exact pand_16 _ Cb
      by_cases hq : q = u
      · have hseq : x.seq = (s.reports - 1) % 65536 := by rw [hms, hq, hu]
        have E := Lib.hid (show Plt.take s x = ({ s with r := Ck.Clk.addR s.d s.r s.cs s.lo s.hi s.rep x.g x.b s.now, cs := Ck.Clk.addS s.d s.r s.cs s.lo s.hi s.rep x.g x.b s.now, lo := Ck.Clk.addLo s.d s.r s.cs s.lo s.hi s.rep x.g x.b s.now, hi := Ck.Clk.addHi s.d s.r s.cs s.lo s.hi s.rep x.g x.b s.now, asked := false }, false) by unfold Plt.take; rw [if_neg Cb, if_neg Cb, if_neg Cb, if_neg Cb, if_neg Cb, if_neg Cb, if_pos Cb, if_pos ⟨hm8, ha, hseq⟩])
        have hxg : x.g = Frm.gnAt l 0 := by rw [hx]; rfl
        have hxb : x.b = Frm.gnAt l 1 := by rw [hx]; rfl
        rw [hxg, hxb] at E
        have z9 : (q == u) = true := by rw [hq]; simp
        have HA := Lib.hid ha
        obtain ⟨n0, hn0⟩ : ∃ n0, n0 = Frm.gnAt l 0 := ⟨_, rfl⟩
        obtain ⟨n1, hn1⟩ : ∃ n1, n1 = Frm.gnAt l 1 := ⟨_, rfl⟩
        rw [← hn0, ← hn1] at E
        have HN := Lib.hid (And.intro hn0 hn1)
        have AD := Lib.hid (fun (W : World) (hW : Ck.IsClk W c s.d s.r true s.cs s.lo s.hi) => Ck.add_any c s.d s.r s.cs s.lo s.hi s.rep n0 n1 s.now W hW hs.clk)
        clear hk hmk hmn hmp hx hm hn hr hs h hn2 hcap hcm ha hmt hms h8 hm8 hrp hask hq hseq hu hxg hxb hn0 hn1
        go_enter Tryz.func140, Tryz.ntmps140; go_upto_region 1 with fail; generalize hV : World.alloc _ _ = V; have k0 : V.heap[w.heap.size]? = some (.cells #[.int .i64 k, .int .i64 f, .int .i64 t, .int .i64 q, .slice A n cap] 147 (0, 0)) := Bd; have HV := Lib.hid (show Below w.heap.size w V by rw [← hV]; exact (Below.refl _ _).alloc (Nat.le_refl _) _); have hzV : w.heap.size < V.heap.size := lt_of_block k0; clear hV; have cf_0 := blk_cell k0 0 rfl; have ff_0 := blk_free k0 0; have cf_1 := blk_cell k0 1 rfl; have ff_1 := blk_free k0 1; have cf_2 := blk_cell k0 2 rfl; have ff_2 := blk_free k0 2; have cf_3 := blk_cell k0 3 rfl; have ff_3 := blk_free k0 3; have cf_4 := blk_cell k0 4 rfl; have ff_4 := blk_free k0 4; have lf := lt_of_block k0; have K0 := Lib.hid k0; clear k0
        (go_region_held3 (fun w' => w'.cell? ⟨w.heap.size, 0, none⟩ = some (.int .i64 k) ∧ w'.cell? ⟨w.heap.size, 1, none⟩ = some (.int .i64 f) ∧ w'.cell? ⟨w.heap.size, 2, none⟩ = some (.int .i64 t) ∧ w'.cell? ⟨w.heap.size, 3, none⟩ = some (.int .i64 q) ∧ w'.cell? ⟨w.heap.size, 4, none⟩ = some (.slice A n cap)) (first | (refine ⟨?_, ?_, ?_, ?_, ?_⟩ <;> simp [go_sem, *]; done) | go_keep) (first | (go_at_call 162; refine (NU.out _ B4).mono ?_; rintro e w1 ⟨rfl, hb1⟩; have hb2 : Below V.heap.size V w1 := As; have HB1 := Lib.hid (HV.out.trans (hb2.mono HV.out.size)); have j0 := blk_below K0.out hb2 hzV; have HJ := Lib.hid j0; have HP := Lib.hid (HH.out.below HB1.out (Nat.le_refl _)); clear hb1 hb2; clear cf_0 ff_0 cf_1 ff_1 cf_2 ff_2 cf_3 ff_3 cf_4 ff_4; have cg_0 := blk_cell j0 0 rfl; have fg_0 := blk_free j0 0; have cg_1 := blk_cell j0 1 rfl; have fg_1 := blk_free j0 1; have cg_2 := blk_cell j0 2 rfl; have fg_2 := blk_free j0 2; have cg_3 := blk_cell j0 3 rfl; have fg_3 := blk_free j0 3; have cg_4 := blk_cell j0 4 rfl; have fg_4 := blk_free j0 4; have lg := lt_of_block j0; clear j0)))
        have hk := HP.out.blk; simp only [pcl] at hk; have ca_0 := blk_cell hk 0 rfl; have fa_0 := blk_free hk 0; have ca_1 := blk_cell hk 1 rfl; have fa_1 := blk_free hk 1; have ca_2 := blk_cell hk 2 rfl; have fa_2 := blk_free hk 2; have ca_3 := blk_cell hk 3 rfl; have fa_3 := blk_free hk 3; have ca_4 := blk_cell hk 4 rfl; have fa_4 := blk_free hk 4; have ca_5 := blk_cell hk 5 rfl; have fa_5 := blk_free hk 5; have ca_6 := blk_cell hk 6 rfl; have fa_6 := blk_free hk 6; have ca_7 := blk_cell hk 7 rfl; have fa_7 := blk_free hk 7; have ca_8 := blk_cell hk 8 rfl; have fa_8 := blk_free hk 8; have ca_9 := blk_cell hk 9 rfl; have fa_9 := blk_free hk 9; have ca_10 := blk_cell hk 10 rfl; have fa_10 := blk_free hk 10; have ca_11 := blk_cell hk 11 rfl; have fa_11 := blk_free hk 11; have ca_12 := blk_cell hk 12 rfl; have fa_12 := blk_free hk 12; have ca_13 := blk_cell hk 13 rfl; have fa_13 := blk_free hk 13; have ca_14 := blk_cell hk 14 rfl; have fa_14 := blk_free hk 14; have ca_15 := blk_cell hk 15 rfl; have fa_15 := blk_free hk 15; have ca_16 := blk_cell hk 16 rfl; have fa_16 := blk_free hk 16; have ca_17 := blk_cell hk 17 rfl; have fa_17 := blk_free hk 17; have ca_18 := blk_cell hk 18 rfl; have fa_18 := blk_free hk 18; have la := lt_of_block hk; clear hk
        rw [HA.out] at ca_11
        have e7 := ca_11; have e8 := ca_12; have e13 := ca_17; have e14 := ca_18; have e6 := ca_6; clear ca_0 fa_0 ca_1 fa_1 ca_2 fa_2 ca_3 fa_3 ca_4 fa_4 ca_5 fa_5 ca_6 fa_6 ca_7 fa_7 ca_8 fa_8 ca_9 fa_9 ca_10 fa_10 ca_11 fa_11 ca_12 fa_12 ca_13 fa_13 ca_14 fa_14 ca_15 fa_15 ca_16 fa_16 ca_17 fa_17 ca_18 fa_18; have ca_11 := e7; have ca_12 := e8; have ca_17 := e13; have ca_18 := e14; have ca_6 := e6; clear e7 e8 e13 e14 e6
        go_wp2_with fail
        refine (G.out _ HB1.out).mono ?_
        rintro e w3 ⟨g, o, c2, rfl, hc, hb3, hgg⟩
        have hgc : g ≠ c := by have h1 := HB1.out.size; have h2 := HH.out.lt.2; omega
        have hgb : g ≠ b := by have h1 := HB1.out.size; have h2 := HH.out.lt.1; omega
        have d0 := hc 0 Cb
        have d1 := hc 1 Cb
        rw [← HN.out.1] at d0
        rw [← HN.out.2] at d1
        simp only [Nat.add_zero] at d0
        have HP3 := Lib.hid (HP.out.below hb3 (Nat.le_refl _)); have HB3 := Lib.hid (HB1.out.trans (hb3.mono HB1.out.size)); have j3 := blk_below HJ.out (hb3.mono (Nat.le_refl _)) (lt_of_block HJ.out); clear cg_0 fg_0 cg_1 fg_1 cg_2 fg_2 cg_3 fg_3 cg_4 fg_4; have cg_0 := blk_cell j3 0 rfl; have fg_0 := blk_free j3 0; have cg_1 := blk_cell j3 1 rfl; have fg_1 := blk_free j3 1; have cg_2 := blk_cell j3 2 rfl; have fg_2 := blk_free j3 2; have cg_3 := blk_cell j3 3 rfl; have fg_3 := blk_free j3 3; have cg_4 := blk_cell j3 4 rfl; have fg_4 := blk_free j3 4; have lg := lt_of_block j3; clear j3 hb3 HP HB1 HJ ca_11 ca_12 ca_17 ca_18 ca_6; have HP := HP3; have HB1 := HB3; clear HP3 HB3; (have ca_6 := blk_cell HP.out.blk 6 rfl); (have ca_11 := blk_cell HP.out.blk 11 rfl); (have fa_11 := blk_free HP.out.blk 11); (have ca_12 := blk_cell HP.out.blk 12 rfl); (have ca_17 := blk_cell HP.out.blk 17 rfl); (have ca_18 := blk_cell HP.out.blk 18 rfl); (try rw [HA.out] at ca_11)
        clear hc
        go_wp2_with fail
        go_quiet (fail)
        clear w1r w2r z9
        go_wp2_with fail
        (go_region_held3 (fun w' => w'.cell? ⟨b, 6, none⟩ = some (.pointer (some ⟨c, 0, none⟩)) ∧ w'.cell? ⟨b, 18, none⟩ = some (.int .i64 s.rep) ∧ w'.cell? ⟨b, 12, none⟩ = some (.int .i64 s.now) ∧ w'.cell? ⟨g, o, none⟩ = some (.int .i64 n0) ∧ w'.cell? ⟨g, o + 1, none⟩ = some (.int .i64 n1)) (first | (refine ⟨?_, ?_, ?_, ?_, ?_⟩ <;> simp [go_sem, *]; done) | go_keep) (first | (go_at_call 165; refine (AD.out _ (by first | exact HP.out.clk | exact Ck.clk_drewN HP.out.clk _ | exact Ck.clk_drewN (Ck.clk_drewN HP.out.clk _) _)).mono ?_; rintro e w5 ⟨rfl, hk5, hg5⟩; have hK5 := keeps_clk hg5; have HK5 := Lib.hid (show Keeps (fun i => i = c) w3 w5 from by first | exact hK5 | exact ⟨hK5.os, hK5.tape, hK5.output, hK5.size, hK5.block⟩); have HC5 := Lib.hid hk5; clear hg5 hK5 hk5; have hb5 := blk_keep HP.out.blk HK5.out HP.out.ne; have HB5 := Lib.hid hb5; simp only [pcl] at hb5; (have d5 : w5.cell? ⟨g, o, none⟩ = some (.int .i64 n0) := (keeps_cell HK5.out hgc d0).trans d0); (have d6 : w5.cell? ⟨g, o + 1, none⟩ = some (.int .i64 n1) := (keeps_cell HK5.out hgc d1).trans d1); clear ca_6 ca_11 fa_11 ca_12 ca_17 ca_18 d0 d1; (have cm_0 := blk_cell hb5 0 rfl; have fm_0 := blk_free hb5 0; have cm_1 := blk_cell hb5 1 rfl; have fm_1 := blk_free hb5 1; have cm_2 := blk_cell hb5 2 rfl; have fm_2 := blk_free hb5 2; have cm_3 := blk_cell hb5 3 rfl; have fm_3 := blk_free hb5 3; have cm_4 := blk_cell hb5 4 rfl; have fm_4 := blk_free hb5 4; have cm_5 := blk_cell hb5 5 rfl; have fm_5 := blk_free hb5 5; have cm_6 := blk_cell hb5 6 rfl; have fm_6 := blk_free hb5 6; have cm_7 := blk_cell hb5 7 rfl; have fm_7 := blk_free hb5 7; have cm_8 := blk_cell hb5 8 rfl; have fm_8 := blk_free hb5 8; have cm_9 := blk_cell hb5 9 rfl; have fm_9 := blk_free hb5 9; have cm_10 := blk_cell hb5 10 rfl; have fm_10 := blk_free hb5 10; have cm_11 := blk_cell hb5 11 rfl; have fm_11 := blk_free hb5 11; have cm_12 := blk_cell hb5 12 rfl; have fm_12 := blk_free hb5 12; have cm_13 := blk_cell hb5 13 rfl; have fm_13 := blk_free hb5 13; have cm_14 := blk_cell hb5 14 rfl; have fm_14 := blk_free hb5 14; have cm_15 := blk_cell hb5 15 rfl; have fm_15 := blk_free hb5 15; have cm_16 := blk_cell hb5 16 rfl; have fm_16 := blk_free hb5 16; have cm_17 := blk_cell hb5 17 rfl; have fm_17 := blk_free hb5 17; have cm_18 := blk_cell hb5 18 rfl; have fm_18 := blk_free hb5 18; have lm := lt_of_block hb5); clear hb5)))
        go_wp2_with fail
        generalize hW : World.setCell _ _ _ = W
        obtain ⟨s', hs'⟩ : ∃ s', s' = ({ s with r := Ck.Clk.addR s.d s.r s.cs s.lo s.hi s.rep n0 n1 s.now, cs := Ck.Clk.addS s.d s.r s.cs s.lo s.hi s.rep n0 n1 s.now, lo := Ck.Clk.addLo s.d s.r s.cs s.lo s.hi s.rep n0 n1 s.now, hi := Ck.Clk.addHi s.d s.r s.cs s.lo s.hi s.rep n0 n1 s.now, asked := false } : Plt.St) := ⟨_, rfl⟩
        have kW : IsP W base b c s' := ⟨by rw [hs']; simp only [pcl]; rw [← hW]; have hk := HB5.out; simp only [pcl] at hk; exact Aa, by rw [hs', ← hW]; exact Ck.clk_far HC5.out (fun e => HP.out.ne e.symm) _, HP.out.ge⟩
        have hK : Keeps (fun i => i = b) w5 W := Ah
        have KW := Lib.hid kW
        have HKW := Lib.hid hK
        rw [← hs'] at E
        clear hW kW hK hs'
        clear cm_0 fm_0 cm_1 fm_1 cm_2 fm_2 cm_3 fm_3 cm_4 fm_4 cm_5 fm_5 cm_6 fm_6 cm_7 fm_7 cm_8 fm_8 cm_9 fm_9 cm_10 fm_10 cm_11 fm_11 cm_12 fm_12 cm_13 fm_13 cm_14 fm_14 cm_15 fm_15 cm_16 fm_16 cm_17 fm_17 cm_18 fm_18
        (try (go_wp2_with fail))
        go_ret
        exact ⟨ret_bool (by rw [E.out]), by rw [E.out]; exact KW.out, ((Keeps.of_below HB1.out).trans HK5.out (fun _ _ h => .inr h)).trans HKW.out (fun _ _ h => .inl h)⟩
      · have E := Lib.hid (show Plt.take s x = (s, false) by unfold Plt.take; rw [if_neg Cb, if_neg Cb, if_neg Cb, if_neg Cb, if_neg Cb, if_neg Cb, if_pos Cb, if_neg (fun hh => by rw [hms] at hh; exact hq (hh.2.2.trans hu.symm))])
        have z9 : (q == u) = false := by rw [beq_eq_false_iff_ne]; exact hq
        have HA := Lib.hid ha
        clear hk hmk hmn hmp hx hm hn hr hs h hn2 hcap hcm ha hmt hms h8 hm8 hrp hask hq hu
        go_enter Tryz.func140, Tryz.ntmps140; go_upto_region 1 with fail; generalize hV : World.alloc _ _ = V; have k0 : V.heap[w.heap.size]? = some (.cells #[.int .i64 k, .int .i64 f, .int .i64 t, .int .i64 q, .slice A n cap] 147 (0, 0)) := Bd; have HV := Lib.hid (show Below w.heap.size w V by rw [← hV]; exact (Below.refl _ _).alloc (Nat.le_refl _) _); have hzV : w.heap.size < V.heap.size := lt_of_block k0; clear hV; have cf_0 := blk_cell k0 0 rfl; have ff_0 := blk_free k0 0; have cf_1 := blk_cell k0 1 rfl; have ff_1 := blk_free k0 1; have cf_2 := blk_cell k0 2 rfl; have ff_2 := blk_free k0 2; have cf_3 := blk_cell k0 3 rfl; have ff_3 := blk_free k0 3; have cf_4 := blk_cell k0 4 rfl; have ff_4 := blk_free k0 4; have lf := lt_of_block k0; have K0 := Lib.hid k0; clear k0
        (go_region_held3 (fun w' => w'.cell? ⟨w.heap.size, 0, none⟩ = some (.int .i64 k) ∧ w'.cell? ⟨w.heap.size, 1, none⟩ = some (.int .i64 f) ∧ w'.cell? ⟨w.heap.size, 2, none⟩ = some (.int .i64 t) ∧ w'.cell? ⟨w.heap.size, 3, none⟩ = some (.int .i64 q) ∧ w'.cell? ⟨w.heap.size, 4, none⟩ = some (.slice A n cap)) (first | (refine ⟨?_, ?_, ?_, ?_, ?_⟩ <;> simp [go_sem, *]; done) | go_keep) (first | (go_at_call 162; refine (NU.out _ B4).mono ?_; rintro e w1 ⟨rfl, hb1⟩; have hb2 : Below V.heap.size V w1 := As; have HB1 := Lib.hid (HV.out.trans (hb2.mono HV.out.size)); have j0 := blk_below K0.out hb2 hzV; have HJ := Lib.hid j0; have HP := Lib.hid (HH.out.below HB1.out (Nat.le_refl _)); clear hb1 hb2; clear cf_0 ff_0 cf_1 ff_1 cf_2 ff_2 cf_3 ff_3 cf_4 ff_4; have cg_0 := blk_cell j0 0 rfl; have fg_0 := blk_free j0 0; have cg_1 := blk_cell j0 1 rfl; have fg_1 := blk_free j0 1; have cg_2 := blk_cell j0 2 rfl; have fg_2 := blk_free j0 2; have cg_3 := blk_cell j0 3 rfl; have fg_3 := blk_free j0 3; have cg_4 := blk_cell j0 4 rfl; have fg_4 := blk_free j0 4; have lg := lt_of_block j0; clear j0)))
        have hk := HP.out.blk; simp only [pcl] at hk; have ca_0 := blk_cell hk 0 rfl; have fa_0 := blk_free hk 0; have ca_1 := blk_cell hk 1 rfl; have fa_1 := blk_free hk 1; have ca_2 := blk_cell hk 2 rfl; have fa_2 := blk_free hk 2; have ca_3 := blk_cell hk 3 rfl; have fa_3 := blk_free hk 3; have ca_4 := blk_cell hk 4 rfl; have fa_4 := blk_free hk 4; have ca_5 := blk_cell hk 5 rfl; have fa_5 := blk_free hk 5; have ca_6 := blk_cell hk 6 rfl; have fa_6 := blk_free hk 6; have ca_7 := blk_cell hk 7 rfl; have fa_7 := blk_free hk 7; have ca_8 := blk_cell hk 8 rfl; have fa_8 := blk_free hk 8; have ca_9 := blk_cell hk 9 rfl; have fa_9 := blk_free hk 9; have ca_10 := blk_cell hk 10 rfl; have fa_10 := blk_free hk 10; have ca_11 := blk_cell hk 11 rfl; have fa_11 := blk_free hk 11; have ca_12 := blk_cell hk 12 rfl; have fa_12 := blk_free hk 12; have ca_13 := blk_cell hk 13 rfl; have fa_13 := blk_free hk 13; have ca_14 := blk_cell hk 14 rfl; have fa_14 := blk_free hk 14; have ca_15 := blk_cell hk 15 rfl; have fa_15 := blk_free hk 15; have ca_16 := blk_cell hk 16 rfl; have fa_16 := blk_free hk 16; have ca_17 := blk_cell hk 17 rfl; have fa_17 := blk_free hk 17; have ca_18 := blk_cell hk 18 rfl; have fa_18 := blk_free hk 18; have la := lt_of_block hk; clear hk
        rw [HA.out] at ca_11
        have e7 := ca_11; have e8 := ca_12; have e13 := ca_17; have e14 := ca_18; have e6 := ca_6; clear ca_0 fa_0 ca_1 fa_1 ca_2 fa_2 ca_3 fa_3 ca_4 fa_4 ca_5 fa_5 ca_6 fa_6 ca_7 fa_7 ca_8 fa_8 ca_9 fa_9 ca_10 fa_10 ca_11 fa_11 ca_12 fa_12 ca_13 fa_13 ca_14 fa_14 ca_15 fa_15 ca_16 fa_16 ca_17 fa_17 ca_18 fa_18; have ca_11 := e7; have ca_12 := e8; have ca_17 := e13; have ca_18 := e14; have ca_6 := e6; clear e7 e8 e13 e14 e6
        go_wp2_with fail
        refine (G.out _ HB1.out).mono ?_
        rintro e w3 ⟨g, o, c2, rfl, hc, hb3, _⟩
        have HP3 := Lib.hid (HP.out.below hb3 (Nat.le_refl _)); have HB3 := Lib.hid (HB1.out.trans (hb3.mono HB1.out.size)); have j3 := blk_below HJ.out (hb3.mono (Nat.le_refl _)) (lt_of_block HJ.out); clear cg_0 fg_0 cg_1 fg_1 cg_2 fg_2 cg_3 fg_3 cg_4 fg_4; have cg_0 := blk_cell j3 0 rfl; have fg_0 := blk_free j3 0; have cg_1 := blk_cell j3 1 rfl; have fg_1 := blk_free j3 1; have cg_2 := blk_cell j3 2 rfl; have fg_2 := blk_free j3 2; have cg_3 := blk_cell j3 3 rfl; have fg_3 := blk_free j3 3; have cg_4 := blk_cell j3 4 rfl; have fg_4 := blk_free j3 4; have lg := lt_of_block j3; clear j3 hb3 HP HB1 HJ ca_11 ca_12 ca_17 ca_18 ca_6; have HP := HP3; have HB1 := HB3; clear HP3 HB3; (have ca_6 := blk_cell HP.out.blk 6 rfl); (have ca_11 := blk_cell HP.out.blk 11 rfl); (have fa_11 := blk_free HP.out.blk 11); (have ca_12 := blk_cell HP.out.blk 12 rfl); (have ca_17 := blk_cell HP.out.blk 17 rfl); (have ca_18 := blk_cell HP.out.blk 18 rfl); (try rw [HA.out] at ca_11)
        clear hc
        go_wp2_with fail
        go_quiet (fail)
        clear w1r w2r z9
        exact Dr
  · have G := Lib.hid (fun (W : World) (hW : Below w.heap.size w W) => getk_no A n cap 2 l W Cb hn Cb Cb hcap hcm ((hr.below hW (Nat.le_refl _)).more hW.size))
    have hm8 : x.two = false := by rw [hmt, decide_eq_false h8]
    have E := Lib.hid (show Plt.take s x = (s, false) by unfold Plt.take; rw [if_neg Cb, if_neg Cb, if_neg Cb, if_neg Cb, if_neg Cb, if_neg Cb, if_pos Cb, if_neg (fun hh => by rw [hm8] at hh; cases hh.1)])
    have hE : Frm.gE l.length (2 : Nat) ≠ 0 := (gl_no (l := l) (k := 2) Cb).2
    obtain ⟨y, hy⟩ : ∃ y, y = Frm.gE l.length (2 : Nat) := ⟨_, rfl⟩
    rw [← hy] at hE
    have z9 : (y == 0) = false := by rw [beq_eq_false_iff_ne]; exact hE
    have G := Lib.hid (fun (W : World) (hW : Below w.heap.size w W) => by have := G.out W hW; unfold GetNo at this; rw [← hy] at this; exact this)
    clear hk hmk hmn hmp hx hm hn hr hs h hn2 hcap hcm hmt hms h8 hm8 hrp hask hE hy
    go_enter Tryz.func140, Tryz.ntmps140; go_upto_region 1 with fail; generalize hV : World.alloc _ _ = V; have k0 : V.heap[w.heap.size]? = some (.cells #[.int .i64 k, .int .i64 f, .int .i64 t, .int .i64 q, .slice A n cap] 147 (0, 0)) := Bd; have HV := Lib.hid (show Below w.heap.size w V by rw [← hV]; exact (Below.refl _ _).alloc (Nat.le_refl _) _); have hzV : w.heap.size < V.heap.size := lt_of_block k0; clear hV; have cf_0 := blk_cell k0 0 rfl; have ff_0 := blk_free k0 0; have cf_1 := blk_cell k0 1 rfl; have ff_1 := blk_free k0 1; have cf_2 := blk_cell k0 2 rfl; have ff_2 := blk_free k0 2; have cf_3 := blk_cell k0 3 rfl; have ff_3 := blk_free k0 3; have cf_4 := blk_cell k0 4 rfl; have ff_4 := blk_free k0 4; have lf := lt_of_block k0; have K0 := Lib.hid k0; clear k0
    (go_region_held3 (fun w' => w'.cell? ⟨w.heap.size, 0, none⟩ = some (.int .i64 k) ∧ w'.cell? ⟨w.heap.size, 1, none⟩ = some (.int .i64 f) ∧ w'.cell? ⟨w.heap.size, 2, none⟩ = some (.int .i64 t) ∧ w'.cell? ⟨w.heap.size, 3, none⟩ = some (.int .i64 q) ∧ w'.cell? ⟨w.heap.size, 4, none⟩ = some (.slice A n cap)) (first | (refine ⟨?_, ?_, ?_, ?_, ?_⟩ <;> simp [go_sem, *]; done) | go_keep) (first | (go_at_call 162; refine (NU.out _ B4).mono ?_; rintro e w1 ⟨rfl, hb1⟩; have hb2 : Below V.heap.size V w1 := As; have HB1 := Lib.hid (HV.out.trans (hb2.mono HV.out.size)); have j0 := blk_below K0.out hb2 hzV; have HJ := Lib.hid j0; have HP := Lib.hid (HH.out.below HB1.out (Nat.le_refl _)); clear hb1 hb2; clear cf_0 ff_0 cf_1 ff_1 cf_2 ff_2 cf_3 ff_3 cf_4 ff_4; have cg_0 := blk_cell j0 0 rfl; have fg_0 := blk_free j0 0; have cg_1 := blk_cell j0 1 rfl; have fg_1 := blk_free j0 1; have cg_2 := blk_cell j0 2 rfl; have fg_2 := blk_free j0 2; have cg_3 := blk_cell j0 3 rfl; have fg_3 := blk_free j0 3; have cg_4 := blk_cell j0 4 rfl; have fg_4 := blk_free j0 4; have lg := lt_of_block j0; clear j0)))
    have hk := HP.out.blk; simp only [pcl] at hk; have ca_0 := blk_cell hk 0 rfl; have fa_0 := blk_free hk 0; have ca_1 := blk_cell hk 1 rfl; have fa_1 := blk_free hk 1; have ca_2 := blk_cell hk 2 rfl; have fa_2 := blk_free hk 2; have ca_3 := blk_cell hk 3 rfl; have fa_3 := blk_free hk 3; have ca_4 := blk_cell hk 4 rfl; have fa_4 := blk_free hk 4; have ca_5 := blk_cell hk 5 rfl; have fa_5 := blk_free hk 5; have ca_6 := blk_cell hk 6 rfl; have fa_6 := blk_free hk 6; have ca_7 := blk_cell hk 7 rfl; have fa_7 := blk_free hk 7; have ca_8 := blk_cell hk 8 rfl; have fa_8 := blk_free hk 8; have ca_9 := blk_cell hk 9 rfl; have fa_9 := blk_free hk 9; have ca_10 := blk_cell hk 10 rfl; have fa_10 := blk_free hk 10; have ca_11 := blk_cell hk 11 rfl; have fa_11 := blk_free hk 11; have ca_12 := blk_cell hk 12 rfl; have fa_12 := blk_free hk 12; have ca_13 := blk_cell hk 13 rfl; have fa_13 := blk_free hk 13; have ca_14 := blk_cell hk 14 rfl; have fa_14 := blk_free hk 14; have ca_15 := blk_cell hk 15 rfl; have fa_15 := blk_free hk 15; have ca_16 := blk_cell hk 16 rfl; have fa_16 := blk_free hk 16; have ca_17 := blk_cell hk 17 rfl; have fa_17 := blk_free hk 17; have ca_18 := blk_cell hk 18 rfl; have fa_18 := blk_free hk 18; have la := lt_of_block hk; clear hk
    have e7 := ca_11; have e8 := ca_12; have e13 := ca_17; have e14 := ca_18; have e6 := ca_6; clear ca_0 fa_0 ca_1 fa_1 ca_2 fa_2 ca_3 fa_3 ca_4 fa_4 ca_5 fa_5 ca_6 fa_6 ca_7 fa_7 ca_8 fa_8 ca_9 fa_9 ca_10 fa_10 ca_11 fa_11 ca_12 fa_12 ca_13 fa_13 ca_14 fa_14 ca_15 fa_15 ca_16 fa_16 ca_17 fa_17 ca_18 fa_18; have ca_11 := e7; have ca_12 := e8; have ca_17 := e13; have ca_18 := e14; have ca_6 := e6; clear e7 e8 e13 e14 e6
    go_wp2_with fail
    refine (G.out _ HB1.out).mono ?_
    rintro e w3 ⟨A3, c2, rfl, hb3⟩
    have HP3 := Lib.hid (HP.out.below hb3 (Nat.le_refl _)); have HB3 := Lib.hid (HB1.out.trans (hb3.mono HB1.out.size)); have j3 := blk_below HJ.out (hb3.mono (Nat.le_refl _)) (lt_of_block HJ.out); clear cg_0 fg_0 cg_1 fg_1 cg_2 fg_2 cg_3 fg_3 cg_4 fg_4; have cg_0 := blk_cell j3 0 rfl; have fg_0 := blk_free j3 0; have cg_1 := blk_cell j3 1 rfl; have fg_1 := blk_free j3 1; have cg_2 := blk_cell j3 2 rfl; have fg_2 := blk_free j3 2; have cg_3 := blk_cell j3 3 rfl; have fg_3 := blk_free j3 3; have cg_4 := blk_cell j3 4 rfl; have fg_4 := blk_free j3 4; have lg := lt_of_block j3; clear j3 hb3 HP HB1 HJ ca_11 ca_12 ca_17 ca_18 ca_6; have HP := HP3; have HB1 := HB3; clear HP3 HB3; (have ca_6 := blk_cell HP.out.blk 6 rfl); (have ca_11 := blk_cell HP.out.blk 11 rfl); (have fa_11 := blk_free HP.out.blk 11); (have ca_12 := blk_cell HP.out.blk 12 rfl); (have ca_17 := blk_cell HP.out.blk 17 rfl); (have ca_18 := blk_cell HP.out.blk 18 rfl); (try rw [HA.out] at ca_11)
    go_wp2_with fail
    go_quiet (fail)
    exact Dr
theorem take_x (h : IsP w base b c s) (hs : Plt.Inv s) (k f t q : Int) (A : Option Addr) (n cap : Nat) (l : List Int) (hn : n = l.length) (hn2 : n ≤ 64) (hcap : n ≤ cap) (hcm : cap ≤ 9223372036854775807) (hr : Rd w w.heap.size A n l) (hk : k < 1 ∨ 7 < k) :
    Calls Tryz.prog 140 #[.pointer (some ⟨b, 0, none⟩), .agg #[.int .i64 k, .int .i64 f, .int .i64 t, .int .i64 q, .slice A n cap]] w (TakePost base b c (Plt.take s (Plt.fmOf ⟨k, f, t, q, l⟩)) w) := by
  have HH := Lib.hid h
  have HS := Lib.hid hs
  obtain ⟨m, hm⟩ : ∃ m, m = (if l.length = 4 then Frm.gnAt l 0 else -1) := ⟨_, rfl⟩
  have NU := Lib.hid (fun (W : World) (hW : Below w.heap.size w W) => show Calls Tryz.prog 162 #[.agg #[.int .i64 k, .int .i64 f, .int .i64 t, .int .i64 q, .slice A n cap]] W fun e w' => e = .returned (.int .i64 m) ∧ Below W.heap.size W w' from by
    rw [hm]
    exact number_any k f t q A n cap l W hn Cb hcap hcm ((hr.below hW (Nat.le_refl _)).more hW.size))
  have hmn : (Plt.fmOf ⟨k, f, t, q, l⟩).n = m := hm.symm
  have hmk : (Plt.fmOf ⟨k, f, t, q, l⟩).k = k := rfl
  have hmp : (Plt.fmOf ⟨k, f, t, q, l⟩).plain = decide (n = 0) := by rw [hn]; rfl
  obtain ⟨x, hx⟩ : ∃ x, x = Plt.fmOf ⟨k, f, t, q, l⟩ := ⟨_, rfl⟩
  rw [← hx] at hmn hmk hmp ⊢
  have y1 : (k == 1) = false := by rw [beq_eq_false_iff_ne]; omega
  have y2 : (k == 2) = false := by rw [beq_eq_false_iff_ne]; omega
  have y3 : (k == 3) = false := by rw [beq_eq_false_iff_ne]; omega
  have y4 : (k == 4) = false := by rw [beq_eq_false_iff_ne]; omega
  have y5 : (k == 5) = false := by rw [beq_eq_false_iff_ne]; omega
  have y6 : (k == 6) = false := by rw [beq_eq_false_iff_ne]; omega
  have y7 : (k == 7) = false := by rw [beq_eq_false_iff_ne]; omega
  have E := Lib.hid (show Plt.take s x = (s, false) by unfold Plt.take; rw [if_neg Cb, if_neg Cb, if_neg Cb, if_neg Cb, if_neg Cb, if_neg Cb, if_neg Cb])
  clear hk hmk hmn hmp hx hm hn hr hs h hn2 hcap hcm
  exact Dp
theorem take_any (h : IsP w base b c s) (hs : Plt.Inv s) (k f t q : Int) (A : Option Addr) (n cap : Nat) (l : List Int) (hn : n = l.length) (hn2 : n ≤ 64) (hcap : n ≤ cap) (hcm : cap ≤ 9223372036854775807) (hr : Rd w w.heap.size A n l) (hrep : s.reports < 1000000000000000) :
    Calls Tryz.prog 140 #[.pointer (some ⟨b, 0, none⟩), .agg #[.int .i64 k, .int .i64 f, .int .i64 t, .int .i64 q, .slice A n cap]] w (TakePost base b c (Plt.take s (Plt.fmOf ⟨k, f, t, q, l⟩)) w) := by
  by_cases h1 : k = 1
  · exact take_1 h hs k f t q A n cap l hn hn2 hcap hcm hr h1
  by_cases h2 : k = 2
  · exact take_2 h hs k f t q A n cap l hn hn2 hcap hcm hr h2
  by_cases h3 : k = 3
  · exact take_3 h hs k f t q A n cap l hn hn2 hcap hcm hr h3
  by_cases h4 : k = 4
  · exact take_4 h hs k f t q A n cap l hn hn2 hcap hcm hr h4
  by_cases h5 : k = 5
  · exact take_5 h hs k f t q A n cap l hn hn2 hcap hcm hr h5
  by_cases h6 : k = 6
  · exact take_6 h hs k f t q A n cap l hn hn2 hcap hcm hr h6
  by_cases h7 : k = 7
  · exact take_7 h hs k f t q A n cap l hn hn2 hcap hcm hr h7 hrep
  exact take_x h hs k f t q A n cap l hn hn2 hcap hcm hr Cb
end
end Go.Proofs.YtdocdgcdldpagaaGreat

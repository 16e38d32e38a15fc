/- The law of a full log holds: 'skylanternlaw39.FlightlogFulls' returns true at every input. No conditions. -/
import Derived.Test.YtgmejplcdecmkaaLgMi
namespace Go.Proofs.Ytgmejplcdecmkaa.lawFlightlogFulls
open Go.ChangeShapes Go.WideShapes Go.ChangeAt Go.RowKit Go.Joins Go.Shelf
set_option linter.unusedVariables false
set_option linter.unusedSimpArgs false
attribute [local go_sem ↓] Go.wp_at_zero Go.wp_at_succ
attribute [local go_sem] Oper.semAt_some
set_option maxHeartbeats 8000000
set_option maxRecDepth 100000
theorem wp_nopanic {P : Program} {c : Code} {K : Act → World → Prop} {Q' : Exit → Act → World → Prop} {a : Act} {w : World} (h : Code.wp P c (Exit.then K (fun _ _ _ => False)) a w) : Code.wp P c (Exit.then K Q') a w :=
  Go.wp_mono h (fun e a w h => by cases e <;> first | exact h | exact h.elim)
def sp (pre : List Lg.NR) : List Lg.RV := pre.map (·.2)
theorem sp_app (pre : List Lg.NR) (x : Lg.NR) : sp (pre ++ [x]) = sp pre ++ [x.2] := by simp [sp]
theorem sp_len (pre : List Lg.NR) : (sp pre).length = pre.length := by simp [sp]
theorem walk_no (a0 : Int) (a10 a11 a12 : Int) (w : World) (w0 : (Lit.int .i64 a0).wf = true) (w10 : (Lit.int .i64 a10).wf = true) (w11 : (Lit.int .i64 a11).wf = true) (w12 : (Lit.int .i64 a12).wf = true) (hno : a0 < 1 ∨ (¬ a0 < 1 ∧ (64 < a0 ∨ (¬ 64 < a0 ∧ Lg.inP3 a10 a11 a12 = false)))) :
    Calls Try.prog 5 #[.int .i64 a0, .agg #[.int .i64 a10, .int .i64 a11, .int .i64 a12]] w fun e w' => e = .returned (.bool true) ∧ Below w.heap.size w w' := by
  have PT := Lib.hid (fun W : World => point_any a10 a11 a12 W)
  have v0 := heap_new w (.cells #[.int .i64 a10, .int .i64 a11, .int .i64 a12] 25 (0, 0))
  have c0 := blk_cell (l := [_, _, _]) v0 0 rfl
  have c1 := blk_cell (l := [_, _, _]) v0 1 rfl
  have c2 := blk_cell (l := [_, _, _]) v0 2 rfl
  have HB0 : Below w.heap.size w (w.alloc (.cells #[.int .i64 a10, .int .i64 a11, .int .i64 a12] 25 (0, 0))) := (Below.refl _ w).alloc (Nat.le_refl _) _
  clear v0
  rcases hno with h1 | ⟨h1, h2 | ⟨h2, h3⟩⟩
  · go_enter Try.func5, Try.ntmps5
    go_wp2_with fail
    refine (known_true _).mono ?_
    rintro _ w1 ⟨rfl, hb1⟩
    have BZ := HB0.trans (hb1.mono HB0.size)
    go_wp2_with fail
    go_ret
    exact ⟨rfl, BZ⟩
  · go_enter Try.func5, Try.ntmps5
    go_wp2_with fail
    refine (known_true _).mono ?_
    rintro _ w1 ⟨rfl, hb1⟩
    have BZ := HB0.trans (hb1.mono HB0.size)
    go_wp2_with fail
    go_ret
    exact ⟨rfl, BZ⟩
  · rw [h3] at PT
    clear h3
    go_enter Try.func5, Try.ntmps5
    go_wp2_with fail
    refine (PT.out _).mono ?_
    rintro _ w0 ⟨rfl, hb0⟩
    have HB1 := HB0.trans (hb0.mono HB0.size)
    clear c0 c1 c2
    go_wp2_with fail
    refine (known_true _).mono ?_
    rintro _ w1 ⟨rfl, hb1⟩
    have BZ := HB1.trans (hb1.mono HB1.size)
    go_wp2_with fail
    go_ret
    exact ⟨rfl, BZ⟩
theorem walk_yes (a0 : Int) (a10 a11 a12 : Int) (w : World) (w0 : (Lit.int .i64 a0).wf = true) (w10 : (Lit.int .i64 a10).wf = true) (w11 : (Lit.int .i64 a11).wf = true) (w12 : (Lit.int .i64 a12).wf = true) (h1 : ¬ a0 < 1) (h2 : ¬ 64 < a0) (h3 : Lg.inP3 a10 a11 a12 = true) :
    Calls Try.prog 5 #[.int .i64 a0, .agg #[.int .i64 a10, .int .i64 a11, .int .i64 a12]] w fun e w' => e = .returned (.bool true) ∧ Below w.heap.size w w' := by
  have PT := Lib.hid (h3 ▸ (fun W : World => point_any a10 a11 a12 W))
  have PZ := Lib.hid (show Lg.PzOk a0 a10 a11 a12 by
    unfold Lg.inP3 at h3
    simp only [Bool.and_eq_true] at h3
    exact ⟨by omega, by omega, h3.1.1, h3.1.2, h3.2⟩)
  obtain ⟨j0, hj0, hya, hyb, hyc⟩ := info_parts info_rec
  have NW := Lib.hid (fun W => new_any W)
  clear w0 w10 w11 w12 h3
  refine (callsIn_wide (n := 5)).1 (callsIn_of_wp_marks Try.func5 rfl trivial ?_ rfl)
  simp only [Try.ntmps5, List.size_toArray, List.length_cons, List.length_nil, Nat.reduceAdd, Nat.reduceSub, Array.replicate_succ, Array.replicate_zero, List.push_toArray, List.append_toArray, List.nil_append, List.cons_append]
  refine wpIn_wide.2 ?_
  go_upto_region 1 with fail
  generalize hW0 : World.alloc _ _ = W0
  obtain ⟨q, hq⟩ : ∃ q, q = w.heap.size := ⟨_, rfl⟩
  have v0 : W0.heap[q]? = some (.cells #[.int .i64 a10, .int .i64 a11, .int .i64 a12] 25 (0, 0)) := by rw [← hW0, hq]; exact heap_new _ _
  have HB0 : Below w.heap.size w W0 := by rw [← hW0]; exact (Below.refl _ w).alloc (Nat.le_refl _) _
  rw [← hq]
  clear hW0 hq
  have cx_0 := blk_cell v0 0 rfl; have fx_0 := blk_free v0 0; have cx_1 := blk_cell v0 1 rfl; have fx_1 := blk_free v0 1; have cx_2 := blk_cell v0 2 rfl; have fx_2 := blk_free v0 2; have lx := lt_of_block v0
  go_wp2_with fail
  refine (PT.out W0).mono ?_
  rintro _ W1 ⟨rfl, hb1⟩
  clear cx_0 fx_0 cx_1 fx_1 cx_2 fx_2
  have v0 := blk_below v0 hb1 (lt_of_block v0)
  have HB1 := HB0.trans (hb1.mono HB0.size)
  clear PT hb1 HB0
  go_wp2_with fail
  refine (NW.out W1).mono ?_
  rintro _ W2 ⟨p, rfl, hlg, hb2⟩
  obtain ⟨B, hB⟩ : ∃ B, B = W1.heap.size := ⟨_, rfl⟩
  rw [← hB] at hlg hb2
  have hks : KS W2 B p [] := ⟨_, _, _, _, hlg, rfl⟩
  have hrb : w.heap.size ≤ B := by rw [hB]; exact HB1.size
  have hbs : B ≤ W2.heap.size := by rw [hB]; exact hb2.size
  have v0 := blk_below v0 hb2 (by rw [hB]; exact lt_of_block v0)
  have HB2 := Lib.hid (HB1.trans (hb2.mono hrb))
  have HK := Lib.hid hks
  clear hlg hB HB1 hb2 NW hks
  go_wp2_with fail
  go_loopw [6] (fun s6 wr => ∃ (i : Nat), s6 = .int .i64 i ∧ i ≤ 10000 ∧ Hid (KS wr B p (Lg.pz a0 a10 a11 a12 i)) ∧ wr.heap[q]? = some (.cells #[.int .i64 a10, .int .i64 a11, .int .i64 a12] 25 (0, 0)) ∧ B ≤ wr.heap.size ∧ Hid (Below w.heap.size w wr)) (fun s6 _ => 10000 - (intOf s6).toNat)
  case atStart => exact ⟨0, by go_num, by omega, HK, v0, hbs, HB2⟩
  case round =>
    clear HK v0 hbs HB2
    obtain ⟨i, rfl, hi, HK, v0, hbs, HB⟩ := hrel
    by_cases hlt : i < 10000
    · have ik : (i : Int) < 10000 := by omega
      have hlen := (Lg.pz_facts PZ.out i hi).1
      have AD := Lib.hid (ks_pos HK.out hbs (by rw [hlen]; omega) i a0 a10 a11 a12 0 (Lg.pz_add PZ.out hlt))
      clear hlen
      go_wp2_with (refine wpList_load_row rfl 25 (.tmp 3) rfl q rfl 25 _ (0, 0) _ v0 Try.underlying25 rfl (by kernel_rfl) ?_)
      refine AD.out.mono ?_
      rintro _ W3 ⟨rfl, hks, hkt⟩
      have v0 := hkt.2.1 _ _ _ (by decide) (by decide) v0; have hbs := Nat.le_trans hbs hkt.1.size; have HK := Lib.hid hks; have HB := Lib.hid (HB.out.trans (hkt.1.mono hrb)); clear hks hkt
      clear AD
      go_wp2_with fail
      go_roundw
      case rel => exact ⟨i + 1, by go_num, by omega, HK, v0, hbs, HB⟩
      case measure => simp [intOf]; omega
    · obtain rfl : i = 10000 := by omega
      have ik : ¬ (((10000 : Nat) : Int) < 10000) := by omega
      obtain ⟨K, hKe⟩ : ∃ K, K = Lg.pz a0 a10 a11 a12 10000 := ⟨_, rfl⟩
      obtain ⟨f1, f2, f3, f4⟩ := Lg.pz_facts PZ.out 10000 (Nat.le_refl _)
      rw [← hKe] at HK f1 f2 f3 f4
      have F2 := f2 (by omega)
      have F1 := Lib.hid f1
      have F2' := Lib.hid (show (Lg.lastR K).t = 9999 by rw [F2]; rfl)
      have F3 := Lib.hid f3
      have F4 := Lib.hid f4
      have E1 := Lib.hid (Lg.full7 F1.out F2'.out (Lg.pz_fine PZ.out 10000 (by omega)) (show (9999 : Int) ≤ 10000 by decide)).2
      have E2 := Lib.hid (Lg.full7 F1.out F2'.out Lg.fine1 (by decide)).2
      have E3 := Lib.hid (Lg.full8 F1.out F2'.out Lg.fine2 (by decide))
      clear hKe f1 f2 f3 f4 F2 PZ
      have hKn : Hid (K.length ≤ 1000000) := Lib.hid (by rw [F1.out]; omega)
      go_wp2_with (refine wpList_load_row rfl 25 (.tmp 3) rfl q rfl 25 _ (0, 0) _ v0 Try.underlying25 rfl (by kernel_rfl) ?_)
      refine (ks_pos HK.out hbs hKn.out 10000 a0 a10 a11 a12 7 E1.out).mono ?_
      rintro _ W3 ⟨rfl, hks, hkt⟩
      rw [Lg.Kn.add_no (by rw [E1.out]; decide)] at hks
      have v0 := hkt.2.1 _ _ _ (by decide) (by decide) v0; have hbs := Nat.le_trans hbs hkt.1.size; have HK := Lib.hid hks; have HB := Lib.hid (HB.out.trans (hkt.1.mono hrb)); clear hks hkt
      go_wp2_with fail
      refine (ks_st HK.out hbs hKn.out 10000 0 1 7 E2.out).mono ?_
      rintro _ W4 ⟨rfl, hks, hkt⟩
      rw [Lg.Kn.add_no (by rw [E2.out]; decide)] at hks
      have v0 := hkt.2.1 _ _ _ (by decide) (by decide) v0; have hbs := Nat.le_trans hbs hkt.1.size; have HK := Lib.hid hks; have HB := Lib.hid (HB.out.trans (hkt.1.mono hrb)); clear hks hkt
      go_wp2_with fail
      refine (ks_st HK.out hbs hKn.out 9998 0 1 8 E3.out).mono ?_
      rintro _ W5 ⟨rfl, hks, hkt⟩
      rw [Lg.Kn.add_no (by rw [E3.out]; decide)] at hks
      have v0 := hkt.2.1 _ _ _ (by decide) (by decide) v0; have hbs := Nat.le_trans hbs hkt.1.size; have HK := Lib.hid hks; have HB := Lib.hid (HB.out.trans (hkt.1.mono hrb)); clear hks hkt
      go_wp2_with fail
      refine (ks_len HK.out F1.out).mono ?_
      rintro _ _ ⟨rfl, rfl⟩
      clear E1 E2 E3 v0
      go_wp2_with fail
      generalize hW6 : World.alloc _ _ = W6
      have cz : W6.cell? ⟨W5.heap.size, 25, none⟩ = some (.slice none 0 0) := by rw [← hW6]; exact arr_cell (heap_new _ _) rfl
      have b6 : Below W5.heap.size W5 W6 := by rw [← hW6]; exact (Below.refl _ W5).alloc (Nat.le_refl _) _
      have hz6 : W5.heap.size < W6.heap.size := by rw [← hW6]; simp
      have KZ := Lib.hid (keep_zero (HK.out.below b6) (Nat.le_trans hbs b6.size) hKn.out W5.heap.size cz hz6)
      have HB := Lib.hid (HB.out.trans (b6.mono HB.out.size))
      have hbs := Nat.le_trans hbs b6.size
      clear hW6 cz b6 hz6
      refine KZ.out.mono ?_
      rintro _ W7 ⟨rfl, hks, hkt⟩
      have hbs := Nat.le_trans hbs hkt.1.size
      have HK := Lib.hid hks
      have HB := Lib.hid (HB.out.trans (hkt.1.mono hrb))
      clear hks hkt KZ
      go_upto_region 14 with fail
      generalize hW8 : World.alloc _ _ = W8
      obtain ⟨Q, hQ⟩ : ∃ Q, Q = W7.heap.size := ⟨_, rfl⟩
      have yQ : W8.heap[Q]? = some (.cells #[.slice none 0 0] 40 (0, 0)) := by rw [← hW8, hQ]; exact heap_new _ _
      have b8 : Below W7.heap.size W7 W8 := by rw [← hW8]; exact (Below.refl _ W7).alloc (Nat.le_refl _) _
      obtain ⟨Ak, ck, vs, Xk, hlg7, hxs⟩ := HK.out
      have RQ := Lib.hid (show Lg.Rr W7 Q Ak vs.length vs by rw [hQ]; exact hlg7.rr)
      have LG8 := Lib.hid (hlg7.below b8)
      have LG7 := Lib.hid (fun (V : World) (hV : Below Q W7 V) => hlg7.below (show Below W7.heap.size W7 V by rw [← hQ]; exact hV))
      have hQw : w.heap.size ≤ Q := by rw [hQ]; exact HB.out.size
      have BQ8 := Lib.hid (show Below Q W7 W8 by rw [hQ]; exact b8)
      have HB8 := Lib.hid (HB.out.trans (b8.mono HB.out.size))
      have hvl : vs.length = 10000 := by rw [← F1.out, ← hxs, Lg.xs_len]
      have HVL := Lib.hid hvl
      have HXS := Lib.hid hxs
      have hQ8 : Q < W8.heap.size := lt_of_block yQ
      have AL := Lib.hid (all_any LG8.out (by rw [hvl]; decide))
      rw [hvl] at AL RQ
      rw [← hQ]
      clear hW8 hQ b8 hlg7 hxs hvl HK HB hbs
      go_wp2_with fail
      refine AL.out.mono ?_
      rintro _ W9 ⟨bx, rfl, hbx1, hbx2, hb9⟩
      have yQ := blk_below yQ hb9 (lt_of_block yQ)
      have HB9 := Lib.hid (HB8.out.trans (hb9.mono HB8.out.size))
      have BQ9 := Lib.hid (BQ8.out.trans (hb9.mono (Nat.le_of_lt hQ8)))
      have LG9 := Lib.hid (LG8.out.below hb9)
      have hQ9 : Q < W9.heap.size := lt_of_block yQ
      have hQw' : w.heap.size ≤ Q := hQw
      have R9 := Lib.hid (RQ.out.below BQ9.out (Nat.le_refl _))
      clear AL hb9 HB8 BQ8 LG8 RQ hQ8
      have hfn := fnil 53 #[.pointer (some ⟨bx, 0, none⟩)]
      go_upto_region 17 with fail
      clear hfn
      have hvd : Hid (∀ y ∈ vs, y.x.f.d = []) := Lib.hid (fun y hy => F3.out _ (by rw [← HXS.out]; exact List.mem_map_of_mem hy))
      go_cut [72] from 9 to 134 (fun v72 wx => v72 = .func (.func 53) #[] #[.pointer (some ⟨bx, 0, none⟩)] ∧ wx = W9)
      case first =>
        go_wp2_with fail
        go_meet
        exact ⟨rfl, rfl⟩
      case rest =>
        obtain ⟨rfl, rfl⟩ := hcut
        have hseq := all1_seq 4 Q bx Ak 10000 10000 vs wc (by omega) (by omega) (Nat.le_of_lt hQ9) hbx2 R9.out (fun y hy => by rw [hvd.out y hy]; simp)
        go_wp2_with fail
        refine (wpIn_wide (n := 5)).1 ?_
        refine range_own (F := Fence.wide) rfl (by omega) (gf := 53) (lb := #[.pointer (some ⟨bx, 0, none⟩)]) rfl trivial (enters_of Try.func53 (by kernel_rfl) rfl) hseq (fun h k => h.trans k)
          (fun V l' o o' hl h hc => (Below.refl _ V).grown (grownBy_putObj' V l' o') (by have := (Array.getElem?_eq_some_iff.1 h).1; omega) (fun k e => by cases e; omega)) (fun x => rfl)
          (fun pre V => Below Q wc V ∧ (∃ A' c', V.heap[Q]? = some (.cells #[.slice A' (sp pre).length c'] 40 (0, 0)) ∧ Row V Q 32 13 A' (sp pre).length c' (Lg.cs (sp pre))) ∧ (Hid (Lg.xs (sp pre) = K.take pre.length) ∧ Hid (∀ y ∈ sp pre, Lg.Lone y)))
          (fun c pre V => False)
          (fun x a' V => ∃ Bx, wc.heap.size ≤ Bx ∧ V.heap[Bx]? = some (.cells x.2.cells.toArray 32 (0, 0)) ∧ a' = { tmps := #[.int .i64 a0, .agg #[.int .i64 a10, .int .i64 a11, .int .i64 a12], undef, .pointer (some ⟨q, 0, none⟩), u4, .pointer (some ⟨p, 0, none⟩), .int .i64 10000, .pointer (some ⟨Q, 0, none⟩), .func (.func 53) #[] #[.pointer (some ⟨bx, 0, none⟩)], u9, .pointer (some ⟨Bx, 0, none⟩), u11, u12, u13, u14, u15, u16, u17, u18, u19, u20, u21, u22, u23, u24, u25, u26, u27, u28, u29, u30, u31, u32, u33, u34, u35, u36, u37, u38, u39, u40, u41, u42, u43, u44, u45, u46, u47, u48, u49, u50, u51, u52, u53, u54, u55, u56, u57, u58, u59, u60, u61, u62, u63, u64, u65, u66, u67, u68, u69, u70, u71, .func (.func 53) #[] #[.pointer (some ⟨bx, 0, none⟩)], .int .i64 x.1, x.2.val, u75, u76, u77, u78, u79, u80, u81, u82, u83, u84, u85, u86, u87, u88, u89, u90, u91, u92, u93, u94, u95, u96, u97, u98, u99, u100, u101, u102, u103, u104, u105, u106, u107, u108, u109, u110, u111, u112, u113, u114, u115, u116, u117, u118, u119, u120, u121, u122, u123, u124, u125, u126, u127, u128, u129, u130, u131, u132, u133, u134, undef], defers := [] })
          ?hI ?hIx ?hPr ?hAx ?h0 ?assign ?body ?done ?stop
        case hI =>
          refine OwnFrom.and (ownFrom_below (Nat.le_of_lt hQ9) (Nat.le_of_lt hQ9)) (OwnFrom.and ?_ (ownFrom_pure _ _))
          rintro s X Y row ⟨A', c', e1, e2⟩ hg hr
          exact ⟨A', c', blk_own (β := Unit) _ Q _ _ () X Y row e1 hg hr, row_own e2 hg (fun r e => (hr r e).2)⟩
        case hIx => exact fun c s X Y row hs _ _ => hs.elim
        case hPr => exact fun pre => Lg.PrA.own _ vs pre
        case hAx =>
          rintro a' x X Y row ⟨Bx, e1, e2, e3⟩ hg hr
          exact ⟨Bx, e1, blk_own (β := Unit) _ Bx _ _ () X Y row e2 hg hr, e3⟩
        case h0 => exact ⟨Below.refl _ _, ⟨none, 0, yQ, Row.nil _ _ _ _⟩, Lib.hid rfl, Lib.hid (fun y hy => by cases hy)⟩
        case assign =>
          rintro l' pre x V K' ⟨hBn, ⟨A', c', eQ, eR⟩, hpm⟩ ⟨q1, q2, q3⟩ hK
          have hzV := hBn.size
          have z1 : x.2.cells.toArray.size = 13 := rfl
          have Q1 := Lib.hid q1
          have Q2 := Lib.hid q2
          clear q1 q2
          simp only [Lg.encNR]
          gi_wp2_with (refine wpListIn_store_row rfl 32 _ _ rfl V.heap.size x.2.cells.toArray rfl rfl 32 _ (heap_new V (.cells #[.int .i64 0, .int .i64 0, .int .i64 0, .int .i64 0, .int .i64 0, .int .i64 0, .int .i64 0, .int .i64 0, .int .i64 0, .int .i64 0, .int .i64 0, .slice none 0 0, .int .u32 0] 32 (0, 0))) (by rw [z1]; kernel_rfl) z1.symm (rv_ones x.2) ?_)
          have kx := setRow_heap (V.alloc (.cells #[.int .i64 0, .int .i64 0, .int .i64 0, .int .i64 0, .int .i64 0, .int .i64 0, .int .i64 0, .int .i64 0, .int .i64 0, .int .i64 0, .int .i64 0, .slice none 0 0, .int .u32 0] 32 (0, 0))) V.heap.size #[.int .i64 0, .int .i64 0, .int .i64 0, .int .i64 0, .int .i64 0, .int .i64 0, .int .i64 0, .int .i64 0, .int .i64 0, .int .i64 0, .int .i64 0, .slice none 0 0, .int .u32 0] x.2.cells.toArray 32 (0, 0) (heap_new V (.cells #[.int .i64 0, .int .i64 0, .int .i64 0, .int .i64 0, .int .i64 0, .int .i64 0, .int .i64 0, .int .i64 0, .int .i64 0, .int .i64 0, .int .i64 0, .slice none 0 0, .int .u32 0] 32 (0, 0)))
          have bx : Below V.heap.size V ((V.alloc (.cells #[.int .i64 0, .int .i64 0, .int .i64 0, .int .i64 0, .int .i64 0, .int .i64 0, .int .i64 0, .int .i64 0, .int .i64 0, .int .i64 0, .int .i64 0, .slice none 0 0, .int .u32 0] 32 (0, 0))).setRow V.heap.size x.2.cells.toArray) := below_setRow ((Below.refl V.heap.size V).alloc (Nat.le_refl _) _) (Nat.le_refl _) _
          refine hK _ _ (keepsFrom_below bx) (bx.mono (by omega)) ⟨hBn.trans (bx.mono (by omega)), ⟨A', c', blk_below eQ bx (lt_of_block eQ), eR.kept (Keeps.of_below (S := fun _ => False) bx) (fun _ _ h => h)⟩, hpm⟩ ⟨Q1.out, Q2.out, q3.up bx⟩ ⟨V.heap.size, hzV, kx, rfl⟩
        case body =>
          rintro l' pre x a' V ⟨hBn, ⟨A', c', eQ, eR⟩, hx0, hl0⟩ ⟨q1, q2, q3⟩ ⟨Bx, hBx, hbx, rfl⟩ hlt
          have hzV := hBn.size
          have hsl := sp_len pre
          have dQ : V.cell? ⟨Q, 0, none⟩ = some (.slice A' (sp pre).length c') := blk_cell (l := [_]) eQ 0 rfl
          have hvm : vs.getD pre.length Lg.rv0 ∈ vs := by rw [List.getD, List.getElem?_eq_getElem (by rw [HVL.out]; exact hlt)]; exact List.getElem_mem _
          have LX := Lib.hid (show Lg.Lone x.2 from ⟨by rw [q2]; exact hvd.out _ hvm, q3.2.2.1, fun e => (q3.2.2.2 e).2⟩)
          have XN := Lib.hid (show Lg.xs (sp (pre ++ [x])) = K.take (pre ++ [x]).length by
            have hlt' : pre.length < vs.length := by rw [HVL.out]; exact hlt
            rw [sp_app, Lg.xs_app1, hx0.out, List.length_append, List.length_singleton, List.take_add_one, ← HXS.out, q2, ← Lg.xs_at hlt', List.getD, List.getElem?_eq_getElem (by rw [Lg.xs_len]; exact hlt')]
            rfl)
          have HL0 := Lib.hid hl0.out
          clear q1 q2 q3 hvm
          obtain ⟨C, hC⟩ : ∃ C : List Value, C = x.2.cells := ⟨_, rfl⟩
          have hC1 : C.length = 13 := by rw [hC]; rfl
          have hC2 : ∀ u ∈ C, u.oneCell' = true := by rw [hC]; exact rv_oneL _
          rw [← hC] at hbx
          have HC := Lib.hid hC
          have HSL := Lib.hid hsl
          have hs1 : (sp pre).length < 10000 := by omega
          have HSA := Lib.hid (sp_app pre x)
          generalize sp pre = us at *
          have hnQ := (show Ty V Q 40 from ⟨_, eQ⟩)
          have HA := Lib.hid (show ∀ g, blkOf A' = some g → g ≠ Q ∧ Q ≤ g ∧ Ty V g 32 from fun g hg => ⟨(eR.ty hg).ne hnQ (by decide), (eR.lt hg).1, eR.ty hg⟩)
          have hRa := Lib.hid (eR.alloc (.cells (List.foldl (fun (cs : Array Value) (x : Value × Nat) => cs.setIfInBounds x.snd x.fst) (#[.int .i64 0, .int .i64 0, .int .i64 0, .int .i64 0, .int .i64 0, .int .i64 0, .int .i64 0, .int .i64 0, .int .i64 0, .int .i64 0, .int .i64 0, .slice none 0 0, .int .u32 0] : Array Value) C.zipIdx) 32))
          have HFC := Lib.hid (fill_cell V C hC1)
          have aQ := blk_alloc eQ (.cells (List.foldl (fun (cs : Array Value) (x : Value × Nat) => cs.setIfInBounds x.snd x.fst) (#[.int .i64 0, .int .i64 0, .int .i64 0, .int .i64 0, .int .i64 0, .int .i64 0, .int .i64 0, .int .i64 0, .int .i64 0, .int .i64 0, .int .i64 0, .slice none 0 0, .int .u32 0] : Array Value) C.zipIdx) 32)
          clear eR hC hnQ hsl hl0 hx0
          gi_wp2_with (first | (refine wpListIn_load_row rfl 32 (.tmp 10) rfl Bx rfl 32 C.toArray (0, 0) _ hbx Try.underlying32 rfl (by rw [show C.toArray.size = 13 from by simpa using hC1]; kernel_rfl) ?_) | (refine wpListIn_append_row2 rfl (.tmp 75) (.tmp 77) 40 rfl Q 32 j0 _ 13 120 Try.underlying40 hj0 hya hyb hyc rfl A' us.length c' (Lg.cs us) rfl hRa.out ⟨V.heap.size, 0, none⟩ 1 1 C rfl (by rw [hC1]) HFC.out hC2 (by omega) (by simp only [maxLen]; omega) (by omega) (by simp; omega) ?_; intro A2 c2 w5 hr5 hg5 hat5 _; have HR5 := Lib.hid hr5; have HG5 := Lib.hid hg5; clear hr5 hg5 hat5; have b5 := blk_only aQ HG5.out (fun e => (HA.out Q e.symm).1 rfl); have c5 := blk_cell (l := [_]) b5 0 rfl; have f5 := blk_free b5 0))
          have kA : KeepsFrom wc.heap.size V w5 := (keepsFrom_below ((Below.refl V.heap.size V).alloc (Nat.le_refl _) _)).trans (kf_grown HG5.out (fun r e => ⟨32, (HA.out r e).2.2.choose, blk_alloc (HA.out r e).2.2.choose_spec _⟩))
          have bA : Below Q V w5 := ((Below.refl Q V).alloc (by omega) _).grown HG5.out (by simp; omega) (fun g e => (HA.out g e).2.1)
          have bB : Below Q V (w5.setCell ⟨Q, 0, none⟩ (.slice A2 (us.length + 1) c2)) := bA.setCell (p := ⟨Q, 0, none⟩) (Nat.le_refl _) _
          have hlen : (sp (pre ++ [x])).length = us.length + 1 := by rw [HSA.out, List.length_append, List.length_singleton]
          refine ⟨kA.trans (kf_setCell (by show Q < wc.heap.size; exact hQ9)), bB, hBn.trans bB, ⟨A2, c2, ?_, ?_⟩, XN, Lib.hid ?_⟩
          · rw [hlen]; exact blk_set b5 0 _
          · rw [hlen, HSA.out, Lg.cs_app, Lg.cs_one, ← HC.out]
            have hTQ : Ty w5 Q 40 := ⟨_, b5⟩
            exact HR5.out.kept ((Keeps.refl (fun i => i = Q) w5).setCell (p := ⟨Q, 0, none⟩) (.inl rfl) _) (fun g hg e => (HR5.out.ty hg).ne hTQ (by decide) e)
          · rw [HSA.out]
            intro y hy
            rcases List.mem_append.1 hy with hy | hy
            · exact HL0.out y hy
            · rw [List.mem_singleton.1 hy]; exact LX.out
        case stop =>
          rintro D c' pre V hD _ hf hK
          exact hf.elim
        case done =>
          rintro D ys V hD hys ⟨hBn, ⟨A', c', eQ, eR⟩, hx0, hl0⟩ hDf
          have hsl : (sp ys).length = 10000 := by rw [sp_len]; exact hys
          have HXU := Lib.hid (show Lg.xs (sp ys) = K by rw [hx0.out, hys, List.take_of_length_le (by rw [F1.out]; exact Nat.le_refl _)])
          have HLO := Lib.hid hl0.out
          have HSL := Lib.hid hsl
          rw [hsl] at eQ eR
          generalize sp ys = us at *
          clear hx0 hl0 hys hsl hseq
          have dQ := blk_cell (l := [_]) eQ 0 rfl
          have LGV := Lib.hid (LG7.out V (BQ9.out.trans hBn))
          have BV := Lib.hid (HB9.out.trans (hBn.mono hQw'))
          have RU := Lib.hid (show Lg.Rr V V.heap.size A' 10000 us from ⟨Rds.of_row eR, fun y hy => (HLO.out y hy).ok _ _⟩)
          have HLd := Lib.hid (fun (y : Lg.RV) (hy : y ∈ us) => (show y.x.f.d.length ≤ 1000 by rw [(HLO.out y hy).1]; simp))
          have LD := Lib.hid (show Calls Try.prog 15 #[.slice A' 10000 c'] V (fun e w' => Below V.heap.size V w' ∧ ∃ p2 A2 c2 vs2 X2, e = .returned (.tuple #[.pointer (some ⟨p2, 0, none⟩), .int .i64 0, .int .i64 0]) ∧ Lg.IsLg w' V.heap.size p2 A2 c2 vs2 X2 ∧ Hid (Lg.xs vs2 = K)) by
            refine (lload_any A' 10000 c' us V (by omega) RU.out HLd.out).mono ?_
            rintro e w' ⟨hb, hp⟩
            rw [HXU.out, Lg.ld_good F4.out] at hp
            rcases hp with ⟨h, _⟩ | ⟨_, p2, A2, c2, vs2, h1, h2, h3⟩
            · exact absurd rfl h
            · exact ⟨hb, p2, A2, c2, vs2, _, h1, h2, Lib.hid h3⟩)
          have HRow := Lib.hid eR
          clear eR
          go_wp2_with fail
          refine LD.out.mono ?_
          rintro _ Wa ⟨hba, p2, A2, c2, vs2, X2, rfl, hl2, hx2⟩
          have eQ := blk_below eQ hba (lt_of_block eQ)
          have hDf := blk_below hDf hba (Array.getElem?_eq_some_iff.1 hDf).1
          have SM := Lib.hid (show Calls Try.prog 26 #[.pointer (some ⟨p2, 0, none⟩), .pointer (some ⟨p, 0, none⟩)] Wa (fun e w' => e = .returned (.bool true) ∧ Below Wa.heap.size Wa w') by
            have := lsame_any hl2 (LGV.out.below hba) (by have h := congrArg List.length hx2.out; rw [Lg.xs_len, F1.out] at h; omega) (by rw [HVL.out]; omega)
            rw [hx2.out, HXS.out, Lg.sameRs_iff.2 rfl] at this
            exact this)
          have LGa := Lib.hid (LGV.out.below hba)
          have ROa := Lib.hid (HRow.out.kept (Keeps.of_below (S := fun _ => False) hba) (fun _ _ h => h))
          have Ba := Lib.hid (BV.out.trans (hba.mono BV.out.size))
          clear LD hl2 hx2 LGV HRow BV hba dQ
          go_wp2_with fail
          refine SM.out.mono ?_
          rintro _ Wb ⟨rfl, hbb⟩
          have eQ := blk_below eQ hbb (lt_of_block eQ)
          have hDf := blk_below hDf hbb (Array.getElem?_eq_some_iff.1 hDf).1
          have LGb := Lib.hid (LGa.out.below hbb)
          have ROb := Lib.hid (ROa.out.kept (Keeps.of_below (S := fun _ => False) hbb) (fun _ _ h => h))
          have Bb := Lib.hid (Ba.out.trans (hbb.mono Ba.out.size))
          clear SM hbb LGa ROa Ba
          go_upto_region 24 with fail
          generalize hWc : World.alloc _ _ = Wc
          obtain ⟨g, hg⟩ : ∃ g, g = Wb.heap.size := ⟨_, rfl⟩
          have gM : Wc.heap[g]? = some (.cells #[.int .i64 9999, .int .i64 0, .int .i64 2, .int .i64 0, .int .i64 0, .int .i64 0, .int .i64 1, .int .i64 0, .int .i64 0, .int .i64 0, .int .i64 0, .slice none 0 0, .int .u32 0] 32 (0, 0)) := by rw [← hWc, hg]; exact heap_new _ _
          have bC : Below Wb.heap.size Wb Wc := by rw [← hWc]; exact (Below.refl _ Wb).alloc (Nat.le_refl _) _
          rw [← hg]
          have hgQ : Q ≠ g := by rw [hg]; exact Nat.ne_of_lt (lt_of_block eQ)
          have hgD : D ≠ g := by rw [hg]; exact Nat.ne_of_lt (Array.getElem?_eq_some_iff.1 hDf).1
          have hgA := Lib.hid (show ∀ k, blkOf A' = some k → k ≠ g from fun k e => by rw [hg]; exact Nat.ne_of_lt (ROb.out.lt e).2)
          have hgw : w.heap.size ≤ g := by rw [hg]; exact Bb.out.size
          have eQ := blk_below eQ bC (lt_of_block eQ)
          have hDf := blk_below hDf bC (Array.getElem?_eq_some_iff.1 hDf).1
          have LGc := Lib.hid (LGb.out.below bC)
          have ROc := Lib.hid (ROb.out.kept (Keeps.of_below (S := fun _ => False) bC) (fun _ _ h => h))
          have Bc := Lib.hid (Bb.out.trans (bC.mono Bb.out.size))
          clear hWc hg bC LGb ROb Bb
          have EN := Lib.hid (show ∀ W : World, Below Wc.heap.size Wc W → Calls Try.prog 27 #[.pointer (some ⟨p, 0, none⟩)] W (fun e w' => e = .returned (.int .u32 (Lg.endS K)) ∧ ∃ q, w' = W.drewN q) from fun W hW => by
            have := lend_any (LGc.out.below hW) (by rw [HVL.out]; omega)
            rw [HXS.out] at this
            exact this)
          obtain ⟨E0, hE0⟩ : ∃ E0, E0 = Lg.endS K := ⟨_, rfl⟩
          rw [← hE0] at EN
          have HE0 := Lib.hid hE0
          obtain ⟨N, hN⟩ : ∃ N, N = Lg.sumO E0 (Lg.stR 9999 0 1) := ⟨_, rfl⟩
          have SU := Lib.hid (show ∀ W : World, Calls Try.prog 12 #[.int .u32 E0, .agg #[.int .i64 9999, .int .i64 0, .int .i64 2, .int .i64 0, .int .i64 0, .int .i64 0, .int .i64 1, .int .i64 0, .int .i64 0, .int .i64 0, .int .i64 0, .slice none 0 0, .int .u32 0]] W (fun e w' => e = .returned (.tuple #[.int .u32 N, .int .i64 0]) ∧ Below W.heap.size W w') from fun W => by
            have := lsum_any E0 ⟨Lg.stR 9999 0 1, none, 0⟩ W (Lg.ok0 W W.heap.size _ rfl)
            rw [hN]
            have hs : Lg.sumE (Lg.stR 9999 0 1) = 0 := by unfold Lg.sumE; rw [if_pos Lg.fine3]
            simp only [hs] at this
            exact this)
          have HN := Lib.hid hN
          clear hE0 hN
          go_cut [13] from 15 to 134 (fun v13 wx => v13 = .int .i64 0 ∧ wx.heap[g]? = some (.cells #[.int .i64 9999, .int .i64 0, .int .i64 2, .int .i64 0, .int .i64 0, .int .i64 0, .int .i64 1, .int .i64 0, .int .i64 0, .int .i64 0, .int .i64 0, .slice none 0 0, .int .u32 N] 32 (0, 0)) ∧ Keeps (fun i => i = g) Wc wx)
          case first =>
            refine wp_nopanic ?_
            refine wp_region_held_drew (S := fun w' => True) (by kernel_rfl) trivial (fun h0 => ?_)
            refine wpAnyH_take (i := 0) (v := ?_) rfl (by kernel_rfl) (by kernel_rfl) (by kernel_rfl) (fun _ _ _ h => h) (Or.inl ⟨by rfl, ?_⟩) h0 ?_
            rotate_left
            focus (intro w' hSw; skip; go_simp; (try with_reducible rfl))
            (try simp only [List.getElem_toArray, List.getElem_cons_succ, List.getElem_cons_zero, Act.put, List.setIfInBounds_toArray, List.set_cons_zero, List.set_cons_succ])
            refine wpAnyH_ready (rs := [1, 2]) (by kernel_rfl) (by simp) ?_
            refine AllReadyH.cons rfl (fun K hK => ?_) (AllReadyH.cons rfl (fun K hK => ?_) AllReadyH.nil)
            · go_simp
              refine (EN.out _ (Below.refl _ Wc).drew).mono ?_
              rintro e w1 ⟨rfl, qn, rfl⟩
              go_wp2_with fail
              refine hK.out _ _ trivial (fun h1 => ?_)
              clear hK K
              (try simp only [List.getElem_toArray, List.getElem_cons_succ, List.getElem_cons_zero, Act.put, List.setIfInBounds_toArray, List.set_cons_zero, List.set_cons_succ])
              have gM1 : (World.drewN Wc (1 + qn)).heap[g]? = some (.cells #[.int .i64 9999, .int .i64 0, .int .i64 2, .int .i64 0, .int .i64 0, .int .i64 0, .int .i64 1, .int .i64 0, .int .i64 0, .int .i64 0, .int .i64 0, .slice none 0 0, .int .u32 0] 32 (0, 0)) := gM
              have K1 : Keeps (fun i => i = g) Wc (World.drewN Wc (1 + qn)) := (Keeps.refl _ Wc).drewN (1 + qn)
              generalize World.drewN Wc (1 + qn) = Wd at *
              refine wpAnyH_ready (rs := [2]) (by kernel_rfl) (by simp) ?_
              refine AllReadyH.cons rfl (fun K hK => ?_) AllReadyH.nil
              refine wp_load_row 32 _ rfl g rfl 32 _ (0, 0) _ gM1 Try.underlying32 rfl (by kernel_rfl) ?_
              refine hK.out _ _ trivial (fun h1 => ?_)
              clear hK K
              (try simp only [List.getElem_toArray, List.getElem_cons_succ, List.getElem_cons_zero, Act.put, List.setIfInBounds_toArray, List.set_cons_zero, List.set_cons_succ])
              refine wpAnyH_ready (rs := [3]) (by kernel_rfl) (by simp) ?_
              refine AllReadyH.cons rfl (fun K hK => ?_) AllReadyH.nil
              go_simp
              refine (SU.out _).mono ?_
              rintro e we ⟨rfl, hbe⟩
              go_wp2_with fail
              have gM2 := blk_below gM1 hbe (lt_of_block gM1)
              have K2 := K1.trans (Keeps.of_below (S := fun i => i = g) hbe) (fun _ _ h => h)
              refine hK.out _ _ trivial (fun h2 => ?_)
              clear hK K
              (try simp only [List.getElem_toArray, List.getElem_cons_succ, List.getElem_cons_zero, Act.put, List.setIfInBounds_toArray, List.set_cons_zero, List.set_cons_succ])
              refine wpAnyH_take (i := 4) (v := ?_) rfl (by kernel_rfl) (by kernel_rfl) (by kernel_rfl) (fun _ _ _ h => h) (Or.inl ⟨by rfl, ?_⟩) h2 ?_
              rotate_left
              focus (intro w' hSw; skip; go_simp; (try with_reducible rfl))
              (try simp only [List.getElem_toArray, List.getElem_cons_succ, List.getElem_cons_zero, Act.put, List.setIfInBounds_toArray, List.set_cons_zero, List.set_cons_succ])
              refine wpAnyH_take (i := 5) (v := ?_) rfl (by kernel_rfl) (by kernel_rfl) (by kernel_rfl) (fun _ _ _ h => h) (Or.inl ⟨by rfl, ?_⟩) h2 ?_
              rotate_left
              focus (intro w' hSw; skip; go_simp; (try with_reducible rfl))
              (try simp only [List.getElem_toArray, List.getElem_cons_succ, List.getElem_cons_zero, Act.put, List.setIfInBounds_toArray, List.set_cons_zero, List.set_cons_succ])
              refine wpAnyH_take (i := 6) (v := ?_) rfl (by kernel_rfl) (by kernel_rfl) (by kernel_rfl) (fun _ _ _ h => h) (Or.inl ⟨by rfl, ?_⟩) h2 ?_
              rotate_left
              focus (intro w' hSw; skip; go_simp; (try with_reducible rfl))
              (try simp only [List.getElem_toArray, List.getElem_cons_succ, List.getElem_cons_zero, Act.put, List.setIfInBounds_toArray, List.set_cons_zero, List.set_cons_succ])
              refine wpAnyH_take (i := 7) (v := ?_) rfl (by kernel_rfl) (by kernel_rfl) (by kernel_rfl) (fun _ _ _ h => h) (Or.inl ⟨by rfl, ?_⟩) h2 ?_
              rotate_left
              focus (intro w' hSw; skip; go_simp; (try with_reducible rfl))
              (try simp only [List.getElem_toArray, List.getElem_cons_succ, List.getElem_cons_zero, Act.put, List.setIfInBounds_toArray, List.set_cons_zero, List.set_cons_succ])
              have c12 := blk_cell (l := [_, _, _, _, _, _, _, _, _, _, _, _, _]) gM2 12 rfl
              have f12 := blk_free gM2 12
              refine wpAnyH_ready (rs := [8]) (by kernel_rfl) (by simp) ?_
              refine AllReadyH.cons rfl (fun K hK => ?_) AllReadyH.nil
              go_simp
              refine hK.out _ _ trivial (fun h3 => ?_)
              clear hK K
              (try simp only [List.getElem_toArray, List.getElem_cons_succ, List.getElem_cons_zero, Act.put, List.setIfInBounds_toArray, List.set_cons_zero, List.set_cons_succ])
              refine wpAnyH_take (i := 9) (v := ?_) rfl (by kernel_rfl) (by kernel_rfl) (by kernel_rfl) (fun _ _ _ h => h) (Or.inl ⟨by rfl, ?_⟩) h3 ?_
              rotate_left
              focus (intro w' hSw; skip; go_simp; (try with_reducible rfl))
              (try simp only [List.getElem_toArray, List.getElem_cons_succ, List.getElem_cons_zero, Act.put, List.setIfInBounds_toArray, List.set_cons_zero, List.set_cons_succ])
              refine wpAnyH_done (by kernel_rfl) ?_ _
              go_wp2_with fail
              go_meet
              exact ⟨rfl, blk_set gM2 12 _, K2.setCell (p := ⟨g, 12, none⟩) (.inl rfl) _⟩
            · refine wp_load_row 32 _ rfl g rfl 32 _ (0, 0) _ (show Wc.drew.heap[g]? = some (.cells #[.int .i64 9999, .int .i64 0, .int .i64 2, .int .i64 0, .int .i64 0, .int .i64 0, .int .i64 1, .int .i64 0, .int .i64 0, .int .i64 0, .int .i64 0, .slice none 0 0, .int .u32 0] 32 (0, 0)) from gM) Try.underlying32 rfl (by kernel_rfl) ?_
              refine hK.out _ _ trivial (fun h1 => ?_)
              clear hK K
              (try simp only [List.getElem_toArray, List.getElem_cons_succ, List.getElem_cons_zero, Act.put, List.setIfInBounds_toArray, List.set_cons_zero, List.set_cons_succ])
              refine wpAnyH_ready (rs := [1]) (by kernel_rfl) (by simp) ?_
              refine AllReadyH.cons rfl (fun K hK => ?_) AllReadyH.nil
              go_simp
              refine (EN.out _ (Below.refl _ Wc).drew).mono ?_
              rintro e w1 ⟨rfl, qn, rfl⟩
              go_wp2_with fail
              refine hK.out _ _ trivial (fun h1 => ?_)
              clear hK K
              (try simp only [List.getElem_toArray, List.getElem_cons_succ, List.getElem_cons_zero, Act.put, List.setIfInBounds_toArray, List.set_cons_zero, List.set_cons_succ])
              have gM1 : (World.drewN Wc (1 + qn)).heap[g]? = some (.cells #[.int .i64 9999, .int .i64 0, .int .i64 2, .int .i64 0, .int .i64 0, .int .i64 0, .int .i64 1, .int .i64 0, .int .i64 0, .int .i64 0, .int .i64 0, .slice none 0 0, .int .u32 0] 32 (0, 0)) := gM
              have K1 : Keeps (fun i => i = g) Wc (World.drewN Wc (1 + qn)) := (Keeps.refl _ Wc).drewN (1 + qn)
              generalize World.drewN Wc (1 + qn) = Wd at *
              refine wpAnyH_ready (rs := [3]) (by kernel_rfl) (by simp) ?_
              refine AllReadyH.cons rfl (fun K hK => ?_) AllReadyH.nil
              go_simp
              refine (SU.out _).mono ?_
              rintro e we ⟨rfl, hbe⟩
              go_wp2_with fail
              have gM2 := blk_below gM1 hbe (lt_of_block gM1)
              have K2 := K1.trans (Keeps.of_below (S := fun i => i = g) hbe) (fun _ _ h => h)
              refine hK.out _ _ trivial (fun h2 => ?_)
              clear hK K
              (try simp only [List.getElem_toArray, List.getElem_cons_succ, List.getElem_cons_zero, Act.put, List.setIfInBounds_toArray, List.set_cons_zero, List.set_cons_succ])
              refine wpAnyH_take (i := 4) (v := ?_) rfl (by kernel_rfl) (by kernel_rfl) (by kernel_rfl) (fun _ _ _ h => h) (Or.inl ⟨by rfl, ?_⟩) h2 ?_
              rotate_left
              focus (intro w' hSw; skip; go_simp; (try with_reducible rfl))
              (try simp only [List.getElem_toArray, List.getElem_cons_succ, List.getElem_cons_zero, Act.put, List.setIfInBounds_toArray, List.set_cons_zero, List.set_cons_succ])
              refine wpAnyH_take (i := 5) (v := ?_) rfl (by kernel_rfl) (by kernel_rfl) (by kernel_rfl) (fun _ _ _ h => h) (Or.inl ⟨by rfl, ?_⟩) h2 ?_
              rotate_left
              focus (intro w' hSw; skip; go_simp; (try with_reducible rfl))
              (try simp only [List.getElem_toArray, List.getElem_cons_succ, List.getElem_cons_zero, Act.put, List.setIfInBounds_toArray, List.set_cons_zero, List.set_cons_succ])
              refine wpAnyH_take (i := 6) (v := ?_) rfl (by kernel_rfl) (by kernel_rfl) (by kernel_rfl) (fun _ _ _ h => h) (Or.inl ⟨by rfl, ?_⟩) h2 ?_
              rotate_left
              focus (intro w' hSw; skip; go_simp; (try with_reducible rfl))
              (try simp only [List.getElem_toArray, List.getElem_cons_succ, List.getElem_cons_zero, Act.put, List.setIfInBounds_toArray, List.set_cons_zero, List.set_cons_succ])
              refine wpAnyH_take (i := 7) (v := ?_) rfl (by kernel_rfl) (by kernel_rfl) (by kernel_rfl) (fun _ _ _ h => h) (Or.inl ⟨by rfl, ?_⟩) h2 ?_
              rotate_left
              focus (intro w' hSw; skip; go_simp; (try with_reducible rfl))
              (try simp only [List.getElem_toArray, List.getElem_cons_succ, List.getElem_cons_zero, Act.put, List.setIfInBounds_toArray, List.set_cons_zero, List.set_cons_succ])
              have c12 := blk_cell (l := [_, _, _, _, _, _, _, _, _, _, _, _, _]) gM2 12 rfl
              have f12 := blk_free gM2 12
              refine wpAnyH_ready (rs := [8]) (by kernel_rfl) (by simp) ?_
              refine AllReadyH.cons rfl (fun K hK => ?_) AllReadyH.nil
              go_simp
              refine hK.out _ _ trivial (fun h3 => ?_)
              clear hK K
              (try simp only [List.getElem_toArray, List.getElem_cons_succ, List.getElem_cons_zero, Act.put, List.setIfInBounds_toArray, List.set_cons_zero, List.set_cons_succ])
              refine wpAnyH_take (i := 9) (v := ?_) rfl (by kernel_rfl) (by kernel_rfl) (by kernel_rfl) (fun _ _ _ h => h) (Or.inl ⟨by rfl, ?_⟩) h3 ?_
              rotate_left
              focus (intro w' hSw; skip; go_simp; (try with_reducible rfl))
              (try simp only [List.getElem_toArray, List.getElem_cons_succ, List.getElem_cons_zero, Act.put, List.setIfInBounds_toArray, List.set_cons_zero, List.set_cons_succ])
              refine wpAnyH_done (by kernel_rfl) ?_ _
              go_wp2_with fail
              go_meet
              exact ⟨rfl, blk_set gM2 12 _, K2.setCell (p := ⟨g, 12, none⟩) (.inl rfl) _⟩
          case rest =>
            obtain ⟨rfl, gN, kN⟩ := hcut
            have hzc := kN.size
            have eQ := blk_keep eQ kN hgQ
            have hDf := (kN.block D (Array.getElem?_eq_some_iff.1 hDf).1 hgD).trans hDf
            have ROn := ROc.out.kept kN (fun k hk hs => hgA.out k hk hs)
            have Bn := Lib.hid (Bc.out.trans (kN.below (B := w.heap.size) (fun k _ hs => by rw [hs]; exact hgw) Bc.out.size))
            have dQ := blk_cell (l := [_]) eQ 0 rfl
            obtain ⟨mv, hmv⟩ : ∃ mv : Lg.RV, mv = ⟨Lg.moreR N, none, 0⟩ := ⟨_, rfl⟩
            obtain ⟨C, hC⟩ : ∃ C : List Value, C = mv.cells := ⟨_, rfl⟩
            have hC1 : C.length = 13 := by rw [hC]; rfl
            have hC2 : ∀ u ∈ C, u.oneCell' = true := by rw [hC]; exact rv_oneL _
            have gN2 : wc.heap[g]? = some (.cells C.toArray 32 (0, 0)) := by rw [gN, hC, hmv]; rfl
            have HC := Lib.hid hC
            have HMV := Lib.hid hmv
            have HLn := Lib.hid (show ∀ y ∈ us ++ [mv], Lg.Lone y from fun y hy => by
              rcases List.mem_append.1 hy with hy | hy
              · exact HLO.out y hy
              · rw [List.mem_singleton.1 hy, hmv]; exact ⟨rfl, Nat.zero_le _, fun _ => rfl⟩)
            have HXn := Lib.hid (show Lg.xs (us ++ [mv]) = K ++ [Lg.moreR (Lg.sumO (Lg.endS K) (Lg.stR 9999 0 1))] by rw [Lg.xs_app1, HXU.out, hmv, HN.out, HE0.out])
            clear gN hC hmv kN LGc ROc Bc EN SU
            have hRa := Lib.hid (ROn.alloc (.cells (List.foldl (fun (cs : Array Value) (x : Value × Nat) => cs.setIfInBounds x.snd x.fst) (#[.int .i64 0, .int .i64 0, .int .i64 0, .int .i64 0, .int .i64 0, .int .i64 0, .int .i64 0, .int .i64 0, .int .i64 0, .int .i64 0, .int .i64 0, .slice none 0 0, .int .u32 0] : Array Value) C.zipIdx) 32))
            have HFC := Lib.hid (fill_cell wc C hC1)
            have hQc : Q ≤ wc.heap.size := Nat.le_of_lt (lt_of_block eQ)
            have aD := (Below.heap_alloc wc (.cells (List.foldl (fun (cs : Array Value) (x : Value × Nat) => cs.setIfInBounds x.snd x.fst) (#[.int .i64 0, .int .i64 0, .int .i64 0, .int .i64 0, .int .i64 0, .int .i64 0, .int .i64 0, .int .i64 0, .int .i64 0, .int .i64 0, .int .i64 0, .slice none 0 0, .int .u32 0] : Array Value) C.zipIdx) 32) D (Array.getElem?_eq_some_iff.1 hDf).1).trans hDf
            have HAt := Lib.hid (fun (k : Nat) (e : blkOf A' = some k) => (show Ty wc k 32 ∧ Q ≤ k from ⟨ROn.ty e, (ROn.lt e).1⟩))
            clear ROn
            go_wp2_with (first | (refine wpList_load_row rfl 32 (.tmp 14) rfl g rfl 32 C.toArray (0, 0) _ gN2 Try.underlying32 rfl (by rw [show C.toArray.size = 13 from by simpa using hC1]; kernel_rfl) ?_) | (refine wpList_append_row2 rfl (.tmp 111) (.tmp 113) 40 rfl Q 32 j0 _ 13 120 Try.underlying40 hj0 hya hyb hyc rfl A' 10000 c' (Lg.cs us) rfl hRa.out ⟨wc.heap.size, 0, none⟩ 1 1 C rfl (by rw [hC1]) HFC.out hC2 (by omega) (by simp only [maxLen]; omega) (by omega) (by simp; omega) ?_; intro A5 c5 w5 hr5 hg5 hat5 _; have HR5 := Lib.hid hr5; have HG5 := Lib.hid hg5; clear hr5 hg5 hat5))
            have hr5 : Lg.Rr w5 w5.heap.size A5 10001 (us ++ [mv]) := ⟨Rds.of_row (by rw [Lg.cs_app, Lg.cs_one, ← HC.out]; exact HR5.out), fun y hy => (HLn.out y hy).ok _ _⟩
            have LD2 := Lib.hid (show Calls Try.prog 15 #[.slice A5 10001 c5] w5 (fun e w' => e = .returned (.tuple #[.pointer none, .int .i64 10000, .int .i64 7]) ∧ Below w5.heap.size w5 w') by
              refine (lload_any A5 10001 c5 (us ++ [mv]) w5 (by decide) hr5 (fun y hy => by rw [(HLn.out y hy).1]; simp)).mono ?_
              rintro e w' ⟨hb, hp⟩
              rw [HXn.out, Lg.ld_more F4.out F1.out F2'.out] at hp
              rcases hp with ⟨_, he⟩ | ⟨h, _⟩
              · exact ⟨he, hb⟩
              · exact absurd h (by decide))
            have B5 := Lib.hid ((Bn.out.alloc Bn.out.size (.cells (List.foldl (fun (cs : Array Value) (x : Value × Nat) => cs.setIfInBounds x.snd x.fst) (#[.int .i64 0, .int .i64 0, .int .i64 0, .int .i64 0, .int .i64 0, .int .i64 0, .int .i64 0, .int .i64 0, .int .i64 0, .int .i64 0, .int .i64 0, .slice none 0 0, .int .u32 0] : Array Value) C.zipIdx) 32)).grown HG5.out (by have := Bn.out.size; simp; omega) (fun k e => Nat.le_trans hQw' (HAt.out k e).2))
            have hD5 := (HG5.out.block D (Array.getElem?_eq_some_iff.1 aD).1 (fun e => by
              obtain ⟨⟨cs, hc⟩, _⟩ := HAt.out D e.symm
              rw [hDf] at hc
              cases hc)).trans aD
            clear hr5 HR5 HG5 aD hDf
            refine LD2.out.mono ?_
            rintro _ Wf ⟨rfl, hbf⟩
            have hD6 := blk_below hD5 hbf (Array.getElem?_eq_some_iff.1 hD5).1
            have B6 := Lib.hid (B5.out.trans (hbf.mono B5.out.size))
            clear LD2 hbf hD5
            go_wp2_with fail
            refine (known_true _).mono ?_
            rintro _ Wg ⟨rfl, hbg⟩
            have hD7 := blk_below hD6 hbg (Array.getElem?_eq_some_iff.1 hD6).1
            have B7 := B6.out.trans (hbg.mono B6.out.size)
            go_wp2_with fail
            refine ⟨by simp, .inl ⟨_, _, rfl, run_takeDeferred hD7, ?_⟩⟩
            refine ⟨_, results_tmp rfl _ _ _, rfl, ?_⟩
            exact B7.grown (grownBy_putObj' _ _ _) (by have := (Array.getElem?_eq_some_iff.1 hD7).1; have := B7.size; omega) (fun k e => by cases e; have := Nat.le_trans (Nat.le_trans hQw' (Nat.le_of_lt hQ9)) hD; omega)
theorem walk (a0 : Int) (a10 a11 a12 : Int) (w : World) (w0 : (Lit.int .i64 a0).wf = true) (w10 : (Lit.int .i64 a10).wf = true) (w11 : (Lit.int .i64 a11).wf = true) (w12 : (Lit.int .i64 a12).wf = true) :
    Calls Try.prog 5 #[.int .i64 a0, .agg #[.int .i64 a10, .int .i64 a11, .int .i64 a12]] w fun e w' => e = .returned (.bool true) ∧ Below w.heap.size w w' := by
  by_cases h1 : a0 < 1
  · exact walk_no a0 a10 a11 a12 w w0 w10 w11 w12 (.inl h1)
  · by_cases h2 : 64 < a0
    · exact walk_no a0 a10 a11 a12 w w0 w10 w11 w12 (.inr ⟨h1, .inl h2⟩)
    · cases h3 : Lg.inP3 a10 a11 a12
      · exact walk_no a0 a10 a11 a12 w w0 w10 w11 w12 (.inr ⟨h1, .inr ⟨h2, h3⟩⟩)
      · exact walk_yes a0 a10 a11 a12 w w0 w10 w11 w12 h1 h2 h3
theorem own : ownKnob Try.prog.godebug = none := by kernel_rfl
theorem laidOut : laidOutB Try.prog = true := by kernel_rfl
theorem cells25 : Try.prog.cellsOf 25 = 3 := by kernel_rfl
set_option maxRecDepth 100000 in
theorem lifted (os : Os) (started : os.Started) (H : Type) (enc : TypeId × Value → H) :
    ReturnsInHanded {} Try.checked os 5 .any (Rows.flightlogFullsSpec.pre6 enc Try.prog Try.f5 Rows.flightlogFullsRow.domain false) (Rows.flightlogFullsSpec.post enc Try.prog Try.f5 false true false false) := by
  refine returnsInHanded_of_change (C := Try.checked) own started (by kernel_rfl) Try.func5
    (ChangeSpec.witness6 (enc := enc) (C := Try.checked) false ⟨#[], #[.int .i64 0, .agg #[.int .i64 0, .int .i64 0, .int .i64 0]], []⟩ 8 (by kernel_rfl) (by kernel_rfl) (by kernel_rfl) (by kernel_rfl)) ?_
  intro W base args ds gs before hval0 hW hcnd _
  have hval : ∀ (j : Nat) t v, Try.f5.params[j]? = some t → args[j]? = some v → Value.okWide Try.prog W .any base t v := hval0
  have hW' := hW
  obtain ⟨p, q, hA0, hV, rfl, hfz, hnd⟩ := hW
  have hA : DataW.TrodAll enc Try.prog W 0 (fun _ => true) true Try.f5.params.toList args.toList ds p := hA0
  rw [Try.params5] at hA hval
  obtain ⟨v0, vs0, d0, ds0, p0, q0, hargs, rfl, rfl, h0, r0⟩ := trodAll_cons hA
  obtain ⟨v1, vs1, d1, ds1, p1, q1, rfl, rfl, rfl, h1, r1⟩ := trodAll_cons r0
  obtain ⟨rfl, rfl, rfl⟩ := trodAll_nil r1
  obtain rfl : args = #[v0, v1] := by cases args; simp_all
  obtain ⟨rfl, rfl⟩ := trodVars_none hV
  have k0 := h0
  have lt0 : ∀ x ∈ p0, x.block < W.heap.size := by obtain ⟨m, hm⟩ := k0; exact DataW.trod_lt m _ _ _ hm
  obtain ⟨a0, rfl, _, _, w0⟩ := open_int Try.underlying3 (hval 0 3 v0 rfl rfl) h0
  have k1 := h1
  have lt1 : ∀ x ∈ p1, x.block < W.heap.size := by obtain ⟨m, hm⟩ := k1; exact DataW.trod_lt m _ _ _ hm
  obtain ⟨c10, c11, c12, y10, y11, y12, m1, rfl, _, _, hy10, hy11, hy12⟩ := open_agg3 Try.underlying25 (by kernel_rfl) cells25 (hval 1 25 v1 rfl rfl) h1
  obtain ⟨a10, e10, _, w10⟩ := DataW.trod_int Try.underlying3 hy10; simp at e10; subst e10
  obtain ⟨a11, e11, _, w11⟩ := DataW.trod_int Try.underlying3 hy11; simp at e11; subst e11
  obtain ⟨a12, e12, _, w12⟩ := DataW.trod_int Try.underlying3 hy12; simp at e12; subst e12
  clear hA0 hval0
  refine (walk a0 a10 a11 a12 W w0 w10 w11 w12).mono fun e W' ⟨he, bel⟩ => ?_
  subst he
  exact ⟨_, rfl, _, _, _, [], _, [], hW', trodAll_mk1 (shut_bool Try.underlying4 _), (trodAll_cons_mk (Below.trod laidOut (by kernel_rfl) (of_decide_eq_true (by kernel_rfl)) k0 bel lt0) (trodAll_cons_mk (Below.trod laidOut (by kernel_rfl) (of_decide_eq_true (by kernel_rfl)) k1 bel lt1) trodAll_mk0)), rfl, bel.frame _, fun h => by cases h⟩
theorem over : Rows.flightlogFullsRow.holds Try.pinned (OpenSpec.ofChange Rows.flightlogFullsSpec) :=
  OpenClaim.holds_of_wide 5 Try.f5 rfl rfl rfl rfl rfl rfl rfl ⟨rfl, rfl, rfl, rfl, rfl⟩ rfl rfl rfl rfl rfl (by kernel_rfl) Try.func5 (by kernel_rfl)
    (of_decide_eq_true (by kernel_rfl)) (by unfold Func.isWrapper; first | (rw [if_pos (by decide +kernel)]; kernel_rfl) | (rw [if_neg (by decide +kernel)]; exact ⟨rfl, rfl⟩))
    (fun os started H enc _ => lifted os started H enc)
theorem proved : Rows.FlightlogFullsSaid := over
end Go.Proofs.Ytgmejplcdecmkaa.lawFlightlogFulls

/- The law of what a log is asked for holds: 'skylanternlaw39.FlightlogReads' returns true at every input. No conditions. -/
import Derived.Test.YtgmejplcdecmkaaLgUn
namespace Go.Proofs.Ytgmejplcdecmkaa.lawFlightlogReads
open Go.ChangeShapes Go.WideShapes Go.ChangeAt Go.RowKit Go.Joins
set_option linter.unusedVariables false
set_option linter.unusedSimpArgs false
attribute [local go_sem ↓] Go.wp_at_zero Go.wp_at_succ
set_option maxHeartbeats 8000000
set_option maxRecDepth 100000
theorem walk (a0 : Option Addr) (len0 cap0 : Nat) (l0 : List AV) (a1 : Int) (a2 : Int) (a3 : Int) (w : World) (w0 : Ra w w.heap.size a0 len0 l0) (r0 : Room a0 len0 cap0) (f0 : ∀ y ∈ l0, GaOk y.x) (w1 : (Lit.int .i64 a1).wf = true) (w2 : (Lit.int .i64 a2).wf = true) (w3 : (Lit.int .i64 a3).wf = true) :
    Calls Try.prog 7 #[.slice a0 len0 cap0, .int .i64 a1, .int .i64 a2, .int .i64 a3] w fun e w' => e = .returned (.bool true) ∧ Below w.heap.size w w' := by
  have FW := Lib.hid (few_all a0 len0 cap0 30 w.heap.size l0 w w0 (room_len r0) (by omega))
  have H := Lib.hid w0
  have HLL := Lib.hid w0.1
  clear w0 r0 f0 w1 w2 w3
  cases hf : fewB l0 30
  · rw [hf] at FW
    clear hf
    go_enter Try.func7, Try.ntmps7
    go_wp2_with fail
    refine FW.out.mono ?_
    rintro _ _ ⟨rfl, rfl⟩
    go_wp2_with fail
    refine (known_true _).mono ?_
    rintro _ w1 ⟨rfl, hb1⟩
    go_wp2_with fail
    go_ret
    exact ⟨rfl, hb1⟩
  · rw [hf] at FW
    have hfe := few_yes hf
    have hn : len0 ≤ 30 := by rw [← HLL.out]; exact hfe.1
    have MD := Lib.hid (made_any a0 len0 cap0 l0 w H.out (by omega) (fun y hy => by have := hfe.2 y hy; omega))
    clear hf hfe hn
    go_enter Try.func7, Try.ntmps7
    go_wp2_with fail
    refine FW.out.mono ?_
    rintro _ _ ⟨rfl, rfl⟩
    clear FW
    go_wp2_with fail
    refine MD.out.mono ?_
    rintro _ w1 ⟨p, A, c, vs, X, A2, c2, us, XJ, rfl, hlj, hvl, hb1⟩
    clear MD
    obtain ⟨T, hT⟩ : ∃ T, T = Lg.lastT (Lg.xs vs) a1 a2 := ⟨_, rfl⟩
    obtain ⟨KX, hKX⟩ : ∃ KX, KX = Lg.replX (Lg.xs vs) a1 := ⟨_, rfl⟩
    have LA := Lib.hid (show ∀ W : World, Below w1.heap.size w1 W → Calls Try.prog 31 #[.pointer (some ⟨p, 0, none⟩), .int .i64 a1, .int .i64 a2] W (fun e w' => e = .returned (.tuple #[.agg #[.int .i64 T.x, .int .i64 T.y, .int .i64 T.z], .int .i64 T.u, .int .i64 T.e]) ∧ Below W.heap.size W w') from fun W hW => by
      rw [hT]; exact last_all (hlj.below hW).lg (Lg.good_vs hlj.good) a1 a2)
    have LB := Lib.hid (show ∀ W : World, Below w1.heap.size w1 W → Calls Try.prog 32 #[.slice A2 us.length c2, .int .i64 a1, .int .i64 a2] W (fun e w' => e = .returned (.tuple #[.agg #[.int .i64 T.x, .int .i64 T.y, .int .i64 T.z], .int .i64 T.u, .int .i64 T.e]) ∧ Below W.heap.size W w') from fun W hW => by
      rw [hT, ← hlj.eq]; exact rlast_all (hlj.below hW).j.rr (by have := Lg.good_vs (vs := us) (by rw [hlj.eq]; exact hlj.good); exact this) a1 a2)
    have RA := Lib.hid (show ∀ W : World, Below w1.heap.size w1 W → Calls Try.prog 33 #[.pointer (some ⟨p, 0, none⟩), .int .i64 a1] W (fun e w' => ∃ A' n' c' zs, e = .returned (.tuple #[.slice A' n' c', .int .i64 (Lg.ofE a1)]) ∧ n' ≤ 1000000 ∧ Lg.Rr w' w'.heap.size A' n' zs ∧ Hid (Lg.xs zs = KX) ∧ Below W.heap.size W w') from fun W hW => by
      refine (replay_all (hlj.below hW).lg hlj.good a1).mono ?_
      rintro e w' ⟨A', n', c', zs, h1, h2, h3, h4, h5⟩
      exact ⟨A', n', c', zs, h1, h2, h3, Lib.hid (by rw [hKX]; exact h4), h5⟩)
    have RB := Lib.hid (show ∀ W : World, Below w1.heap.size w1 W → Calls Try.prog 34 #[.slice A2 us.length c2, .int .i64 a1] W (fun e w' => ∃ A' n' c' zs, e = .returned (.tuple #[.slice A' n' c', .int .i64 (Lg.ofE a1)]) ∧ n' ≤ 1000000 ∧ Lg.Rr w' w'.heap.size A' n' zs ∧ Hid (Lg.xs zs = KX) ∧ Below W.heap.size W w') from fun W hW => by
      refine (rrepl_all (hlj.below hW).j.rr (by have := Lg.good_vs (vs := us) (by rw [hlj.eq]; exact hlj.good); exact this) a1).mono ?_
      rintro e w' ⟨A', n', c', zs, h1, h2, h3, h4, h5⟩
      exact ⟨A', n', c', zs, h1, h2, h3, Lib.hid (by rw [hKX, ← hlj.eq]; exact h4), h5⟩)
    have LJ := Lib.hid hlj
    obtain ⟨e1, he1⟩ : ∃ e1, e1 = Lg.ofE a1 := ⟨_, rfl⟩
    rw [← he1] at RA RB
    obtain ⟨n, hn⟩ : ∃ n, n = us.length := ⟨_, rfl⟩
    rw [← hn] at LB RB ⊢
    have HN := Lib.hid hn
    have hu1 : n ≤ 1000000 := by rw [hn]; exact Lg.good_vs (vs := us) (by rw [hlj.eq]; exact hlj.good)
    clear hlj hT hKX he1 hn hvl
    go_wp2_with fail
    refine (LA.out _ (Below.refl _ _)).mono ?_
    rintro _ w2 ⟨rfl, hb2⟩
    clear LA
    go_upto_region 7 with fail
    generalize hW : World.alloc _ _ = W2
    obtain ⟨q, hq⟩ : ∃ q, q = w2.heap.size := ⟨_, rfl⟩
    have v0 : W2.heap[q]? = some (.cells #[.int .i64 T.x, .int .i64 T.y, .int .i64 T.z] 25 (0, 0)) := by rw [← hW, hq]; exact heap_new _ _
    have HB2 : Below w1.heap.size w1 W2 := by rw [← hW]; exact hb2.alloc hb2.size _
    rw [← hq]
    clear hW hq hb2
    go_wp2_with fail
    refine (LB.out _ HB2).mono ?_
    rintro _ w3 ⟨rfl, hb3⟩
    have v0 := blk_below v0 hb3 (lt_of_block v0)
    have HB3 := HB2.trans (hb3.mono HB2.size)
    clear LB hb3 HB2
    go_upto_region 8 with fail
    generalize hW : World.alloc _ _ = W3
    obtain ⟨r, hr⟩ : ∃ r, r = w3.heap.size := ⟨_, rfl⟩
    have v1 : W3.heap[r]? = some (.cells #[.int .i64 T.x, .int .i64 T.y, .int .i64 T.z] 25 (0, 0)) := by rw [← hW, hr]; exact heap_new _ _
    have v0 : W3.heap[q]? = some (.cells #[.int .i64 T.x, .int .i64 T.y, .int .i64 T.z] 25 (0, 0)) := by rw [← hW]; exact blk_alloc v0 _
    have HB4 : Below w1.heap.size w1 W3 := by rw [← hW]; exact HB3.alloc HB3.size _
    rw [← hr]
    clear hW hr HB3
    go_wp2_with fail
    refine (RA.out _ HB4).mono ?_
    rintro _ w4 ⟨A4, n4, c4, zs, rfl, hn4, hr4, hx4, hb4⟩
    have v0 := blk_below v0 hb4 (lt_of_block v0)
    have v1 := blk_below v1 hb4 (lt_of_block v1)
    have HB5 := HB4.trans (hb4.mono HB4.size)
    clear RA hb4 HB4
    go_wp2_with fail
    refine (RB.out _ HB5).mono ?_
    rintro _ w5 ⟨A5, n5, c5, ts, rfl, hn5, hr5, hx5, hb5⟩
    have v0 := blk_below v0 hb5 (lt_of_block v0)
    have v1 := blk_below v1 hb5 (lt_of_block v1)
    have HB6 := HB5.trans (hb5.mono HB5.size)
    have SA := Lib.hid (show ∀ W : World, Below w5.heap.size w5 W → Calls Try.prog 17 #[.slice A4 n4 c4, .slice A5 n5 c5] W (fun e w' => e = .returned (.bool true) ∧ Below W.heap.size W w') from fun W hW => by
      have h1 := rsameall_any A4 A5 n4 n5 c4 c5 zs ts W hn4 hn5 ((hr4.up hb5).up hW) (hr5.up hW)
      rw [hx4.out, hx5.out, Lg.sameRs_iff.2 rfl] at h1
      exact h1)
    clear RB hb5 hr4 hr5 hx4 hx5 hn4 hn5 HB5
    by_cases hin : 0 ≤ a3 ∧ a3 < (n : Int)
    · obtain ⟨i, rfl⟩ : ∃ i : Nat, a3 = (i : Int) := ⟨a3.toNat, by omega⟩
      have hi : i < n := by omega
      have hiv : i < vs.length := by have h1 := congrArg List.length LJ.out.eq; rw [Lg.xs_len, Lg.xs_len, ← HN.out] at h1; omega
      have AT := Lib.hid (lat_yes (LJ.out.below HB6).lg i hiv (Lg.good_vs LJ.out.good) (Lg.good_rd LJ.out.good _ (by rw [List.getD, List.getElem?_eq_getElem hiv]; exact List.getElem_mem _)))
      have i0 : ¬ ((i : Int) < 0) := by omega
      have i1 : (i : Int) < (n : Int) := hin.2
      have HIV := Lib.hid hiv
      clear hin hiv
      go_wp2_with fail
      refine AT.out.mono ?_
      rintro _ w6 ⟨A1, c1, rfl, o1, hb6⟩
      have hz6 := hb6.size
      obtain ⟨x, hx⟩ : ∃ x : Lg.RV, x = ⟨(vs.getD i Lg.rv0).x, A1, c1⟩ := ⟨_, rfl⟩
      obtain ⟨m, hm⟩ : ∃ m, m = (vs.getD i Lg.rv0).x.f.d.length := ⟨_, rfl⟩
      have hm2 : m ≤ 1000 := by rw [hm]; exact Lg.good_rd LJ.out.good _ (by rw [List.getD, List.getElem?_eq_getElem HIV.out]; exact List.getElem_mem _)
      have ox : Lg.Ok w6 w6.heap.size x := by rw [hx]; exact Lg.Dt.ok (Lg.Dt.of_own (X := fun _ => True) (x := (vs.getD i Lg.rv0).x) o1 (fun _ _ => trivial))
      obtain ⟨y, hy⟩ : ∃ y, y = us.getD i Lg.rv0 := ⟨_, rfl⟩
      have hxx : x.x = y.x := by
        rw [hx, hy]
        show (vs.getD i Lg.rv0).x = _
        rw [← Lg.xs_at HIV.out, ← Lg.xs_at (by rw [← HN.out]; exact hi), LJ.out.eq]
      rw [← hx]
      obtain ⟨b, o, rfl, hbl6, hcl, hok⟩ := ((LJ.out.below HB6).j.rr.at_ (by rw [← HN.out]; exact hi))
      rw [← hy] at hcl hok
      have v0 := blk_below v0 hb6 (lt_of_block v0)
      have v1 := blk_below v1 hb6 (lt_of_block v1)
      have HBA := HB6.trans (hb6.mono HB6.size)
      have O1 := Lib.hid o1
      obtain ⟨C, hval, hC, hCs⟩ := rv_opaque x
      have h11 : C[11]? = some (.slice A1 m c1) := by rw [← hC, hx, hm]; rfl
      have hC1 : C.all (·.oneCell') = true := by rw [← hC]; exact rv_ones x
      have OKX := Lib.hid ox
      have OKY := Lib.hid ((hok.below hb6 (Nat.le_refl _)).more hz6)
      have SX := Lib.hid hxx
      have HVAL := Lib.hid hval
      have HM := Lib.hid hm
      rw [hval]
      have j2 := heap_new w6 (.cells #[.int .i64 0, .int .i64 0, .int .i64 0, .int .i64 0, .int .i64 0, .int .i64 0, .int .i64 0, .int .i64 0, .int .i64 0, .int .i64 0, .int .i64 0, .slice none 0 0, .int .u32 0] 32 (0, 0))
      have HCL := Lib.hid (show ∀ (j : Nat) (u : Value), y.cells[j]? = some u → w6.cell? ⟨b, o + i * 13 + j, none⟩ = some u from fun j u hu => (hb6.cell (p := ⟨b, o + i * 13 + j, none⟩) hbl6).trans (hcl j u hu))
      have hb6z : b < w6.heap.size := by omega
      have HB6' := Lib.hid hb6
      clear hx ox hxx hy hok hb6 o1 hC hval hcl hm AT hbl6
      go_upto_region 11 with (refine wpList_store_row rfl 32 (.tmp 22) (.tmp 69) rfl w6.heap.size C rfl rfl 32 _ j2 (by rw [hCs]; kernel_rfl) hCs.symm hC1 ?_)
      generalize hW : World.setRow _ _ _ = W7
      obtain ⟨g, hg⟩ : ∃ g, g = w6.heap.size := ⟨_, rfl⟩
      have gx : W7.heap[g]? = some (.cells C 32 (0, 0)) := by rw [← hW, hg]; exact setRow_heap _ _ _ _ _ _ j2
      have bW : Below w6.heap.size w6 W7 := by rw [← hW]; exact below_setRow ((Below.refl _ w6).alloc (Nat.le_refl _) _) (Nat.le_refl _) _
      have v0 := blk_below v0 bW (lt_of_block v0)
      have v1 := blk_below v1 bW (lt_of_block v1)
      rw [← hg]
      have hgz : g = w6.heap.size := hg
      have HGZ := Lib.hid hgz
      have c0 := blk_cell (l := [_, _, _]) v0 0 rfl
      have c1' := blk_cell (l := [_, _, _]) v0 1 rfl
      have c2' := blk_cell (l := [_, _, _]) v0 2 rfl
      have d0 := blk_cell (l := [_, _, _]) v1 0 rfl
      have d1 := blk_cell (l := [_, _, _]) v1 1 rfl
      have d2 := blk_cell (l := [_, _, _]) v1 2 rfl
      have BW := Lib.hid bW
      have B67 := Lib.hid (HB6'.out.trans (bW.mono hz6))
      clear hW j2 bW hg hgz v0 v1
      go_wp2_with fail
      refine (SA.out _ B67.out).mono ?_
      rintro _ w8 ⟨rfl, hb8⟩
      clear SA c0 c1' c2' d0 d1 d2
      have HB7 := BW.out.trans (hb8.mono BW.out.size)
      have gx := blk_below gx hb8 (lt_of_block gx)
      have HY := Lib.hid (show ∀ (j : Nat) (u : Value), y.cells[j]? = some u → w8.cell? ⟨b, o + i * 13 + j, none⟩ = some u from fun j u hu => (HB7.cell (p := ⟨b, o + i * 13 + j, none⟩) hb6z).trans (HCL.out j u hu))
      have SM := Lib.hid (show ∀ W : World, Below w6.heap.size w6 W → Calls Try.prog 36 #[.agg C, .agg y.cells.toArray] W fun e w' => e = .returned (.bool true) ∧ Below W.heap.size W w' from fun W hW => by
        have := rsameR_any x y W (OKX.out.up hW) (OKY.out.up hW)
        rw [HVAL.out, SX.out, Lg.sameR_refl] at this
        exact this)
      have hbl : b < w8.drew.heap.size := by show b < w8.heap.size; have := HB7.size; omega
      clear hb8 BW HCL
      go_upto_region 15 with fail
      refine wp_region_held_drew (S := fun w' => w'.heap[g]? = some (.cells C 32 (0, 0)) ∧ (∀ (j : Nat) (u : Value), y.cells[j]? = some u → w'.cell? ⟨b, o + i * 13 + j, none⟩ = some u)) (by kernel_rfl) ?_ (fun h0 => ?_)
      · exact ⟨gx, HY.out⟩
      refine wpAnyH_take (i := 0) (v := ?_) rfl (by kernel_rfl) (by kernel_rfl) (by kernel_rfl) (fun _ _ _ h => h) (Or.inl ⟨by rfl, ?_⟩) h0 ?_
      rotate_left
      focus (intro w' hSw; skip; go_simp; (try with_reducible rfl))
      (try simp only [List.getElem_toArray, List.getElem_cons_succ, List.getElem_cons_zero, Act.put, List.setIfInBounds_toArray, List.set_cons_zero, List.set_cons_succ])
      refine wpAnyH_take (i := 1) (v := ?_) rfl (by kernel_rfl) (by kernel_rfl) (by kernel_rfl) (fun _ _ _ h => h) (Or.inl ⟨by rfl, ?_⟩) h0 ?_
      rotate_left
      focus (intro w' hSw; skip; go_simp; (try with_reducible rfl))
      (try simp only [List.getElem_toArray, List.getElem_cons_succ, List.getElem_cons_zero, Act.put, List.setIfInBounds_toArray, List.set_cons_zero, List.set_cons_succ])
      refine wpAnyH_take (i := 2) (v := ?_) rfl (by kernel_rfl) (by kernel_rfl) (by kernel_rfl) (fun _ _ _ h => h) (Or.inl ⟨by rfl, ?_⟩) h0 ?_
      rotate_left
      focus (intro w' hSw; skip; go_simp; (try with_reducible rfl))
      (try simp only [List.getElem_toArray, List.getElem_cons_succ, List.getElem_cons_zero, Act.put, List.setIfInBounds_toArray, List.set_cons_zero, List.set_cons_succ])
      refine wpAnyH_take (i := 3) (v := .agg C) rfl (by kernel_rfl) (by kernel_rfl) (by kernel_rfl) (fun _ _ _ h => h) (yields_load_row (by rfl) 32 _ rfl g rfl 32 _ (0, 0) _ (fun w' hS => hS.1) Try.underlying32 rfl (by rw [hCs]; kernel_rfl)) h0 ?_
      (try simp only [List.getElem_toArray, List.getElem_cons_succ, List.getElem_cons_zero, Act.put, List.setIfInBounds_toArray, List.set_cons_zero, List.set_cons_succ])
      refine wpAnyH_take (i := 4) (v := ?_) rfl (by kernel_rfl) (by kernel_rfl) (by kernel_rfl) (fun _ _ _ h => h) (Or.inl ⟨by rfl, ?_⟩) h0 ?_
      rotate_left
      focus (intro w' hSw; skip; go_simp; (try with_reducible rfl))
      (try simp only [List.getElem_toArray, List.getElem_cons_succ, List.getElem_cons_zero, Act.put, List.setIfInBounds_toArray, List.set_cons_zero, List.set_cons_succ])
      refine wpAnyH_take (i := 5) (v := ?_) rfl (by kernel_rfl) (by kernel_rfl) (by kernel_rfl) (fun _ _ _ h => h) (Or.inl ⟨by rfl, ?_⟩) h0 ?_
      rotate_left
      focus (intro w' hSw; skip; go_simp; (try with_reducible rfl))
      (try simp only [List.getElem_toArray, List.getElem_cons_succ, List.getElem_cons_zero, Act.put, List.setIfInBounds_toArray, List.set_cons_zero, List.set_cons_succ])
      refine wpAnyH_take (i := 6) (v := ?_) rfl (by kernel_rfl) (by kernel_rfl) (by kernel_rfl) (fun _ _ _ h => h) (Or.inl ⟨by rfl, ?_⟩) h0 ?_
      rotate_left
      focus (intro w' hSw; skip; go_simp; (try with_reducible rfl))
      (try simp only [List.getElem_toArray, List.getElem_cons_succ, List.getElem_cons_zero, Act.put, List.setIfInBounds_toArray, List.set_cons_zero, List.set_cons_succ])
      refine wpAnyH_take (i := 7) (v := .agg y.cells.toArray) rfl (by kernel_rfl) (by kernel_rfl) (by kernel_rfl) (fun _ _ _ h => h) (yields_load_at (by rfl) 32 _ rfl b (o + i * 13) rfl _ _ (fun w' hS => hS.2) Try.underlying32 rfl (by rw [Lg.RV.len]; kernel_rfl)) h0 ?_
      (try simp only [List.getElem_toArray, List.getElem_cons_succ, List.getElem_cons_zero, Act.put, List.setIfInBounds_toArray, List.set_cons_zero, List.set_cons_succ])
      refine wpAnyH_ready (rs := [8]) (by kernel_rfl) (by simp) ?_
      refine AllReadyH.cons rfl (fun K hK => ?_) AllReadyH.nil
      go_simp
      refine (SM.out _ (HB7.drew)).mono ?_
      rintro e w9 ⟨rfl, hb9⟩
      go_wp2_with fail
      refine hK.out _ _ ?_ (fun h1 => ?_)
      · exact ⟨(hb9.block g (lt_of_block gx)).trans gx, fun j u hj => (hb9.cell (p := ⟨b, o + i * 13 + j, none⟩) hbl).trans (HY.out j u hj)⟩
      clear hK K
      (try simp only [List.getElem_toArray, List.getElem_cons_succ, List.getElem_cons_zero, Act.put, List.setIfInBounds_toArray, List.set_cons_zero, List.set_cons_succ])
      refine wpAnyH_take (i := 9) (v := ?_) rfl (by kernel_rfl) (by kernel_rfl) (by kernel_rfl) (fun _ _ _ h => h) (Or.inl ⟨by rfl, ?_⟩) h1 ?_
      rotate_left
      focus (intro w' hSw; skip; go_simp; (try with_reducible rfl))
      (try simp only [List.getElem_toArray, List.getElem_cons_succ, List.getElem_cons_zero, Act.put, List.setIfInBounds_toArray, List.set_cons_zero, List.set_cons_succ])
      refine wpAnyH_take (i := 10) (v := ?_) rfl (by kernel_rfl) (by kernel_rfl) (by kernel_rfl) (fun _ _ _ h => h) (Or.inl ⟨by rfl, ?_⟩) h1 ?_
      rotate_left
      focus (intro w' hSw; skip; go_simp; (try with_reducible rfl))
      (try simp only [List.getElem_toArray, List.getElem_cons_succ, List.getElem_cons_zero, Act.put, List.setIfInBounds_toArray, List.set_cons_zero, List.set_cons_succ])
      refine wpAnyH_done (by kernel_rfl) ?_ _
      have hz9 := hb9.size
      have gx9 := blk_below gx (show Below w8.heap.size w8 w9 from (Below.refl _ w8).drew.trans hb9) (lt_of_block gx)
      have B69 := Lib.hid (HB7.drew.trans (hb9.mono (show w6.heap.size ≤ w8.drew.heap.size from HB7.size)))
      have o9 := O1.out.below B69.out (Nat.le_refl _)
      rw [← HM.out] at o9
      have O9 := Lib.hid o9
      clear o9
      clear h0 h1 gx HY SM hb9 hbl HB7 OKX OKY SX HVAL HM
      go_wp2_with fail
      go_loopw [24] (fun s7 wr => ∃ (j : Nat) (l : List Int), s7 = .int .i64 j ∧ j ≤ m ∧ Ow wr w5.heap.size A1 m c1 l ∧ wr.heap[g]? = some (.cells C 32 (0, 0)) ∧ Keeps (fun i => blkOf A1 = some i) w9 wr) (fun s7 _ => m - (intOf s7).toNat)
      case atStart => exact ⟨0, _, by go_num, by omega, O9.out, gx9, Keeps.refl _ _⟩
      case round =>
        obtain ⟨j, l, rfl, hj, ho, hgr, hk⟩ := hrel
        have c11 := arr_cell hgr h11
        by_cases hlt : j < m
        · rcases ho.form with ⟨_, hn0, _⟩ | ⟨k, rfl, hg1, hg2, hg3, hg4⟩
          · omega
          have hkg : k ≠ g := by
            rcases O1.out.form with ⟨e, _⟩ | ⟨k', e, _, h2, _⟩
            · cases e
            · injection e with e; injection e with e; subst e; rw [HGZ.out]; omega
          obtain ⟨cb, fb, hb0, hb1'⟩ := ho.byte hlt
          obtain ⟨u, hu⟩ : ∃ u, u = l.getD j 0 := ⟨_, rfl⟩
          rw [← hu] at cb hb0 hb1'
          have HO := Lib.hid ho
          have jn : (j : Int) < (m : Int) := by omega
          have hrange : 0 ≤ IntKind.u8.wrap (u + 1) ∧ IntKind.u8.wrap (u + 1) < 256 := by rw [IntKind.wrap_u8]; omega
          have HR := Lib.hid hrange
          clear hu ho hrange
          go_wp2_with fail
          go_roundw
          case rel => exact ⟨j + 1, l.set j _, by go_num, by omega, HO.out.putb j _ HR.out, blk_far hgr (by show g ≠ k; omega) _, hk.setCell (p := ⟨k, j, none⟩) (.inl rfl) _⟩
          case measure => simp [intOf]; omega
        · obtain rfl : j = m := by omega
          have jn : ¬ ((j : Int) < (j : Int)) := by omega
          have LW := LJ.out.wrote HB6 (Keeps.of_below (S := fun i => w5.heap.size ≤ i) (HB6'.out.trans (B69.out.mono hz6))) (fun i hi => Nat.le_trans HB6.size hi)
          have LW2 := (LJ.out.wrote HB6 ((Keeps.of_below (S := fun i => blkOf A1 = some i ∧ w5.heap.size ≤ i) (HB6'.out.trans (B69.out.mono hz6))).trans hk (fun k _ e => ⟨e, by
            rcases ho.form with ⟨e', _⟩ | ⟨k', e', h2, _⟩
            · rw [e'] at e; cases e
            · rw [e'] at e; simp only [blkOf, Option.some.injEq] at e; omega⟩)) (fun i hi => Nat.le_trans HB6.size hi.2))
          have BF := Lib.hid (show Below w1.heap.size w1 wr from (HB6.trans ((HB6'.out.trans (B69.out.mono hz6)).mono HB6.size)).trans (hk.below (fun k _ e => by
            rcases ho.form with ⟨e', _⟩ | ⟨k', e', h2, _⟩
            · rw [e'] at e; cases e
            · rw [e'] at e; simp only [blkOf, Option.some.injEq] at e; have := HB6.size; omega) (by have := (HB6.trans ((HB6'.out.trans (B69.out.mono hz6)).mono HB6.size)).size; exact this)))
          have SH := Lib.hid (show Calls Try.prog 18 #[.pointer (some ⟨p, 0, none⟩), .slice (some ⟨b, o, none⟩) n c2] wr (fun e w' => e = .returned (.bool true) ∧ Below wr.heap.size wr w') by
            rw [HN.out]
            exact shows_yes (c2 := c2) LW2.lg LW2.j.rr LW2.eq (Lg.good_vs LW2.good) (Lg.good_rd LW2.good))
          clear LW LW2
          go_wp2_with fail
          refine SH.out.mono ?_
          rintro _ w10 ⟨rfl, hb10⟩
          have BG := BF.out.trans (hb10.mono BF.out.size)
          clear SH
          go_wp2_with fail
          refine (known_true _).mono ?_
          rintro _ w11 ⟨rfl, hb11⟩
          have BH := BG.trans (hb11.mono BG.size)
          have BZ := hb1.trans (BH.mono hb1.size)
          go_wp2_with fail
          go_ret
          exact ⟨rfl, BZ⟩
    · have AT := Lib.hid (lat_no (LJ.out.below HB6).lg a3 (by have h1 := congrArg List.length LJ.out.eq; rw [Lg.xs_len, Lg.xs_len, ← HN.out] at h1; omega))
      have SM := Lib.hid (fun W : World => rsameR_any Lg.rv0 Lg.rv0 W (Lg.ok0 W W.heap.size _ rfl) (Lg.ok0 W W.heap.size _ rfl))
      rw [Lg.sameR_refl] at SM
      simp only [Lg.RV.val, Lg.RV.cells, Lg.rv0, Lg.r0, fr0, List.length_nil] at SM AT
      have hcase : (a3 < 0) ∨ (¬ a3 < 0 ∧ (n : Int) ≤ a3) := by omega
      go_wp2_with fail
      refine AT.out.mono ?_
      rintro _ w6 ⟨rfl, hb6⟩
      have v0 := blk_below v0 hb6 (lt_of_block v0)
      have v1 := blk_below v1 hb6 (lt_of_block v1)
      have HB7 := HB6.trans (hb6.mono HB6.size)
      go_upto_region 11 with fail
      generalize hW : World.alloc _ _ = W7
      obtain ⟨g, hg⟩ : ∃ g, g = w6.heap.size := ⟨_, rfl⟩
      have gx : W7.heap[g]? = some (.cells #[.int .i64 0, .int .i64 0, .int .i64 0, .int .i64 0, .int .i64 0, .int .i64 0, .int .i64 0, .int .i64 0, .int .i64 0, .int .i64 0, .int .i64 0, .slice none 0 0, .int .u32 0] 32 (0, 0)) := by rw [← hW, hg]; exact heap_new _ _
      have bW : Below w6.heap.size w6 W7 := by rw [← hW]; exact (Below.refl _ w6).alloc (Nat.le_refl _) _
      have v0 := blk_below v0 bW (lt_of_block v0)
      have v1 := blk_below v1 bW (lt_of_block v1)
      rw [← hg]
      have B67 := Lib.hid (hb6.trans (bW.mono hb6.size))
      have HB8 := HB7.trans (bW.mono HB7.size)
      have c0 := blk_cell (l := [_, _, _]) v0 0 rfl
      have c1' := blk_cell (l := [_, _, _]) v0 1 rfl
      have c2' := blk_cell (l := [_, _, _]) v0 2 rfl
      have d0 := blk_cell (l := [_, _, _]) v1 0 rfl
      have d1 := blk_cell (l := [_, _, _]) v1 1 rfl
      have d2 := blk_cell (l := [_, _, _]) v1 2 rfl
      clear hW hg bW v0 v1 hb6 HB7 AT
      go_wp2_with fail
      refine (SA.out _ B67.out).mono ?_
      rintro _ w8 ⟨rfl, hb8⟩
      have gx := blk_below gx hb8 (lt_of_block gx)
      have HB9 := HB8.trans (hb8.mono HB8.size)
      clear SA c0 c1' c2' d0 d1 d2 hb8 HB8 hin
      have cz_0 := blk_cell gx 0 rfl; have fz_0 := blk_free gx 0; have cz_1 := blk_cell gx 1 rfl; have fz_1 := blk_free gx 1; have cz_2 := blk_cell gx 2 rfl; have fz_2 := blk_free gx 2; have cz_3 := blk_cell gx 3 rfl; have fz_3 := blk_free gx 3; have cz_4 := blk_cell gx 4 rfl; have fz_4 := blk_free gx 4; have cz_5 := blk_cell gx 5 rfl; have fz_5 := blk_free gx 5; have cz_6 := blk_cell gx 6 rfl; have fz_6 := blk_free gx 6; have cz_7 := blk_cell gx 7 rfl; have fz_7 := blk_free gx 7; have cz_8 := blk_cell gx 8 rfl; have fz_8 := blk_free gx 8; have cz_9 := blk_cell gx 9 rfl; have fz_9 := blk_free gx 9; have cz_10 := blk_cell gx 10 rfl; have fz_10 := blk_free gx 10; have cz_11 := blk_cell gx 11 rfl; have fz_11 := blk_free gx 11; have cz_12 := blk_cell gx 12 rfl; have fz_12 := blk_free gx 12; have lz := lt_of_block gx
      rcases hcase with i0 | ⟨i0, i1⟩
      all_goals
        go_wp2_with fail
        refine (SM.out _).mono ?_
        rintro _ w9 ⟨rfl, hb9⟩
        have HBA := HB9.trans (hb9.mono HB9.size)
        clear cz_0 fz_0 cz_1 fz_1 cz_2 fz_2 cz_3 fz_3 cz_4 fz_4 cz_5 fz_5 cz_6 fz_6 cz_7 fz_7 cz_8 fz_8 cz_9 fz_9 cz_10 fz_10 cz_11 fz_11 cz_12 fz_12
        go_wp2_with fail
        refine (known_true _).mono ?_
        rintro _ w11 ⟨rfl, hb11⟩
        have BH := HBA.trans (hb11.mono HBA.size)
        have BZ := hb1.trans (BH.mono hb1.size)
        go_wp2_with fail
        go_ret
        exact ⟨rfl, BZ⟩
theorem own : ownKnob Try.prog.godebug = none := by kernel_rfl
theorem laidOut : laidOutB Try.prog = true := by kernel_rfl
set_option maxRecDepth 100000 in
theorem lifted (os : Os) (started : os.Started) (H : Type) (enc : TypeId × Value → H) :
    ReturnsInHanded {} Try.checked os 7 .any (Rows.flightlogReadsSpec.pre6 enc Try.prog Try.f7 Rows.flightlogReadsRow.domain false) (Rows.flightlogReadsSpec.post enc Try.prog Try.f7 false true false false) := by
  refine returnsInHanded_of_change (C := Try.checked) own started (by kernel_rfl) Try.func7
    (ChangeSpec.witness6 (enc := enc) (C := Try.checked) false ⟨#[], #[.slice none 0 0, .int .i64 0, .int .i64 0, .int .i64 0], []⟩ 8 (by kernel_rfl) (by kernel_rfl) (by kernel_rfl) (by kernel_rfl)) ?_
  intro W base args ds gs before hval0 hW hcnd _
  have hval : ∀ (j : Nat) t v, Try.f7.params[j]? = some t → args[j]? = some v → Value.okWide Try.prog W .any base t v := hval0
  have hW' := hW
  obtain ⟨p, q, hA0, hV, rfl, hfz, hnd⟩ := hW
  have hA : DataW.TrodAll enc Try.prog W 0 (fun _ => true) true Try.f7.params.toList args.toList ds p := hA0
  rw [Try.params7] at hA hval
  obtain ⟨v0, vs0, d0, ds0, p0, q0, hargs, rfl, rfl, h0, r0⟩ := trodAll_cons hA
  obtain ⟨v1, vs1, d1, ds1, p1, q1, rfl, rfl, rfl, h1, r1⟩ := trodAll_cons r0
  obtain ⟨v2, vs2, d2, ds2, p2, q2, rfl, rfl, rfl, h2, r2⟩ := trodAll_cons r1
  obtain ⟨v3, vs3, d3, ds3, p3, q3, rfl, rfl, rfl, h3, r3⟩ := trodAll_cons r2
  obtain ⟨rfl, rfl, rfl⟩ := trodAll_nil r3
  obtain rfl : args = #[v0, v1, v2, v3] := by cases args; simp_all
  obtain ⟨rfl, rfl⟩ := trodVars_none hV
  have k0 := h0
  have lt0 : ∀ x ∈ p0, x.block < W.heap.size := by obtain ⟨m, hm⟩ := k0; exact DataW.trod_lt m _ _ _ hm
  obtain ⟨a0, len0, cap0, rfl⟩ := okWide_slice Try.underlying78 (hval 0 78 v0 rfl rfl)
  obtain ⟨fuel0, hf0⟩ := h0
  obtain ⟨xa0, xlen0, xcap0, l0, xe0, ro0, wo0, fo0⟩ := gacts_of hf0
  obtain ⟨rfl, rfl, rfl⟩ : a0 = xa0 ∧ len0 = xlen0 ∧ cap0 = xcap0 := by injection xe0 with e1 e2 e3; exact ⟨e1, e2, e3⟩
  have k1 := h1
  have lt1 : ∀ x ∈ p1, x.block < W.heap.size := by obtain ⟨m, hm⟩ := k1; exact DataW.trod_lt m _ _ _ hm
  obtain ⟨a1, rfl, _, _, w1⟩ := open_int Try.underlying3 (hval 1 3 v1 rfl rfl) h1
  have k2 := h2
  have lt2 : ∀ x ∈ p2, x.block < W.heap.size := by obtain ⟨m, hm⟩ := k2; exact DataW.trod_lt m _ _ _ hm
  obtain ⟨a2, rfl, _, _, w2⟩ := open_int Try.underlying3 (hval 2 3 v2 rfl rfl) h2
  have k3 := h3
  have lt3 : ∀ x ∈ p3, x.block < W.heap.size := by obtain ⟨m, hm⟩ := k3; exact DataW.trod_lt m _ _ _ hm
  obtain ⟨a3, rfl, _, _, w3⟩ := open_int Try.underlying3 (hval 3 3 v3 rfl rfl) h3
  clear hA0 hval0
  refine (walk a0 len0 cap0 l0 a1 a2 a3 W wo0 ro0 fo0 w1 w2 w3).mono fun e W' ⟨he, bel⟩ => ?_
  subst he
  exact ⟨_, rfl, _, _, _, [], _, [], hW', trodAll_mk1 (shut_bool Try.underlying4 _), (trodAll_cons_mk (Below.trod laidOut (by kernel_rfl) (of_decide_eq_true (by kernel_rfl)) k0 bel lt0) (trodAll_cons_mk (Below.trod laidOut (by kernel_rfl) (of_decide_eq_true (by kernel_rfl)) k1 bel lt1) (trodAll_cons_mk (Below.trod laidOut (by kernel_rfl) (of_decide_eq_true (by kernel_rfl)) k2 bel lt2) (trodAll_cons_mk (Below.trod laidOut (by kernel_rfl) (of_decide_eq_true (by kernel_rfl)) k3 bel lt3) trodAll_mk0)))), rfl, bel.frame _, fun h => by cases h⟩
theorem over : Rows.flightlogReadsRow.holds Try.pinned (OpenSpec.ofChange Rows.flightlogReadsSpec) :=
  OpenClaim.holds_of_wide 7 Try.f7 rfl rfl rfl rfl rfl rfl rfl ⟨rfl, rfl, rfl, rfl, rfl⟩ rfl rfl rfl rfl rfl (by kernel_rfl) Try.func7 (by kernel_rfl)
    (of_decide_eq_true (by kernel_rfl)) (by unfold Func.isWrapper; first | (rw [if_pos (by decide +kernel)]; kernel_rfl) | (rw [if_neg (by decide +kernel)]; exact ⟨rfl, rfl⟩))
    (fun os started H enc _ => lifted os started H enc)
theorem proved : Rows.FlightlogReadsSaid := over
end Go.Proofs.Ytgmejplcdecmkaa.lawFlightlogReads

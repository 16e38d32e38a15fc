/- The reference's Receive of a report. -/
import Derived.Test.YtiidkmnagfhgiaaStY
namespace Go.Proofs.Ytiidkmnagfhgiaa
open Go.RowKit
set_option maxHeartbeats 8000000
set_option maxRecDepth 100000
set_option linter.unusedSimpArgs false
set_option linter.unusedVariables false
attribute [local go_sem ↓] Go.wp_at_zero Go.wp_at_succ
theorem info_rrep : (Try.prog.info? 84).map (fun i => (i.zero, i.size, i.bytes)) = some (some (.agg #[.bool false, .int .i64 0, .int .i64 0]), 3, 24) := by kernel_rfl
theorem rput2 (x : Int) (A : Option Addr) (W : World) (h : Ri W W.heap.size A 2 [x, x]) (hx : 0 ≤ x ∧ x ≤ 4294967295) :
    Calls Try.prog 55 #[.slice A 2 2] W fun e w' => ∃ A' cap', e = .returned (.tuple #[.slice A' 8 cap', .int .i64 0]) ∧ Ow w' W.heap.size A' 8 cap' (Frm.num4 x ++ Frm.num4 x) ∧ Below W.heap.size W w' := by
  have hok : Frm.okAll [x, x] = true := by simp [Frm.okAll, Frm.okN_iff.2 hx]
  refine (rput_any A 2 2 [x, x] W (by omega) h).mono ?_
  rintro e w' (⟨h1, _⟩ | ⟨_, A', cap', rfl, hO, hB⟩)
  · rcases h1 with h1 | h1
    · omega
    · rw [hok] at h1; cases h1
  · exact ⟨A', cap', rfl, hO, hB⟩
theorem rrecv_rep (s : Stn.St) (hs : Stn.Inv s) (D : Option Addr) (dl dc : Nat) (A : Option Addr) (ac : Nat) (S : Option Addr) (sc : Nat) (now k f t q : Int) (bb oo cap : Nat) (d : List Int) (x : Int) (w : World) (hd : Rd w w.heap.size (some ⟨bb, oo, none⟩) 1 d) (hxd : d.getD 0 0 = x) (hdl : dl = (Stn.data s).length) (h : IsR w D dc A ac S sc s) (he : Stn.recvE s now ⟨k, f, t, q, d⟩ = 0)
    (hk : k ≠ 8) (hq : x ≤ 7) (i : Nat) (hfi : f = (i : Int) + 1) :
    Calls Try.prog 32 #[.agg #[.int .i64 s.again, .int .i64 s.st, .int .i64 s.now, .int .i64 s.seq, .bool s.some, .int .i64 s.prog, .int .i64 s.cmd, .slice D dl dc, .int .i64 s.sent, .slice A s.n ac, .slice S s.n sc], .int .i64 now, .agg #[.int .i64 k, .int .i64 f, .int .i64 t, .int .i64 q, .slice (some ⟨bb, oo, none⟩) 1 cap]] w (RPost D (Stn.reported { s with now := now } (i + 1) x now) [⟨7, 0, f, q, Frm.num4 now ++ Frm.num4 now⟩] 0 w) := by
  obtain ⟨hv, ht, hf, hte⟩ := recvE_ok he
  simp only [hd.1] at hv ht hf
  have TM := Lib.hid (fun W : World => rtime_any s D dl dc A s.n ac S s.n sc now W)
  have VA := Lib.hid (fun (W : World) => rvalid_any k f t q (some ⟨bb, oo, none⟩) 1 cap W (by omega))
  rw [hte] at TM
  rw [hv] at VA
  have H := Lib.hid h
  have HDL := Lib.hid hdl
  have hsn := hs.n
  have z : (t != 0) = false := by simpa using ht
  have hf' : decide ((s.n : Int) < f) = false := by rw [decide_eq_false_iff_not]; omega
  have hx : Rd w w.heap.size (some ⟨bb, oo, none⟩) 1 d := hd
  obtain ⟨b', o', e', hbb, hcc⟩ := hd.2.2 (by omega)
  injection e' with e'; injection e' with e1 e2
  subst e1; subst e2
  have cd := hcc 0 (by omega)
  simp only [Nat.add_zero] at cd
  have hxb := hd.2.1.at_ 0
  rw [hxd] at cd hxb
  have wx : IntKind.i64.wrap x = x := IntWalk.i64_in _ (by omega)
  have CD := Lib.hid cd
  have hne : w.heap.size ≠ bb := by omega
  have hn1 : w.heap.size + 1 ≠ bb := by omega
  obtain ⟨i0, hi0, hz0, hz1, hz2⟩ := info_parts info_rrep
  have z8 : (k == 8) = false := by rw [beq_eq_false_iff_ne]; exact hk
  have zx : decide (7 < x) = false := by rw [decide_eq_false_iff_not]; omega
  have hin : i < s.n := by omega
  have hnow := Stn.timeE_ok hte
  have hnow2 := hs.now
  have HNW := Lib.hid (show 0 ≤ now ∧ now ≤ 3600000 by omega)
  have PN := Lib.hid (fun (W : World) (A : Option Addr) (hW : Ri W W.heap.size A 2 [now, now]) => rput2 now A W hW (by omega))
  have HFI := Lib.hid hfi
  have wf : IntKind.i64.wrap (f - 1) = (i : Int) := by rw [hfi, IntWalk.i64_in _ (by omega)]; omega
  have HSL := Lib.hid hs.seen
  clear hcc cd h hdl he hv ht hf hte hs hd hx hxd hk hfi hnow hnow2
  go_enter Try.func32, Try.ntmps32; go_wp2_with fail; generalize hV : World.alloc _ _ = V; have k0 : V.heap[w.heap.size]? = some (.cells #[.int .i64 s.again, .int .i64 s.st, .int .i64 s.now, .int .i64 s.seq, .bool s.some, .int .i64 s.prog, .int .i64 s.cmd, .slice D dl dc, .int .i64 s.sent, .slice A s.n ac, .slice S s.n sc] 29 (0, 0)) := (by rw [← hV]; exact blk_alloc (blk_alloc (heap_new _ _) _) _); have k1 : V.heap[w.heap.size + 1]? = some (.cells #[.int .i64 k, .int .i64 f, .int .i64 t, .int .i64 q, .slice (some ⟨bb, oo, none⟩) 1 cap] 40 (0, 0)) := (by rw [← hV]; exact blk_alloc (heap_new' _ _ _ (by simp)) _); have k2 : V.heap[w.heap.size + 2]? = some (.cells #[.int .i64 0, .int .i64 0, .int .i64 0, .int .i64 0, .bool false, .int .i64 0, .int .i64 0, .slice none 0 0, .int .i64 0, .slice none 0 0, .slice none 0 0] 29 (0, 0)) := (by rw [← hV]; exact heap_new' _ _ _ (by simp)); have hB0 : Below w.heap.size w V := (by rw [← hV]; exact (by repeat (first | (with_reducible exact Below.refl _ _) | (with_reducible refine Below.drew ?_) | (with_reducible refine below_drewN ?_ _) | ((with_reducible refine Below.alloc ?_ ?_ _); rotate_left; (first | omega | (simp <;> omega)); rotate_right) | ((with_reducible refine Below.setCell ?_ ?_ _); rotate_left; (first | omega | (simp <;> omega)); rotate_right) | (with_reducible assumption) | (refine Below.trans ?_ (Below.mono (by assumption) ?_); rotate_left; (first | omega | (simp <;> omega)); rotate_right)))); have hzV : w.heap.size ≤ V.heap.size := hB0.size; clear hV; refine (VA.out _).mono ?_; rintro e w1 ⟨rfl, hB1⟩; have j0 := blk_below k0 hB1 (lt_of_block k0); have j1 := blk_below k1 hB1 (lt_of_block k1); have j2 := blk_below k2 hB1 (lt_of_block k2); have hBw : Below w.heap.size w w1 := hB0.trans (hB1.mono hzV); clear k0 k1 k2 hB1 hB0 hzV; (have ca_0 := blk_cell j0 0 rfl; have fa_0 := blk_free j0 0; have ca_1 := blk_cell j0 1 rfl; have fa_1 := blk_free j0 1; have ca_2 := blk_cell j0 2 rfl; have fa_2 := blk_free j0 2; have ca_3 := blk_cell j0 3 rfl; have fa_3 := blk_free j0 3; have ca_4 := blk_cell j0 4 rfl; have fa_4 := blk_free j0 4; have ca_5 := blk_cell j0 5 rfl; have fa_5 := blk_free j0 5; have ca_6 := blk_cell j0 6 rfl; have fa_6 := blk_free j0 6; have ca_7 := blk_cell j0 7 rfl; have fa_7 := blk_free j0 7; have ca_8 := blk_cell j0 8 rfl; have fa_8 := blk_free j0 8; have ca_9 := blk_cell j0 9 rfl; have fa_9 := blk_free j0 9; have ca_10 := blk_cell j0 10 rfl; have fa_10 := blk_free j0 10; have la := lt_of_block j0); (have cb_0 := blk_cell j1 0 rfl; have fb_0 := blk_free j1 0; have cb_1 := blk_cell j1 1 rfl; have fb_1 := blk_free j1 1; have cb_2 := blk_cell j1 2 rfl; have fb_2 := blk_free j1 2; have cb_3 := blk_cell j1 3 rfl; have fb_3 := blk_free j1 3; have cb_4 := blk_cell j1 4 rfl; have fb_4 := blk_free j1 4; have lb := lt_of_block j1); (have cc_0 := blk_cell j2 0 rfl; have fc_0 := blk_free j2 0; have cc_1 := blk_cell j2 1 rfl; have fc_1 := blk_free j2 1; have cc_2 := blk_cell j2 2 rfl; have fc_2 := blk_free j2 2; have cc_3 := blk_cell j2 3 rfl; have fc_3 := blk_free j2 3; have cc_4 := blk_cell j2 4 rfl; have fc_4 := blk_free j2 4; have cc_5 := blk_cell j2 5 rfl; have fc_5 := blk_free j2 5; have cc_6 := blk_cell j2 6 rfl; have fc_6 := blk_free j2 6; have cc_7 := blk_cell j2 7 rfl; have fc_7 := blk_free j2 7; have cc_8 := blk_cell j2 8 rfl; have fc_8 := blk_free j2 8; have cc_9 := blk_cell j2 9 rfl; have fc_9 := blk_free j2 9; have cc_10 := blk_cell j2 10 rfl; have fc_10 := blk_free j2 10; have lc := lt_of_block j2); go_wp2_with fail
  have hzW : w.heap.size ≤ w1.heap.size := hBw.size; refine (TM.out _).mono ?_; rintro e w2 ⟨rfl, hB2⟩; have k0 := blk_below j0 hB2 (lt_of_block j0); have k1 := blk_below j1 hB2 (lt_of_block j1); have k2 := blk_below j2 hB2 (lt_of_block j2); have hBv : Below w.heap.size w w2 := hBw.trans (hB2.mono hzW); (clear ca_0 fa_0 ca_1 fa_1 ca_2 fa_2 ca_3 fa_3 ca_4 fa_4 ca_5 fa_5 ca_6 fa_6 ca_7 fa_7 ca_8 fa_8 ca_9 fa_9 ca_10 fa_10); (clear cb_0 fb_0 cb_1 fb_1 cb_2 fb_2 cb_3 fb_3 cb_4 fb_4); (clear cc_0 fc_0 cc_1 fc_1 cc_2 fc_2 cc_3 fc_3 cc_4 fc_4 cc_5 fc_5 cc_6 fc_6 cc_7 fc_7 cc_8 fc_8 cc_9 fc_9 cc_10 fc_10); clear la lb lc j0 j1 j2 hB2 hBw hzW; (have ca_0 := blk_cell k0 0 rfl; have fa_0 := blk_free k0 0; have ca_1 := blk_cell k0 1 rfl; have fa_1 := blk_free k0 1; have ca_2 := blk_cell k0 2 rfl; have fa_2 := blk_free k0 2; have ca_3 := blk_cell k0 3 rfl; have fa_3 := blk_free k0 3; have ca_4 := blk_cell k0 4 rfl; have fa_4 := blk_free k0 4; have ca_5 := blk_cell k0 5 rfl; have fa_5 := blk_free k0 5; have ca_6 := blk_cell k0 6 rfl; have fa_6 := blk_free k0 6; have ca_7 := blk_cell k0 7 rfl; have fa_7 := blk_free k0 7; have ca_8 := blk_cell k0 8 rfl; have fa_8 := blk_free k0 8; have ca_9 := blk_cell k0 9 rfl; have fa_9 := blk_free k0 9; have ca_10 := blk_cell k0 10 rfl; have fa_10 := blk_free k0 10; have la := lt_of_block k0); (have cb_0 := blk_cell k1 0 rfl; have fb_0 := blk_free k1 0; have cb_1 := blk_cell k1 1 rfl; have fb_1 := blk_free k1 1; have cb_2 := blk_cell k1 2 rfl; have fb_2 := blk_free k1 2; have cb_3 := blk_cell k1 3 rfl; have fb_3 := blk_free k1 3; have cb_4 := blk_cell k1 4 rfl; have fb_4 := blk_free k1 4; have lb := lt_of_block k1); (have cc_0 := blk_cell k2 0 rfl; have fc_0 := blk_free k2 0; have cc_1 := blk_cell k2 1 rfl; have fc_1 := blk_free k2 1; have cc_2 := blk_cell k2 2 rfl; have fc_2 := blk_free k2 2; have cc_3 := blk_cell k2 3 rfl; have fc_3 := blk_free k2 3; have cc_4 := blk_cell k2 4 rfl; have fc_4 := blk_free k2 4; have cc_5 := blk_cell k2 5 rfl; have fc_5 := blk_free k2 5; have cc_6 := blk_cell k2 6 rfl; have fc_6 := blk_free k2 6; have cc_7 := blk_cell k2 7 rfl; have fc_7 := blk_free k2 7; have cc_8 := blk_cell k2 8 rfl; have fc_8 := blk_free k2 8; have cc_9 := blk_cell k2 9 rfl; have fc_9 := blk_free k2 9; have cc_10 := blk_cell k2 10 rfl; have fc_10 := blk_free k2 10; have lc := lt_of_block k2)
  have c2 := ((bcell hBv).1 bb oo hbb).trans CD.out
  have HBV := Lib.hid hBv
  go_wp2_with (at_builtin; refine wpList_append_any _ rfl (.const (.slice none 0 0)) (.tmp 104) _ rfl w.heap.size 84 i0 _ 3 24 Try.underlying27 hi0 hz0 hz1 hz2 rfl (by omega) (.slice none 0 0) 0 [] rfl (World.ownsRow_nil _ _ _ _) _ S s.n sc (repcs s.seen) rfl ((H.out.sr.below (B := w.heap.size) (by repeat (first | (with_reducible exact Below.refl _ _) | (with_reducible refine Below.drew ?_) | (with_reducible refine below_drewN ?_ _) | ((with_reducible refine Below.alloc ?_ ?_ _); rotate_left; (first | omega | (simp <;> omega)); rotate_right) | ((with_reducible refine Below.setCell ?_ ?_ _); rotate_left; (first | omega | (simp <;> omega)); rotate_right) | (with_reducible assumption) | (refine Below.trans ?_ (Below.mono (by assumption) ?_); rotate_left; (first | omega | (simp <;> omega)); rotate_right))) (Nat.le_refl _)).reads) (repcs_one _) (by simp only [maxLen]; omega) (by omega) (by simp [World.setCell]; have := HBV.out.size; omega) ?_; intro v5 w5 hown5 hg5 hat5; simp only [Nat.zero_add, List.nil_append] at hown5; obtain ⟨g5, c5, rfl, hge5, hlt5⟩ := hown5.form (by omega); have hBP : Below w.heap.size w w5 := Below.grown (show Below w.heap.size w _ from (by repeat (first | (with_reducible exact Below.refl _ _) | (with_reducible refine Below.drew ?_) | (with_reducible refine below_drewN ?_ _) | ((with_reducible refine Below.alloc ?_ ?_ _); rotate_left; (first | omega | (simp <;> omega)); rotate_right) | ((with_reducible refine Below.setCell ?_ ?_ _); rotate_left; (first | omega | (simp <;> omega)); rotate_right) | (with_reducible assumption) | (refine Below.trans ?_ (Below.mono (by assumption) ?_); rotate_left; (first | omega | (simp <;> omega)); rotate_right)))) hg5 (by have := HBV.out.size; simp [World.setCell]; omega) (fun g hg => by simp [Value.ownBlock] at hg); have e0 : w5.heap[w.heap.size]? = some (.cells #[.int .i64 s.again, .int .i64 s.st, .int .i64 now, .int .i64 s.seq, .bool s.some, .int .i64 s.prog, .int .i64 s.cmd, .slice D dl dc, .int .i64 s.sent, .slice A s.n ac, .slice S s.n sc] 29 (0, 0)) := (hg5.block w.heap.size (by have := lt_of_block k0; simp [World.setCell]; omega) (by simp [Value.ownBlock])).trans (by apply Eq.trans; (repeat (first | (with_reducible assumption) | (with_reducible apply blk_set) | ((with_reducible apply blk_far); rotate_left; (first | omega | (simp <;> omega)); rotate_right) | (with_reducible apply blk_drew) | (with_reducible apply blk_drewN) | ((with_reducible apply heap_new'); (first | rfl | (simp <;> fail))) | (with_reducible apply blk_alloc))); (first | with_reducible rfl | (simp <;> fail) | rfl)); have e1 : w5.heap[w.heap.size + 1]? = some (.cells #[.int .i64 k, .int .i64 f, .int .i64 t, .int .i64 q, .slice (some ⟨bb, oo, none⟩) 1 cap] 40 (0, 0)) := (hg5.block (w.heap.size + 1) (by have := lt_of_block k1; simp [World.setCell]; omega) (by simp [Value.ownBlock])).trans (by repeat (first | (with_reducible assumption) | ((with_reducible apply blk_far); rotate_left; (first | omega | (simp <;> omega)); rotate_right) | (with_reducible apply blk_drew) | (with_reducible apply blk_drewN) | (with_reducible exact heap_new _ _) | ((with_reducible apply heap_new'); (first | rfl | (simp <;> fail))) | (with_reducible apply blk_alloc))); have e2 : w5.heap[w.heap.size + 2]? = some (.cells #[.int .i64 0, .int .i64 0, .int .i64 0, .int .i64 0, .bool false, .int .i64 0, .int .i64 0, .slice none 0 0, .int .i64 0, .slice none 0 0, .slice none 0 0] 29 (0, 0)) := (hg5.block (w.heap.size + 2) (by have := lt_of_block k2; simp [World.setCell]; omega) (by simp [Value.ownBlock])).trans (by repeat (first | (with_reducible assumption) | ((with_reducible apply blk_far); rotate_left; (first | omega | (simp <;> omega)); rotate_right) | (with_reducible apply blk_drew) | (with_reducible apply blk_drewN) | (with_reducible exact heap_new _ _) | ((with_reducible apply heap_new'); (first | rfl | (simp <;> fail))) | (with_reducible apply blk_alloc))); have HR5 := Lib.hid ((Row.of_own hown5).more (Nat.zero_le _)); have HBP := Lib.hid hBP; have HG5 := Lib.hid (show w.heap.size ≤ g5 from hge5); (have cd_0 := blk_cell e0 0 rfl; have fd_0 := blk_free e0 0; have cd_1 := blk_cell e0 1 rfl; have fd_1 := blk_free e0 1; have cd_2 := blk_cell e0 2 rfl; have fd_2 := blk_free e0 2; have cd_3 := blk_cell e0 3 rfl; have fd_3 := blk_free e0 3; have cd_4 := blk_cell e0 4 rfl; have fd_4 := blk_free e0 4; have cd_5 := blk_cell e0 5 rfl; have fd_5 := blk_free e0 5; have cd_6 := blk_cell e0 6 rfl; have fd_6 := blk_free e0 6; have cd_7 := blk_cell e0 7 rfl; have fd_7 := blk_free e0 7; have cd_8 := blk_cell e0 8 rfl; have fd_8 := blk_free e0 8; have cd_9 := blk_cell e0 9 rfl; have fd_9 := blk_free e0 9; have cd_10 := blk_cell e0 10 rfl; have fd_10 := blk_free e0 10; have ld := lt_of_block e0); clear hown5 hg5 hat5 hBP)
  have hcd5 := ((bcell HBP.out).1 bb oo hbb).trans CD.out
  have hg50 : g5 ≠ w.heap.size := (HR5.out.ty rfl).ne ⟨_, e0⟩ (by decide)
  have hg51 : g5 ≠ w.heap.size + 1 := (HR5.out.ty rfl).ne ⟨_, e1⟩ (by decide)
  have hg52 : g5 ≠ w.heap.size + 2 := (HR5.out.ty rfl).ne ⟨_, e2⟩ (by decide)
  have hrow := HR5.out
  obtain ⟨g', o', cur, he', _, _, hcg, hnc5, hcm5, hfit5, hcur5, hcell5, _⟩ := hrow.some_ (by omega)
  injection he' with he'; injection he' with e1' e2'
  subst e1'; subst e2'
  obtain ⟨v0, kk0⟩ : ∃ v, w5.cell? ⟨g5, 0 + (i * 3 + 0), none⟩ = some v := ⟨_, hcell5 (i * 3 + 0) _ (by rw [repcs_at _ _ _ (by rw [HSL.out]; exact hin) (by omega)]; rfl)⟩
  obtain ⟨v1, kk1⟩ : ∃ v, w5.cell? ⟨g5, 0 + (i * 3 + 1), none⟩ = some v := ⟨_, hcell5 (i * 3 + 1) _ (by rw [repcs_at _ _ _ (by rw [HSL.out]; exact hin) (by omega)]; rfl)⟩
  obtain ⟨v2, kk2⟩ : ∃ v, w5.cell? ⟨g5, 0 + (i * 3 + 2), none⟩ = some v := ⟨_, hcell5 (i * 3 + 2) _ (by rw [repcs_at _ _ _ (by rw [HSL.out]; exact hin) (by omega)]; rfl)⟩
  simp only [Nat.zero_add, Nat.add_zero] at kk0 kk1 kk2
  have zf0 := blk_free hcg (i * 3)
  have zf1 := blk_free hcg (i * 3 + 1)
  have zf2 := blk_free hcg (i * 3 + 2)
  have HCG := Lib.hid hcg
  have HF5 := Lib.hid (show s.n ≤ c5 ∧ c5 ≤ maxLen ∧ 0 + c5 * 3 ≤ cur.size ∧ (cur.toList.drop 0).take (s.n * 3) = repcs s.seen from ⟨hnc5, hcm5, hfit5, hcur5⟩)
  have hwi : (i : Int) < (s.n : Int) := by omega
  clear ca_0 fa_0 ca_1 fa_1 ca_2 fa_2 ca_3 fa_3 ca_4 fa_4 ca_5 fa_5 ca_6 fa_6 ca_7 fa_7 ca_8 fa_8 ca_9 fa_9 ca_10 fa_10
  clear cb_0 fb_0 cb_1 fb_1 cb_2 fb_2 cb_3 fb_3 cb_4 fb_4
  clear cc_0 fc_0 cc_1 fc_1 cc_2 fc_2 cc_3 fc_3 cc_4 fc_4 cc_5 fc_5 cc_6 fc_6 cc_7 fc_7 cc_8 fc_8 cc_9 fc_9 cc_10 fc_10
  clear la lb lc k0 k1 k2 hcg hnc5 hcm5 hfit5 hcur5 hcell5 hrow c2 hBv
  have cb_0 := blk_cell e1 0 rfl; have fb_0 := blk_free e1 0; have cb_1 := blk_cell e1 1 rfl; have fb_1 := blk_free e1 1; have cb_2 := blk_cell e1 2 rfl; have fb_2 := blk_free e1 2; have cb_3 := blk_cell e1 3 rfl; have fb_3 := blk_free e1 3; have cb_4 := blk_cell e1 4 rfl; have fb_4 := blk_free e1 4; have lb := lt_of_block e1
  go_upto_region 21 with fail
  go_region
  go_wp2_with fail
  obtain ⟨V2, hV2⟩ : ∃ V2, V2 = w5.setCell ⟨w.heap.size, 10, none⟩ (.slice (some ⟨g5, 0, none⟩) s.n c5) := ⟨_, rfl⟩
  obtain ⟨V3, hV3⟩ : ∃ V3, V3 = ((V2.setCell ⟨g5, i * 3, none⟩ (.bool true)).setCell ⟨g5, i * 3 + 1, none⟩ (.int .i64 x)).setCell ⟨g5, i * 3 + 2, none⟩ (.int .i64 now) := ⟨_, rfl⟩
  rw [← hV2, ← hV3]
  have a0 : V2.heap[w.heap.size]? = some (.cells #[.int .i64 s.again, .int .i64 s.st, .int .i64 now, .int .i64 s.seq, .bool s.some, .int .i64 s.prog, .int .i64 s.cmd, .slice D dl dc, .int .i64 s.sent, .slice A s.n ac, .slice (some ⟨g5, 0, none⟩) s.n c5] 29 (0, 0)) := by rw [hV2]; exact blk_set e0 10 _
  have a1 : V2.heap[w.heap.size + 1]? = some (.cells #[.int .i64 k, .int .i64 f, .int .i64 t, .int .i64 q, .slice (some ⟨bb, oo, none⟩) 1 cap] 40 (0, 0)) := by rw [hV2]; exact (by repeat (first | (with_reducible assumption) | ((with_reducible apply blk_far); rotate_left; (first | omega | (simp <;> omega)); rotate_right) | (with_reducible apply blk_drew) | (with_reducible apply blk_drewN) | (with_reducible exact heap_new _ _) | ((with_reducible apply heap_new'); (first | rfl | (simp <;> fail))) | (with_reducible apply blk_alloc)))
  have a2 : V2.heap[w.heap.size + 2]? = some (.cells #[.int .i64 0, .int .i64 0, .int .i64 0, .int .i64 0, .bool false, .int .i64 0, .int .i64 0, .slice none 0 0, .int .i64 0, .slice none 0 0, .slice none 0 0] 29 (0, 0)) := by rw [hV2]; exact (by repeat (first | (with_reducible assumption) | ((with_reducible apply blk_far); rotate_left; (first | omega | (simp <;> omega)); rotate_right) | (with_reducible apply blk_drew) | (with_reducible apply blk_drewN) | (with_reducible exact heap_new _ _) | ((with_reducible apply heap_new'); (first | rfl | (simp <;> fail))) | (with_reducible apply blk_alloc)))
  have a5 : V2.heap[g5]? = some (.cells cur 84 (0, 0)) := by rw [hV2]; exact blk_far HCG.out hg50 _
  have hB2 : Below w.heap.size w V2 := by rw [hV2]; exact HBP.out.setCell (Nat.le_refl _) _
  have hV3' : V3 = V2.setCells g5 (i * 3) (repc (true, x, now)) := hV3
  have hvk : Keeps (fun j => j = g5) V2 V3 := by rw [hV3']; exact setCells_keeps g5 _ _ _ _ (Keeps.refl _ _)
  have b5 : V3.heap[g5]? = some (.cells (setL cur (i * 3) (repc (true, x, now))) 84 (0, 0)) := by rw [hV3']; exact setCells_blk g5 _ _ _ _ _ a5
  have b0 := blk_keep a0 hvk (fun e => hg50 e.symm)
  have b1 := blk_keep a1 hvk (fun e => hg51 e.symm)
  have b2 := blk_keep a2 hvk (fun e => hg52 e.symm)
  have hsz : V3.heap.size = w5.heap.size := by rw [hV3, hV2]; simp [World.setCell]
  have hB3 : Below w.heap.size w V3 := hB2.trans (hvk.below (fun j _ hj => by have := HG5.out; omega) hB2.size)
  have HSR := Lib.hid (show Row V3 0 84 3 (some ⟨g5, 0, none⟩) s.n c5 (repcs (s.seen.set i (true, x, now))) from by
    obtain ⟨q1, q2, q3, q4⟩ := HF5.out
    have hm3 : s.n * 3 ≤ c5 * 3 := Nat.mul_le_mul_right _ q1
    refine Row.of_block b5 (Nat.zero_le _) q1 q2 (by rw [size_setL]; exact q3) ?_
    have := reps_set cur 0 s.n i s.seen (true, x, now) q4 HSL.out hin (by omega)
    rw [Nat.zero_add] at this
    exact this)
  have HB3 := Lib.hid hB3
  have HSZ := Lib.hid hsz
  have hRi : Ri (V3.alloc (.cells #[.int .i64 now, .int .i64 now] 3)) (V3.alloc (.cells #[.int .i64 now, .int .i64 now] 3)).heap.size (some ⟨w5.heap.size, 0, none⟩) 2 [now, now] := by
    have h0 := HNW.out
    have := Ri.newL V3 [now, now] (by intro y hy; simp at hy; omega)
    rw [hsz] at this
    exact this.more (by simp; omega)
  have HRI := Lib.hid (show Ri (V3.alloc (.cells #[.int .i64 now, .int .i64 now] 3)).drew (V3.alloc (.cells #[.int .i64 now, .int .i64 now] 3)).drew.heap.size (some ⟨w5.heap.size, 0, none⟩) 2 [now, now] from hRi)
  clear cd_0 fd_0 cd_1 fd_1 cd_2 fd_2 cd_3 fd_3 cd_4 fd_4 cd_5 fd_5 cd_6 fd_6 cd_7 fd_7 cd_8 fd_8 cd_9 fd_9 cd_10 fd_10
  clear cb_0 fb_0 cb_1 fb_1 cb_2 fb_2 cb_3 fb_3 cb_4 fb_4
  clear ld lb hV2 hV3 hV3' a0 a1 a2 a5 hB2 hvk b5 hB3 hsz hRi e0 e1 e2 kk0 kk1 kk2 zf0 zf1 zf2
  refine (PN.out _ _ HRI.out).mono ?_
  rintro e wA ⟨A8, c8, rfl, hO8, hbA⟩
  have j0 := blk_below (q := w.heap.size) (blk_drew (blk_alloc b0 _)) hbA (by have := lt_of_block b0; simp; omega)
  have j1 := blk_below (q := w.heap.size + 1) (blk_drew (blk_alloc b1 _)) hbA (by have := lt_of_block b1; simp; omega)
  have j2 := blk_below (q := w.heap.size + 2) (blk_drew (blk_alloc b2 _)) hbA (by have := lt_of_block b2; simp; omega)
  have HBA := Lib.hid (show Below V3.heap.size V3 wA from (by repeat (first | (with_reducible exact Below.refl _ _) | (with_reducible refine Below.drew ?_) | (with_reducible refine below_drewN ?_ _) | ((with_reducible refine Below.alloc ?_ ?_ _); rotate_left; (first | omega | (simp <;> omega)); rotate_right) | ((with_reducible refine Below.setCell ?_ ?_ _); rotate_left; (first | omega | (simp <;> omega)); rotate_right) | (with_reducible assumption) | (refine Below.trans ?_ (Below.mono (by assumption) ?_); rotate_left; (first | omega | (simp <;> omega)); rotate_right))))
  have HO8 := Lib.hid (show Ow wA w.heap.size A8 8 c8 (Frm.num4 now ++ Frm.num4 now) from hO8.more (by have := HB3.out.size; simp; omega))
  have hwA : w.heap.size ≤ wA.heap.size := by have := HB3.out.size; have := HBA.out.size; omega
  have ca_0 := blk_cell j0 0 rfl; have fa_0 := blk_free j0 0; have ca_1 := blk_cell j0 1 rfl; have fa_1 := blk_free j0 1; have ca_2 := blk_cell j0 2 rfl; have fa_2 := blk_free j0 2; have ca_3 := blk_cell j0 3 rfl; have fa_3 := blk_free j0 3; have ca_4 := blk_cell j0 4 rfl; have fa_4 := blk_free j0 4; have ca_5 := blk_cell j0 5 rfl; have fa_5 := blk_free j0 5; have ca_6 := blk_cell j0 6 rfl; have fa_6 := blk_free j0 6; have ca_7 := blk_cell j0 7 rfl; have fa_7 := blk_free j0 7; have ca_8 := blk_cell j0 8 rfl; have fa_8 := blk_free j0 8; have ca_9 := blk_cell j0 9 rfl; have fa_9 := blk_free j0 9; have ca_10 := blk_cell j0 10 rfl; have fa_10 := blk_free j0 10; have la := lt_of_block j0
  have cb_0 := blk_cell j1 0 rfl; have fb_0 := blk_free j1 0; have cb_1 := blk_cell j1 1 rfl; have fb_1 := blk_free j1 1; have cb_2 := blk_cell j1 2 rfl; have fb_2 := blk_free j1 2; have cb_3 := blk_cell j1 3 rfl; have fb_3 := blk_free j1 3; have cb_4 := blk_cell j1 4 rfl; have fb_4 := blk_free j1 4; have lb := lt_of_block j1
  have cc_0 := blk_cell j2 0 rfl; have fc_0 := blk_free j2 0; have cc_1 := blk_cell j2 1 rfl; have fc_1 := blk_free j2 1; have cc_2 := blk_cell j2 2 rfl; have fc_2 := blk_free j2 2; have cc_3 := blk_cell j2 3 rfl; have fc_3 := blk_free j2 3; have cc_4 := blk_cell j2 4 rfl; have fc_4 := blk_free j2 4; have cc_5 := blk_cell j2 5 rfl; have fc_5 := blk_free j2 5; have cc_6 := blk_cell j2 6 rfl; have fc_6 := blk_free j2 6; have cc_7 := blk_cell j2 7 rfl; have fc_7 := blk_free j2 7; have cc_8 := blk_cell j2 8 rfl; have fc_8 := blk_free j2 8; have cc_9 := blk_cell j2 9 rfl; have fc_9 := blk_free j2 9; have cc_10 := blk_cell j2 10 rfl; have fc_10 := blk_free j2 10; have lc := lt_of_block j2
  clear b0 b1 b2 hbA hO8
  go_wp2_with fail
  go_region
  go_wp2_with fail
  generalize hVf : World.setCell _ _ _ = Vf
  have hf : Vf.heap[w.heap.size + 2]? = some (.cells #[.int .i64 s.again, .int .i64 s.st, .int .i64 now, .int .i64 s.seq, .bool s.some, .int .i64 s.prog, .int .i64 s.cmd, .slice D dl dc, .int .i64 s.sent, .slice A s.n ac, .slice (some ⟨g5, 0, none⟩) s.n c5] 29 (0, 0)) := by rw [← hVf]; exact (by apply Eq.trans; (repeat (first | (with_reducible assumption) | (with_reducible apply blk_set) | ((with_reducible apply blk_far); rotate_left; (first | omega | (simp <;> omega)); rotate_right) | (with_reducible apply blk_drew) | (with_reducible apply blk_drewN) | ((with_reducible apply heap_new'); (first | rfl | (simp <;> fail))) | (with_reducible apply blk_alloc))); (first | with_reducible rfl | (simp <;> fail) | rfl))
  have hK : Keeps (fun j => j = w.heap.size + 2) wA Vf := by rw [← hVf]; (repeat (first | with_reducible exact Keeps.refl _ _ | (with_reducible refine Keeps.set1 ?_ _ _) | (with_reducible refine Keeps.drew ?_) | (with_reducible refine Keeps.drewN ?_ _) | (with_reducible refine Keeps.alloc ?_ _)))
  have hzf : Vf.heap.size = wA.heap.size := by rw [← hVf]; simp [World.setCell]
  clear hVf
  clear ca_0 fa_0 ca_1 fa_1 ca_2 fa_2 ca_3 fa_3 ca_4 fa_4 ca_5 fa_5 ca_6 fa_6 ca_7 fa_7 ca_8 fa_8 ca_9 fa_9 ca_10 fa_10
  clear cb_0 fb_0 cb_1 fb_1 cb_2 fb_2 cb_3 fb_3 cb_4 fb_4
  clear cc_0 fc_0 cc_1 fc_1 cc_2 fc_2 cc_3 fc_3 cc_4 fc_4 cc_5 fc_5 cc_6 fc_6 cc_7 fc_7 cc_8 fc_8 cc_9 fc_9 cc_10 fc_10
  clear la lb lc
  have hTy : ∀ j : Nat, j = w.heap.size + 2 → j < wA.heap.size → Ty wA j 29 := fun j hj _ => by rw [hj]; exact ⟨_, j2⟩
  have hBf : Below w.heap.size w Vf := (HB3.out.trans (HBA.out.mono HB3.out.size)).trans (hK.below (fun j _ hj => by omega) hwA)
  have hqA : IsR wA D dc A ac (some ⟨g5, 0, none⟩) c5 (Stn.reported { s with now := now } (i + 1) x now) := by
    have h1 := H.out.below (HB3.out.trans (HBA.out.mono HB3.out.size)) (Nat.le_refl _)
    exact ⟨h1.dr, h1.ar, HSR.out.below HBA.out (Nat.le_refl _)⟩
  have hqF := Lib.hid ((hqA.keptT hK (fun j hj hl => ⟨_, hTy j hj hl, by decide, by decide, by decide⟩)).alloc (.cells #[.int .i64 7, .int .i64 0, .int .i64 f, .int .i64 q, .slice A8 8 c8] 40))
  have hown := World.ownsRow_lit (base := w.heap.size) (e := 40) (size := 5) Vf #[.int .i64 7, .int .i64 0, .int .i64 f, .int .i64 q, .slice A8 8 c8] 1 (by omega) (by unfold maxLen; omega) rfl
  rw [hzf] at hown
  have hO9 : Ow Vf w.heap.size A8 8 c8 (Frm.num4 now ++ Frm.num4 now) := ⟨HO8.out.1.kept (row := some (w.heap.size + 2)) ⟨hK.os, hK.tape, hK.output, hK.size, fun j hj hne => hK.block j hj (fun e => hne (by rw [e]))⟩ (by
    rcases HO8.out.form with ⟨h1, _⟩ | ⟨g, h1, _, hg, _⟩
    · left; rw [h1]; rfl
    · right
      rw [h1]
      intro e
      simp only [Value.ownBlock, Option.some.injEq] at e
      obtain ⟨cur, hc, _⟩ := (show Ow wA w.heap.size (some ⟨g, 0, none⟩) 8 c8 (Frm.num4 now ++ Frm.num4 now) by rw [← h1]; exact HO8.out).block
      exact (hTy g e hg).ne ⟨_, hc⟩ (by decide) rfl), HO8.out.2⟩
  have HO9 := Lib.hid hO9
  have HOWN := Lib.hid hown
  have HBF := Lib.hid hBf
  have hzw : w.heap.size + 2 < Vf.heap.size := lt_of_block hf
  have cm_0 := blk_cell hf 0 rfl; have fm_0 := blk_free hf 0; have cm_1 := blk_cell hf 1 rfl; have fm_1 := blk_free hf 1; have cm_2 := blk_cell hf 2 rfl; have fm_2 := blk_free hf 2; have cm_3 := blk_cell hf 3 rfl; have fm_3 := blk_free hf 3; have cm_4 := blk_cell hf 4 rfl; have fm_4 := blk_free hf 4; have cm_5 := blk_cell hf 5 rfl; have fm_5 := blk_free hf 5; have cm_6 := blk_cell hf 6 rfl; have fm_6 := blk_free hf 6; have cm_7 := blk_cell hf 7 rfl; have fm_7 := blk_free hf 7; have cm_8 := blk_cell hf 8 rfl; have fm_8 := blk_free hf 8; have cm_9 := blk_cell hf 9 rfl; have fm_9 := blk_free hf 9; have cm_10 := blk_cell hf 10 rfl; have fm_10 := blk_free hf 10; have lm := lt_of_block hf
  clear hqA hO9 hown hBf hK hTy hf j0 j1 j2
  refine bodyPost_ret (v := .tuple #[.agg #[.int .i64 s.again, .int .i64 s.st, .int .i64 now, .int .i64 s.seq, .bool s.some, .int .i64 s.prog, .int .i64 s.cmd, .slice D dl dc, .int .i64 s.sent, .slice A s.n ac, .slice (some ⟨g5, 0, none⟩) s.n c5], .slice (some ⟨wA.heap.size, 0, none⟩) 1 1, .int .i64 0]) (by simp [results, Try.results32, go_sem, cm_0, cm_1, cm_2, cm_3, cm_4, cm_5, cm_6, cm_7, cm_8, cm_9, cm_10, hzw]) rfl ⟨_, D, dc, A, ac, some ⟨g5, 0, none⟩, c5, by rw [HDL.out]; rfl, ?_, ⟨[⟨⟨7, 0, f, q, Frm.num4 now ++ Frm.num4 now⟩, A8, c8⟩], rfl, ?_, fun y hy => ?_⟩, ?_, fun g hg => .inl hg⟩
  · first | exact hqF.out | exact hqF.out.drew
  · first | exact HOWN.out | exact HOWN.out.drew
  · rw [List.mem_singleton.1 hy]
    first | exact HO9.out.alloc _ | exact (HO9.out.alloc _).drew
  · first | exact HBF.out.alloc HBF.out.size _ | exact (HBF.out.alloc HBF.out.size _).drew
end Go.Proofs.Ytiidkmnagfhgiaa

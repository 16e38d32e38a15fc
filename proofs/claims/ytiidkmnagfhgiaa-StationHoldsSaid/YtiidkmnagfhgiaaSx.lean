/- act: a call of a station with both: the commands and Tick. -/
import Derived.Test.YtiidkmnagfhgiaaSw
namespace Go.Proofs.Ytiidkmnagfhgiaa
open Go.RowKit
set_option maxHeartbeats 16000000
set_option maxRecDepth 100000
set_option linter.unusedSimpArgs false
set_option linter.unusedVariables false
attribute [local go_sem ↓] Go.wp_at_zero Go.wp_at_succ
def actS (s : Stn.St) (a : LAct) : Stn.St := if 1 ≤ a.kind ∧ a.kind ≤ 6 then Stn.give s a.kind a.now a.n else if a.kind = 8 then Stn.recv s a.now a.f else Stn.tick s a.now
def actF (s : Stn.St) (a : LAct) : List Fr := if 1 ≤ a.kind ∧ a.kind ≤ 6 then Stn.giveF s a.kind a.now a.n else if a.kind = 8 then Stn.recvF s a.now a.f else Stn.tickF s a.now
/-- behind act -/
def ActPost (base b : Nat) (MA RA : Option Addr) (rc : Nat) (D : Option Addr) (s' : Stn.St) (fr : List Fr) (w : World) (e : Ending) (w' : World) : Prop :=
  ∃ v MA' mc' D' dc A ac S sc w1, e = .returned (.tuple #[.agg (rsl s' D' dc A ac S sc).toArray, v, .bool true]) ∧ IsSt w' base b MA' mc' RA rc s' ∧ IsR w' D' dc A ac S sc s' ∧ Keeps (Three b MA RA) w w' ∧
    Rof w1 w.heap.size v fr ∧ Rof w' w.heap.size v fr ∧ Keeps (fun i => i = w.heap.size + 2) w1 w' ∧ w.heap.size ≤ w1.heap.size ∧ (blkOf MA' = blkOf MA ∨ ∃ g, blkOf MA' = some g ∧ w.heap.size ≤ g) ∧ (∀ g, blkOf D' = some g → blkOf D = some g ∨ w1.heap.size ≤ g) ∧ Ty w1 (w.heap.size + 2) 29
theorem data_len (s : Stn.St) : (Stn.data s).length ≤ 4 := by
  unfold Stn.data
  split
  · simp [Frm.num4]
  · split <;> simp [Frm.num4]
theorem frames_len (s : Stn.St) (hs : Stn.Inv s) : (Stn.frames s).length ≤ 64 := by
  unfold Stn.frames
  rw [List.length_map]
  exact (miss_bd s hs).1
theorem tickF_len (s : Stn.St) (now : Int) (hs : Stn.Inv s) : (Stn.tickF s now).length ≤ 64 := by
  unfold Stn.tickF
  split
  · exact frames_len _ (Stn.inv_tick hs)
  · simp
theorem giveF_len (s : Stn.St) (k now x : Int) (hs : Stn.Inv s) (hk : 1 ≤ k ∧ k ≤ 6) : (Stn.giveF s k now x).length ≤ 64 := by
  unfold Stn.giveF
  split
  · rename_i h0
    have h1 := Stn.inv_give (now := now) (x := x) hs hk
    unfold Stn.give at h1
    rw [if_pos h0] at h1
    exact frames_len _ h1
  · simp
theorem recvF_len (s : Stn.St) (now : Int) (y : Fr) : (Stn.recvF s now y).length ≤ 64 := by
  unfold Stn.recvF
  split <;> simp
theorem give_x (s : Stn.St) (k now x : Int) (h1 : k ≠ 1) (h3 : k ≠ 3) : Stn.giveE s k now x = Stn.giveE s k now 0 ∧ Stn.give s k now x = Stn.give s k now 0 ∧ Stn.giveF s k now x = Stn.giveF s k now 0 := by
  have e1 : Stn.giveE s k now x = Stn.giveE s k now 0 := by unfold Stn.giveE; simp only [h1, h3, false_and, if_false]
  have e2 : Stn.give0 s k now x = Stn.give0 s k now 0 := by unfold Stn.give0; simp only [h1, h3, if_false]
  refine ⟨e1, ?_, ?_⟩
  · unfold Stn.give; rw [e1, e2]
  · unfold Stn.giveF; rw [e1, e2]
theorem data_by (s : Stn.St) (hs : Stn.Inv s) : By (Stn.data s) := by
  have h1 := hs.prog
  have h2 := hs.at_
  unfold Stn.data
  split
  · exact Frm.num4_by (Frm.okN_iff.2 (by omega))
  · split
    · exact Frm.num4_by (Frm.okN_iff.2 (by omega))
    · intro x hx; cases hx

theorem act_tick (base b mc rc : Nat) (MA RA : Option Addr) (s : Stn.St) (hs : Stn.Inv s) (D : Option Addr) (dl dc : Nat) (A : Option Addr) (ac : Nat) (S : Option Addr) (sc : Nat) (kind : Int) (now x fk ff ft fs : Int) (FD : Option Addr) (fn fc : Nat) (w : World) (hbase : base ≤ w.heap.size) (hdl : dl = (Stn.data s).length) (h : IsSt w base b MA mc RA rc s) (hr : IsR w D dc A ac S sc s) (hk : kind < 1 ∨ kind = 7 ∨ 8 < kind) :
    Calls Try.prog 11 #[.pointer (some ⟨b, 0, none⟩), .agg #[.int .i64 s.again, .int .i64 s.st, .int .i64 s.now, .int .i64 s.seq, .bool s.some, .int .i64 s.prog, .int .i64 s.cmd, .slice D dl dc, .int .i64 s.sent, .slice A s.n ac, .slice S s.n sc], .agg #[.int .i64 kind, .int .i64 now, .int .i64 x, .int .i64 fk, .int .i64 ff, .int .i64 ft, .int .i64 fs, .slice FD fn fc]] w (ActPost base b MA RA rc D (Stn.tick s now) (Stn.tickF s now) w) := by
  have ST := Lib.hid (fun (W : World) (hW : IsSt W base b MA mc RA rc s) (hb : base ≤ W.heap.size) => tick_any hW hs now hb)
  have RG := Lib.hid (fun (W : World) (hW : IsR W D dc A ac S sc s) => rtick_any s hs D dl dc A ac S sc now W hdl (by have := data_len s; omega) (data_by s hs) hW)
  have H := Lib.hid h
  have HR := Lib.hid hr
  have hfl := Lib.hid (show ((Stn.tickF s now)).length ≤ 64 from tickF_len s now hs)
  have h3 := Lib.hid (fun i hi => (h.three_lt (i := i) hi).2)
  have hb := h.lt
  obtain ⟨s', hs'⟩ : ∃ s', s' = (Stn.tick s now) := ⟨_, rfl⟩
  obtain ⟨fr, hfr⟩ : ∃ fr, fr = (Stn.tickF s now) := ⟨_, rfl⟩
  obtain ⟨er, her⟩ : ∃ er, er = Stn.timeE s now := ⟨_, rfl⟩
  rw [← hs', ← hfr, ← her] at ST RG
  rw [← hfr] at hfl
  rw [← hs', ← hfr]
  have z1 : (kind == 1) = false := by rw [beq_eq_false_iff_ne]; omega
  have z2 : (kind == 2) = false := by rw [beq_eq_false_iff_ne]; omega
  have z3 : (kind == 3) = false := by rw [beq_eq_false_iff_ne]; omega
  have z4 : (kind == 4) = false := by rw [beq_eq_false_iff_ne]; omega
  have z5 : (kind == 5) = false := by rw [beq_eq_false_iff_ne]; omega
  have z6 : (kind == 6) = false := by rw [beq_eq_false_iff_ne]; omega
  have z8 : (kind == 8) = false := by rw [beq_eq_false_iff_ne]; omega
  clear hk
  clear h hr hs hdl hs' hfr her
  go_enter Try.func11, Try.ntmps11
  go_wp2_with fail
  generalize hV : World.alloc _ _ = V
  have k0 : V.heap[w.heap.size]? = some (.cells #[.int .i64 s.again, .int .i64 s.st, .int .i64 s.now, .int .i64 s.seq, .bool s.some, .int .i64 s.prog, .int .i64 s.cmd, .slice D dl dc, .int .i64 s.sent, .slice A s.n ac, .slice S s.n sc] 29 (0, 0)) := by rw [← hV]; exact blk_alloc (blk_alloc (heap_new _ _) _) _
  have k1 : V.heap[w.heap.size + 1]? = some (.cells #[.int .i64 kind, .int .i64 now, .int .i64 x, .int .i64 fk, .int .i64 ff, .int .i64 ft, .int .i64 fs, .slice FD fn fc] 42 (0, 0)) := by rw [← hV]; exact blk_alloc (heap_new' _ _ _ (by simp)) _
  have k2 : V.heap[w.heap.size + 2]? = some (.cells #[.int .i64 0, .int .i64 0, .int .i64 0, .int .i64 0, .bool false, .int .i64 0, .int .i64 0, .slice none 0 0, .int .i64 0, .slice none 0 0, .slice none 0 0] 29 (0, 0)) := by rw [← hV]; exact heap_new' _ _ _ (by simp)
  have HB := Lib.hid (show Below w.heap.size w V from by rw [← hV]; exact (by repeat (first | (with_reducible exact Below.refl _ _) | (with_reducible refine Below.drew ?_) | (with_reducible refine below_drewN ?_ _) | ((with_reducible refine Below.alloc ?_ ?_ _); rotate_left; (first | omega | (simp <;> omega)); rotate_right) | ((with_reducible refine Below.setCell ?_ ?_ _); rotate_left; (first | omega | (simp <;> omega)); rotate_right) | (with_reducible assumption) | (refine Below.trans ?_ (Below.mono (by assumption) ?_); rotate_left; (first | omega | (simp <;> omega)); rotate_right))))
  clear hV
  refine (ST.out _ (H.out.below HB.out (Nat.le_refl _)) (Nat.le_trans hbase HB.out.size)).mono ?_
  rintro e w1 ⟨v, MA1, mc1, rfl, hS1, hK1, hR1, hM1⟩
  have hn3 : ∀ j, w.heap.size ≤ j → ¬ Three b MA RA j := fun j hj hh => by have := h3.out j hh; omega
  have j0 := blk_keep k0 hK1 (hn3 _ (by omega))
  have j1 := blk_keep k1 hK1 (hn3 _ (by omega))
  have j2 := blk_keep k2 hK1 (hn3 _ (by omega))
  have HS1 := Lib.hid hS1
  have HK1 := Lib.hid ((Keeps.of_below (S := Three b MA RA) HB.out).trans hK1 (fun _ _ h => h))
  have HR1 := Lib.hid (hR1.more HB.out.size)
  have HM1 := Lib.hid hM1
  have hzV := HB.out.size
  have hz1 : V.heap.size ≤ w1.heap.size := hK1.size
  have HRR := Lib.hid (show IsR w1 D dc A ac S sc s from by
    have hq := HR.out.below HB.out (Nat.le_refl _)
    have hSV := H.out.below HB.out (Nat.le_refl _)
    exact hq.kept hK1 (fun g hg => hSV.away (hq.dr.ty hg) (by decide) (by decide) (by decide)) (fun g hg => hSV.away (hq.ar.ty hg) (by decide) (by decide) (by decide)) (fun g hg => hSV.away (hq.sr.ty hg) (by decide) (by decide) (by decide)))
  clear k0 k1 k2 hS1 hK1 hR1 hM1
  have ca_0 := blk_cell j0 0 rfl; have fa_0 := blk_free j0 0; have ca_1 := blk_cell j0 1 rfl; have fa_1 := blk_free j0 1; have ca_2 := blk_cell j0 2 rfl; have fa_2 := blk_free j0 2; have ca_3 := blk_cell j0 3 rfl; have fa_3 := blk_free j0 3; have ca_4 := blk_cell j0 4 rfl; have fa_4 := blk_free j0 4; have ca_5 := blk_cell j0 5 rfl; have fa_5 := blk_free j0 5; have ca_6 := blk_cell j0 6 rfl; have fa_6 := blk_free j0 6; have ca_7 := blk_cell j0 7 rfl; have fa_7 := blk_free j0 7; have ca_8 := blk_cell j0 8 rfl; have fa_8 := blk_free j0 8; have ca_9 := blk_cell j0 9 rfl; have fa_9 := blk_free j0 9; have ca_10 := blk_cell j0 10 rfl; have fa_10 := blk_free j0 10; have la := lt_of_block j0
  have cb_0 := blk_cell j1 0 rfl; have fb_0 := blk_free j1 0; have cb_1 := blk_cell j1 1 rfl; have fb_1 := blk_free j1 1; have cb_2 := blk_cell j1 2 rfl; have fb_2 := blk_free j1 2; have cb_3 := blk_cell j1 3 rfl; have fb_3 := blk_free j1 3; have cb_4 := blk_cell j1 4 rfl; have fb_4 := blk_free j1 4; have cb_5 := blk_cell j1 5 rfl; have fb_5 := blk_free j1 5; have cb_6 := blk_cell j1 6 rfl; have fb_6 := blk_free j1 6; have cb_7 := blk_cell j1 7 rfl; have fb_7 := blk_free j1 7; have lb := lt_of_block j1
  have cc_0 := blk_cell j2 0 rfl; have fc_0 := blk_free j2 0; have cc_1 := blk_cell j2 1 rfl; have fc_1 := blk_free j2 1; have cc_2 := blk_cell j2 2 rfl; have fc_2 := blk_free j2 2; have cc_3 := blk_cell j2 3 rfl; have fc_3 := blk_free j2 3; have cc_4 := blk_cell j2 4 rfl; have fc_4 := blk_free j2 4; have cc_5 := blk_cell j2 5 rfl; have fc_5 := blk_free j2 5; have cc_6 := blk_cell j2 6 rfl; have fc_6 := blk_free j2 6; have cc_7 := blk_cell j2 7 rfl; have fc_7 := blk_free j2 7; have cc_8 := blk_cell j2 8 rfl; have fc_8 := blk_free j2 8; have cc_9 := blk_cell j2 9 rfl; have fc_9 := blk_free j2 9; have cc_10 := blk_cell j2 10 rfl; have fc_10 := blk_free j2 10; have lc := lt_of_block j2
  go_wp2_with fail
  refine (RG.out _ HRR.out).mono ?_
  rintro e w2 ⟨v2, D2, dc2, A2, ac2, S2, sc2, rfl, hI2, hR2, hB2, hD2⟩
  have l2 := blk_below (q := w.heap.size + 2) j2 hB2 (lt_of_block j2)
  have HI2 := Lib.hid hI2
  have HB2 := Lib.hid hB2
  have HR2 := Lib.hid hR2
  have HD2 := Lib.hid hD2
  have HR12 := Lib.hid (HR1.out.below hB2 (Nat.le_refl _))
  have hz2 : w1.heap.size ≤ w2.heap.size := hB2.size
  obtain ⟨A8, c8, hv8⟩ := HR12.out.form
  obtain ⟨A9, c9, hv9⟩ := HR2.out.form
  subst hv8; subst hv9
  obtain ⟨dl2, hdl2⟩ : ∃ dl2, dl2 = (Stn.data s').length := ⟨_, rfl⟩
  have HDL2 := Lib.hid hdl2
  obtain ⟨nf, hnf⟩ : ∃ nf, nf = fr.length := ⟨_, rfl⟩
  have HNF := Lib.hid hnf
  simp only [rsl, ← hdl2, ← hnf]
  clear ca_0 fa_0 ca_1 fa_1 ca_2 fa_2 ca_3 fa_3 ca_4 fa_4 ca_5 fa_5 ca_6 fa_6 ca_7 fa_7 ca_8 fa_8 ca_9 fa_9 ca_10 fa_10
  clear cb_0 fb_0 cb_1 fb_1 cb_2 fb_2 cb_3 fb_3 cb_4 fb_4 cb_5 fb_5 cb_6 fb_6 cb_7 fb_7
  clear cc_0 fc_0 cc_1 fc_1 cc_2 fc_2 cc_3 fc_3 cc_4 fc_4 cc_5 fc_5 cc_6 fc_6 cc_7 fc_7 cc_8 fc_8 cc_9 fc_9 cc_10 fc_10
  have SM := Lib.hid (fun (W : World) (hW : Below w2.heap.size w2 W) => samef_any A8 A9 fr.length fr.length c8 c9 fr fr W (by have := hfl.out; omega) (by have := hfl.out; omega) (HR12.out.below hW (Nat.le_refl _)).rf (HR2.out.below hW (Nat.le_refl _)).rf)
  rw [frsEq_iff.2 rfl] at SM
  simp only [← hnf] at SM
  clear la lb lc j0 j1 hI2 hB2 hR2 hD2 hdl2 hnf
  go_wp2_with fail
  generalize hV : World.alloc _ _ = V4
  have q0 : V4.heap[w2.heap.size]? = some (.cells #[.int .i64 s'.again, .int .i64 s'.st, .int .i64 s'.now, .int .i64 s'.seq, .bool s'.some, .int .i64 s'.prog, .int .i64 s'.cmd, .slice D2 dl2 dc2, .int .i64 s'.sent, .slice A2 s'.n ac2, .slice S2 s'.n sc2] 29 (0, 0)) := by rw [← hV]; exact heap_new' _ _ _ rfl
  have q2 : V4.heap[w.heap.size + 2]? = some (.cells #[.int .i64 0, .int .i64 0, .int .i64 0, .int .i64 0, .bool false, .int .i64 0, .int .i64 0, .slice none 0 0, .int .i64 0, .slice none 0 0, .slice none 0 0] 29 (0, 0)) := by rw [← hV]; exact blk_alloc l2 _
  have HV4 := Lib.hid (show Below w2.heap.size w2 V4 from by rw [← hV]; exact (by repeat (first | (with_reducible exact Below.refl _ _) | (with_reducible refine Below.drew ?_) | (with_reducible refine below_drewN ?_ _) | ((with_reducible refine Below.alloc ?_ ?_ _); rotate_left; (first | omega | (simp <;> omega)); rotate_right) | ((with_reducible refine Below.setCell ?_ ?_ _); rotate_left; (first | omega | (simp <;> omega)); rotate_right) | (with_reducible assumption) | (refine Below.trans ?_ (Below.mono (by assumption) ?_); rotate_left; (first | omega | (simp <;> omega)); rotate_right))))
  have hz4 : V4.heap.size = w2.heap.size + 1 := by rw [← hV]; exact Array.size_push _
  clear hV l2
  have hsz2 : w.heap.size + 2 < w2.heap.size := by have := lt_of_block j2; omega
  have n1 : ¬ (w.heap.size + 1 + 1 = w2.heap.size) := by omega
  have n2 : ¬ (w2.heap.size = w.heap.size + 1 + 1) := by omega
  have n3 : ¬ (w.heap.size + 2 = w2.heap.size) := by omega
  have n4 : ¬ (w2.heap.size = w.heap.size + 2) := by omega
  have ca_0 := blk_cell q0 0 rfl; have fa_0 := blk_free q0 0; have ca_1 := blk_cell q0 1 rfl; have fa_1 := blk_free q0 1; have ca_2 := blk_cell q0 2 rfl; have fa_2 := blk_free q0 2; have ca_3 := blk_cell q0 3 rfl; have fa_3 := blk_free q0 3; have ca_4 := blk_cell q0 4 rfl; have fa_4 := blk_free q0 4; have ca_5 := blk_cell q0 5 rfl; have fa_5 := blk_free q0 5; have ca_6 := blk_cell q0 6 rfl; have fa_6 := blk_free q0 6; have ca_7 := blk_cell q0 7 rfl; have fa_7 := blk_free q0 7; have ca_8 := blk_cell q0 8 rfl; have fa_8 := blk_free q0 8; have ca_9 := blk_cell q0 9 rfl; have fa_9 := blk_free q0 9; have ca_10 := blk_cell q0 10 rfl; have fa_10 := blk_free q0 10; have la := lt_of_block q0
  have cb_0 := blk_cell q2 0 rfl; have fb_0 := blk_free q2 0; have cb_1 := blk_cell q2 1 rfl; have fb_1 := blk_free q2 1; have cb_2 := blk_cell q2 2 rfl; have fb_2 := blk_free q2 2; have cb_3 := blk_cell q2 3 rfl; have fb_3 := blk_free q2 3; have cb_4 := blk_cell q2 4 rfl; have fb_4 := blk_free q2 4; have cb_5 := blk_cell q2 5 rfl; have fb_5 := blk_free q2 5; have cb_6 := blk_cell q2 6 rfl; have fb_6 := blk_free q2 6; have cb_7 := blk_cell q2 7 rfl; have fb_7 := blk_free q2 7; have cb_8 := blk_cell q2 8 rfl; have fb_8 := blk_free q2 8; have cb_9 := blk_cell q2 9 rfl; have fb_9 := blk_free q2 9; have cb_10 := blk_cell q2 10 rfl; have fb_10 := blk_free q2 10; have lb := lt_of_block q2
  go_region_held3 (fun w' => w'.cell? ⟨w2.heap.size, 0, none⟩ = some (.int .i64 s'.again) ∧ w'.cell? ⟨w2.heap.size, 1, none⟩ = some (.int .i64 s'.st) ∧ w'.cell? ⟨w2.heap.size, 2, none⟩ = some (.int .i64 s'.now) ∧ w'.cell? ⟨w2.heap.size, 3, none⟩ = some (.int .i64 s'.seq) ∧ w'.cell? ⟨w2.heap.size, 4, none⟩ = some (.bool s'.some) ∧ w'.cell? ⟨w2.heap.size, 5, none⟩ = some (.int .i64 s'.prog) ∧ w'.cell? ⟨w2.heap.size, 6, none⟩ = some (.int .i64 s'.cmd) ∧ w'.cell? ⟨w2.heap.size, 7, none⟩ = some (.slice D2 dl2 dc2) ∧ w'.cell? ⟨w2.heap.size, 8, none⟩ = some (.int .i64 s'.sent) ∧ w'.cell? ⟨w2.heap.size, 9, none⟩ = some (.slice A2 s'.n ac2) ∧ w'.cell? ⟨w2.heap.size, 10, none⟩ = some (.slice S2 s'.n sc2)) (first | (refine ⟨?_, ?_, ?_, ?_, ?_, ?_, ?_, ?_, ?_, ?_, ?_⟩ <;> simp [go_sem, *]; done) | go_keep) (first | (go_at_call 33; refine (SM.out _ (by first | exact HV4.out | exact HV4.out.drew)).mono ?_; rintro e w5 ⟨rfl, hb5⟩; have p0 := blk_below (q := w2.heap.size) (by repeat (first | (with_reducible assumption) | ((with_reducible apply blk_far); rotate_left; (first | omega | (simp <;> omega)); rotate_right) | (with_reducible apply blk_drew) | (with_reducible apply blk_drewN) | (with_reducible exact heap_new _ _) | ((with_reducible apply heap_new'); (first | rfl | (simp <;> fail))) | (with_reducible apply blk_alloc))) hb5 (by first | omega | (simp; done) | (simp; omega)); have p2 := blk_below (q := w.heap.size + 2) (by repeat (first | (with_reducible assumption) | ((with_reducible apply blk_far); rotate_left; (first | omega | (simp <;> omega)); rotate_right) | (with_reducible apply blk_drew) | (with_reducible apply blk_drewN) | (with_reducible exact heap_new _ _) | ((with_reducible apply heap_new'); (first | rfl | (simp <;> fail))) | (with_reducible apply blk_alloc))) hb5 (by first | omega | (simp; done) | (simp; omega)); have hv4 := HV4.out; have HB5 := Lib.hid (show Below w2.heap.size w2 w5 from (by repeat (first | (with_reducible exact Below.refl _ _) | (with_reducible refine Below.drew ?_) | (with_reducible refine below_drewN ?_ _) | ((with_reducible refine Below.alloc ?_ ?_ _); rotate_left; (first | omega | (simp <;> omega)); rotate_right) | ((with_reducible refine Below.setCell ?_ ?_ _); rotate_left; (first | omega | (simp <;> omega)); rotate_right) | (with_reducible assumption) | (refine Below.trans ?_ (Below.mono (by assumption) ?_); rotate_left; (first | omega | (simp <;> omega)); rotate_right)))); (have ce_0 := blk_cell p0 0 rfl; have fe_0 := blk_free p0 0; have ce_1 := blk_cell p0 1 rfl; have fe_1 := blk_free p0 1; have ce_2 := blk_cell p0 2 rfl; have fe_2 := blk_free p0 2; have ce_3 := blk_cell p0 3 rfl; have fe_3 := blk_free p0 3; have ce_4 := blk_cell p0 4 rfl; have fe_4 := blk_free p0 4; have ce_5 := blk_cell p0 5 rfl; have fe_5 := blk_free p0 5; have ce_6 := blk_cell p0 6 rfl; have fe_6 := blk_free p0 6; have ce_7 := blk_cell p0 7 rfl; have fe_7 := blk_free p0 7; have ce_8 := blk_cell p0 8 rfl; have fe_8 := blk_free p0 8; have ce_9 := blk_cell p0 9 rfl; have fe_9 := blk_free p0 9; have ce_10 := blk_cell p0 10 rfl; have fe_10 := blk_free p0 10; have le := lt_of_block p0); (have cg_0 := blk_cell p2 0 rfl; have fg_0 := blk_free p2 0; have cg_1 := blk_cell p2 1 rfl; have fg_1 := blk_free p2 1; have cg_2 := blk_cell p2 2 rfl; have fg_2 := blk_free p2 2; have cg_3 := blk_cell p2 3 rfl; have fg_3 := blk_free p2 3; have cg_4 := blk_cell p2 4 rfl; have fg_4 := blk_free p2 4; have cg_5 := blk_cell p2 5 rfl; have fg_5 := blk_free p2 5; have cg_6 := blk_cell p2 6 rfl; have fg_6 := blk_free p2 6; have cg_7 := blk_cell p2 7 rfl; have fg_7 := blk_free p2 7; have cg_8 := blk_cell p2 8 rfl; have fg_8 := blk_free p2 8; have cg_9 := blk_cell p2 9 rfl; have fg_9 := blk_free p2 9; have cg_10 := blk_cell p2 10 rfl; have fg_10 := blk_free p2 10; have lg := lt_of_block p2); clear hb5 hv4))
  go_wp2_with fail
  generalize hWf : World.setCell _ _ _ = Wf
  have hf : Wf.heap[w.heap.size + 2]? = some (.cells #[.int .i64 s'.again, .int .i64 s'.st, .int .i64 s'.now, .int .i64 s'.seq, .bool s'.some, .int .i64 s'.prog, .int .i64 s'.cmd, .slice D2 dl2 dc2, .int .i64 s'.sent, .slice A2 s'.n ac2, .slice S2 s'.n sc2] 29 (0, 0)) := by rw [← hWf]; exact (by apply Eq.trans; (repeat (first | (with_reducible assumption) | (with_reducible apply blk_set) | ((with_reducible apply blk_far); rotate_left; (first | omega | (simp <;> omega)); rotate_right) | (with_reducible apply blk_drew) | (with_reducible apply blk_drewN) | ((with_reducible apply heap_new'); (first | rfl | (simp <;> fail))) | (with_reducible apply blk_alloc))); (first | with_reducible rfl | (simp <;> fail) | rfl))
  have hK : Keeps (fun i => i = w.heap.size + 2) w5 Wf := by rw [← hWf]; (repeat (first | with_reducible exact Keeps.refl _ _ | (with_reducible refine Keeps.set1 ?_ _ _) | (with_reducible refine Keeps.drew ?_) | (with_reducible refine Keeps.drewN ?_ _) | (with_reducible refine Keeps.alloc ?_ _)))
  clear hWf
  clear ca_0 fa_0 ca_1 fa_1 ca_2 fa_2 ca_3 fa_3 ca_4 fa_4 ca_5 fa_5 ca_6 fa_6 ca_7 fa_7 ca_8 fa_8 ca_9 fa_9 ca_10 fa_10
  clear cb_0 fb_0 cb_1 fb_1 cb_2 fb_2 cb_3 fb_3 cb_4 fb_4 cb_5 fb_5 cb_6 fb_6 cb_7 fb_7 cb_8 fb_8 cb_9 fb_9 cb_10 fb_10
  clear ce_0 fe_0 ce_1 fe_1 ce_2 fe_2 ce_3 fe_3 ce_4 fe_4 ce_5 fe_5 ce_6 fe_6 ce_7 fe_7 ce_8 fe_8 ce_9 fe_9 ce_10 fe_10
  clear cg_0 fg_0 cg_1 fg_1 cg_2 fg_2 cg_3 fg_3 cg_4 fg_4 cg_5 fg_5 cg_6 fg_6 cg_7 fg_7 cg_8 fg_8 cg_9 fg_9 cg_10 fg_10
  clear la lb le lg
  have cm_0 := blk_cell hf 0 rfl; have fm_0 := blk_free hf 0; have cm_1 := blk_cell hf 1 rfl; have fm_1 := blk_free hf 1; have cm_2 := blk_cell hf 2 rfl; have fm_2 := blk_free hf 2; have cm_3 := blk_cell hf 3 rfl; have fm_3 := blk_free hf 3; have cm_4 := blk_cell hf 4 rfl; have fm_4 := blk_free hf 4; have cm_5 := blk_cell hf 5 rfl; have fm_5 := blk_free hf 5; have cm_6 := blk_cell hf 6 rfl; have fm_6 := blk_free hf 6; have cm_7 := blk_cell hf 7 rfl; have fm_7 := blk_free hf 7; have cm_8 := blk_cell hf 8 rfl; have fm_8 := blk_free hf 8; have cm_9 := blk_cell hf 9 rfl; have fm_9 := blk_free hf 9; have cm_10 := blk_cell hf 10 rfl; have fm_10 := blk_free hf 10; have lm := lt_of_block hf
  have hTy : ∀ i : Nat, i = w.heap.size + 2 → i < w5.heap.size → Ty w5 i 29 := fun i hi _ => by rw [hi]; exact ⟨_, p2⟩
  have hB15 : Below w1.heap.size w1 w5 := HB2.out.trans (HB5.out.mono hz2)
  have hK1f : Keeps (fun i => i = w.heap.size + 2) w1 Wf := (Keeps.of_below hB15).trans hK (fun _ _ h => h)
  refine bodyPost_ret (v := .tuple #[.agg #[.int .i64 s'.again, .int .i64 s'.st, .int .i64 s'.now, .int .i64 s'.seq, .bool s'.some, .int .i64 s'.prog, .int .i64 s'.cmd, .slice D2 dl2 dc2, .int .i64 s'.sent, .slice A2 s'.n ac2, .slice S2 s'.n sc2], .slice A8 nf c8, .bool true]) (by simp [results, Try.results11, go_sem, cm_0, cm_1, cm_2, cm_3, cm_4, cm_5, cm_6, cm_7, cm_8, cm_9, cm_10]) rfl ⟨.slice A8 nf c8, MA1, mc1, D2, dc2, A2, ac2, S2, sc2, w1, by rw [HDL2.out]; rfl, ?_, ?_, ?_, ?_, ?_, hK1f, ?_, ?_, ?_, ⟨_, j2⟩⟩
  · have hq := HS1.out.below hB15 (Nat.le_refl _)
    exact hq.kept hK (fun i hi e => hq.away ⟨_, p2⟩ (by decide) (by decide) (by decide) (e ▸ hi))
  · exact (HI2.out.below HB5.out (Nat.le_refl _)).keptT hK (fun i hi hl => ⟨_, hTy i hi hl, by decide, by decide, by decide⟩)
  · exact (HK1.out.trans (Keeps.of_below hB15) (fun _ _ h => h)).trans hK (fun i hi e => absurd hi (by omega))
  · rw [HNF.out]
    exact HR1.out
  · rw [HNF.out]
    exact (HR1.out.below hB15 (Nat.le_refl _)).keptT hK (fun i hi hl => ⟨_, hTy i hi hl, by decide, by decide⟩)
  · exact HK1.out.size
  · exact HM1.out.imp id (fun ⟨g, h1, h2⟩ => ⟨g, h1, by omega⟩)
  · exact HD2.out

theorem act_load (base b mc rc : Nat) (MA RA : Option Addr) (s : Stn.St) (hs : Stn.Inv s) (D : Option Addr) (dl dc : Nat) (A : Option Addr) (ac : Nat) (S : Option Addr) (sc : Nat) (kind : Int) (now x fk ff ft fs : Int) (FD : Option Addr) (fn fc : Nat) (w : World) (hbase : base ≤ w.heap.size) (hdl : dl = (Stn.data s).length) (h : IsSt w base b MA mc RA rc s) (hr : IsR w D dc A ac S sc s) (hk : kind = 1) :
    Calls Try.prog 11 #[.pointer (some ⟨b, 0, none⟩), .agg #[.int .i64 s.again, .int .i64 s.st, .int .i64 s.now, .int .i64 s.seq, .bool s.some, .int .i64 s.prog, .int .i64 s.cmd, .slice D dl dc, .int .i64 s.sent, .slice A s.n ac, .slice S s.n sc], .agg #[.int .i64 kind, .int .i64 now, .int .i64 x, .int .i64 fk, .int .i64 ff, .int .i64 ft, .int .i64 fs, .slice FD fn fc]] w (ActPost base b MA RA rc D (Stn.give s kind now x) (Stn.giveF s kind now x) w) := by
  have ST := Lib.hid (fun (W : World) (hW : IsSt W base b MA mc RA rc s) (hb : base ≤ W.heap.size) => show Calls Try.prog 21 #[.pointer (some ⟨b, 0, none⟩), .int .i64 now, .int .i64 x] W (StPost base b MA RA rc (Stn.give s kind now x) (Stn.giveF s kind now x) (Stn.giveE s kind now x) W) from by rw [hk]; exact sload_any hW hs now x hb)
  have RG := Lib.hid (fun (W : World) (hW : IsR W D dc A ac S sc s) => rgive_any s hs D dl dc A ac S sc kind now x (by omega) W hdl hW)
  have H := Lib.hid h
  have HR := Lib.hid hr
  have hfl := Lib.hid (show ((Stn.giveF s kind now x)).length ≤ 64 from giveF_len s kind now x hs (by omega))
  have h3 := Lib.hid (fun i hi => (h.three_lt (i := i) hi).2)
  have hb := h.lt
  obtain ⟨s', hs'⟩ : ∃ s', s' = (Stn.give s kind now x) := ⟨_, rfl⟩
  obtain ⟨fr, hfr⟩ : ∃ fr, fr = (Stn.giveF s kind now x) := ⟨_, rfl⟩
  obtain ⟨er, her⟩ : ∃ er, er = Stn.giveE s kind now x := ⟨_, rfl⟩
  rw [← hs', ← hfr, ← her] at ST RG
  rw [← hfr] at hfl
  rw [← hs', ← hfr]
  have z1 : (kind == 1) = true := by rw [hk]; rfl
  have z2 : (kind == 2) = false := by rw [hk]; rfl
  have z3 : (kind == 3) = false := by rw [hk]; rfl
  have z4 : (kind == 4) = false := by rw [hk]; rfl
  have z5 : (kind == 5) = false := by rw [hk]; rfl
  have z6 : (kind == 6) = false := by rw [hk]; rfl
  have z8 : (kind == 8) = false := by rw [hk]; rfl
  clear hk
  clear h hr hs hdl hs' hfr her
  go_enter Try.func11, Try.ntmps11
  go_wp2_with fail
  generalize hV : World.alloc _ _ = V
  have k0 : V.heap[w.heap.size]? = some (.cells #[.int .i64 s.again, .int .i64 s.st, .int .i64 s.now, .int .i64 s.seq, .bool s.some, .int .i64 s.prog, .int .i64 s.cmd, .slice D dl dc, .int .i64 s.sent, .slice A s.n ac, .slice S s.n sc] 29 (0, 0)) := by rw [← hV]; exact blk_alloc (blk_alloc (heap_new _ _) _) _
  have k1 : V.heap[w.heap.size + 1]? = some (.cells #[.int .i64 kind, .int .i64 now, .int .i64 x, .int .i64 fk, .int .i64 ff, .int .i64 ft, .int .i64 fs, .slice FD fn fc] 42 (0, 0)) := by rw [← hV]; exact blk_alloc (heap_new' _ _ _ (by simp)) _
  have k2 : V.heap[w.heap.size + 2]? = some (.cells #[.int .i64 0, .int .i64 0, .int .i64 0, .int .i64 0, .bool false, .int .i64 0, .int .i64 0, .slice none 0 0, .int .i64 0, .slice none 0 0, .slice none 0 0] 29 (0, 0)) := by rw [← hV]; exact heap_new' _ _ _ (by simp)
  have HB := Lib.hid (show Below w.heap.size w V from by rw [← hV]; exact (by repeat (first | (with_reducible exact Below.refl _ _) | (with_reducible refine Below.drew ?_) | (with_reducible refine below_drewN ?_ _) | ((with_reducible refine Below.alloc ?_ ?_ _); rotate_left; (first | omega | (simp <;> omega)); rotate_right) | ((with_reducible refine Below.setCell ?_ ?_ _); rotate_left; (first | omega | (simp <;> omega)); rotate_right) | (with_reducible assumption) | (refine Below.trans ?_ (Below.mono (by assumption) ?_); rotate_left; (first | omega | (simp <;> omega)); rotate_right))))
  clear hV
  refine (ST.out _ (H.out.below HB.out (Nat.le_refl _)) (Nat.le_trans hbase HB.out.size)).mono ?_
  rintro e w1 ⟨v, MA1, mc1, rfl, hS1, hK1, hR1, hM1⟩
  have hn3 : ∀ j, w.heap.size ≤ j → ¬ Three b MA RA j := fun j hj hh => by have := h3.out j hh; omega
  have j0 := blk_keep k0 hK1 (hn3 _ (by omega))
  have j1 := blk_keep k1 hK1 (hn3 _ (by omega))
  have j2 := blk_keep k2 hK1 (hn3 _ (by omega))
  have HS1 := Lib.hid hS1
  have HK1 := Lib.hid ((Keeps.of_below (S := Three b MA RA) HB.out).trans hK1 (fun _ _ h => h))
  have HR1 := Lib.hid (hR1.more HB.out.size)
  have HM1 := Lib.hid hM1
  have hzV := HB.out.size
  have hz1 : V.heap.size ≤ w1.heap.size := hK1.size
  have HRR := Lib.hid (show IsR w1 D dc A ac S sc s from by
    have hq := HR.out.below HB.out (Nat.le_refl _)
    have hSV := H.out.below HB.out (Nat.le_refl _)
    exact hq.kept hK1 (fun g hg => hSV.away (hq.dr.ty hg) (by decide) (by decide) (by decide)) (fun g hg => hSV.away (hq.ar.ty hg) (by decide) (by decide) (by decide)) (fun g hg => hSV.away (hq.sr.ty hg) (by decide) (by decide) (by decide)))
  clear k0 k1 k2 hS1 hK1 hR1 hM1
  have ca_0 := blk_cell j0 0 rfl; have fa_0 := blk_free j0 0; have ca_1 := blk_cell j0 1 rfl; have fa_1 := blk_free j0 1; have ca_2 := blk_cell j0 2 rfl; have fa_2 := blk_free j0 2; have ca_3 := blk_cell j0 3 rfl; have fa_3 := blk_free j0 3; have ca_4 := blk_cell j0 4 rfl; have fa_4 := blk_free j0 4; have ca_5 := blk_cell j0 5 rfl; have fa_5 := blk_free j0 5; have ca_6 := blk_cell j0 6 rfl; have fa_6 := blk_free j0 6; have ca_7 := blk_cell j0 7 rfl; have fa_7 := blk_free j0 7; have ca_8 := blk_cell j0 8 rfl; have fa_8 := blk_free j0 8; have ca_9 := blk_cell j0 9 rfl; have fa_9 := blk_free j0 9; have ca_10 := blk_cell j0 10 rfl; have fa_10 := blk_free j0 10; have la := lt_of_block j0
  have cb_0 := blk_cell j1 0 rfl; have fb_0 := blk_free j1 0; have cb_1 := blk_cell j1 1 rfl; have fb_1 := blk_free j1 1; have cb_2 := blk_cell j1 2 rfl; have fb_2 := blk_free j1 2; have cb_3 := blk_cell j1 3 rfl; have fb_3 := blk_free j1 3; have cb_4 := blk_cell j1 4 rfl; have fb_4 := blk_free j1 4; have cb_5 := blk_cell j1 5 rfl; have fb_5 := blk_free j1 5; have cb_6 := blk_cell j1 6 rfl; have fb_6 := blk_free j1 6; have cb_7 := blk_cell j1 7 rfl; have fb_7 := blk_free j1 7; have lb := lt_of_block j1
  have cc_0 := blk_cell j2 0 rfl; have fc_0 := blk_free j2 0; have cc_1 := blk_cell j2 1 rfl; have fc_1 := blk_free j2 1; have cc_2 := blk_cell j2 2 rfl; have fc_2 := blk_free j2 2; have cc_3 := blk_cell j2 3 rfl; have fc_3 := blk_free j2 3; have cc_4 := blk_cell j2 4 rfl; have fc_4 := blk_free j2 4; have cc_5 := blk_cell j2 5 rfl; have fc_5 := blk_free j2 5; have cc_6 := blk_cell j2 6 rfl; have fc_6 := blk_free j2 6; have cc_7 := blk_cell j2 7 rfl; have fc_7 := blk_free j2 7; have cc_8 := blk_cell j2 8 rfl; have fc_8 := blk_free j2 8; have cc_9 := blk_cell j2 9 rfl; have fc_9 := blk_free j2 9; have cc_10 := blk_cell j2 10 rfl; have fc_10 := blk_free j2 10; have lc := lt_of_block j2
  go_wp2_with fail
  refine (RG.out _ HRR.out).mono ?_
  rintro e w2 ⟨v2, D2, dc2, A2, ac2, S2, sc2, rfl, hI2, hR2, hB2, hD2⟩
  have l2 := blk_below (q := w.heap.size + 2) j2 hB2 (lt_of_block j2)
  have HI2 := Lib.hid hI2
  have HB2 := Lib.hid hB2
  have HR2 := Lib.hid hR2
  have HD2 := Lib.hid hD2
  have HR12 := Lib.hid (HR1.out.below hB2 (Nat.le_refl _))
  have hz2 : w1.heap.size ≤ w2.heap.size := hB2.size
  obtain ⟨A8, c8, hv8⟩ := HR12.out.form
  obtain ⟨A9, c9, hv9⟩ := HR2.out.form
  subst hv8; subst hv9
  obtain ⟨dl2, hdl2⟩ : ∃ dl2, dl2 = (Stn.data s').length := ⟨_, rfl⟩
  have HDL2 := Lib.hid hdl2
  obtain ⟨nf, hnf⟩ : ∃ nf, nf = fr.length := ⟨_, rfl⟩
  have HNF := Lib.hid hnf
  simp only [rsl, ← hdl2, ← hnf]
  clear ca_0 fa_0 ca_1 fa_1 ca_2 fa_2 ca_3 fa_3 ca_4 fa_4 ca_5 fa_5 ca_6 fa_6 ca_7 fa_7 ca_8 fa_8 ca_9 fa_9 ca_10 fa_10
  clear cb_0 fb_0 cb_1 fb_1 cb_2 fb_2 cb_3 fb_3 cb_4 fb_4 cb_5 fb_5 cb_6 fb_6 cb_7 fb_7
  clear cc_0 fc_0 cc_1 fc_1 cc_2 fc_2 cc_3 fc_3 cc_4 fc_4 cc_5 fc_5 cc_6 fc_6 cc_7 fc_7 cc_8 fc_8 cc_9 fc_9 cc_10 fc_10
  have SM := Lib.hid (fun (W : World) (hW : Below w2.heap.size w2 W) => samef_any A8 A9 fr.length fr.length c8 c9 fr fr W (by have := hfl.out; omega) (by have := hfl.out; omega) (HR12.out.below hW (Nat.le_refl _)).rf (HR2.out.below hW (Nat.le_refl _)).rf)
  rw [frsEq_iff.2 rfl] at SM
  simp only [← hnf] at SM
  clear la lb lc j0 j1 hI2 hB2 hR2 hD2 hdl2 hnf
  go_wp2_with fail
  generalize hV : World.alloc _ _ = V4
  have q0 : V4.heap[w2.heap.size]? = some (.cells #[.int .i64 s'.again, .int .i64 s'.st, .int .i64 s'.now, .int .i64 s'.seq, .bool s'.some, .int .i64 s'.prog, .int .i64 s'.cmd, .slice D2 dl2 dc2, .int .i64 s'.sent, .slice A2 s'.n ac2, .slice S2 s'.n sc2] 29 (0, 0)) := by rw [← hV]; exact heap_new' _ _ _ rfl
  have q2 : V4.heap[w.heap.size + 2]? = some (.cells #[.int .i64 0, .int .i64 0, .int .i64 0, .int .i64 0, .bool false, .int .i64 0, .int .i64 0, .slice none 0 0, .int .i64 0, .slice none 0 0, .slice none 0 0] 29 (0, 0)) := by rw [← hV]; exact blk_alloc l2 _
  have HV4 := Lib.hid (show Below w2.heap.size w2 V4 from by rw [← hV]; exact (by repeat (first | (with_reducible exact Below.refl _ _) | (with_reducible refine Below.drew ?_) | (with_reducible refine below_drewN ?_ _) | ((with_reducible refine Below.alloc ?_ ?_ _); rotate_left; (first | omega | (simp <;> omega)); rotate_right) | ((with_reducible refine Below.setCell ?_ ?_ _); rotate_left; (first | omega | (simp <;> omega)); rotate_right) | (with_reducible assumption) | (refine Below.trans ?_ (Below.mono (by assumption) ?_); rotate_left; (first | omega | (simp <;> omega)); rotate_right))))
  have hz4 : V4.heap.size = w2.heap.size + 1 := by rw [← hV]; exact Array.size_push _
  clear hV l2
  have hsz2 : w.heap.size + 2 < w2.heap.size := by have := lt_of_block j2; omega
  have n1 : ¬ (w.heap.size + 1 + 1 = w2.heap.size) := by omega
  have n2 : ¬ (w2.heap.size = w.heap.size + 1 + 1) := by omega
  have n3 : ¬ (w.heap.size + 2 = w2.heap.size) := by omega
  have n4 : ¬ (w2.heap.size = w.heap.size + 2) := by omega
  have ca_0 := blk_cell q0 0 rfl; have fa_0 := blk_free q0 0; have ca_1 := blk_cell q0 1 rfl; have fa_1 := blk_free q0 1; have ca_2 := blk_cell q0 2 rfl; have fa_2 := blk_free q0 2; have ca_3 := blk_cell q0 3 rfl; have fa_3 := blk_free q0 3; have ca_4 := blk_cell q0 4 rfl; have fa_4 := blk_free q0 4; have ca_5 := blk_cell q0 5 rfl; have fa_5 := blk_free q0 5; have ca_6 := blk_cell q0 6 rfl; have fa_6 := blk_free q0 6; have ca_7 := blk_cell q0 7 rfl; have fa_7 := blk_free q0 7; have ca_8 := blk_cell q0 8 rfl; have fa_8 := blk_free q0 8; have ca_9 := blk_cell q0 9 rfl; have fa_9 := blk_free q0 9; have ca_10 := blk_cell q0 10 rfl; have fa_10 := blk_free q0 10; have la := lt_of_block q0
  have cb_0 := blk_cell q2 0 rfl; have fb_0 := blk_free q2 0; have cb_1 := blk_cell q2 1 rfl; have fb_1 := blk_free q2 1; have cb_2 := blk_cell q2 2 rfl; have fb_2 := blk_free q2 2; have cb_3 := blk_cell q2 3 rfl; have fb_3 := blk_free q2 3; have cb_4 := blk_cell q2 4 rfl; have fb_4 := blk_free q2 4; have cb_5 := blk_cell q2 5 rfl; have fb_5 := blk_free q2 5; have cb_6 := blk_cell q2 6 rfl; have fb_6 := blk_free q2 6; have cb_7 := blk_cell q2 7 rfl; have fb_7 := blk_free q2 7; have cb_8 := blk_cell q2 8 rfl; have fb_8 := blk_free q2 8; have cb_9 := blk_cell q2 9 rfl; have fb_9 := blk_free q2 9; have cb_10 := blk_cell q2 10 rfl; have fb_10 := blk_free q2 10; have lb := lt_of_block q2
  go_region_held3 (fun w' => w'.cell? ⟨w2.heap.size, 0, none⟩ = some (.int .i64 s'.again) ∧ w'.cell? ⟨w2.heap.size, 1, none⟩ = some (.int .i64 s'.st) ∧ w'.cell? ⟨w2.heap.size, 2, none⟩ = some (.int .i64 s'.now) ∧ w'.cell? ⟨w2.heap.size, 3, none⟩ = some (.int .i64 s'.seq) ∧ w'.cell? ⟨w2.heap.size, 4, none⟩ = some (.bool s'.some) ∧ w'.cell? ⟨w2.heap.size, 5, none⟩ = some (.int .i64 s'.prog) ∧ w'.cell? ⟨w2.heap.size, 6, none⟩ = some (.int .i64 s'.cmd) ∧ w'.cell? ⟨w2.heap.size, 7, none⟩ = some (.slice D2 dl2 dc2) ∧ w'.cell? ⟨w2.heap.size, 8, none⟩ = some (.int .i64 s'.sent) ∧ w'.cell? ⟨w2.heap.size, 9, none⟩ = some (.slice A2 s'.n ac2) ∧ w'.cell? ⟨w2.heap.size, 10, none⟩ = some (.slice S2 s'.n sc2)) (first | (refine ⟨?_, ?_, ?_, ?_, ?_, ?_, ?_, ?_, ?_, ?_, ?_⟩ <;> simp [go_sem, *]; done) | go_keep) (first | (go_at_call 33; refine (SM.out _ (by first | exact HV4.out | exact HV4.out.drew)).mono ?_; rintro e w5 ⟨rfl, hb5⟩; have p0 := blk_below (q := w2.heap.size) (by repeat (first | (with_reducible assumption) | ((with_reducible apply blk_far); rotate_left; (first | omega | (simp <;> omega)); rotate_right) | (with_reducible apply blk_drew) | (with_reducible apply blk_drewN) | (with_reducible exact heap_new _ _) | ((with_reducible apply heap_new'); (first | rfl | (simp <;> fail))) | (with_reducible apply blk_alloc))) hb5 (by first | omega | (simp; done) | (simp; omega)); have p2 := blk_below (q := w.heap.size + 2) (by repeat (first | (with_reducible assumption) | ((with_reducible apply blk_far); rotate_left; (first | omega | (simp <;> omega)); rotate_right) | (with_reducible apply blk_drew) | (with_reducible apply blk_drewN) | (with_reducible exact heap_new _ _) | ((with_reducible apply heap_new'); (first | rfl | (simp <;> fail))) | (with_reducible apply blk_alloc))) hb5 (by first | omega | (simp; done) | (simp; omega)); have hv4 := HV4.out; have HB5 := Lib.hid (show Below w2.heap.size w2 w5 from (by repeat (first | (with_reducible exact Below.refl _ _) | (with_reducible refine Below.drew ?_) | (with_reducible refine below_drewN ?_ _) | ((with_reducible refine Below.alloc ?_ ?_ _); rotate_left; (first | omega | (simp <;> omega)); rotate_right) | ((with_reducible refine Below.setCell ?_ ?_ _); rotate_left; (first | omega | (simp <;> omega)); rotate_right) | (with_reducible assumption) | (refine Below.trans ?_ (Below.mono (by assumption) ?_); rotate_left; (first | omega | (simp <;> omega)); rotate_right)))); (have ce_0 := blk_cell p0 0 rfl; have fe_0 := blk_free p0 0; have ce_1 := blk_cell p0 1 rfl; have fe_1 := blk_free p0 1; have ce_2 := blk_cell p0 2 rfl; have fe_2 := blk_free p0 2; have ce_3 := blk_cell p0 3 rfl; have fe_3 := blk_free p0 3; have ce_4 := blk_cell p0 4 rfl; have fe_4 := blk_free p0 4; have ce_5 := blk_cell p0 5 rfl; have fe_5 := blk_free p0 5; have ce_6 := blk_cell p0 6 rfl; have fe_6 := blk_free p0 6; have ce_7 := blk_cell p0 7 rfl; have fe_7 := blk_free p0 7; have ce_8 := blk_cell p0 8 rfl; have fe_8 := blk_free p0 8; have ce_9 := blk_cell p0 9 rfl; have fe_9 := blk_free p0 9; have ce_10 := blk_cell p0 10 rfl; have fe_10 := blk_free p0 10; have le := lt_of_block p0); (have cg_0 := blk_cell p2 0 rfl; have fg_0 := blk_free p2 0; have cg_1 := blk_cell p2 1 rfl; have fg_1 := blk_free p2 1; have cg_2 := blk_cell p2 2 rfl; have fg_2 := blk_free p2 2; have cg_3 := blk_cell p2 3 rfl; have fg_3 := blk_free p2 3; have cg_4 := blk_cell p2 4 rfl; have fg_4 := blk_free p2 4; have cg_5 := blk_cell p2 5 rfl; have fg_5 := blk_free p2 5; have cg_6 := blk_cell p2 6 rfl; have fg_6 := blk_free p2 6; have cg_7 := blk_cell p2 7 rfl; have fg_7 := blk_free p2 7; have cg_8 := blk_cell p2 8 rfl; have fg_8 := blk_free p2 8; have cg_9 := blk_cell p2 9 rfl; have fg_9 := blk_free p2 9; have cg_10 := blk_cell p2 10 rfl; have fg_10 := blk_free p2 10; have lg := lt_of_block p2); clear hb5 hv4))
  go_wp2_with fail
  generalize hWf : World.setCell _ _ _ = Wf
  have hf : Wf.heap[w.heap.size + 2]? = some (.cells #[.int .i64 s'.again, .int .i64 s'.st, .int .i64 s'.now, .int .i64 s'.seq, .bool s'.some, .int .i64 s'.prog, .int .i64 s'.cmd, .slice D2 dl2 dc2, .int .i64 s'.sent, .slice A2 s'.n ac2, .slice S2 s'.n sc2] 29 (0, 0)) := by rw [← hWf]; exact (by apply Eq.trans; (repeat (first | (with_reducible assumption) | (with_reducible apply blk_set) | ((with_reducible apply blk_far); rotate_left; (first | omega | (simp <;> omega)); rotate_right) | (with_reducible apply blk_drew) | (with_reducible apply blk_drewN) | ((with_reducible apply heap_new'); (first | rfl | (simp <;> fail))) | (with_reducible apply blk_alloc))); (first | with_reducible rfl | (simp <;> fail) | rfl))
  have hK : Keeps (fun i => i = w.heap.size + 2) w5 Wf := by rw [← hWf]; (repeat (first | with_reducible exact Keeps.refl _ _ | (with_reducible refine Keeps.set1 ?_ _ _) | (with_reducible refine Keeps.drew ?_) | (with_reducible refine Keeps.drewN ?_ _) | (with_reducible refine Keeps.alloc ?_ _)))
  clear hWf
  clear ca_0 fa_0 ca_1 fa_1 ca_2 fa_2 ca_3 fa_3 ca_4 fa_4 ca_5 fa_5 ca_6 fa_6 ca_7 fa_7 ca_8 fa_8 ca_9 fa_9 ca_10 fa_10
  clear cb_0 fb_0 cb_1 fb_1 cb_2 fb_2 cb_3 fb_3 cb_4 fb_4 cb_5 fb_5 cb_6 fb_6 cb_7 fb_7 cb_8 fb_8 cb_9 fb_9 cb_10 fb_10
  clear ce_0 fe_0 ce_1 fe_1 ce_2 fe_2 ce_3 fe_3 ce_4 fe_4 ce_5 fe_5 ce_6 fe_6 ce_7 fe_7 ce_8 fe_8 ce_9 fe_9 ce_10 fe_10
  clear cg_0 fg_0 cg_1 fg_1 cg_2 fg_2 cg_3 fg_3 cg_4 fg_4 cg_5 fg_5 cg_6 fg_6 cg_7 fg_7 cg_8 fg_8 cg_9 fg_9 cg_10 fg_10
  clear la lb le lg
  have cm_0 := blk_cell hf 0 rfl; have fm_0 := blk_free hf 0; have cm_1 := blk_cell hf 1 rfl; have fm_1 := blk_free hf 1; have cm_2 := blk_cell hf 2 rfl; have fm_2 := blk_free hf 2; have cm_3 := blk_cell hf 3 rfl; have fm_3 := blk_free hf 3; have cm_4 := blk_cell hf 4 rfl; have fm_4 := blk_free hf 4; have cm_5 := blk_cell hf 5 rfl; have fm_5 := blk_free hf 5; have cm_6 := blk_cell hf 6 rfl; have fm_6 := blk_free hf 6; have cm_7 := blk_cell hf 7 rfl; have fm_7 := blk_free hf 7; have cm_8 := blk_cell hf 8 rfl; have fm_8 := blk_free hf 8; have cm_9 := blk_cell hf 9 rfl; have fm_9 := blk_free hf 9; have cm_10 := blk_cell hf 10 rfl; have fm_10 := blk_free hf 10; have lm := lt_of_block hf
  have hTy : ∀ i : Nat, i = w.heap.size + 2 → i < w5.heap.size → Ty w5 i 29 := fun i hi _ => by rw [hi]; exact ⟨_, p2⟩
  have hB15 : Below w1.heap.size w1 w5 := HB2.out.trans (HB5.out.mono hz2)
  have hK1f : Keeps (fun i => i = w.heap.size + 2) w1 Wf := (Keeps.of_below hB15).trans hK (fun _ _ h => h)
  refine bodyPost_ret (v := .tuple #[.agg #[.int .i64 s'.again, .int .i64 s'.st, .int .i64 s'.now, .int .i64 s'.seq, .bool s'.some, .int .i64 s'.prog, .int .i64 s'.cmd, .slice D2 dl2 dc2, .int .i64 s'.sent, .slice A2 s'.n ac2, .slice S2 s'.n sc2], .slice A8 nf c8, .bool true]) (by simp [results, Try.results11, go_sem, cm_0, cm_1, cm_2, cm_3, cm_4, cm_5, cm_6, cm_7, cm_8, cm_9, cm_10]) rfl ⟨.slice A8 nf c8, MA1, mc1, D2, dc2, A2, ac2, S2, sc2, w1, by rw [HDL2.out]; rfl, ?_, ?_, ?_, ?_, ?_, hK1f, ?_, ?_, ?_, ⟨_, j2⟩⟩
  · have hq := HS1.out.below hB15 (Nat.le_refl _)
    exact hq.kept hK (fun i hi e => hq.away ⟨_, p2⟩ (by decide) (by decide) (by decide) (e ▸ hi))
  · exact (HI2.out.below HB5.out (Nat.le_refl _)).keptT hK (fun i hi hl => ⟨_, hTy i hi hl, by decide, by decide, by decide⟩)
  · exact (HK1.out.trans (Keeps.of_below hB15) (fun _ _ h => h)).trans hK (fun i hi e => absurd hi (by omega))
  · rw [HNF.out]
    exact HR1.out
  · rw [HNF.out]
    exact (HR1.out.below hB15 (Nat.le_refl _)).keptT hK (fun i hi hl => ⟨_, hTy i hi hl, by decide, by decide⟩)
  · exact HK1.out.size
  · exact HM1.out.imp id (fun ⟨g, h1, h2⟩ => ⟨g, h1, by omega⟩)
  · exact HD2.out

theorem act_arm (base b mc rc : Nat) (MA RA : Option Addr) (s : Stn.St) (hs : Stn.Inv s) (D : Option Addr) (dl dc : Nat) (A : Option Addr) (ac : Nat) (S : Option Addr) (sc : Nat) (kind : Int) (now x fk ff ft fs : Int) (FD : Option Addr) (fn fc : Nat) (w : World) (hbase : base ≤ w.heap.size) (hdl : dl = (Stn.data s).length) (h : IsSt w base b MA mc RA rc s) (hr : IsR w D dc A ac S sc s) (hk : kind = 2) :
    Calls Try.prog 11 #[.pointer (some ⟨b, 0, none⟩), .agg #[.int .i64 s.again, .int .i64 s.st, .int .i64 s.now, .int .i64 s.seq, .bool s.some, .int .i64 s.prog, .int .i64 s.cmd, .slice D dl dc, .int .i64 s.sent, .slice A s.n ac, .slice S s.n sc], .agg #[.int .i64 kind, .int .i64 now, .int .i64 x, .int .i64 fk, .int .i64 ff, .int .i64 ft, .int .i64 fs, .slice FD fn fc]] w (ActPost base b MA RA rc D (Stn.give s kind now x) (Stn.giveF s kind now x) w) := by
  have ST := Lib.hid (fun (W : World) (hW : IsSt W base b MA mc RA rc s) (hb : base ≤ W.heap.size) => show Calls Try.prog 20 #[.pointer (some ⟨b, 0, none⟩), .int .i64 now] W (StPost base b MA RA rc (Stn.give s kind now x) (Stn.giveF s kind now x) (Stn.giveE s kind now x) W) from by rw [hk, (give_x s 2 now x (by decide) (by decide)).1, (give_x s 2 now x (by decide) (by decide)).2.1, (give_x s 2 now x (by decide) (by decide)).2.2]; exact sarm_any hW hs now hb)
  have RG := Lib.hid (fun (W : World) (hW : IsR W D dc A ac S sc s) => rgive_any s hs D dl dc A ac S sc kind now x (by omega) W hdl hW)
  have H := Lib.hid h
  have HR := Lib.hid hr
  have hfl := Lib.hid (show ((Stn.giveF s kind now x)).length ≤ 64 from giveF_len s kind now x hs (by omega))
  have h3 := Lib.hid (fun i hi => (h.three_lt (i := i) hi).2)
  have hb := h.lt
  obtain ⟨s', hs'⟩ : ∃ s', s' = (Stn.give s kind now x) := ⟨_, rfl⟩
  obtain ⟨fr, hfr⟩ : ∃ fr, fr = (Stn.giveF s kind now x) := ⟨_, rfl⟩
  obtain ⟨er, her⟩ : ∃ er, er = Stn.giveE s kind now x := ⟨_, rfl⟩
  rw [← hs', ← hfr, ← her] at ST RG
  rw [← hfr] at hfl
  rw [← hs', ← hfr]
  have z1 : (kind == 1) = false := by rw [hk]; rfl
  have z2 : (kind == 2) = true := by rw [hk]; rfl
  have z3 : (kind == 3) = false := by rw [hk]; rfl
  have z4 : (kind == 4) = false := by rw [hk]; rfl
  have z5 : (kind == 5) = false := by rw [hk]; rfl
  have z6 : (kind == 6) = false := by rw [hk]; rfl
  have z8 : (kind == 8) = false := by rw [hk]; rfl
  clear hk
  clear h hr hs hdl hs' hfr her
  go_enter Try.func11, Try.ntmps11
  go_wp2_with fail
  generalize hV : World.alloc _ _ = V
  have k0 : V.heap[w.heap.size]? = some (.cells #[.int .i64 s.again, .int .i64 s.st, .int .i64 s.now, .int .i64 s.seq, .bool s.some, .int .i64 s.prog, .int .i64 s.cmd, .slice D dl dc, .int .i64 s.sent, .slice A s.n ac, .slice S s.n sc] 29 (0, 0)) := by rw [← hV]; exact blk_alloc (blk_alloc (heap_new _ _) _) _
  have k1 : V.heap[w.heap.size + 1]? = some (.cells #[.int .i64 kind, .int .i64 now, .int .i64 x, .int .i64 fk, .int .i64 ff, .int .i64 ft, .int .i64 fs, .slice FD fn fc] 42 (0, 0)) := by rw [← hV]; exact blk_alloc (heap_new' _ _ _ (by simp)) _
  have k2 : V.heap[w.heap.size + 2]? = some (.cells #[.int .i64 0, .int .i64 0, .int .i64 0, .int .i64 0, .bool false, .int .i64 0, .int .i64 0, .slice none 0 0, .int .i64 0, .slice none 0 0, .slice none 0 0] 29 (0, 0)) := by rw [← hV]; exact heap_new' _ _ _ (by simp)
  have HB := Lib.hid (show Below w.heap.size w V from by rw [← hV]; exact (by repeat (first | (with_reducible exact Below.refl _ _) | (with_reducible refine Below.drew ?_) | (with_reducible refine below_drewN ?_ _) | ((with_reducible refine Below.alloc ?_ ?_ _); rotate_left; (first | omega | (simp <;> omega)); rotate_right) | ((with_reducible refine Below.setCell ?_ ?_ _); rotate_left; (first | omega | (simp <;> omega)); rotate_right) | (with_reducible assumption) | (refine Below.trans ?_ (Below.mono (by assumption) ?_); rotate_left; (first | omega | (simp <;> omega)); rotate_right))))
  clear hV
  refine (ST.out _ (H.out.below HB.out (Nat.le_refl _)) (Nat.le_trans hbase HB.out.size)).mono ?_
  rintro e w1 ⟨v, MA1, mc1, rfl, hS1, hK1, hR1, hM1⟩
  have hn3 : ∀ j, w.heap.size ≤ j → ¬ Three b MA RA j := fun j hj hh => by have := h3.out j hh; omega
  have j0 := blk_keep k0 hK1 (hn3 _ (by omega))
  have j1 := blk_keep k1 hK1 (hn3 _ (by omega))
  have j2 := blk_keep k2 hK1 (hn3 _ (by omega))
  have HS1 := Lib.hid hS1
  have HK1 := Lib.hid ((Keeps.of_below (S := Three b MA RA) HB.out).trans hK1 (fun _ _ h => h))
  have HR1 := Lib.hid (hR1.more HB.out.size)
  have HM1 := Lib.hid hM1
  have hzV := HB.out.size
  have hz1 : V.heap.size ≤ w1.heap.size := hK1.size
  have HRR := Lib.hid (show IsR w1 D dc A ac S sc s from by
    have hq := HR.out.below HB.out (Nat.le_refl _)
    have hSV := H.out.below HB.out (Nat.le_refl _)
    exact hq.kept hK1 (fun g hg => hSV.away (hq.dr.ty hg) (by decide) (by decide) (by decide)) (fun g hg => hSV.away (hq.ar.ty hg) (by decide) (by decide) (by decide)) (fun g hg => hSV.away (hq.sr.ty hg) (by decide) (by decide) (by decide)))
  clear k0 k1 k2 hS1 hK1 hR1 hM1
  have ca_0 := blk_cell j0 0 rfl; have fa_0 := blk_free j0 0; have ca_1 := blk_cell j0 1 rfl; have fa_1 := blk_free j0 1; have ca_2 := blk_cell j0 2 rfl; have fa_2 := blk_free j0 2; have ca_3 := blk_cell j0 3 rfl; have fa_3 := blk_free j0 3; have ca_4 := blk_cell j0 4 rfl; have fa_4 := blk_free j0 4; have ca_5 := blk_cell j0 5 rfl; have fa_5 := blk_free j0 5; have ca_6 := blk_cell j0 6 rfl; have fa_6 := blk_free j0 6; have ca_7 := blk_cell j0 7 rfl; have fa_7 := blk_free j0 7; have ca_8 := blk_cell j0 8 rfl; have fa_8 := blk_free j0 8; have ca_9 := blk_cell j0 9 rfl; have fa_9 := blk_free j0 9; have ca_10 := blk_cell j0 10 rfl; have fa_10 := blk_free j0 10; have la := lt_of_block j0
  have cb_0 := blk_cell j1 0 rfl; have fb_0 := blk_free j1 0; have cb_1 := blk_cell j1 1 rfl; have fb_1 := blk_free j1 1; have cb_2 := blk_cell j1 2 rfl; have fb_2 := blk_free j1 2; have cb_3 := blk_cell j1 3 rfl; have fb_3 := blk_free j1 3; have cb_4 := blk_cell j1 4 rfl; have fb_4 := blk_free j1 4; have cb_5 := blk_cell j1 5 rfl; have fb_5 := blk_free j1 5; have cb_6 := blk_cell j1 6 rfl; have fb_6 := blk_free j1 6; have cb_7 := blk_cell j1 7 rfl; have fb_7 := blk_free j1 7; have lb := lt_of_block j1
  have cc_0 := blk_cell j2 0 rfl; have fc_0 := blk_free j2 0; have cc_1 := blk_cell j2 1 rfl; have fc_1 := blk_free j2 1; have cc_2 := blk_cell j2 2 rfl; have fc_2 := blk_free j2 2; have cc_3 := blk_cell j2 3 rfl; have fc_3 := blk_free j2 3; have cc_4 := blk_cell j2 4 rfl; have fc_4 := blk_free j2 4; have cc_5 := blk_cell j2 5 rfl; have fc_5 := blk_free j2 5; have cc_6 := blk_cell j2 6 rfl; have fc_6 := blk_free j2 6; have cc_7 := blk_cell j2 7 rfl; have fc_7 := blk_free j2 7; have cc_8 := blk_cell j2 8 rfl; have fc_8 := blk_free j2 8; have cc_9 := blk_cell j2 9 rfl; have fc_9 := blk_free j2 9; have cc_10 := blk_cell j2 10 rfl; have fc_10 := blk_free j2 10; have lc := lt_of_block j2
  go_wp2_with fail
  refine (RG.out _ HRR.out).mono ?_
  rintro e w2 ⟨v2, D2, dc2, A2, ac2, S2, sc2, rfl, hI2, hR2, hB2, hD2⟩
  have l2 := blk_below (q := w.heap.size + 2) j2 hB2 (lt_of_block j2)
  have HI2 := Lib.hid hI2
  have HB2 := Lib.hid hB2
  have HR2 := Lib.hid hR2
  have HD2 := Lib.hid hD2
  have HR12 := Lib.hid (HR1.out.below hB2 (Nat.le_refl _))
  have hz2 : w1.heap.size ≤ w2.heap.size := hB2.size
  obtain ⟨A8, c8, hv8⟩ := HR12.out.form
  obtain ⟨A9, c9, hv9⟩ := HR2.out.form
  subst hv8; subst hv9
  obtain ⟨dl2, hdl2⟩ : ∃ dl2, dl2 = (Stn.data s').length := ⟨_, rfl⟩
  have HDL2 := Lib.hid hdl2
  obtain ⟨nf, hnf⟩ : ∃ nf, nf = fr.length := ⟨_, rfl⟩
  have HNF := Lib.hid hnf
  simp only [rsl, ← hdl2, ← hnf]
  clear ca_0 fa_0 ca_1 fa_1 ca_2 fa_2 ca_3 fa_3 ca_4 fa_4 ca_5 fa_5 ca_6 fa_6 ca_7 fa_7 ca_8 fa_8 ca_9 fa_9 ca_10 fa_10
  clear cb_0 fb_0 cb_1 fb_1 cb_2 fb_2 cb_3 fb_3 cb_4 fb_4 cb_5 fb_5 cb_6 fb_6 cb_7 fb_7
  clear cc_0 fc_0 cc_1 fc_1 cc_2 fc_2 cc_3 fc_3 cc_4 fc_4 cc_5 fc_5 cc_6 fc_6 cc_7 fc_7 cc_8 fc_8 cc_9 fc_9 cc_10 fc_10
  have SM := Lib.hid (fun (W : World) (hW : Below w2.heap.size w2 W) => samef_any A8 A9 fr.length fr.length c8 c9 fr fr W (by have := hfl.out; omega) (by have := hfl.out; omega) (HR12.out.below hW (Nat.le_refl _)).rf (HR2.out.below hW (Nat.le_refl _)).rf)
  rw [frsEq_iff.2 rfl] at SM
  simp only [← hnf] at SM
  clear la lb lc j0 j1 hI2 hB2 hR2 hD2 hdl2 hnf
  go_wp2_with fail
  generalize hV : World.alloc _ _ = V4
  have q0 : V4.heap[w2.heap.size]? = some (.cells #[.int .i64 s'.again, .int .i64 s'.st, .int .i64 s'.now, .int .i64 s'.seq, .bool s'.some, .int .i64 s'.prog, .int .i64 s'.cmd, .slice D2 dl2 dc2, .int .i64 s'.sent, .slice A2 s'.n ac2, .slice S2 s'.n sc2] 29 (0, 0)) := by rw [← hV]; exact heap_new' _ _ _ rfl
  have q2 : V4.heap[w.heap.size + 2]? = some (.cells #[.int .i64 0, .int .i64 0, .int .i64 0, .int .i64 0, .bool false, .int .i64 0, .int .i64 0, .slice none 0 0, .int .i64 0, .slice none 0 0, .slice none 0 0] 29 (0, 0)) := by rw [← hV]; exact blk_alloc l2 _
  have HV4 := Lib.hid (show Below w2.heap.size w2 V4 from by rw [← hV]; exact (by repeat (first | (with_reducible exact Below.refl _ _) | (with_reducible refine Below.drew ?_) | (with_reducible refine below_drewN ?_ _) | ((with_reducible refine Below.alloc ?_ ?_ _); rotate_left; (first | omega | (simp <;> omega)); rotate_right) | ((with_reducible refine Below.setCell ?_ ?_ _); rotate_left; (first | omega | (simp <;> omega)); rotate_right) | (with_reducible assumption) | (refine Below.trans ?_ (Below.mono (by assumption) ?_); rotate_left; (first | omega | (simp <;> omega)); rotate_right))))
  have hz4 : V4.heap.size = w2.heap.size + 1 := by rw [← hV]; exact Array.size_push _
  clear hV l2
  have hsz2 : w.heap.size + 2 < w2.heap.size := by have := lt_of_block j2; omega
  have n1 : ¬ (w.heap.size + 1 + 1 = w2.heap.size) := by omega
  have n2 : ¬ (w2.heap.size = w.heap.size + 1 + 1) := by omega
  have n3 : ¬ (w.heap.size + 2 = w2.heap.size) := by omega
  have n4 : ¬ (w2.heap.size = w.heap.size + 2) := by omega
  have ca_0 := blk_cell q0 0 rfl; have fa_0 := blk_free q0 0; have ca_1 := blk_cell q0 1 rfl; have fa_1 := blk_free q0 1; have ca_2 := blk_cell q0 2 rfl; have fa_2 := blk_free q0 2; have ca_3 := blk_cell q0 3 rfl; have fa_3 := blk_free q0 3; have ca_4 := blk_cell q0 4 rfl; have fa_4 := blk_free q0 4; have ca_5 := blk_cell q0 5 rfl; have fa_5 := blk_free q0 5; have ca_6 := blk_cell q0 6 rfl; have fa_6 := blk_free q0 6; have ca_7 := blk_cell q0 7 rfl; have fa_7 := blk_free q0 7; have ca_8 := blk_cell q0 8 rfl; have fa_8 := blk_free q0 8; have ca_9 := blk_cell q0 9 rfl; have fa_9 := blk_free q0 9; have ca_10 := blk_cell q0 10 rfl; have fa_10 := blk_free q0 10; have la := lt_of_block q0
  have cb_0 := blk_cell q2 0 rfl; have fb_0 := blk_free q2 0; have cb_1 := blk_cell q2 1 rfl; have fb_1 := blk_free q2 1; have cb_2 := blk_cell q2 2 rfl; have fb_2 := blk_free q2 2; have cb_3 := blk_cell q2 3 rfl; have fb_3 := blk_free q2 3; have cb_4 := blk_cell q2 4 rfl; have fb_4 := blk_free q2 4; have cb_5 := blk_cell q2 5 rfl; have fb_5 := blk_free q2 5; have cb_6 := blk_cell q2 6 rfl; have fb_6 := blk_free q2 6; have cb_7 := blk_cell q2 7 rfl; have fb_7 := blk_free q2 7; have cb_8 := blk_cell q2 8 rfl; have fb_8 := blk_free q2 8; have cb_9 := blk_cell q2 9 rfl; have fb_9 := blk_free q2 9; have cb_10 := blk_cell q2 10 rfl; have fb_10 := blk_free q2 10; have lb := lt_of_block q2
  go_region_held3 (fun w' => w'.cell? ⟨w2.heap.size, 0, none⟩ = some (.int .i64 s'.again) ∧ w'.cell? ⟨w2.heap.size, 1, none⟩ = some (.int .i64 s'.st) ∧ w'.cell? ⟨w2.heap.size, 2, none⟩ = some (.int .i64 s'.now) ∧ w'.cell? ⟨w2.heap.size, 3, none⟩ = some (.int .i64 s'.seq) ∧ w'.cell? ⟨w2.heap.size, 4, none⟩ = some (.bool s'.some) ∧ w'.cell? ⟨w2.heap.size, 5, none⟩ = some (.int .i64 s'.prog) ∧ w'.cell? ⟨w2.heap.size, 6, none⟩ = some (.int .i64 s'.cmd) ∧ w'.cell? ⟨w2.heap.size, 7, none⟩ = some (.slice D2 dl2 dc2) ∧ w'.cell? ⟨w2.heap.size, 8, none⟩ = some (.int .i64 s'.sent) ∧ w'.cell? ⟨w2.heap.size, 9, none⟩ = some (.slice A2 s'.n ac2) ∧ w'.cell? ⟨w2.heap.size, 10, none⟩ = some (.slice S2 s'.n sc2)) (first | (refine ⟨?_, ?_, ?_, ?_, ?_, ?_, ?_, ?_, ?_, ?_, ?_⟩ <;> simp [go_sem, *]; done) | go_keep) (first | (go_at_call 33; refine (SM.out _ (by first | exact HV4.out | exact HV4.out.drew)).mono ?_; rintro e w5 ⟨rfl, hb5⟩; have p0 := blk_below (q := w2.heap.size) (by repeat (first | (with_reducible assumption) | ((with_reducible apply blk_far); rotate_left; (first | omega | (simp <;> omega)); rotate_right) | (with_reducible apply blk_drew) | (with_reducible apply blk_drewN) | (with_reducible exact heap_new _ _) | ((with_reducible apply heap_new'); (first | rfl | (simp <;> fail))) | (with_reducible apply blk_alloc))) hb5 (by first | omega | (simp; done) | (simp; omega)); have p2 := blk_below (q := w.heap.size + 2) (by repeat (first | (with_reducible assumption) | ((with_reducible apply blk_far); rotate_left; (first | omega | (simp <;> omega)); rotate_right) | (with_reducible apply blk_drew) | (with_reducible apply blk_drewN) | (with_reducible exact heap_new _ _) | ((with_reducible apply heap_new'); (first | rfl | (simp <;> fail))) | (with_reducible apply blk_alloc))) hb5 (by first | omega | (simp; done) | (simp; omega)); have hv4 := HV4.out; have HB5 := Lib.hid (show Below w2.heap.size w2 w5 from (by repeat (first | (with_reducible exact Below.refl _ _) | (with_reducible refine Below.drew ?_) | (with_reducible refine below_drewN ?_ _) | ((with_reducible refine Below.alloc ?_ ?_ _); rotate_left; (first | omega | (simp <;> omega)); rotate_right) | ((with_reducible refine Below.setCell ?_ ?_ _); rotate_left; (first | omega | (simp <;> omega)); rotate_right) | (with_reducible assumption) | (refine Below.trans ?_ (Below.mono (by assumption) ?_); rotate_left; (first | omega | (simp <;> omega)); rotate_right)))); (have ce_0 := blk_cell p0 0 rfl; have fe_0 := blk_free p0 0; have ce_1 := blk_cell p0 1 rfl; have fe_1 := blk_free p0 1; have ce_2 := blk_cell p0 2 rfl; have fe_2 := blk_free p0 2; have ce_3 := blk_cell p0 3 rfl; have fe_3 := blk_free p0 3; have ce_4 := blk_cell p0 4 rfl; have fe_4 := blk_free p0 4; have ce_5 := blk_cell p0 5 rfl; have fe_5 := blk_free p0 5; have ce_6 := blk_cell p0 6 rfl; have fe_6 := blk_free p0 6; have ce_7 := blk_cell p0 7 rfl; have fe_7 := blk_free p0 7; have ce_8 := blk_cell p0 8 rfl; have fe_8 := blk_free p0 8; have ce_9 := blk_cell p0 9 rfl; have fe_9 := blk_free p0 9; have ce_10 := blk_cell p0 10 rfl; have fe_10 := blk_free p0 10; have le := lt_of_block p0); (have cg_0 := blk_cell p2 0 rfl; have fg_0 := blk_free p2 0; have cg_1 := blk_cell p2 1 rfl; have fg_1 := blk_free p2 1; have cg_2 := blk_cell p2 2 rfl; have fg_2 := blk_free p2 2; have cg_3 := blk_cell p2 3 rfl; have fg_3 := blk_free p2 3; have cg_4 := blk_cell p2 4 rfl; have fg_4 := blk_free p2 4; have cg_5 := blk_cell p2 5 rfl; have fg_5 := blk_free p2 5; have cg_6 := blk_cell p2 6 rfl; have fg_6 := blk_free p2 6; have cg_7 := blk_cell p2 7 rfl; have fg_7 := blk_free p2 7; have cg_8 := blk_cell p2 8 rfl; have fg_8 := blk_free p2 8; have cg_9 := blk_cell p2 9 rfl; have fg_9 := blk_free p2 9; have cg_10 := blk_cell p2 10 rfl; have fg_10 := blk_free p2 10; have lg := lt_of_block p2); clear hb5 hv4))
  go_wp2_with fail
  generalize hWf : World.setCell _ _ _ = Wf
  have hf : Wf.heap[w.heap.size + 2]? = some (.cells #[.int .i64 s'.again, .int .i64 s'.st, .int .i64 s'.now, .int .i64 s'.seq, .bool s'.some, .int .i64 s'.prog, .int .i64 s'.cmd, .slice D2 dl2 dc2, .int .i64 s'.sent, .slice A2 s'.n ac2, .slice S2 s'.n sc2] 29 (0, 0)) := by rw [← hWf]; exact (by apply Eq.trans; (repeat (first | (with_reducible assumption) | (with_reducible apply blk_set) | ((with_reducible apply blk_far); rotate_left; (first | omega | (simp <;> omega)); rotate_right) | (with_reducible apply blk_drew) | (with_reducible apply blk_drewN) | ((with_reducible apply heap_new'); (first | rfl | (simp <;> fail))) | (with_reducible apply blk_alloc))); (first | with_reducible rfl | (simp <;> fail) | rfl))
  have hK : Keeps (fun i => i = w.heap.size + 2) w5 Wf := by rw [← hWf]; (repeat (first | with_reducible exact Keeps.refl _ _ | (with_reducible refine Keeps.set1 ?_ _ _) | (with_reducible refine Keeps.drew ?_) | (with_reducible refine Keeps.drewN ?_ _) | (with_reducible refine Keeps.alloc ?_ _)))
  clear hWf
  clear ca_0 fa_0 ca_1 fa_1 ca_2 fa_2 ca_3 fa_3 ca_4 fa_4 ca_5 fa_5 ca_6 fa_6 ca_7 fa_7 ca_8 fa_8 ca_9 fa_9 ca_10 fa_10
  clear cb_0 fb_0 cb_1 fb_1 cb_2 fb_2 cb_3 fb_3 cb_4 fb_4 cb_5 fb_5 cb_6 fb_6 cb_7 fb_7 cb_8 fb_8 cb_9 fb_9 cb_10 fb_10
  clear ce_0 fe_0 ce_1 fe_1 ce_2 fe_2 ce_3 fe_3 ce_4 fe_4 ce_5 fe_5 ce_6 fe_6 ce_7 fe_7 ce_8 fe_8 ce_9 fe_9 ce_10 fe_10
  clear cg_0 fg_0 cg_1 fg_1 cg_2 fg_2 cg_3 fg_3 cg_4 fg_4 cg_5 fg_5 cg_6 fg_6 cg_7 fg_7 cg_8 fg_8 cg_9 fg_9 cg_10 fg_10
  clear la lb le lg
  have cm_0 := blk_cell hf 0 rfl; have fm_0 := blk_free hf 0; have cm_1 := blk_cell hf 1 rfl; have fm_1 := blk_free hf 1; have cm_2 := blk_cell hf 2 rfl; have fm_2 := blk_free hf 2; have cm_3 := blk_cell hf 3 rfl; have fm_3 := blk_free hf 3; have cm_4 := blk_cell hf 4 rfl; have fm_4 := blk_free hf 4; have cm_5 := blk_cell hf 5 rfl; have fm_5 := blk_free hf 5; have cm_6 := blk_cell hf 6 rfl; have fm_6 := blk_free hf 6; have cm_7 := blk_cell hf 7 rfl; have fm_7 := blk_free hf 7; have cm_8 := blk_cell hf 8 rfl; have fm_8 := blk_free hf 8; have cm_9 := blk_cell hf 9 rfl; have fm_9 := blk_free hf 9; have cm_10 := blk_cell hf 10 rfl; have fm_10 := blk_free hf 10; have lm := lt_of_block hf
  have hTy : ∀ i : Nat, i = w.heap.size + 2 → i < w5.heap.size → Ty w5 i 29 := fun i hi _ => by rw [hi]; exact ⟨_, p2⟩
  have hB15 : Below w1.heap.size w1 w5 := HB2.out.trans (HB5.out.mono hz2)
  have hK1f : Keeps (fun i => i = w.heap.size + 2) w1 Wf := (Keeps.of_below hB15).trans hK (fun _ _ h => h)
  refine bodyPost_ret (v := .tuple #[.agg #[.int .i64 s'.again, .int .i64 s'.st, .int .i64 s'.now, .int .i64 s'.seq, .bool s'.some, .int .i64 s'.prog, .int .i64 s'.cmd, .slice D2 dl2 dc2, .int .i64 s'.sent, .slice A2 s'.n ac2, .slice S2 s'.n sc2], .slice A8 nf c8, .bool true]) (by simp [results, Try.results11, go_sem, cm_0, cm_1, cm_2, cm_3, cm_4, cm_5, cm_6, cm_7, cm_8, cm_9, cm_10]) rfl ⟨.slice A8 nf c8, MA1, mc1, D2, dc2, A2, ac2, S2, sc2, w1, by rw [HDL2.out]; rfl, ?_, ?_, ?_, ?_, ?_, hK1f, ?_, ?_, ?_, ⟨_, j2⟩⟩
  · have hq := HS1.out.below hB15 (Nat.le_refl _)
    exact hq.kept hK (fun i hi e => hq.away ⟨_, p2⟩ (by decide) (by decide) (by decide) (e ▸ hi))
  · exact (HI2.out.below HB5.out (Nat.le_refl _)).keptT hK (fun i hi hl => ⟨_, hTy i hi hl, by decide, by decide, by decide⟩)
  · exact (HK1.out.trans (Keeps.of_below hB15) (fun _ _ h => h)).trans hK (fun i hi e => absurd hi (by omega))
  · rw [HNF.out]
    exact HR1.out
  · rw [HNF.out]
    exact (HR1.out.below hB15 (Nat.le_refl _)).keptT hK (fun i hi hl => ⟨_, hTy i hi hl, by decide, by decide⟩)
  · exact HK1.out.size
  · exact HM1.out.imp id (fun ⟨g, h1, h2⟩ => ⟨g, h1, by omega⟩)
  · exact HD2.out

theorem act_start (base b mc rc : Nat) (MA RA : Option Addr) (s : Stn.St) (hs : Stn.Inv s) (D : Option Addr) (dl dc : Nat) (A : Option Addr) (ac : Nat) (S : Option Addr) (sc : Nat) (kind : Int) (now x fk ff ft fs : Int) (FD : Option Addr) (fn fc : Nat) (w : World) (hbase : base ≤ w.heap.size) (hdl : dl = (Stn.data s).length) (h : IsSt w base b MA mc RA rc s) (hr : IsR w D dc A ac S sc s) (hk : kind = 3) :
    Calls Try.prog 11 #[.pointer (some ⟨b, 0, none⟩), .agg #[.int .i64 s.again, .int .i64 s.st, .int .i64 s.now, .int .i64 s.seq, .bool s.some, .int .i64 s.prog, .int .i64 s.cmd, .slice D dl dc, .int .i64 s.sent, .slice A s.n ac, .slice S s.n sc], .agg #[.int .i64 kind, .int .i64 now, .int .i64 x, .int .i64 fk, .int .i64 ff, .int .i64 ft, .int .i64 fs, .slice FD fn fc]] w (ActPost base b MA RA rc D (Stn.give s kind now x) (Stn.giveF s kind now x) w) := by
  have ST := Lib.hid (fun (W : World) (hW : IsSt W base b MA mc RA rc s) (hb : base ≤ W.heap.size) => show Calls Try.prog 28 #[.pointer (some ⟨b, 0, none⟩), .int .i64 now, .int .i64 x] W (StPost base b MA RA rc (Stn.give s kind now x) (Stn.giveF s kind now x) (Stn.giveE s kind now x) W) from by rw [hk]; exact sstart_any hW hs now x hb)
  have RG := Lib.hid (fun (W : World) (hW : IsR W D dc A ac S sc s) => rgive_any s hs D dl dc A ac S sc kind now x (by omega) W hdl hW)
  have H := Lib.hid h
  have HR := Lib.hid hr
  have hfl := Lib.hid (show ((Stn.giveF s kind now x)).length ≤ 64 from giveF_len s kind now x hs (by omega))
  have h3 := Lib.hid (fun i hi => (h.three_lt (i := i) hi).2)
  have hb := h.lt
  obtain ⟨s', hs'⟩ : ∃ s', s' = (Stn.give s kind now x) := ⟨_, rfl⟩
  obtain ⟨fr, hfr⟩ : ∃ fr, fr = (Stn.giveF s kind now x) := ⟨_, rfl⟩
  obtain ⟨er, her⟩ : ∃ er, er = Stn.giveE s kind now x := ⟨_, rfl⟩
  rw [← hs', ← hfr, ← her] at ST RG
  rw [← hfr] at hfl
  rw [← hs', ← hfr]
  have z1 : (kind == 1) = false := by rw [hk]; rfl
  have z2 : (kind == 2) = false := by rw [hk]; rfl
  have z3 : (kind == 3) = true := by rw [hk]; rfl
  have z4 : (kind == 4) = false := by rw [hk]; rfl
  have z5 : (kind == 5) = false := by rw [hk]; rfl
  have z6 : (kind == 6) = false := by rw [hk]; rfl
  have z8 : (kind == 8) = false := by rw [hk]; rfl
  clear hk
  clear h hr hs hdl hs' hfr her
  go_enter Try.func11, Try.ntmps11
  go_wp2_with fail
  generalize hV : World.alloc _ _ = V
  have k0 : V.heap[w.heap.size]? = some (.cells #[.int .i64 s.again, .int .i64 s.st, .int .i64 s.now, .int .i64 s.seq, .bool s.some, .int .i64 s.prog, .int .i64 s.cmd, .slice D dl dc, .int .i64 s.sent, .slice A s.n ac, .slice S s.n sc] 29 (0, 0)) := by rw [← hV]; exact blk_alloc (blk_alloc (heap_new _ _) _) _
  have k1 : V.heap[w.heap.size + 1]? = some (.cells #[.int .i64 kind, .int .i64 now, .int .i64 x, .int .i64 fk, .int .i64 ff, .int .i64 ft, .int .i64 fs, .slice FD fn fc] 42 (0, 0)) := by rw [← hV]; exact blk_alloc (heap_new' _ _ _ (by simp)) _
  have k2 : V.heap[w.heap.size + 2]? = some (.cells #[.int .i64 0, .int .i64 0, .int .i64 0, .int .i64 0, .bool false, .int .i64 0, .int .i64 0, .slice none 0 0, .int .i64 0, .slice none 0 0, .slice none 0 0] 29 (0, 0)) := by rw [← hV]; exact heap_new' _ _ _ (by simp)
  have HB := Lib.hid (show Below w.heap.size w V from by rw [← hV]; exact (by repeat (first | (with_reducible exact Below.refl _ _) | (with_reducible refine Below.drew ?_) | (with_reducible refine below_drewN ?_ _) | ((with_reducible refine Below.alloc ?_ ?_ _); rotate_left; (first | omega | (simp <;> omega)); rotate_right) | ((with_reducible refine Below.setCell ?_ ?_ _); rotate_left; (first | omega | (simp <;> omega)); rotate_right) | (with_reducible assumption) | (refine Below.trans ?_ (Below.mono (by assumption) ?_); rotate_left; (first | omega | (simp <;> omega)); rotate_right))))
  clear hV
  refine (ST.out _ (H.out.below HB.out (Nat.le_refl _)) (Nat.le_trans hbase HB.out.size)).mono ?_
  rintro e w1 ⟨v, MA1, mc1, rfl, hS1, hK1, hR1, hM1⟩
  have hn3 : ∀ j, w.heap.size ≤ j → ¬ Three b MA RA j := fun j hj hh => by have := h3.out j hh; omega
  have j0 := blk_keep k0 hK1 (hn3 _ (by omega))
  have j1 := blk_keep k1 hK1 (hn3 _ (by omega))
  have j2 := blk_keep k2 hK1 (hn3 _ (by omega))
  have HS1 := Lib.hid hS1
  have HK1 := Lib.hid ((Keeps.of_below (S := Three b MA RA) HB.out).trans hK1 (fun _ _ h => h))
  have HR1 := Lib.hid (hR1.more HB.out.size)
  have HM1 := Lib.hid hM1
  have hzV := HB.out.size
  have hz1 : V.heap.size ≤ w1.heap.size := hK1.size
  have HRR := Lib.hid (show IsR w1 D dc A ac S sc s from by
    have hq := HR.out.below HB.out (Nat.le_refl _)
    have hSV := H.out.below HB.out (Nat.le_refl _)
    exact hq.kept hK1 (fun g hg => hSV.away (hq.dr.ty hg) (by decide) (by decide) (by decide)) (fun g hg => hSV.away (hq.ar.ty hg) (by decide) (by decide) (by decide)) (fun g hg => hSV.away (hq.sr.ty hg) (by decide) (by decide) (by decide)))
  clear k0 k1 k2 hS1 hK1 hR1 hM1
  have ca_0 := blk_cell j0 0 rfl; have fa_0 := blk_free j0 0; have ca_1 := blk_cell j0 1 rfl; have fa_1 := blk_free j0 1; have ca_2 := blk_cell j0 2 rfl; have fa_2 := blk_free j0 2; have ca_3 := blk_cell j0 3 rfl; have fa_3 := blk_free j0 3; have ca_4 := blk_cell j0 4 rfl; have fa_4 := blk_free j0 4; have ca_5 := blk_cell j0 5 rfl; have fa_5 := blk_free j0 5; have ca_6 := blk_cell j0 6 rfl; have fa_6 := blk_free j0 6; have ca_7 := blk_cell j0 7 rfl; have fa_7 := blk_free j0 7; have ca_8 := blk_cell j0 8 rfl; have fa_8 := blk_free j0 8; have ca_9 := blk_cell j0 9 rfl; have fa_9 := blk_free j0 9; have ca_10 := blk_cell j0 10 rfl; have fa_10 := blk_free j0 10; have la := lt_of_block j0
  have cb_0 := blk_cell j1 0 rfl; have fb_0 := blk_free j1 0; have cb_1 := blk_cell j1 1 rfl; have fb_1 := blk_free j1 1; have cb_2 := blk_cell j1 2 rfl; have fb_2 := blk_free j1 2; have cb_3 := blk_cell j1 3 rfl; have fb_3 := blk_free j1 3; have cb_4 := blk_cell j1 4 rfl; have fb_4 := blk_free j1 4; have cb_5 := blk_cell j1 5 rfl; have fb_5 := blk_free j1 5; have cb_6 := blk_cell j1 6 rfl; have fb_6 := blk_free j1 6; have cb_7 := blk_cell j1 7 rfl; have fb_7 := blk_free j1 7; have lb := lt_of_block j1
  have cc_0 := blk_cell j2 0 rfl; have fc_0 := blk_free j2 0; have cc_1 := blk_cell j2 1 rfl; have fc_1 := blk_free j2 1; have cc_2 := blk_cell j2 2 rfl; have fc_2 := blk_free j2 2; have cc_3 := blk_cell j2 3 rfl; have fc_3 := blk_free j2 3; have cc_4 := blk_cell j2 4 rfl; have fc_4 := blk_free j2 4; have cc_5 := blk_cell j2 5 rfl; have fc_5 := blk_free j2 5; have cc_6 := blk_cell j2 6 rfl; have fc_6 := blk_free j2 6; have cc_7 := blk_cell j2 7 rfl; have fc_7 := blk_free j2 7; have cc_8 := blk_cell j2 8 rfl; have fc_8 := blk_free j2 8; have cc_9 := blk_cell j2 9 rfl; have fc_9 := blk_free j2 9; have cc_10 := blk_cell j2 10 rfl; have fc_10 := blk_free j2 10; have lc := lt_of_block j2
  go_wp2_with fail
  refine (RG.out _ HRR.out).mono ?_
  rintro e w2 ⟨v2, D2, dc2, A2, ac2, S2, sc2, rfl, hI2, hR2, hB2, hD2⟩
  have l2 := blk_below (q := w.heap.size + 2) j2 hB2 (lt_of_block j2)
  have HI2 := Lib.hid hI2
  have HB2 := Lib.hid hB2
  have HR2 := Lib.hid hR2
  have HD2 := Lib.hid hD2
  have HR12 := Lib.hid (HR1.out.below hB2 (Nat.le_refl _))
  have hz2 : w1.heap.size ≤ w2.heap.size := hB2.size
  obtain ⟨A8, c8, hv8⟩ := HR12.out.form
  obtain ⟨A9, c9, hv9⟩ := HR2.out.form
  subst hv8; subst hv9
  obtain ⟨dl2, hdl2⟩ : ∃ dl2, dl2 = (Stn.data s').length := ⟨_, rfl⟩
  have HDL2 := Lib.hid hdl2
  obtain ⟨nf, hnf⟩ : ∃ nf, nf = fr.length := ⟨_, rfl⟩
  have HNF := Lib.hid hnf
  simp only [rsl, ← hdl2, ← hnf]
  clear ca_0 fa_0 ca_1 fa_1 ca_2 fa_2 ca_3 fa_3 ca_4 fa_4 ca_5 fa_5 ca_6 fa_6 ca_7 fa_7 ca_8 fa_8 ca_9 fa_9 ca_10 fa_10
  clear cb_0 fb_0 cb_1 fb_1 cb_2 fb_2 cb_3 fb_3 cb_4 fb_4 cb_5 fb_5 cb_6 fb_6 cb_7 fb_7
  clear cc_0 fc_0 cc_1 fc_1 cc_2 fc_2 cc_3 fc_3 cc_4 fc_4 cc_5 fc_5 cc_6 fc_6 cc_7 fc_7 cc_8 fc_8 cc_9 fc_9 cc_10 fc_10
  have SM := Lib.hid (fun (W : World) (hW : Below w2.heap.size w2 W) => samef_any A8 A9 fr.length fr.length c8 c9 fr fr W (by have := hfl.out; omega) (by have := hfl.out; omega) (HR12.out.below hW (Nat.le_refl _)).rf (HR2.out.below hW (Nat.le_refl _)).rf)
  rw [frsEq_iff.2 rfl] at SM
  simp only [← hnf] at SM
  clear la lb lc j0 j1 hI2 hB2 hR2 hD2 hdl2 hnf
  go_wp2_with fail
  generalize hV : World.alloc _ _ = V4
  have q0 : V4.heap[w2.heap.size]? = some (.cells #[.int .i64 s'.again, .int .i64 s'.st, .int .i64 s'.now, .int .i64 s'.seq, .bool s'.some, .int .i64 s'.prog, .int .i64 s'.cmd, .slice D2 dl2 dc2, .int .i64 s'.sent, .slice A2 s'.n ac2, .slice S2 s'.n sc2] 29 (0, 0)) := by rw [← hV]; exact heap_new' _ _ _ rfl
  have q2 : V4.heap[w.heap.size + 2]? = some (.cells #[.int .i64 0, .int .i64 0, .int .i64 0, .int .i64 0, .bool false, .int .i64 0, .int .i64 0, .slice none 0 0, .int .i64 0, .slice none 0 0, .slice none 0 0] 29 (0, 0)) := by rw [← hV]; exact blk_alloc l2 _
  have HV4 := Lib.hid (show Below w2.heap.size w2 V4 from by rw [← hV]; exact (by repeat (first | (with_reducible exact Below.refl _ _) | (with_reducible refine Below.drew ?_) | (with_reducible refine below_drewN ?_ _) | ((with_reducible refine Below.alloc ?_ ?_ _); rotate_left; (first | omega | (simp <;> omega)); rotate_right) | ((with_reducible refine Below.setCell ?_ ?_ _); rotate_left; (first | omega | (simp <;> omega)); rotate_right) | (with_reducible assumption) | (refine Below.trans ?_ (Below.mono (by assumption) ?_); rotate_left; (first | omega | (simp <;> omega)); rotate_right))))
  have hz4 : V4.heap.size = w2.heap.size + 1 := by rw [← hV]; exact Array.size_push _
  clear hV l2
  have hsz2 : w.heap.size + 2 < w2.heap.size := by have := lt_of_block j2; omega
  have n1 : ¬ (w.heap.size + 1 + 1 = w2.heap.size) := by omega
  have n2 : ¬ (w2.heap.size = w.heap.size + 1 + 1) := by omega
  have n3 : ¬ (w.heap.size + 2 = w2.heap.size) := by omega
  have n4 : ¬ (w2.heap.size = w.heap.size + 2) := by omega
  have ca_0 := blk_cell q0 0 rfl; have fa_0 := blk_free q0 0; have ca_1 := blk_cell q0 1 rfl; have fa_1 := blk_free q0 1; have ca_2 := blk_cell q0 2 rfl; have fa_2 := blk_free q0 2; have ca_3 := blk_cell q0 3 rfl; have fa_3 := blk_free q0 3; have ca_4 := blk_cell q0 4 rfl; have fa_4 := blk_free q0 4; have ca_5 := blk_cell q0 5 rfl; have fa_5 := blk_free q0 5; have ca_6 := blk_cell q0 6 rfl; have fa_6 := blk_free q0 6; have ca_7 := blk_cell q0 7 rfl; have fa_7 := blk_free q0 7; have ca_8 := blk_cell q0 8 rfl; have fa_8 := blk_free q0 8; have ca_9 := blk_cell q0 9 rfl; have fa_9 := blk_free q0 9; have ca_10 := blk_cell q0 10 rfl; have fa_10 := blk_free q0 10; have la := lt_of_block q0
  have cb_0 := blk_cell q2 0 rfl; have fb_0 := blk_free q2 0; have cb_1 := blk_cell q2 1 rfl; have fb_1 := blk_free q2 1; have cb_2 := blk_cell q2 2 rfl; have fb_2 := blk_free q2 2; have cb_3 := blk_cell q2 3 rfl; have fb_3 := blk_free q2 3; have cb_4 := blk_cell q2 4 rfl; have fb_4 := blk_free q2 4; have cb_5 := blk_cell q2 5 rfl; have fb_5 := blk_free q2 5; have cb_6 := blk_cell q2 6 rfl; have fb_6 := blk_free q2 6; have cb_7 := blk_cell q2 7 rfl; have fb_7 := blk_free q2 7; have cb_8 := blk_cell q2 8 rfl; have fb_8 := blk_free q2 8; have cb_9 := blk_cell q2 9 rfl; have fb_9 := blk_free q2 9; have cb_10 := blk_cell q2 10 rfl; have fb_10 := blk_free q2 10; have lb := lt_of_block q2
  go_region_held3 (fun w' => w'.cell? ⟨w2.heap.size, 0, none⟩ = some (.int .i64 s'.again) ∧ w'.cell? ⟨w2.heap.size, 1, none⟩ = some (.int .i64 s'.st) ∧ w'.cell? ⟨w2.heap.size, 2, none⟩ = some (.int .i64 s'.now) ∧ w'.cell? ⟨w2.heap.size, 3, none⟩ = some (.int .i64 s'.seq) ∧ w'.cell? ⟨w2.heap.size, 4, none⟩ = some (.bool s'.some) ∧ w'.cell? ⟨w2.heap.size, 5, none⟩ = some (.int .i64 s'.prog) ∧ w'.cell? ⟨w2.heap.size, 6, none⟩ = some (.int .i64 s'.cmd) ∧ w'.cell? ⟨w2.heap.size, 7, none⟩ = some (.slice D2 dl2 dc2) ∧ w'.cell? ⟨w2.heap.size, 8, none⟩ = some (.int .i64 s'.sent) ∧ w'.cell? ⟨w2.heap.size, 9, none⟩ = some (.slice A2 s'.n ac2) ∧ w'.cell? ⟨w2.heap.size, 10, none⟩ = some (.slice S2 s'.n sc2)) (first | (refine ⟨?_, ?_, ?_, ?_, ?_, ?_, ?_, ?_, ?_, ?_, ?_⟩ <;> simp [go_sem, *]; done) | go_keep) (first | (go_at_call 33; refine (SM.out _ (by first | exact HV4.out | exact HV4.out.drew)).mono ?_; rintro e w5 ⟨rfl, hb5⟩; have p0 := blk_below (q := w2.heap.size) (by repeat (first | (with_reducible assumption) | ((with_reducible apply blk_far); rotate_left; (first | omega | (simp <;> omega)); rotate_right) | (with_reducible apply blk_drew) | (with_reducible apply blk_drewN) | (with_reducible exact heap_new _ _) | ((with_reducible apply heap_new'); (first | rfl | (simp <;> fail))) | (with_reducible apply blk_alloc))) hb5 (by first | omega | (simp; done) | (simp; omega)); have p2 := blk_below (q := w.heap.size + 2) (by repeat (first | (with_reducible assumption) | ((with_reducible apply blk_far); rotate_left; (first | omega | (simp <;> omega)); rotate_right) | (with_reducible apply blk_drew) | (with_reducible apply blk_drewN) | (with_reducible exact heap_new _ _) | ((with_reducible apply heap_new'); (first | rfl | (simp <;> fail))) | (with_reducible apply blk_alloc))) hb5 (by first | omega | (simp; done) | (simp; omega)); have hv4 := HV4.out; have HB5 := Lib.hid (show Below w2.heap.size w2 w5 from (by repeat (first | (with_reducible exact Below.refl _ _) | (with_reducible refine Below.drew ?_) | (with_reducible refine below_drewN ?_ _) | ((with_reducible refine Below.alloc ?_ ?_ _); rotate_left; (first | omega | (simp <;> omega)); rotate_right) | ((with_reducible refine Below.setCell ?_ ?_ _); rotate_left; (first | omega | (simp <;> omega)); rotate_right) | (with_reducible assumption) | (refine Below.trans ?_ (Below.mono (by assumption) ?_); rotate_left; (first | omega | (simp <;> omega)); rotate_right)))); (have ce_0 := blk_cell p0 0 rfl; have fe_0 := blk_free p0 0; have ce_1 := blk_cell p0 1 rfl; have fe_1 := blk_free p0 1; have ce_2 := blk_cell p0 2 rfl; have fe_2 := blk_free p0 2; have ce_3 := blk_cell p0 3 rfl; have fe_3 := blk_free p0 3; have ce_4 := blk_cell p0 4 rfl; have fe_4 := blk_free p0 4; have ce_5 := blk_cell p0 5 rfl; have fe_5 := blk_free p0 5; have ce_6 := blk_cell p0 6 rfl; have fe_6 := blk_free p0 6; have ce_7 := blk_cell p0 7 rfl; have fe_7 := blk_free p0 7; have ce_8 := blk_cell p0 8 rfl; have fe_8 := blk_free p0 8; have ce_9 := blk_cell p0 9 rfl; have fe_9 := blk_free p0 9; have ce_10 := blk_cell p0 10 rfl; have fe_10 := blk_free p0 10; have le := lt_of_block p0); (have cg_0 := blk_cell p2 0 rfl; have fg_0 := blk_free p2 0; have cg_1 := blk_cell p2 1 rfl; have fg_1 := blk_free p2 1; have cg_2 := blk_cell p2 2 rfl; have fg_2 := blk_free p2 2; have cg_3 := blk_cell p2 3 rfl; have fg_3 := blk_free p2 3; have cg_4 := blk_cell p2 4 rfl; have fg_4 := blk_free p2 4; have cg_5 := blk_cell p2 5 rfl; have fg_5 := blk_free p2 5; have cg_6 := blk_cell p2 6 rfl; have fg_6 := blk_free p2 6; have cg_7 := blk_cell p2 7 rfl; have fg_7 := blk_free p2 7; have cg_8 := blk_cell p2 8 rfl; have fg_8 := blk_free p2 8; have cg_9 := blk_cell p2 9 rfl; have fg_9 := blk_free p2 9; have cg_10 := blk_cell p2 10 rfl; have fg_10 := blk_free p2 10; have lg := lt_of_block p2); clear hb5 hv4))
  go_wp2_with fail
  generalize hWf : World.setCell _ _ _ = Wf
  have hf : Wf.heap[w.heap.size + 2]? = some (.cells #[.int .i64 s'.again, .int .i64 s'.st, .int .i64 s'.now, .int .i64 s'.seq, .bool s'.some, .int .i64 s'.prog, .int .i64 s'.cmd, .slice D2 dl2 dc2, .int .i64 s'.sent, .slice A2 s'.n ac2, .slice S2 s'.n sc2] 29 (0, 0)) := by rw [← hWf]; exact (by apply Eq.trans; (repeat (first | (with_reducible assumption) | (with_reducible apply blk_set) | ((with_reducible apply blk_far); rotate_left; (first | omega | (simp <;> omega)); rotate_right) | (with_reducible apply blk_drew) | (with_reducible apply blk_drewN) | ((with_reducible apply heap_new'); (first | rfl | (simp <;> fail))) | (with_reducible apply blk_alloc))); (first | with_reducible rfl | (simp <;> fail) | rfl))
  have hK : Keeps (fun i => i = w.heap.size + 2) w5 Wf := by rw [← hWf]; (repeat (first | with_reducible exact Keeps.refl _ _ | (with_reducible refine Keeps.set1 ?_ _ _) | (with_reducible refine Keeps.drew ?_) | (with_reducible refine Keeps.drewN ?_ _) | (with_reducible refine Keeps.alloc ?_ _)))
  clear hWf
  clear ca_0 fa_0 ca_1 fa_1 ca_2 fa_2 ca_3 fa_3 ca_4 fa_4 ca_5 fa_5 ca_6 fa_6 ca_7 fa_7 ca_8 fa_8 ca_9 fa_9 ca_10 fa_10
  clear cb_0 fb_0 cb_1 fb_1 cb_2 fb_2 cb_3 fb_3 cb_4 fb_4 cb_5 fb_5 cb_6 fb_6 cb_7 fb_7 cb_8 fb_8 cb_9 fb_9 cb_10 fb_10
  clear ce_0 fe_0 ce_1 fe_1 ce_2 fe_2 ce_3 fe_3 ce_4 fe_4 ce_5 fe_5 ce_6 fe_6 ce_7 fe_7 ce_8 fe_8 ce_9 fe_9 ce_10 fe_10
  clear cg_0 fg_0 cg_1 fg_1 cg_2 fg_2 cg_3 fg_3 cg_4 fg_4 cg_5 fg_5 cg_6 fg_6 cg_7 fg_7 cg_8 fg_8 cg_9 fg_9 cg_10 fg_10
  clear la lb le lg
  have cm_0 := blk_cell hf 0 rfl; have fm_0 := blk_free hf 0; have cm_1 := blk_cell hf 1 rfl; have fm_1 := blk_free hf 1; have cm_2 := blk_cell hf 2 rfl; have fm_2 := blk_free hf 2; have cm_3 := blk_cell hf 3 rfl; have fm_3 := blk_free hf 3; have cm_4 := blk_cell hf 4 rfl; have fm_4 := blk_free hf 4; have cm_5 := blk_cell hf 5 rfl; have fm_5 := blk_free hf 5; have cm_6 := blk_cell hf 6 rfl; have fm_6 := blk_free hf 6; have cm_7 := blk_cell hf 7 rfl; have fm_7 := blk_free hf 7; have cm_8 := blk_cell hf 8 rfl; have fm_8 := blk_free hf 8; have cm_9 := blk_cell hf 9 rfl; have fm_9 := blk_free hf 9; have cm_10 := blk_cell hf 10 rfl; have fm_10 := blk_free hf 10; have lm := lt_of_block hf
  have hTy : ∀ i : Nat, i = w.heap.size + 2 → i < w5.heap.size → Ty w5 i 29 := fun i hi _ => by rw [hi]; exact ⟨_, p2⟩
  have hB15 : Below w1.heap.size w1 w5 := HB2.out.trans (HB5.out.mono hz2)
  have hK1f : Keeps (fun i => i = w.heap.size + 2) w1 Wf := (Keeps.of_below hB15).trans hK (fun _ _ h => h)
  refine bodyPost_ret (v := .tuple #[.agg #[.int .i64 s'.again, .int .i64 s'.st, .int .i64 s'.now, .int .i64 s'.seq, .bool s'.some, .int .i64 s'.prog, .int .i64 s'.cmd, .slice D2 dl2 dc2, .int .i64 s'.sent, .slice A2 s'.n ac2, .slice S2 s'.n sc2], .slice A8 nf c8, .bool true]) (by simp [results, Try.results11, go_sem, cm_0, cm_1, cm_2, cm_3, cm_4, cm_5, cm_6, cm_7, cm_8, cm_9, cm_10]) rfl ⟨.slice A8 nf c8, MA1, mc1, D2, dc2, A2, ac2, S2, sc2, w1, by rw [HDL2.out]; rfl, ?_, ?_, ?_, ?_, ?_, hK1f, ?_, ?_, ?_, ⟨_, j2⟩⟩
  · have hq := HS1.out.below hB15 (Nat.le_refl _)
    exact hq.kept hK (fun i hi e => hq.away ⟨_, p2⟩ (by decide) (by decide) (by decide) (e ▸ hi))
  · exact (HI2.out.below HB5.out (Nat.le_refl _)).keptT hK (fun i hi hl => ⟨_, hTy i hi hl, by decide, by decide, by decide⟩)
  · exact (HK1.out.trans (Keeps.of_below hB15) (fun _ _ h => h)).trans hK (fun i hi e => absurd hi (by omega))
  · rw [HNF.out]
    exact HR1.out
  · rw [HNF.out]
    exact (HR1.out.below hB15 (Nat.le_refl _)).keptT hK (fun i hi hl => ⟨_, hTy i hi hl, by decide, by decide⟩)
  · exact HK1.out.size
  · exact HM1.out.imp id (fun ⟨g, h1, h2⟩ => ⟨g, h1, by omega⟩)
  · exact HD2.out

theorem act_hold (base b mc rc : Nat) (MA RA : Option Addr) (s : Stn.St) (hs : Stn.Inv s) (D : Option Addr) (dl dc : Nat) (A : Option Addr) (ac : Nat) (S : Option Addr) (sc : Nat) (kind : Int) (now x fk ff ft fs : Int) (FD : Option Addr) (fn fc : Nat) (w : World) (hbase : base ≤ w.heap.size) (hdl : dl = (Stn.data s).length) (h : IsSt w base b MA mc RA rc s) (hr : IsR w D dc A ac S sc s) (hk : kind = 4) :
    Calls Try.prog 11 #[.pointer (some ⟨b, 0, none⟩), .agg #[.int .i64 s.again, .int .i64 s.st, .int .i64 s.now, .int .i64 s.seq, .bool s.some, .int .i64 s.prog, .int .i64 s.cmd, .slice D dl dc, .int .i64 s.sent, .slice A s.n ac, .slice S s.n sc], .agg #[.int .i64 kind, .int .i64 now, .int .i64 x, .int .i64 fk, .int .i64 ff, .int .i64 ft, .int .i64 fs, .slice FD fn fc]] w (ActPost base b MA RA rc D (Stn.give s kind now x) (Stn.giveF s kind now x) w) := by
  have ST := Lib.hid (fun (W : World) (hW : IsSt W base b MA mc RA rc s) (hb : base ≤ W.heap.size) => show Calls Try.prog 30 #[.pointer (some ⟨b, 0, none⟩), .int .i64 now] W (StPost base b MA RA rc (Stn.give s kind now x) (Stn.giveF s kind now x) (Stn.giveE s kind now x) W) from by rw [hk, (give_x s 4 now x (by decide) (by decide)).1, (give_x s 4 now x (by decide) (by decide)).2.1, (give_x s 4 now x (by decide) (by decide)).2.2]; exact shold_any hW hs now hb)
  have RG := Lib.hid (fun (W : World) (hW : IsR W D dc A ac S sc s) => rgive_any s hs D dl dc A ac S sc kind now x (by omega) W hdl hW)
  have H := Lib.hid h
  have HR := Lib.hid hr
  have hfl := Lib.hid (show ((Stn.giveF s kind now x)).length ≤ 64 from giveF_len s kind now x hs (by omega))
  have h3 := Lib.hid (fun i hi => (h.three_lt (i := i) hi).2)
  have hb := h.lt
  obtain ⟨s', hs'⟩ : ∃ s', s' = (Stn.give s kind now x) := ⟨_, rfl⟩
  obtain ⟨fr, hfr⟩ : ∃ fr, fr = (Stn.giveF s kind now x) := ⟨_, rfl⟩
  obtain ⟨er, her⟩ : ∃ er, er = Stn.giveE s kind now x := ⟨_, rfl⟩
  rw [← hs', ← hfr, ← her] at ST RG
  rw [← hfr] at hfl
  rw [← hs', ← hfr]
  have z1 : (kind == 1) = false := by rw [hk]; rfl
  have z2 : (kind == 2) = false := by rw [hk]; rfl
  have z3 : (kind == 3) = false := by rw [hk]; rfl
  have z4 : (kind == 4) = true := by rw [hk]; rfl
  have z5 : (kind == 5) = false := by rw [hk]; rfl
  have z6 : (kind == 6) = false := by rw [hk]; rfl
  have z8 : (kind == 8) = false := by rw [hk]; rfl
  clear hk
  clear h hr hs hdl hs' hfr her
  go_enter Try.func11, Try.ntmps11
  go_wp2_with fail
  generalize hV : World.alloc _ _ = V
  have k0 : V.heap[w.heap.size]? = some (.cells #[.int .i64 s.again, .int .i64 s.st, .int .i64 s.now, .int .i64 s.seq, .bool s.some, .int .i64 s.prog, .int .i64 s.cmd, .slice D dl dc, .int .i64 s.sent, .slice A s.n ac, .slice S s.n sc] 29 (0, 0)) := by rw [← hV]; exact blk_alloc (blk_alloc (heap_new _ _) _) _
  have k1 : V.heap[w.heap.size + 1]? = some (.cells #[.int .i64 kind, .int .i64 now, .int .i64 x, .int .i64 fk, .int .i64 ff, .int .i64 ft, .int .i64 fs, .slice FD fn fc] 42 (0, 0)) := by rw [← hV]; exact blk_alloc (heap_new' _ _ _ (by simp)) _
  have k2 : V.heap[w.heap.size + 2]? = some (.cells #[.int .i64 0, .int .i64 0, .int .i64 0, .int .i64 0, .bool false, .int .i64 0, .int .i64 0, .slice none 0 0, .int .i64 0, .slice none 0 0, .slice none 0 0] 29 (0, 0)) := by rw [← hV]; exact heap_new' _ _ _ (by simp)
  have HB := Lib.hid (show Below w.heap.size w V from by rw [← hV]; exact (by repeat (first | (with_reducible exact Below.refl _ _) | (with_reducible refine Below.drew ?_) | (with_reducible refine below_drewN ?_ _) | ((with_reducible refine Below.alloc ?_ ?_ _); rotate_left; (first | omega | (simp <;> omega)); rotate_right) | ((with_reducible refine Below.setCell ?_ ?_ _); rotate_left; (first | omega | (simp <;> omega)); rotate_right) | (with_reducible assumption) | (refine Below.trans ?_ (Below.mono (by assumption) ?_); rotate_left; (first | omega | (simp <;> omega)); rotate_right))))
  clear hV
  refine (ST.out _ (H.out.below HB.out (Nat.le_refl _)) (Nat.le_trans hbase HB.out.size)).mono ?_
  rintro e w1 ⟨v, MA1, mc1, rfl, hS1, hK1, hR1, hM1⟩
  have hn3 : ∀ j, w.heap.size ≤ j → ¬ Three b MA RA j := fun j hj hh => by have := h3.out j hh; omega
  have j0 := blk_keep k0 hK1 (hn3 _ (by omega))
  have j1 := blk_keep k1 hK1 (hn3 _ (by omega))
  have j2 := blk_keep k2 hK1 (hn3 _ (by omega))
  have HS1 := Lib.hid hS1
  have HK1 := Lib.hid ((Keeps.of_below (S := Three b MA RA) HB.out).trans hK1 (fun _ _ h => h))
  have HR1 := Lib.hid (hR1.more HB.out.size)
  have HM1 := Lib.hid hM1
  have hzV := HB.out.size
  have hz1 : V.heap.size ≤ w1.heap.size := hK1.size
  have HRR := Lib.hid (show IsR w1 D dc A ac S sc s from by
    have hq := HR.out.below HB.out (Nat.le_refl _)
    have hSV := H.out.below HB.out (Nat.le_refl _)
    exact hq.kept hK1 (fun g hg => hSV.away (hq.dr.ty hg) (by decide) (by decide) (by decide)) (fun g hg => hSV.away (hq.ar.ty hg) (by decide) (by decide) (by decide)) (fun g hg => hSV.away (hq.sr.ty hg) (by decide) (by decide) (by decide)))
  clear k0 k1 k2 hS1 hK1 hR1 hM1
  have ca_0 := blk_cell j0 0 rfl; have fa_0 := blk_free j0 0; have ca_1 := blk_cell j0 1 rfl; have fa_1 := blk_free j0 1; have ca_2 := blk_cell j0 2 rfl; have fa_2 := blk_free j0 2; have ca_3 := blk_cell j0 3 rfl; have fa_3 := blk_free j0 3; have ca_4 := blk_cell j0 4 rfl; have fa_4 := blk_free j0 4; have ca_5 := blk_cell j0 5 rfl; have fa_5 := blk_free j0 5; have ca_6 := blk_cell j0 6 rfl; have fa_6 := blk_free j0 6; have ca_7 := blk_cell j0 7 rfl; have fa_7 := blk_free j0 7; have ca_8 := blk_cell j0 8 rfl; have fa_8 := blk_free j0 8; have ca_9 := blk_cell j0 9 rfl; have fa_9 := blk_free j0 9; have ca_10 := blk_cell j0 10 rfl; have fa_10 := blk_free j0 10; have la := lt_of_block j0
  have cb_0 := blk_cell j1 0 rfl; have fb_0 := blk_free j1 0; have cb_1 := blk_cell j1 1 rfl; have fb_1 := blk_free j1 1; have cb_2 := blk_cell j1 2 rfl; have fb_2 := blk_free j1 2; have cb_3 := blk_cell j1 3 rfl; have fb_3 := blk_free j1 3; have cb_4 := blk_cell j1 4 rfl; have fb_4 := blk_free j1 4; have cb_5 := blk_cell j1 5 rfl; have fb_5 := blk_free j1 5; have cb_6 := blk_cell j1 6 rfl; have fb_6 := blk_free j1 6; have cb_7 := blk_cell j1 7 rfl; have fb_7 := blk_free j1 7; have lb := lt_of_block j1
  have cc_0 := blk_cell j2 0 rfl; have fc_0 := blk_free j2 0; have cc_1 := blk_cell j2 1 rfl; have fc_1 := blk_free j2 1; have cc_2 := blk_cell j2 2 rfl; have fc_2 := blk_free j2 2; have cc_3 := blk_cell j2 3 rfl; have fc_3 := blk_free j2 3; have cc_4 := blk_cell j2 4 rfl; have fc_4 := blk_free j2 4; have cc_5 := blk_cell j2 5 rfl; have fc_5 := blk_free j2 5; have cc_6 := blk_cell j2 6 rfl; have fc_6 := blk_free j2 6; have cc_7 := blk_cell j2 7 rfl; have fc_7 := blk_free j2 7; have cc_8 := blk_cell j2 8 rfl; have fc_8 := blk_free j2 8; have cc_9 := blk_cell j2 9 rfl; have fc_9 := blk_free j2 9; have cc_10 := blk_cell j2 10 rfl; have fc_10 := blk_free j2 10; have lc := lt_of_block j2
  go_wp2_with fail
  refine (RG.out _ HRR.out).mono ?_
  rintro e w2 ⟨v2, D2, dc2, A2, ac2, S2, sc2, rfl, hI2, hR2, hB2, hD2⟩
  have l2 := blk_below (q := w.heap.size + 2) j2 hB2 (lt_of_block j2)
  have HI2 := Lib.hid hI2
  have HB2 := Lib.hid hB2
  have HR2 := Lib.hid hR2
  have HD2 := Lib.hid hD2
  have HR12 := Lib.hid (HR1.out.below hB2 (Nat.le_refl _))
  have hz2 : w1.heap.size ≤ w2.heap.size := hB2.size
  obtain ⟨A8, c8, hv8⟩ := HR12.out.form
  obtain ⟨A9, c9, hv9⟩ := HR2.out.form
  subst hv8; subst hv9
  obtain ⟨dl2, hdl2⟩ : ∃ dl2, dl2 = (Stn.data s').length := ⟨_, rfl⟩
  have HDL2 := Lib.hid hdl2
  obtain ⟨nf, hnf⟩ : ∃ nf, nf = fr.length := ⟨_, rfl⟩
  have HNF := Lib.hid hnf
  simp only [rsl, ← hdl2, ← hnf]
  clear ca_0 fa_0 ca_1 fa_1 ca_2 fa_2 ca_3 fa_3 ca_4 fa_4 ca_5 fa_5 ca_6 fa_6 ca_7 fa_7 ca_8 fa_8 ca_9 fa_9 ca_10 fa_10
  clear cb_0 fb_0 cb_1 fb_1 cb_2 fb_2 cb_3 fb_3 cb_4 fb_4 cb_5 fb_5 cb_6 fb_6 cb_7 fb_7
  clear cc_0 fc_0 cc_1 fc_1 cc_2 fc_2 cc_3 fc_3 cc_4 fc_4 cc_5 fc_5 cc_6 fc_6 cc_7 fc_7 cc_8 fc_8 cc_9 fc_9 cc_10 fc_10
  have SM := Lib.hid (fun (W : World) (hW : Below w2.heap.size w2 W) => samef_any A8 A9 fr.length fr.length c8 c9 fr fr W (by have := hfl.out; omega) (by have := hfl.out; omega) (HR12.out.below hW (Nat.le_refl _)).rf (HR2.out.below hW (Nat.le_refl _)).rf)
  rw [frsEq_iff.2 rfl] at SM
  simp only [← hnf] at SM
  clear la lb lc j0 j1 hI2 hB2 hR2 hD2 hdl2 hnf
  go_wp2_with fail
  generalize hV : World.alloc _ _ = V4
  have q0 : V4.heap[w2.heap.size]? = some (.cells #[.int .i64 s'.again, .int .i64 s'.st, .int .i64 s'.now, .int .i64 s'.seq, .bool s'.some, .int .i64 s'.prog, .int .i64 s'.cmd, .slice D2 dl2 dc2, .int .i64 s'.sent, .slice A2 s'.n ac2, .slice S2 s'.n sc2] 29 (0, 0)) := by rw [← hV]; exact heap_new' _ _ _ rfl
  have q2 : V4.heap[w.heap.size + 2]? = some (.cells #[.int .i64 0, .int .i64 0, .int .i64 0, .int .i64 0, .bool false, .int .i64 0, .int .i64 0, .slice none 0 0, .int .i64 0, .slice none 0 0, .slice none 0 0] 29 (0, 0)) := by rw [← hV]; exact blk_alloc l2 _
  have HV4 := Lib.hid (show Below w2.heap.size w2 V4 from by rw [← hV]; exact (by repeat (first | (with_reducible exact Below.refl _ _) | (with_reducible refine Below.drew ?_) | (with_reducible refine below_drewN ?_ _) | ((with_reducible refine Below.alloc ?_ ?_ _); rotate_left; (first | omega | (simp <;> omega)); rotate_right) | ((with_reducible refine Below.setCell ?_ ?_ _); rotate_left; (first | omega | (simp <;> omega)); rotate_right) | (with_reducible assumption) | (refine Below.trans ?_ (Below.mono (by assumption) ?_); rotate_left; (first | omega | (simp <;> omega)); rotate_right))))
  have hz4 : V4.heap.size = w2.heap.size + 1 := by rw [← hV]; exact Array.size_push _
  clear hV l2
  have hsz2 : w.heap.size + 2 < w2.heap.size := by have := lt_of_block j2; omega
  have n1 : ¬ (w.heap.size + 1 + 1 = w2.heap.size) := by omega
  have n2 : ¬ (w2.heap.size = w.heap.size + 1 + 1) := by omega
  have n3 : ¬ (w.heap.size + 2 = w2.heap.size) := by omega
  have n4 : ¬ (w2.heap.size = w.heap.size + 2) := by omega
  have ca_0 := blk_cell q0 0 rfl; have fa_0 := blk_free q0 0; have ca_1 := blk_cell q0 1 rfl; have fa_1 := blk_free q0 1; have ca_2 := blk_cell q0 2 rfl; have fa_2 := blk_free q0 2; have ca_3 := blk_cell q0 3 rfl; have fa_3 := blk_free q0 3; have ca_4 := blk_cell q0 4 rfl; have fa_4 := blk_free q0 4; have ca_5 := blk_cell q0 5 rfl; have fa_5 := blk_free q0 5; have ca_6 := blk_cell q0 6 rfl; have fa_6 := blk_free q0 6; have ca_7 := blk_cell q0 7 rfl; have fa_7 := blk_free q0 7; have ca_8 := blk_cell q0 8 rfl; have fa_8 := blk_free q0 8; have ca_9 := blk_cell q0 9 rfl; have fa_9 := blk_free q0 9; have ca_10 := blk_cell q0 10 rfl; have fa_10 := blk_free q0 10; have la := lt_of_block q0
  have cb_0 := blk_cell q2 0 rfl; have fb_0 := blk_free q2 0; have cb_1 := blk_cell q2 1 rfl; have fb_1 := blk_free q2 1; have cb_2 := blk_cell q2 2 rfl; have fb_2 := blk_free q2 2; have cb_3 := blk_cell q2 3 rfl; have fb_3 := blk_free q2 3; have cb_4 := blk_cell q2 4 rfl; have fb_4 := blk_free q2 4; have cb_5 := blk_cell q2 5 rfl; have fb_5 := blk_free q2 5; have cb_6 := blk_cell q2 6 rfl; have fb_6 := blk_free q2 6; have cb_7 := blk_cell q2 7 rfl; have fb_7 := blk_free q2 7; have cb_8 := blk_cell q2 8 rfl; have fb_8 := blk_free q2 8; have cb_9 := blk_cell q2 9 rfl; have fb_9 := blk_free q2 9; have cb_10 := blk_cell q2 10 rfl; have fb_10 := blk_free q2 10; have lb := lt_of_block q2
  go_region_held3 (fun w' => w'.cell? ⟨w2.heap.size, 0, none⟩ = some (.int .i64 s'.again) ∧ w'.cell? ⟨w2.heap.size, 1, none⟩ = some (.int .i64 s'.st) ∧ w'.cell? ⟨w2.heap.size, 2, none⟩ = some (.int .i64 s'.now) ∧ w'.cell? ⟨w2.heap.size, 3, none⟩ = some (.int .i64 s'.seq) ∧ w'.cell? ⟨w2.heap.size, 4, none⟩ = some (.bool s'.some) ∧ w'.cell? ⟨w2.heap.size, 5, none⟩ = some (.int .i64 s'.prog) ∧ w'.cell? ⟨w2.heap.size, 6, none⟩ = some (.int .i64 s'.cmd) ∧ w'.cell? ⟨w2.heap.size, 7, none⟩ = some (.slice D2 dl2 dc2) ∧ w'.cell? ⟨w2.heap.size, 8, none⟩ = some (.int .i64 s'.sent) ∧ w'.cell? ⟨w2.heap.size, 9, none⟩ = some (.slice A2 s'.n ac2) ∧ w'.cell? ⟨w2.heap.size, 10, none⟩ = some (.slice S2 s'.n sc2)) (first | (refine ⟨?_, ?_, ?_, ?_, ?_, ?_, ?_, ?_, ?_, ?_, ?_⟩ <;> simp [go_sem, *]; done) | go_keep) (first | (go_at_call 33; refine (SM.out _ (by first | exact HV4.out | exact HV4.out.drew)).mono ?_; rintro e w5 ⟨rfl, hb5⟩; have p0 := blk_below (q := w2.heap.size) (by repeat (first | (with_reducible assumption) | ((with_reducible apply blk_far); rotate_left; (first | omega | (simp <;> omega)); rotate_right) | (with_reducible apply blk_drew) | (with_reducible apply blk_drewN) | (with_reducible exact heap_new _ _) | ((with_reducible apply heap_new'); (first | rfl | (simp <;> fail))) | (with_reducible apply blk_alloc))) hb5 (by first | omega | (simp; done) | (simp; omega)); have p2 := blk_below (q := w.heap.size + 2) (by repeat (first | (with_reducible assumption) | ((with_reducible apply blk_far); rotate_left; (first | omega | (simp <;> omega)); rotate_right) | (with_reducible apply blk_drew) | (with_reducible apply blk_drewN) | (with_reducible exact heap_new _ _) | ((with_reducible apply heap_new'); (first | rfl | (simp <;> fail))) | (with_reducible apply blk_alloc))) hb5 (by first | omega | (simp; done) | (simp; omega)); have hv4 := HV4.out; have HB5 := Lib.hid (show Below w2.heap.size w2 w5 from (by repeat (first | (with_reducible exact Below.refl _ _) | (with_reducible refine Below.drew ?_) | (with_reducible refine below_drewN ?_ _) | ((with_reducible refine Below.alloc ?_ ?_ _); rotate_left; (first | omega | (simp <;> omega)); rotate_right) | ((with_reducible refine Below.setCell ?_ ?_ _); rotate_left; (first | omega | (simp <;> omega)); rotate_right) | (with_reducible assumption) | (refine Below.trans ?_ (Below.mono (by assumption) ?_); rotate_left; (first | omega | (simp <;> omega)); rotate_right)))); (have ce_0 := blk_cell p0 0 rfl; have fe_0 := blk_free p0 0; have ce_1 := blk_cell p0 1 rfl; have fe_1 := blk_free p0 1; have ce_2 := blk_cell p0 2 rfl; have fe_2 := blk_free p0 2; have ce_3 := blk_cell p0 3 rfl; have fe_3 := blk_free p0 3; have ce_4 := blk_cell p0 4 rfl; have fe_4 := blk_free p0 4; have ce_5 := blk_cell p0 5 rfl; have fe_5 := blk_free p0 5; have ce_6 := blk_cell p0 6 rfl; have fe_6 := blk_free p0 6; have ce_7 := blk_cell p0 7 rfl; have fe_7 := blk_free p0 7; have ce_8 := blk_cell p0 8 rfl; have fe_8 := blk_free p0 8; have ce_9 := blk_cell p0 9 rfl; have fe_9 := blk_free p0 9; have ce_10 := blk_cell p0 10 rfl; have fe_10 := blk_free p0 10; have le := lt_of_block p0); (have cg_0 := blk_cell p2 0 rfl; have fg_0 := blk_free p2 0; have cg_1 := blk_cell p2 1 rfl; have fg_1 := blk_free p2 1; have cg_2 := blk_cell p2 2 rfl; have fg_2 := blk_free p2 2; have cg_3 := blk_cell p2 3 rfl; have fg_3 := blk_free p2 3; have cg_4 := blk_cell p2 4 rfl; have fg_4 := blk_free p2 4; have cg_5 := blk_cell p2 5 rfl; have fg_5 := blk_free p2 5; have cg_6 := blk_cell p2 6 rfl; have fg_6 := blk_free p2 6; have cg_7 := blk_cell p2 7 rfl; have fg_7 := blk_free p2 7; have cg_8 := blk_cell p2 8 rfl; have fg_8 := blk_free p2 8; have cg_9 := blk_cell p2 9 rfl; have fg_9 := blk_free p2 9; have cg_10 := blk_cell p2 10 rfl; have fg_10 := blk_free p2 10; have lg := lt_of_block p2); clear hb5 hv4))
  go_wp2_with fail
  generalize hWf : World.setCell _ _ _ = Wf
  have hf : Wf.heap[w.heap.size + 2]? = some (.cells #[.int .i64 s'.again, .int .i64 s'.st, .int .i64 s'.now, .int .i64 s'.seq, .bool s'.some, .int .i64 s'.prog, .int .i64 s'.cmd, .slice D2 dl2 dc2, .int .i64 s'.sent, .slice A2 s'.n ac2, .slice S2 s'.n sc2] 29 (0, 0)) := by rw [← hWf]; exact (by apply Eq.trans; (repeat (first | (with_reducible assumption) | (with_reducible apply blk_set) | ((with_reducible apply blk_far); rotate_left; (first | omega | (simp <;> omega)); rotate_right) | (with_reducible apply blk_drew) | (with_reducible apply blk_drewN) | ((with_reducible apply heap_new'); (first | rfl | (simp <;> fail))) | (with_reducible apply blk_alloc))); (first | with_reducible rfl | (simp <;> fail) | rfl))
  have hK : Keeps (fun i => i = w.heap.size + 2) w5 Wf := by rw [← hWf]; (repeat (first | with_reducible exact Keeps.refl _ _ | (with_reducible refine Keeps.set1 ?_ _ _) | (with_reducible refine Keeps.drew ?_) | (with_reducible refine Keeps.drewN ?_ _) | (with_reducible refine Keeps.alloc ?_ _)))
  clear hWf
  clear ca_0 fa_0 ca_1 fa_1 ca_2 fa_2 ca_3 fa_3 ca_4 fa_4 ca_5 fa_5 ca_6 fa_6 ca_7 fa_7 ca_8 fa_8 ca_9 fa_9 ca_10 fa_10
  clear cb_0 fb_0 cb_1 fb_1 cb_2 fb_2 cb_3 fb_3 cb_4 fb_4 cb_5 fb_5 cb_6 fb_6 cb_7 fb_7 cb_8 fb_8 cb_9 fb_9 cb_10 fb_10
  clear ce_0 fe_0 ce_1 fe_1 ce_2 fe_2 ce_3 fe_3 ce_4 fe_4 ce_5 fe_5 ce_6 fe_6 ce_7 fe_7 ce_8 fe_8 ce_9 fe_9 ce_10 fe_10
  clear cg_0 fg_0 cg_1 fg_1 cg_2 fg_2 cg_3 fg_3 cg_4 fg_4 cg_5 fg_5 cg_6 fg_6 cg_7 fg_7 cg_8 fg_8 cg_9 fg_9 cg_10 fg_10
  clear la lb le lg
  have cm_0 := blk_cell hf 0 rfl; have fm_0 := blk_free hf 0; have cm_1 := blk_cell hf 1 rfl; have fm_1 := blk_free hf 1; have cm_2 := blk_cell hf 2 rfl; have fm_2 := blk_free hf 2; have cm_3 := blk_cell hf 3 rfl; have fm_3 := blk_free hf 3; have cm_4 := blk_cell hf 4 rfl; have fm_4 := blk_free hf 4; have cm_5 := blk_cell hf 5 rfl; have fm_5 := blk_free hf 5; have cm_6 := blk_cell hf 6 rfl; have fm_6 := blk_free hf 6; have cm_7 := blk_cell hf 7 rfl; have fm_7 := blk_free hf 7; have cm_8 := blk_cell hf 8 rfl; have fm_8 := blk_free hf 8; have cm_9 := blk_cell hf 9 rfl; have fm_9 := blk_free hf 9; have cm_10 := blk_cell hf 10 rfl; have fm_10 := blk_free hf 10; have lm := lt_of_block hf
  have hTy : ∀ i : Nat, i = w.heap.size + 2 → i < w5.heap.size → Ty w5 i 29 := fun i hi _ => by rw [hi]; exact ⟨_, p2⟩
  have hB15 : Below w1.heap.size w1 w5 := HB2.out.trans (HB5.out.mono hz2)
  have hK1f : Keeps (fun i => i = w.heap.size + 2) w1 Wf := (Keeps.of_below hB15).trans hK (fun _ _ h => h)
  refine bodyPost_ret (v := .tuple #[.agg #[.int .i64 s'.again, .int .i64 s'.st, .int .i64 s'.now, .int .i64 s'.seq, .bool s'.some, .int .i64 s'.prog, .int .i64 s'.cmd, .slice D2 dl2 dc2, .int .i64 s'.sent, .slice A2 s'.n ac2, .slice S2 s'.n sc2], .slice A8 nf c8, .bool true]) (by simp [results, Try.results11, go_sem, cm_0, cm_1, cm_2, cm_3, cm_4, cm_5, cm_6, cm_7, cm_8, cm_9, cm_10]) rfl ⟨.slice A8 nf c8, MA1, mc1, D2, dc2, A2, ac2, S2, sc2, w1, by rw [HDL2.out]; rfl, ?_, ?_, ?_, ?_, ?_, hK1f, ?_, ?_, ?_, ⟨_, j2⟩⟩
  · have hq := HS1.out.below hB15 (Nat.le_refl _)
    exact hq.kept hK (fun i hi e => hq.away ⟨_, p2⟩ (by decide) (by decide) (by decide) (e ▸ hi))
  · exact (HI2.out.below HB5.out (Nat.le_refl _)).keptT hK (fun i hi hl => ⟨_, hTy i hi hl, by decide, by decide, by decide⟩)
  · exact (HK1.out.trans (Keeps.of_below hB15) (fun _ _ h => h)).trans hK (fun i hi e => absurd hi (by omega))
  · rw [HNF.out]
    exact HR1.out
  · rw [HNF.out]
    exact (HR1.out.below hB15 (Nat.le_refl _)).keptT hK (fun i hi hl => ⟨_, hTy i hi hl, by decide, by decide⟩)
  · exact HK1.out.size
  · exact HM1.out.imp id (fun ⟨g, h1, h2⟩ => ⟨g, h1, by omega⟩)
  · exact HD2.out

theorem act_resume (base b mc rc : Nat) (MA RA : Option Addr) (s : Stn.St) (hs : Stn.Inv s) (D : Option Addr) (dl dc : Nat) (A : Option Addr) (ac : Nat) (S : Option Addr) (sc : Nat) (kind : Int) (now x fk ff ft fs : Int) (FD : Option Addr) (fn fc : Nat) (w : World) (hbase : base ≤ w.heap.size) (hdl : dl = (Stn.data s).length) (h : IsSt w base b MA mc RA rc s) (hr : IsR w D dc A ac S sc s) (hk : kind = 5) :
    Calls Try.prog 11 #[.pointer (some ⟨b, 0, none⟩), .agg #[.int .i64 s.again, .int .i64 s.st, .int .i64 s.now, .int .i64 s.seq, .bool s.some, .int .i64 s.prog, .int .i64 s.cmd, .slice D dl dc, .int .i64 s.sent, .slice A s.n ac, .slice S s.n sc], .agg #[.int .i64 kind, .int .i64 now, .int .i64 x, .int .i64 fk, .int .i64 ff, .int .i64 ft, .int .i64 fs, .slice FD fn fc]] w (ActPost base b MA RA rc D (Stn.give s kind now x) (Stn.giveF s kind now x) w) := by
  have ST := Lib.hid (fun (W : World) (hW : IsSt W base b MA mc RA rc s) (hb : base ≤ W.heap.size) => show Calls Try.prog 31 #[.pointer (some ⟨b, 0, none⟩), .int .i64 now] W (StPost base b MA RA rc (Stn.give s kind now x) (Stn.giveF s kind now x) (Stn.giveE s kind now x) W) from by rw [hk, (give_x s 5 now x (by decide) (by decide)).1, (give_x s 5 now x (by decide) (by decide)).2.1, (give_x s 5 now x (by decide) (by decide)).2.2]; exact sresume_any hW hs now hb)
  have RG := Lib.hid (fun (W : World) (hW : IsR W D dc A ac S sc s) => rgive_any s hs D dl dc A ac S sc kind now x (by omega) W hdl hW)
  have H := Lib.hid h
  have HR := Lib.hid hr
  have hfl := Lib.hid (show ((Stn.giveF s kind now x)).length ≤ 64 from giveF_len s kind now x hs (by omega))
  have h3 := Lib.hid (fun i hi => (h.three_lt (i := i) hi).2)
  have hb := h.lt
  obtain ⟨s', hs'⟩ : ∃ s', s' = (Stn.give s kind now x) := ⟨_, rfl⟩
  obtain ⟨fr, hfr⟩ : ∃ fr, fr = (Stn.giveF s kind now x) := ⟨_, rfl⟩
  obtain ⟨er, her⟩ : ∃ er, er = Stn.giveE s kind now x := ⟨_, rfl⟩
  rw [← hs', ← hfr, ← her] at ST RG
  rw [← hfr] at hfl
  rw [← hs', ← hfr]
  have z1 : (kind == 1) = false := by rw [hk]; rfl
  have z2 : (kind == 2) = false := by rw [hk]; rfl
  have z3 : (kind == 3) = false := by rw [hk]; rfl
  have z4 : (kind == 4) = false := by rw [hk]; rfl
  have z5 : (kind == 5) = true := by rw [hk]; rfl
  have z6 : (kind == 6) = false := by rw [hk]; rfl
  have z8 : (kind == 8) = false := by rw [hk]; rfl
  clear hk
  clear h hr hs hdl hs' hfr her
  go_enter Try.func11, Try.ntmps11
  go_wp2_with fail
  generalize hV : World.alloc _ _ = V
  have k0 : V.heap[w.heap.size]? = some (.cells #[.int .i64 s.again, .int .i64 s.st, .int .i64 s.now, .int .i64 s.seq, .bool s.some, .int .i64 s.prog, .int .i64 s.cmd, .slice D dl dc, .int .i64 s.sent, .slice A s.n ac, .slice S s.n sc] 29 (0, 0)) := by rw [← hV]; exact blk_alloc (blk_alloc (heap_new _ _) _) _
  have k1 : V.heap[w.heap.size + 1]? = some (.cells #[.int .i64 kind, .int .i64 now, .int .i64 x, .int .i64 fk, .int .i64 ff, .int .i64 ft, .int .i64 fs, .slice FD fn fc] 42 (0, 0)) := by rw [← hV]; exact blk_alloc (heap_new' _ _ _ (by simp)) _
  have k2 : V.heap[w.heap.size + 2]? = some (.cells #[.int .i64 0, .int .i64 0, .int .i64 0, .int .i64 0, .bool false, .int .i64 0, .int .i64 0, .slice none 0 0, .int .i64 0, .slice none 0 0, .slice none 0 0] 29 (0, 0)) := by rw [← hV]; exact heap_new' _ _ _ (by simp)
  have HB := Lib.hid (show Below w.heap.size w V from by rw [← hV]; exact (by repeat (first | (with_reducible exact Below.refl _ _) | (with_reducible refine Below.drew ?_) | (with_reducible refine below_drewN ?_ _) | ((with_reducible refine Below.alloc ?_ ?_ _); rotate_left; (first | omega | (simp <;> omega)); rotate_right) | ((with_reducible refine Below.setCell ?_ ?_ _); rotate_left; (first | omega | (simp <;> omega)); rotate_right) | (with_reducible assumption) | (refine Below.trans ?_ (Below.mono (by assumption) ?_); rotate_left; (first | omega | (simp <;> omega)); rotate_right))))
  clear hV
  refine (ST.out _ (H.out.below HB.out (Nat.le_refl _)) (Nat.le_trans hbase HB.out.size)).mono ?_
  rintro e w1 ⟨v, MA1, mc1, rfl, hS1, hK1, hR1, hM1⟩
  have hn3 : ∀ j, w.heap.size ≤ j → ¬ Three b MA RA j := fun j hj hh => by have := h3.out j hh; omega
  have j0 := blk_keep k0 hK1 (hn3 _ (by omega))
  have j1 := blk_keep k1 hK1 (hn3 _ (by omega))
  have j2 := blk_keep k2 hK1 (hn3 _ (by omega))
  have HS1 := Lib.hid hS1
  have HK1 := Lib.hid ((Keeps.of_below (S := Three b MA RA) HB.out).trans hK1 (fun _ _ h => h))
  have HR1 := Lib.hid (hR1.more HB.out.size)
  have HM1 := Lib.hid hM1
  have hzV := HB.out.size
  have hz1 : V.heap.size ≤ w1.heap.size := hK1.size
  have HRR := Lib.hid (show IsR w1 D dc A ac S sc s from by
    have hq := HR.out.below HB.out (Nat.le_refl _)
    have hSV := H.out.below HB.out (Nat.le_refl _)
    exact hq.kept hK1 (fun g hg => hSV.away (hq.dr.ty hg) (by decide) (by decide) (by decide)) (fun g hg => hSV.away (hq.ar.ty hg) (by decide) (by decide) (by decide)) (fun g hg => hSV.away (hq.sr.ty hg) (by decide) (by decide) (by decide)))
  clear k0 k1 k2 hS1 hK1 hR1 hM1
  have ca_0 := blk_cell j0 0 rfl; have fa_0 := blk_free j0 0; have ca_1 := blk_cell j0 1 rfl; have fa_1 := blk_free j0 1; have ca_2 := blk_cell j0 2 rfl; have fa_2 := blk_free j0 2; have ca_3 := blk_cell j0 3 rfl; have fa_3 := blk_free j0 3; have ca_4 := blk_cell j0 4 rfl; have fa_4 := blk_free j0 4; have ca_5 := blk_cell j0 5 rfl; have fa_5 := blk_free j0 5; have ca_6 := blk_cell j0 6 rfl; have fa_6 := blk_free j0 6; have ca_7 := blk_cell j0 7 rfl; have fa_7 := blk_free j0 7; have ca_8 := blk_cell j0 8 rfl; have fa_8 := blk_free j0 8; have ca_9 := blk_cell j0 9 rfl; have fa_9 := blk_free j0 9; have ca_10 := blk_cell j0 10 rfl; have fa_10 := blk_free j0 10; have la := lt_of_block j0
  have cb_0 := blk_cell j1 0 rfl; have fb_0 := blk_free j1 0; have cb_1 := blk_cell j1 1 rfl; have fb_1 := blk_free j1 1; have cb_2 := blk_cell j1 2 rfl; have fb_2 := blk_free j1 2; have cb_3 := blk_cell j1 3 rfl; have fb_3 := blk_free j1 3; have cb_4 := blk_cell j1 4 rfl; have fb_4 := blk_free j1 4; have cb_5 := blk_cell j1 5 rfl; have fb_5 := blk_free j1 5; have cb_6 := blk_cell j1 6 rfl; have fb_6 := blk_free j1 6; have cb_7 := blk_cell j1 7 rfl; have fb_7 := blk_free j1 7; have lb := lt_of_block j1
  have cc_0 := blk_cell j2 0 rfl; have fc_0 := blk_free j2 0; have cc_1 := blk_cell j2 1 rfl; have fc_1 := blk_free j2 1; have cc_2 := blk_cell j2 2 rfl; have fc_2 := blk_free j2 2; have cc_3 := blk_cell j2 3 rfl; have fc_3 := blk_free j2 3; have cc_4 := blk_cell j2 4 rfl; have fc_4 := blk_free j2 4; have cc_5 := blk_cell j2 5 rfl; have fc_5 := blk_free j2 5; have cc_6 := blk_cell j2 6 rfl; have fc_6 := blk_free j2 6; have cc_7 := blk_cell j2 7 rfl; have fc_7 := blk_free j2 7; have cc_8 := blk_cell j2 8 rfl; have fc_8 := blk_free j2 8; have cc_9 := blk_cell j2 9 rfl; have fc_9 := blk_free j2 9; have cc_10 := blk_cell j2 10 rfl; have fc_10 := blk_free j2 10; have lc := lt_of_block j2
  go_wp2_with fail
  refine (RG.out _ HRR.out).mono ?_
  rintro e w2 ⟨v2, D2, dc2, A2, ac2, S2, sc2, rfl, hI2, hR2, hB2, hD2⟩
  have l2 := blk_below (q := w.heap.size + 2) j2 hB2 (lt_of_block j2)
  have HI2 := Lib.hid hI2
  have HB2 := Lib.hid hB2
  have HR2 := Lib.hid hR2
  have HD2 := Lib.hid hD2
  have HR12 := Lib.hid (HR1.out.below hB2 (Nat.le_refl _))
  have hz2 : w1.heap.size ≤ w2.heap.size := hB2.size
  obtain ⟨A8, c8, hv8⟩ := HR12.out.form
  obtain ⟨A9, c9, hv9⟩ := HR2.out.form
  subst hv8; subst hv9
  obtain ⟨dl2, hdl2⟩ : ∃ dl2, dl2 = (Stn.data s').length := ⟨_, rfl⟩
  have HDL2 := Lib.hid hdl2
  obtain ⟨nf, hnf⟩ : ∃ nf, nf = fr.length := ⟨_, rfl⟩
  have HNF := Lib.hid hnf
  simp only [rsl, ← hdl2, ← hnf]
  clear ca_0 fa_0 ca_1 fa_1 ca_2 fa_2 ca_3 fa_3 ca_4 fa_4 ca_5 fa_5 ca_6 fa_6 ca_7 fa_7 ca_8 fa_8 ca_9 fa_9 ca_10 fa_10
  clear cb_0 fb_0 cb_1 fb_1 cb_2 fb_2 cb_3 fb_3 cb_4 fb_4 cb_5 fb_5 cb_6 fb_6 cb_7 fb_7
  clear cc_0 fc_0 cc_1 fc_1 cc_2 fc_2 cc_3 fc_3 cc_4 fc_4 cc_5 fc_5 cc_6 fc_6 cc_7 fc_7 cc_8 fc_8 cc_9 fc_9 cc_10 fc_10
  have SM := Lib.hid (fun (W : World) (hW : Below w2.heap.size w2 W) => samef_any A8 A9 fr.length fr.length c8 c9 fr fr W (by have := hfl.out; omega) (by have := hfl.out; omega) (HR12.out.below hW (Nat.le_refl _)).rf (HR2.out.below hW (Nat.le_refl _)).rf)
  rw [frsEq_iff.2 rfl] at SM
  simp only [← hnf] at SM
  clear la lb lc j0 j1 hI2 hB2 hR2 hD2 hdl2 hnf
  go_wp2_with fail
  generalize hV : World.alloc _ _ = V4
  have q0 : V4.heap[w2.heap.size]? = some (.cells #[.int .i64 s'.again, .int .i64 s'.st, .int .i64 s'.now, .int .i64 s'.seq, .bool s'.some, .int .i64 s'.prog, .int .i64 s'.cmd, .slice D2 dl2 dc2, .int .i64 s'.sent, .slice A2 s'.n ac2, .slice S2 s'.n sc2] 29 (0, 0)) := by rw [← hV]; exact heap_new' _ _ _ rfl
  have q2 : V4.heap[w.heap.size + 2]? = some (.cells #[.int .i64 0, .int .i64 0, .int .i64 0, .int .i64 0, .bool false, .int .i64 0, .int .i64 0, .slice none 0 0, .int .i64 0, .slice none 0 0, .slice none 0 0] 29 (0, 0)) := by rw [← hV]; exact blk_alloc l2 _
  have HV4 := Lib.hid (show Below w2.heap.size w2 V4 from by rw [← hV]; exact (by repeat (first | (with_reducible exact Below.refl _ _) | (with_reducible refine Below.drew ?_) | (with_reducible refine below_drewN ?_ _) | ((with_reducible refine Below.alloc ?_ ?_ _); rotate_left; (first | omega | (simp <;> omega)); rotate_right) | ((with_reducible refine Below.setCell ?_ ?_ _); rotate_left; (first | omega | (simp <;> omega)); rotate_right) | (with_reducible assumption) | (refine Below.trans ?_ (Below.mono (by assumption) ?_); rotate_left; (first | omega | (simp <;> omega)); rotate_right))))
  have hz4 : V4.heap.size = w2.heap.size + 1 := by rw [← hV]; exact Array.size_push _
  clear hV l2
  have hsz2 : w.heap.size + 2 < w2.heap.size := by have := lt_of_block j2; omega
  have n1 : ¬ (w.heap.size + 1 + 1 = w2.heap.size) := by omega
  have n2 : ¬ (w2.heap.size = w.heap.size + 1 + 1) := by omega
  have n3 : ¬ (w.heap.size + 2 = w2.heap.size) := by omega
  have n4 : ¬ (w2.heap.size = w.heap.size + 2) := by omega
  have ca_0 := blk_cell q0 0 rfl; have fa_0 := blk_free q0 0; have ca_1 := blk_cell q0 1 rfl; have fa_1 := blk_free q0 1; have ca_2 := blk_cell q0 2 rfl; have fa_2 := blk_free q0 2; have ca_3 := blk_cell q0 3 rfl; have fa_3 := blk_free q0 3; have ca_4 := blk_cell q0 4 rfl; have fa_4 := blk_free q0 4; have ca_5 := blk_cell q0 5 rfl; have fa_5 := blk_free q0 5; have ca_6 := blk_cell q0 6 rfl; have fa_6 := blk_free q0 6; have ca_7 := blk_cell q0 7 rfl; have fa_7 := blk_free q0 7; have ca_8 := blk_cell q0 8 rfl; have fa_8 := blk_free q0 8; have ca_9 := blk_cell q0 9 rfl; have fa_9 := blk_free q0 9; have ca_10 := blk_cell q0 10 rfl; have fa_10 := blk_free q0 10; have la := lt_of_block q0
  have cb_0 := blk_cell q2 0 rfl; have fb_0 := blk_free q2 0; have cb_1 := blk_cell q2 1 rfl; have fb_1 := blk_free q2 1; have cb_2 := blk_cell q2 2 rfl; have fb_2 := blk_free q2 2; have cb_3 := blk_cell q2 3 rfl; have fb_3 := blk_free q2 3; have cb_4 := blk_cell q2 4 rfl; have fb_4 := blk_free q2 4; have cb_5 := blk_cell q2 5 rfl; have fb_5 := blk_free q2 5; have cb_6 := blk_cell q2 6 rfl; have fb_6 := blk_free q2 6; have cb_7 := blk_cell q2 7 rfl; have fb_7 := blk_free q2 7; have cb_8 := blk_cell q2 8 rfl; have fb_8 := blk_free q2 8; have cb_9 := blk_cell q2 9 rfl; have fb_9 := blk_free q2 9; have cb_10 := blk_cell q2 10 rfl; have fb_10 := blk_free q2 10; have lb := lt_of_block q2
  go_region_held3 (fun w' => w'.cell? ⟨w2.heap.size, 0, none⟩ = some (.int .i64 s'.again) ∧ w'.cell? ⟨w2.heap.size, 1, none⟩ = some (.int .i64 s'.st) ∧ w'.cell? ⟨w2.heap.size, 2, none⟩ = some (.int .i64 s'.now) ∧ w'.cell? ⟨w2.heap.size, 3, none⟩ = some (.int .i64 s'.seq) ∧ w'.cell? ⟨w2.heap.size, 4, none⟩ = some (.bool s'.some) ∧ w'.cell? ⟨w2.heap.size, 5, none⟩ = some (.int .i64 s'.prog) ∧ w'.cell? ⟨w2.heap.size, 6, none⟩ = some (.int .i64 s'.cmd) ∧ w'.cell? ⟨w2.heap.size, 7, none⟩ = some (.slice D2 dl2 dc2) ∧ w'.cell? ⟨w2.heap.size, 8, none⟩ = some (.int .i64 s'.sent) ∧ w'.cell? ⟨w2.heap.size, 9, none⟩ = some (.slice A2 s'.n ac2) ∧ w'.cell? ⟨w2.heap.size, 10, none⟩ = some (.slice S2 s'.n sc2)) (first | (refine ⟨?_, ?_, ?_, ?_, ?_, ?_, ?_, ?_, ?_, ?_, ?_⟩ <;> simp [go_sem, *]; done) | go_keep) (first | (go_at_call 33; refine (SM.out _ (by first | exact HV4.out | exact HV4.out.drew)).mono ?_; rintro e w5 ⟨rfl, hb5⟩; have p0 := blk_below (q := w2.heap.size) (by repeat (first | (with_reducible assumption) | ((with_reducible apply blk_far); rotate_left; (first | omega | (simp <;> omega)); rotate_right) | (with_reducible apply blk_drew) | (with_reducible apply blk_drewN) | (with_reducible exact heap_new _ _) | ((with_reducible apply heap_new'); (first | rfl | (simp <;> fail))) | (with_reducible apply blk_alloc))) hb5 (by first | omega | (simp; done) | (simp; omega)); have p2 := blk_below (q := w.heap.size + 2) (by repeat (first | (with_reducible assumption) | ((with_reducible apply blk_far); rotate_left; (first | omega | (simp <;> omega)); rotate_right) | (with_reducible apply blk_drew) | (with_reducible apply blk_drewN) | (with_reducible exact heap_new _ _) | ((with_reducible apply heap_new'); (first | rfl | (simp <;> fail))) | (with_reducible apply blk_alloc))) hb5 (by first | omega | (simp; done) | (simp; omega)); have hv4 := HV4.out; have HB5 := Lib.hid (show Below w2.heap.size w2 w5 from (by repeat (first | (with_reducible exact Below.refl _ _) | (with_reducible refine Below.drew ?_) | (with_reducible refine below_drewN ?_ _) | ((with_reducible refine Below.alloc ?_ ?_ _); rotate_left; (first | omega | (simp <;> omega)); rotate_right) | ((with_reducible refine Below.setCell ?_ ?_ _); rotate_left; (first | omega | (simp <;> omega)); rotate_right) | (with_reducible assumption) | (refine Below.trans ?_ (Below.mono (by assumption) ?_); rotate_left; (first | omega | (simp <;> omega)); rotate_right)))); (have ce_0 := blk_cell p0 0 rfl; have fe_0 := blk_free p0 0; have ce_1 := blk_cell p0 1 rfl; have fe_1 := blk_free p0 1; have ce_2 := blk_cell p0 2 rfl; have fe_2 := blk_free p0 2; have ce_3 := blk_cell p0 3 rfl; have fe_3 := blk_free p0 3; have ce_4 := blk_cell p0 4 rfl; have fe_4 := blk_free p0 4; have ce_5 := blk_cell p0 5 rfl; have fe_5 := blk_free p0 5; have ce_6 := blk_cell p0 6 rfl; have fe_6 := blk_free p0 6; have ce_7 := blk_cell p0 7 rfl; have fe_7 := blk_free p0 7; have ce_8 := blk_cell p0 8 rfl; have fe_8 := blk_free p0 8; have ce_9 := blk_cell p0 9 rfl; have fe_9 := blk_free p0 9; have ce_10 := blk_cell p0 10 rfl; have fe_10 := blk_free p0 10; have le := lt_of_block p0); (have cg_0 := blk_cell p2 0 rfl; have fg_0 := blk_free p2 0; have cg_1 := blk_cell p2 1 rfl; have fg_1 := blk_free p2 1; have cg_2 := blk_cell p2 2 rfl; have fg_2 := blk_free p2 2; have cg_3 := blk_cell p2 3 rfl; have fg_3 := blk_free p2 3; have cg_4 := blk_cell p2 4 rfl; have fg_4 := blk_free p2 4; have cg_5 := blk_cell p2 5 rfl; have fg_5 := blk_free p2 5; have cg_6 := blk_cell p2 6 rfl; have fg_6 := blk_free p2 6; have cg_7 := blk_cell p2 7 rfl; have fg_7 := blk_free p2 7; have cg_8 := blk_cell p2 8 rfl; have fg_8 := blk_free p2 8; have cg_9 := blk_cell p2 9 rfl; have fg_9 := blk_free p2 9; have cg_10 := blk_cell p2 10 rfl; have fg_10 := blk_free p2 10; have lg := lt_of_block p2); clear hb5 hv4))
  go_wp2_with fail
  generalize hWf : World.setCell _ _ _ = Wf
  have hf : Wf.heap[w.heap.size + 2]? = some (.cells #[.int .i64 s'.again, .int .i64 s'.st, .int .i64 s'.now, .int .i64 s'.seq, .bool s'.some, .int .i64 s'.prog, .int .i64 s'.cmd, .slice D2 dl2 dc2, .int .i64 s'.sent, .slice A2 s'.n ac2, .slice S2 s'.n sc2] 29 (0, 0)) := by rw [← hWf]; exact (by apply Eq.trans; (repeat (first | (with_reducible assumption) | (with_reducible apply blk_set) | ((with_reducible apply blk_far); rotate_left; (first | omega | (simp <;> omega)); rotate_right) | (with_reducible apply blk_drew) | (with_reducible apply blk_drewN) | ((with_reducible apply heap_new'); (first | rfl | (simp <;> fail))) | (with_reducible apply blk_alloc))); (first | with_reducible rfl | (simp <;> fail) | rfl))
  have hK : Keeps (fun i => i = w.heap.size + 2) w5 Wf := by rw [← hWf]; (repeat (first | with_reducible exact Keeps.refl _ _ | (with_reducible refine Keeps.set1 ?_ _ _) | (with_reducible refine Keeps.drew ?_) | (with_reducible refine Keeps.drewN ?_ _) | (with_reducible refine Keeps.alloc ?_ _)))
  clear hWf
  clear ca_0 fa_0 ca_1 fa_1 ca_2 fa_2 ca_3 fa_3 ca_4 fa_4 ca_5 fa_5 ca_6 fa_6 ca_7 fa_7 ca_8 fa_8 ca_9 fa_9 ca_10 fa_10
  clear cb_0 fb_0 cb_1 fb_1 cb_2 fb_2 cb_3 fb_3 cb_4 fb_4 cb_5 fb_5 cb_6 fb_6 cb_7 fb_7 cb_8 fb_8 cb_9 fb_9 cb_10 fb_10
  clear ce_0 fe_0 ce_1 fe_1 ce_2 fe_2 ce_3 fe_3 ce_4 fe_4 ce_5 fe_5 ce_6 fe_6 ce_7 fe_7 ce_8 fe_8 ce_9 fe_9 ce_10 fe_10
  clear cg_0 fg_0 cg_1 fg_1 cg_2 fg_2 cg_3 fg_3 cg_4 fg_4 cg_5 fg_5 cg_6 fg_6 cg_7 fg_7 cg_8 fg_8 cg_9 fg_9 cg_10 fg_10
  clear la lb le lg
  have cm_0 := blk_cell hf 0 rfl; have fm_0 := blk_free hf 0; have cm_1 := blk_cell hf 1 rfl; have fm_1 := blk_free hf 1; have cm_2 := blk_cell hf 2 rfl; have fm_2 := blk_free hf 2; have cm_3 := blk_cell hf 3 rfl; have fm_3 := blk_free hf 3; have cm_4 := blk_cell hf 4 rfl; have fm_4 := blk_free hf 4; have cm_5 := blk_cell hf 5 rfl; have fm_5 := blk_free hf 5; have cm_6 := blk_cell hf 6 rfl; have fm_6 := blk_free hf 6; have cm_7 := blk_cell hf 7 rfl; have fm_7 := blk_free hf 7; have cm_8 := blk_cell hf 8 rfl; have fm_8 := blk_free hf 8; have cm_9 := blk_cell hf 9 rfl; have fm_9 := blk_free hf 9; have cm_10 := blk_cell hf 10 rfl; have fm_10 := blk_free hf 10; have lm := lt_of_block hf
  have hTy : ∀ i : Nat, i = w.heap.size + 2 → i < w5.heap.size → Ty w5 i 29 := fun i hi _ => by rw [hi]; exact ⟨_, p2⟩
  have hB15 : Below w1.heap.size w1 w5 := HB2.out.trans (HB5.out.mono hz2)
  have hK1f : Keeps (fun i => i = w.heap.size + 2) w1 Wf := (Keeps.of_below hB15).trans hK (fun _ _ h => h)
  refine bodyPost_ret (v := .tuple #[.agg #[.int .i64 s'.again, .int .i64 s'.st, .int .i64 s'.now, .int .i64 s'.seq, .bool s'.some, .int .i64 s'.prog, .int .i64 s'.cmd, .slice D2 dl2 dc2, .int .i64 s'.sent, .slice A2 s'.n ac2, .slice S2 s'.n sc2], .slice A8 nf c8, .bool true]) (by simp [results, Try.results11, go_sem, cm_0, cm_1, cm_2, cm_3, cm_4, cm_5, cm_6, cm_7, cm_8, cm_9, cm_10]) rfl ⟨.slice A8 nf c8, MA1, mc1, D2, dc2, A2, ac2, S2, sc2, w1, by rw [HDL2.out]; rfl, ?_, ?_, ?_, ?_, ?_, hK1f, ?_, ?_, ?_, ⟨_, j2⟩⟩
  · have hq := HS1.out.below hB15 (Nat.le_refl _)
    exact hq.kept hK (fun i hi e => hq.away ⟨_, p2⟩ (by decide) (by decide) (by decide) (e ▸ hi))
  · exact (HI2.out.below HB5.out (Nat.le_refl _)).keptT hK (fun i hi hl => ⟨_, hTy i hi hl, by decide, by decide, by decide⟩)
  · exact (HK1.out.trans (Keeps.of_below hB15) (fun _ _ h => h)).trans hK (fun i hi e => absurd hi (by omega))
  · rw [HNF.out]
    exact HR1.out
  · rw [HNF.out]
    exact (HR1.out.below hB15 (Nat.le_refl _)).keptT hK (fun i hi hl => ⟨_, hTy i hi hl, by decide, by decide⟩)
  · exact HK1.out.size
  · exact HM1.out.imp id (fun ⟨g, h1, h2⟩ => ⟨g, h1, by omega⟩)
  · exact HD2.out

theorem act_abort (base b mc rc : Nat) (MA RA : Option Addr) (s : Stn.St) (hs : Stn.Inv s) (D : Option Addr) (dl dc : Nat) (A : Option Addr) (ac : Nat) (S : Option Addr) (sc : Nat) (kind : Int) (now x fk ff ft fs : Int) (FD : Option Addr) (fn fc : Nat) (w : World) (hbase : base ≤ w.heap.size) (hdl : dl = (Stn.data s).length) (h : IsSt w base b MA mc RA rc s) (hr : IsR w D dc A ac S sc s) (hk : kind = 6) :
    Calls Try.prog 11 #[.pointer (some ⟨b, 0, none⟩), .agg #[.int .i64 s.again, .int .i64 s.st, .int .i64 s.now, .int .i64 s.seq, .bool s.some, .int .i64 s.prog, .int .i64 s.cmd, .slice D dl dc, .int .i64 s.sent, .slice A s.n ac, .slice S s.n sc], .agg #[.int .i64 kind, .int .i64 now, .int .i64 x, .int .i64 fk, .int .i64 ff, .int .i64 ft, .int .i64 fs, .slice FD fn fc]] w (ActPost base b MA RA rc D (Stn.give s kind now x) (Stn.giveF s kind now x) w) := by
  have ST := Lib.hid (fun (W : World) (hW : IsSt W base b MA mc RA rc s) (hb : base ≤ W.heap.size) => show Calls Try.prog 29 #[.pointer (some ⟨b, 0, none⟩), .int .i64 now] W (StPost base b MA RA rc (Stn.give s kind now x) (Stn.giveF s kind now x) (Stn.giveE s kind now x) W) from by rw [hk, (give_x s 6 now x (by decide) (by decide)).1, (give_x s 6 now x (by decide) (by decide)).2.1, (give_x s 6 now x (by decide) (by decide)).2.2]; exact sabort_any hW hs now hb)
  have RG := Lib.hid (fun (W : World) (hW : IsR W D dc A ac S sc s) => rgive_any s hs D dl dc A ac S sc kind now x (by omega) W hdl hW)
  have H := Lib.hid h
  have HR := Lib.hid hr
  have hfl := Lib.hid (show ((Stn.giveF s kind now x)).length ≤ 64 from giveF_len s kind now x hs (by omega))
  have h3 := Lib.hid (fun i hi => (h.three_lt (i := i) hi).2)
  have hb := h.lt
  obtain ⟨s', hs'⟩ : ∃ s', s' = (Stn.give s kind now x) := ⟨_, rfl⟩
  obtain ⟨fr, hfr⟩ : ∃ fr, fr = (Stn.giveF s kind now x) := ⟨_, rfl⟩
  obtain ⟨er, her⟩ : ∃ er, er = Stn.giveE s kind now x := ⟨_, rfl⟩
  rw [← hs', ← hfr, ← her] at ST RG
  rw [← hfr] at hfl
  rw [← hs', ← hfr]
  have z1 : (kind == 1) = false := by rw [hk]; rfl
  have z2 : (kind == 2) = false := by rw [hk]; rfl
  have z3 : (kind == 3) = false := by rw [hk]; rfl
  have z4 : (kind == 4) = false := by rw [hk]; rfl
  have z5 : (kind == 5) = false := by rw [hk]; rfl
  have z6 : (kind == 6) = true := by rw [hk]; rfl
  have z8 : (kind == 8) = false := by rw [hk]; rfl
  clear hk
  clear h hr hs hdl hs' hfr her
  go_enter Try.func11, Try.ntmps11
  go_wp2_with fail
  generalize hV : World.alloc _ _ = V
  have k0 : V.heap[w.heap.size]? = some (.cells #[.int .i64 s.again, .int .i64 s.st, .int .i64 s.now, .int .i64 s.seq, .bool s.some, .int .i64 s.prog, .int .i64 s.cmd, .slice D dl dc, .int .i64 s.sent, .slice A s.n ac, .slice S s.n sc] 29 (0, 0)) := by rw [← hV]; exact blk_alloc (blk_alloc (heap_new _ _) _) _
  have k1 : V.heap[w.heap.size + 1]? = some (.cells #[.int .i64 kind, .int .i64 now, .int .i64 x, .int .i64 fk, .int .i64 ff, .int .i64 ft, .int .i64 fs, .slice FD fn fc] 42 (0, 0)) := by rw [← hV]; exact blk_alloc (heap_new' _ _ _ (by simp)) _
  have k2 : V.heap[w.heap.size + 2]? = some (.cells #[.int .i64 0, .int .i64 0, .int .i64 0, .int .i64 0, .bool false, .int .i64 0, .int .i64 0, .slice none 0 0, .int .i64 0, .slice none 0 0, .slice none 0 0] 29 (0, 0)) := by rw [← hV]; exact heap_new' _ _ _ (by simp)
  have HB := Lib.hid (show Below w.heap.size w V from by rw [← hV]; exact (by repeat (first | (with_reducible exact Below.refl _ _) | (with_reducible refine Below.drew ?_) | (with_reducible refine below_drewN ?_ _) | ((with_reducible refine Below.alloc ?_ ?_ _); rotate_left; (first | omega | (simp <;> omega)); rotate_right) | ((with_reducible refine Below.setCell ?_ ?_ _); rotate_left; (first | omega | (simp <;> omega)); rotate_right) | (with_reducible assumption) | (refine Below.trans ?_ (Below.mono (by assumption) ?_); rotate_left; (first | omega | (simp <;> omega)); rotate_right))))
  clear hV
  refine (ST.out _ (H.out.below HB.out (Nat.le_refl _)) (Nat.le_trans hbase HB.out.size)).mono ?_
  rintro e w1 ⟨v, MA1, mc1, rfl, hS1, hK1, hR1, hM1⟩
  have hn3 : ∀ j, w.heap.size ≤ j → ¬ Three b MA RA j := fun j hj hh => by have := h3.out j hh; omega
  have j0 := blk_keep k0 hK1 (hn3 _ (by omega))
  have j1 := blk_keep k1 hK1 (hn3 _ (by omega))
  have j2 := blk_keep k2 hK1 (hn3 _ (by omega))
  have HS1 := Lib.hid hS1
  have HK1 := Lib.hid ((Keeps.of_below (S := Three b MA RA) HB.out).trans hK1 (fun _ _ h => h))
  have HR1 := Lib.hid (hR1.more HB.out.size)
  have HM1 := Lib.hid hM1
  have hzV := HB.out.size
  have hz1 : V.heap.size ≤ w1.heap.size := hK1.size
  have HRR := Lib.hid (show IsR w1 D dc A ac S sc s from by
    have hq := HR.out.below HB.out (Nat.le_refl _)
    have hSV := H.out.below HB.out (Nat.le_refl _)
    exact hq.kept hK1 (fun g hg => hSV.away (hq.dr.ty hg) (by decide) (by decide) (by decide)) (fun g hg => hSV.away (hq.ar.ty hg) (by decide) (by decide) (by decide)) (fun g hg => hSV.away (hq.sr.ty hg) (by decide) (by decide) (by decide)))
  clear k0 k1 k2 hS1 hK1 hR1 hM1
  have ca_0 := blk_cell j0 0 rfl; have fa_0 := blk_free j0 0; have ca_1 := blk_cell j0 1 rfl; have fa_1 := blk_free j0 1; have ca_2 := blk_cell j0 2 rfl; have fa_2 := blk_free j0 2; have ca_3 := blk_cell j0 3 rfl; have fa_3 := blk_free j0 3; have ca_4 := blk_cell j0 4 rfl; have fa_4 := blk_free j0 4; have ca_5 := blk_cell j0 5 rfl; have fa_5 := blk_free j0 5; have ca_6 := blk_cell j0 6 rfl; have fa_6 := blk_free j0 6; have ca_7 := blk_cell j0 7 rfl; have fa_7 := blk_free j0 7; have ca_8 := blk_cell j0 8 rfl; have fa_8 := blk_free j0 8; have ca_9 := blk_cell j0 9 rfl; have fa_9 := blk_free j0 9; have ca_10 := blk_cell j0 10 rfl; have fa_10 := blk_free j0 10; have la := lt_of_block j0
  have cb_0 := blk_cell j1 0 rfl; have fb_0 := blk_free j1 0; have cb_1 := blk_cell j1 1 rfl; have fb_1 := blk_free j1 1; have cb_2 := blk_cell j1 2 rfl; have fb_2 := blk_free j1 2; have cb_3 := blk_cell j1 3 rfl; have fb_3 := blk_free j1 3; have cb_4 := blk_cell j1 4 rfl; have fb_4 := blk_free j1 4; have cb_5 := blk_cell j1 5 rfl; have fb_5 := blk_free j1 5; have cb_6 := blk_cell j1 6 rfl; have fb_6 := blk_free j1 6; have cb_7 := blk_cell j1 7 rfl; have fb_7 := blk_free j1 7; have lb := lt_of_block j1
  have cc_0 := blk_cell j2 0 rfl; have fc_0 := blk_free j2 0; have cc_1 := blk_cell j2 1 rfl; have fc_1 := blk_free j2 1; have cc_2 := blk_cell j2 2 rfl; have fc_2 := blk_free j2 2; have cc_3 := blk_cell j2 3 rfl; have fc_3 := blk_free j2 3; have cc_4 := blk_cell j2 4 rfl; have fc_4 := blk_free j2 4; have cc_5 := blk_cell j2 5 rfl; have fc_5 := blk_free j2 5; have cc_6 := blk_cell j2 6 rfl; have fc_6 := blk_free j2 6; have cc_7 := blk_cell j2 7 rfl; have fc_7 := blk_free j2 7; have cc_8 := blk_cell j2 8 rfl; have fc_8 := blk_free j2 8; have cc_9 := blk_cell j2 9 rfl; have fc_9 := blk_free j2 9; have cc_10 := blk_cell j2 10 rfl; have fc_10 := blk_free j2 10; have lc := lt_of_block j2
  go_wp2_with fail
  refine (RG.out _ HRR.out).mono ?_
  rintro e w2 ⟨v2, D2, dc2, A2, ac2, S2, sc2, rfl, hI2, hR2, hB2, hD2⟩
  have l2 := blk_below (q := w.heap.size + 2) j2 hB2 (lt_of_block j2)
  have HI2 := Lib.hid hI2
  have HB2 := Lib.hid hB2
  have HR2 := Lib.hid hR2
  have HD2 := Lib.hid hD2
  have HR12 := Lib.hid (HR1.out.below hB2 (Nat.le_refl _))
  have hz2 : w1.heap.size ≤ w2.heap.size := hB2.size
  obtain ⟨A8, c8, hv8⟩ := HR12.out.form
  obtain ⟨A9, c9, hv9⟩ := HR2.out.form
  subst hv8; subst hv9
  obtain ⟨dl2, hdl2⟩ : ∃ dl2, dl2 = (Stn.data s').length := ⟨_, rfl⟩
  have HDL2 := Lib.hid hdl2
  obtain ⟨nf, hnf⟩ : ∃ nf, nf = fr.length := ⟨_, rfl⟩
  have HNF := Lib.hid hnf
  simp only [rsl, ← hdl2, ← hnf]
  clear ca_0 fa_0 ca_1 fa_1 ca_2 fa_2 ca_3 fa_3 ca_4 fa_4 ca_5 fa_5 ca_6 fa_6 ca_7 fa_7 ca_8 fa_8 ca_9 fa_9 ca_10 fa_10
  clear cb_0 fb_0 cb_1 fb_1 cb_2 fb_2 cb_3 fb_3 cb_4 fb_4 cb_5 fb_5 cb_6 fb_6 cb_7 fb_7
  clear cc_0 fc_0 cc_1 fc_1 cc_2 fc_2 cc_3 fc_3 cc_4 fc_4 cc_5 fc_5 cc_6 fc_6 cc_7 fc_7 cc_8 fc_8 cc_9 fc_9 cc_10 fc_10
  have SM := Lib.hid (fun (W : World) (hW : Below w2.heap.size w2 W) => samef_any A8 A9 fr.length fr.length c8 c9 fr fr W (by have := hfl.out; omega) (by have := hfl.out; omega) (HR12.out.below hW (Nat.le_refl _)).rf (HR2.out.below hW (Nat.le_refl _)).rf)
  rw [frsEq_iff.2 rfl] at SM
  simp only [← hnf] at SM
  clear la lb lc j0 j1 hI2 hB2 hR2 hD2 hdl2 hnf
  go_wp2_with fail
  generalize hV : World.alloc _ _ = V4
  have q0 : V4.heap[w2.heap.size]? = some (.cells #[.int .i64 s'.again, .int .i64 s'.st, .int .i64 s'.now, .int .i64 s'.seq, .bool s'.some, .int .i64 s'.prog, .int .i64 s'.cmd, .slice D2 dl2 dc2, .int .i64 s'.sent, .slice A2 s'.n ac2, .slice S2 s'.n sc2] 29 (0, 0)) := by rw [← hV]; exact heap_new' _ _ _ rfl
  have q2 : V4.heap[w.heap.size + 2]? = some (.cells #[.int .i64 0, .int .i64 0, .int .i64 0, .int .i64 0, .bool false, .int .i64 0, .int .i64 0, .slice none 0 0, .int .i64 0, .slice none 0 0, .slice none 0 0] 29 (0, 0)) := by rw [← hV]; exact blk_alloc l2 _
  have HV4 := Lib.hid (show Below w2.heap.size w2 V4 from by rw [← hV]; exact (by repeat (first | (with_reducible exact Below.refl _ _) | (with_reducible refine Below.drew ?_) | (with_reducible refine below_drewN ?_ _) | ((with_reducible refine Below.alloc ?_ ?_ _); rotate_left; (first | omega | (simp <;> omega)); rotate_right) | ((with_reducible refine Below.setCell ?_ ?_ _); rotate_left; (first | omega | (simp <;> omega)); rotate_right) | (with_reducible assumption) | (refine Below.trans ?_ (Below.mono (by assumption) ?_); rotate_left; (first | omega | (simp <;> omega)); rotate_right))))
  have hz4 : V4.heap.size = w2.heap.size + 1 := by rw [← hV]; exact Array.size_push _
  clear hV l2
  have hsz2 : w.heap.size + 2 < w2.heap.size := by have := lt_of_block j2; omega
  have n1 : ¬ (w.heap.size + 1 + 1 = w2.heap.size) := by omega
  have n2 : ¬ (w2.heap.size = w.heap.size + 1 + 1) := by omega
  have n3 : ¬ (w.heap.size + 2 = w2.heap.size) := by omega
  have n4 : ¬ (w2.heap.size = w.heap.size + 2) := by omega
  have ca_0 := blk_cell q0 0 rfl; have fa_0 := blk_free q0 0; have ca_1 := blk_cell q0 1 rfl; have fa_1 := blk_free q0 1; have ca_2 := blk_cell q0 2 rfl; have fa_2 := blk_free q0 2; have ca_3 := blk_cell q0 3 rfl; have fa_3 := blk_free q0 3; have ca_4 := blk_cell q0 4 rfl; have fa_4 := blk_free q0 4; have ca_5 := blk_cell q0 5 rfl; have fa_5 := blk_free q0 5; have ca_6 := blk_cell q0 6 rfl; have fa_6 := blk_free q0 6; have ca_7 := blk_cell q0 7 rfl; have fa_7 := blk_free q0 7; have ca_8 := blk_cell q0 8 rfl; have fa_8 := blk_free q0 8; have ca_9 := blk_cell q0 9 rfl; have fa_9 := blk_free q0 9; have ca_10 := blk_cell q0 10 rfl; have fa_10 := blk_free q0 10; have la := lt_of_block q0
  have cb_0 := blk_cell q2 0 rfl; have fb_0 := blk_free q2 0; have cb_1 := blk_cell q2 1 rfl; have fb_1 := blk_free q2 1; have cb_2 := blk_cell q2 2 rfl; have fb_2 := blk_free q2 2; have cb_3 := blk_cell q2 3 rfl; have fb_3 := blk_free q2 3; have cb_4 := blk_cell q2 4 rfl; have fb_4 := blk_free q2 4; have cb_5 := blk_cell q2 5 rfl; have fb_5 := blk_free q2 5; have cb_6 := blk_cell q2 6 rfl; have fb_6 := blk_free q2 6; have cb_7 := blk_cell q2 7 rfl; have fb_7 := blk_free q2 7; have cb_8 := blk_cell q2 8 rfl; have fb_8 := blk_free q2 8; have cb_9 := blk_cell q2 9 rfl; have fb_9 := blk_free q2 9; have cb_10 := blk_cell q2 10 rfl; have fb_10 := blk_free q2 10; have lb := lt_of_block q2
  go_region_held3 (fun w' => w'.cell? ⟨w2.heap.size, 0, none⟩ = some (.int .i64 s'.again) ∧ w'.cell? ⟨w2.heap.size, 1, none⟩ = some (.int .i64 s'.st) ∧ w'.cell? ⟨w2.heap.size, 2, none⟩ = some (.int .i64 s'.now) ∧ w'.cell? ⟨w2.heap.size, 3, none⟩ = some (.int .i64 s'.seq) ∧ w'.cell? ⟨w2.heap.size, 4, none⟩ = some (.bool s'.some) ∧ w'.cell? ⟨w2.heap.size, 5, none⟩ = some (.int .i64 s'.prog) ∧ w'.cell? ⟨w2.heap.size, 6, none⟩ = some (.int .i64 s'.cmd) ∧ w'.cell? ⟨w2.heap.size, 7, none⟩ = some (.slice D2 dl2 dc2) ∧ w'.cell? ⟨w2.heap.size, 8, none⟩ = some (.int .i64 s'.sent) ∧ w'.cell? ⟨w2.heap.size, 9, none⟩ = some (.slice A2 s'.n ac2) ∧ w'.cell? ⟨w2.heap.size, 10, none⟩ = some (.slice S2 s'.n sc2)) (first | (refine ⟨?_, ?_, ?_, ?_, ?_, ?_, ?_, ?_, ?_, ?_, ?_⟩ <;> simp [go_sem, *]; done) | go_keep) (first | (go_at_call 33; refine (SM.out _ (by first | exact HV4.out | exact HV4.out.drew)).mono ?_; rintro e w5 ⟨rfl, hb5⟩; have p0 := blk_below (q := w2.heap.size) (by repeat (first | (with_reducible assumption) | ((with_reducible apply blk_far); rotate_left; (first | omega | (simp <;> omega)); rotate_right) | (with_reducible apply blk_drew) | (with_reducible apply blk_drewN) | (with_reducible exact heap_new _ _) | ((with_reducible apply heap_new'); (first | rfl | (simp <;> fail))) | (with_reducible apply blk_alloc))) hb5 (by first | omega | (simp; done) | (simp; omega)); have p2 := blk_below (q := w.heap.size + 2) (by repeat (first | (with_reducible assumption) | ((with_reducible apply blk_far); rotate_left; (first | omega | (simp <;> omega)); rotate_right) | (with_reducible apply blk_drew) | (with_reducible apply blk_drewN) | (with_reducible exact heap_new _ _) | ((with_reducible apply heap_new'); (first | rfl | (simp <;> fail))) | (with_reducible apply blk_alloc))) hb5 (by first | omega | (simp; done) | (simp; omega)); have hv4 := HV4.out; have HB5 := Lib.hid (show Below w2.heap.size w2 w5 from (by repeat (first | (with_reducible exact Below.refl _ _) | (with_reducible refine Below.drew ?_) | (with_reducible refine below_drewN ?_ _) | ((with_reducible refine Below.alloc ?_ ?_ _); rotate_left; (first | omega | (simp <;> omega)); rotate_right) | ((with_reducible refine Below.setCell ?_ ?_ _); rotate_left; (first | omega | (simp <;> omega)); rotate_right) | (with_reducible assumption) | (refine Below.trans ?_ (Below.mono (by assumption) ?_); rotate_left; (first | omega | (simp <;> omega)); rotate_right)))); (have ce_0 := blk_cell p0 0 rfl; have fe_0 := blk_free p0 0; have ce_1 := blk_cell p0 1 rfl; have fe_1 := blk_free p0 1; have ce_2 := blk_cell p0 2 rfl; have fe_2 := blk_free p0 2; have ce_3 := blk_cell p0 3 rfl; have fe_3 := blk_free p0 3; have ce_4 := blk_cell p0 4 rfl; have fe_4 := blk_free p0 4; have ce_5 := blk_cell p0 5 rfl; have fe_5 := blk_free p0 5; have ce_6 := blk_cell p0 6 rfl; have fe_6 := blk_free p0 6; have ce_7 := blk_cell p0 7 rfl; have fe_7 := blk_free p0 7; have ce_8 := blk_cell p0 8 rfl; have fe_8 := blk_free p0 8; have ce_9 := blk_cell p0 9 rfl; have fe_9 := blk_free p0 9; have ce_10 := blk_cell p0 10 rfl; have fe_10 := blk_free p0 10; have le := lt_of_block p0); (have cg_0 := blk_cell p2 0 rfl; have fg_0 := blk_free p2 0; have cg_1 := blk_cell p2 1 rfl; have fg_1 := blk_free p2 1; have cg_2 := blk_cell p2 2 rfl; have fg_2 := blk_free p2 2; have cg_3 := blk_cell p2 3 rfl; have fg_3 := blk_free p2 3; have cg_4 := blk_cell p2 4 rfl; have fg_4 := blk_free p2 4; have cg_5 := blk_cell p2 5 rfl; have fg_5 := blk_free p2 5; have cg_6 := blk_cell p2 6 rfl; have fg_6 := blk_free p2 6; have cg_7 := blk_cell p2 7 rfl; have fg_7 := blk_free p2 7; have cg_8 := blk_cell p2 8 rfl; have fg_8 := blk_free p2 8; have cg_9 := blk_cell p2 9 rfl; have fg_9 := blk_free p2 9; have cg_10 := blk_cell p2 10 rfl; have fg_10 := blk_free p2 10; have lg := lt_of_block p2); clear hb5 hv4))
  go_wp2_with fail
  generalize hWf : World.setCell _ _ _ = Wf
  have hf : Wf.heap[w.heap.size + 2]? = some (.cells #[.int .i64 s'.again, .int .i64 s'.st, .int .i64 s'.now, .int .i64 s'.seq, .bool s'.some, .int .i64 s'.prog, .int .i64 s'.cmd, .slice D2 dl2 dc2, .int .i64 s'.sent, .slice A2 s'.n ac2, .slice S2 s'.n sc2] 29 (0, 0)) := by rw [← hWf]; exact (by apply Eq.trans; (repeat (first | (with_reducible assumption) | (with_reducible apply blk_set) | ((with_reducible apply blk_far); rotate_left; (first | omega | (simp <;> omega)); rotate_right) | (with_reducible apply blk_drew) | (with_reducible apply blk_drewN) | ((with_reducible apply heap_new'); (first | rfl | (simp <;> fail))) | (with_reducible apply blk_alloc))); (first | with_reducible rfl | (simp <;> fail) | rfl))
  have hK : Keeps (fun i => i = w.heap.size + 2) w5 Wf := by rw [← hWf]; (repeat (first | with_reducible exact Keeps.refl _ _ | (with_reducible refine Keeps.set1 ?_ _ _) | (with_reducible refine Keeps.drew ?_) | (with_reducible refine Keeps.drewN ?_ _) | (with_reducible refine Keeps.alloc ?_ _)))
  clear hWf
  clear ca_0 fa_0 ca_1 fa_1 ca_2 fa_2 ca_3 fa_3 ca_4 fa_4 ca_5 fa_5 ca_6 fa_6 ca_7 fa_7 ca_8 fa_8 ca_9 fa_9 ca_10 fa_10
  clear cb_0 fb_0 cb_1 fb_1 cb_2 fb_2 cb_3 fb_3 cb_4 fb_4 cb_5 fb_5 cb_6 fb_6 cb_7 fb_7 cb_8 fb_8 cb_9 fb_9 cb_10 fb_10
  clear ce_0 fe_0 ce_1 fe_1 ce_2 fe_2 ce_3 fe_3 ce_4 fe_4 ce_5 fe_5 ce_6 fe_6 ce_7 fe_7 ce_8 fe_8 ce_9 fe_9 ce_10 fe_10
  clear cg_0 fg_0 cg_1 fg_1 cg_2 fg_2 cg_3 fg_3 cg_4 fg_4 cg_5 fg_5 cg_6 fg_6 cg_7 fg_7 cg_8 fg_8 cg_9 fg_9 cg_10 fg_10
  clear la lb le lg
  have cm_0 := blk_cell hf 0 rfl; have fm_0 := blk_free hf 0; have cm_1 := blk_cell hf 1 rfl; have fm_1 := blk_free hf 1; have cm_2 := blk_cell hf 2 rfl; have fm_2 := blk_free hf 2; have cm_3 := blk_cell hf 3 rfl; have fm_3 := blk_free hf 3; have cm_4 := blk_cell hf 4 rfl; have fm_4 := blk_free hf 4; have cm_5 := blk_cell hf 5 rfl; have fm_5 := blk_free hf 5; have cm_6 := blk_cell hf 6 rfl; have fm_6 := blk_free hf 6; have cm_7 := blk_cell hf 7 rfl; have fm_7 := blk_free hf 7; have cm_8 := blk_cell hf 8 rfl; have fm_8 := blk_free hf 8; have cm_9 := blk_cell hf 9 rfl; have fm_9 := blk_free hf 9; have cm_10 := blk_cell hf 10 rfl; have fm_10 := blk_free hf 10; have lm := lt_of_block hf
  have hTy : ∀ i : Nat, i = w.heap.size + 2 → i < w5.heap.size → Ty w5 i 29 := fun i hi _ => by rw [hi]; exact ⟨_, p2⟩
  have hB15 : Below w1.heap.size w1 w5 := HB2.out.trans (HB5.out.mono hz2)
  have hK1f : Keeps (fun i => i = w.heap.size + 2) w1 Wf := (Keeps.of_below hB15).trans hK (fun _ _ h => h)
  refine bodyPost_ret (v := .tuple #[.agg #[.int .i64 s'.again, .int .i64 s'.st, .int .i64 s'.now, .int .i64 s'.seq, .bool s'.some, .int .i64 s'.prog, .int .i64 s'.cmd, .slice D2 dl2 dc2, .int .i64 s'.sent, .slice A2 s'.n ac2, .slice S2 s'.n sc2], .slice A8 nf c8, .bool true]) (by simp [results, Try.results11, go_sem, cm_0, cm_1, cm_2, cm_3, cm_4, cm_5, cm_6, cm_7, cm_8, cm_9, cm_10]) rfl ⟨.slice A8 nf c8, MA1, mc1, D2, dc2, A2, ac2, S2, sc2, w1, by rw [HDL2.out]; rfl, ?_, ?_, ?_, ?_, ?_, hK1f, ?_, ?_, ?_, ⟨_, j2⟩⟩
  · have hq := HS1.out.below hB15 (Nat.le_refl _)
    exact hq.kept hK (fun i hi e => hq.away ⟨_, p2⟩ (by decide) (by decide) (by decide) (e ▸ hi))
  · exact (HI2.out.below HB5.out (Nat.le_refl _)).keptT hK (fun i hi hl => ⟨_, hTy i hi hl, by decide, by decide, by decide⟩)
  · exact (HK1.out.trans (Keeps.of_below hB15) (fun _ _ h => h)).trans hK (fun i hi e => absurd hi (by omega))
  · rw [HNF.out]
    exact HR1.out
  · rw [HNF.out]
    exact (HR1.out.below hB15 (Nat.le_refl _)).keptT hK (fun i hi hl => ⟨_, hTy i hi hl, by decide, by decide⟩)
  · exact HK1.out.size
  · exact HM1.out.imp id (fun ⟨g, h1, h2⟩ => ⟨g, h1, by omega⟩)
  · exact HD2.out

end Go.Proofs.Ytiidkmnagfhgiaa

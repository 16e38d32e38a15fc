/- The chapter's examples hold: known() answers true. -/
import Derived.Test.YtfbkbpoabajgdaaKnowA
namespace Go.Proofs.Ytfbkbpoabajgdaa
open Go.RowKit
set_option maxHeartbeats 4000000
set_option linter.unusedSimpArgs false
set_option linter.unusedVariables false
set_option maxRecDepth 100000
/-- behind New -/
def KCut (w : World) (s2 s15 : Value) (wx : World) : Prop := ∃ b : Nat, s15 = .pointer (some ⟨b, 0, none⟩) ∧ s2 = .int .i64 0 ∧ w.heap.size ≤ b ∧ IsClk wx b 0 0 true false 0 0 ∧ Below w.heap.size w wx
theorem below_of_only1 {a w w' : World} {g : Nat} (h : Below a.heap.size a w) (k : w.grownBy w' (some g)) (hg : a.heap.size ≤ g) : Below a.heap.size a w' := below_of_only h k h.size hg
theorem known_true (w : World) : Calls Try.prog 12 #[] w fun e w' => e = .returned (.bool true) ∧ Below w.heap.size w w' := by
  go_enter Try.func12, Try.ntmps12
  go_wp2_with fail
  refine (kl1 _).mono ?_
  rintro e w' ⟨rfl, rfl⟩
  go_wp2_with fail
  refine (kl2 _).mono ?_
  rintro e w' ⟨rfl, rfl⟩
  go_wp2_with fail
  refine (kl3 _).mono ?_
  rintro e w' ⟨rfl, rfl⟩
  go_wp2_with fail
  refine (kg1 _).mono ?_
  rintro e wa ⟨rfl, hba⟩
  have hza := hba.size; try simp at hza
  have ha0 := blk_below (q := w.heap.size) (by repeat (first | (with_reducible assumption) | ((with_reducible apply blk_far); rotate_left; (first | omega | (simp <;> omega)); rotate_right) | (with_reducible apply blk_drew) | (with_reducible apply blk_drewN) | (with_reducible exact heap_new _ _) | ((with_reducible apply heap_new'); (first | rfl | (simp <;> fail))) | (with_reducible apply blk_alloc))) hba (by first | omega | (simp; done) | (simp; omega))
  have ca0_0 := blk_cell ha0 0 rfl; have fa0_0 := blk_free ha0 0; have ca0_1 := blk_cell ha0 1 rfl; have fa0_1 := blk_free ha0 1; have la0 := lt_of_block ha0
  go_wp2_with fail
  refine (kg2 _).mono ?_
  rintro e wb ⟨rfl, hbb⟩
  have hzb := hbb.size; try simp at hzb
  have hb0 := blk_below (q := w.heap.size) (by repeat (first | (with_reducible assumption) | ((with_reducible apply blk_far); rotate_left; (first | omega | (simp <;> omega)); rotate_right) | (with_reducible apply blk_drew) | (with_reducible apply blk_drewN) | (with_reducible exact heap_new _ _) | ((with_reducible apply heap_new'); (first | rfl | (simp <;> fail))) | (with_reducible apply blk_alloc))) hbb (by first | omega | (simp; done) | (simp; omega))
  have hb1 := blk_below (q := wa.heap.size) (by repeat (first | (with_reducible assumption) | ((with_reducible apply blk_far); rotate_left; (first | omega | (simp <;> omega)); rotate_right) | (with_reducible apply blk_drew) | (with_reducible apply blk_drewN) | (with_reducible exact heap_new _ _) | ((with_reducible apply heap_new'); (first | rfl | (simp <;> fail))) | (with_reducible apply blk_alloc))) hbb (by first | omega | (simp; done) | (simp; omega))
  have cb0_0 := blk_cell hb0 0 rfl; have fb0_0 := blk_free hb0 0; have cb0_1 := blk_cell hb0 1 rfl; have fb0_1 := blk_free hb0 1; have lb0 := lt_of_block hb0
  have cb1_0 := blk_cell hb1 0 rfl; have fb1_0 := blk_free hb1 0; have cb1_1 := blk_cell hb1 1 rfl; have fb1_1 := blk_free hb1 1; have lb1 := lt_of_block hb1
  go_wp2_with fail
  refine (kg3 _).mono ?_
  rintro e wc ⟨rfl, hbc⟩
  have hzc := hbc.size; try simp at hzc
  have hc0 := blk_below (q := w.heap.size) (by repeat (first | (with_reducible assumption) | ((with_reducible apply blk_far); rotate_left; (first | omega | (simp <;> omega)); rotate_right) | (with_reducible apply blk_drew) | (with_reducible apply blk_drewN) | (with_reducible exact heap_new _ _) | ((with_reducible apply heap_new'); (first | rfl | (simp <;> fail))) | (with_reducible apply blk_alloc))) hbc (by first | omega | (simp; done) | (simp; omega))
  have hc1 := blk_below (q := wa.heap.size) (by repeat (first | (with_reducible assumption) | ((with_reducible apply blk_far); rotate_left; (first | omega | (simp <;> omega)); rotate_right) | (with_reducible apply blk_drew) | (with_reducible apply blk_drewN) | (with_reducible exact heap_new _ _) | ((with_reducible apply heap_new'); (first | rfl | (simp <;> fail))) | (with_reducible apply blk_alloc))) hbc (by first | omega | (simp; done) | (simp; omega))
  have hc2 := blk_below (q := wb.heap.size) (by repeat (first | (with_reducible assumption) | ((with_reducible apply blk_far); rotate_left; (first | omega | (simp <;> omega)); rotate_right) | (with_reducible apply blk_drew) | (with_reducible apply blk_drewN) | (with_reducible exact heap_new _ _) | ((with_reducible apply heap_new'); (first | rfl | (simp <;> fail))) | (with_reducible apply blk_alloc))) hbc (by first | omega | (simp; done) | (simp; omega))
  have cc0_0 := blk_cell hc0 0 rfl; have fc0_0 := blk_free hc0 0; have cc0_1 := blk_cell hc0 1 rfl; have fc0_1 := blk_free hc0 1; have lc0 := lt_of_block hc0
  have cc1_0 := blk_cell hc1 0 rfl; have fc1_0 := blk_free hc1 0; have cc1_1 := blk_cell hc1 1 rfl; have fc1_1 := blk_free hc1 1; have lc1 := lt_of_block hc1
  have cc2_0 := blk_cell hc2 0 rfl; have fc2_0 := blk_free hc2 0; have cc2_1 := blk_cell hc2 1 rfl; have fc2_1 := blk_free hc2 1; have lc2 := lt_of_block hc2
  go_wp2_with fail
  refine (km1 _).mono ?_
  rintro e wd ⟨rfl, hbd⟩
  have hzd := hbd.size; try simp at hzd
  have hd0 := blk_below (q := w.heap.size) (by repeat (first | (with_reducible assumption) | ((with_reducible apply blk_far); rotate_left; (first | omega | (simp <;> omega)); rotate_right) | (with_reducible apply blk_drew) | (with_reducible apply blk_drewN) | (with_reducible exact heap_new _ _) | ((with_reducible apply heap_new'); (first | rfl | (simp <;> fail))) | (with_reducible apply blk_alloc))) hbd (by first | omega | (simp; done) | (simp; omega))
  have hd1 := blk_below (q := wa.heap.size) (by repeat (first | (with_reducible assumption) | ((with_reducible apply blk_far); rotate_left; (first | omega | (simp <;> omega)); rotate_right) | (with_reducible apply blk_drew) | (with_reducible apply blk_drewN) | (with_reducible exact heap_new _ _) | ((with_reducible apply heap_new'); (first | rfl | (simp <;> fail))) | (with_reducible apply blk_alloc))) hbd (by first | omega | (simp; done) | (simp; omega))
  have hd2 := blk_below (q := wb.heap.size) (by repeat (first | (with_reducible assumption) | ((with_reducible apply blk_far); rotate_left; (first | omega | (simp <;> omega)); rotate_right) | (with_reducible apply blk_drew) | (with_reducible apply blk_drewN) | (with_reducible exact heap_new _ _) | ((with_reducible apply heap_new'); (first | rfl | (simp <;> fail))) | (with_reducible apply blk_alloc))) hbd (by first | omega | (simp; done) | (simp; omega))
  have hd3 := blk_below (q := wc.heap.size) (by repeat (first | (with_reducible assumption) | ((with_reducible apply blk_far); rotate_left; (first | omega | (simp <;> omega)); rotate_right) | (with_reducible apply blk_drew) | (with_reducible apply blk_drewN) | (with_reducible exact heap_new _ _) | ((with_reducible apply heap_new'); (first | rfl | (simp <;> fail))) | (with_reducible apply blk_alloc))) hbd (by first | omega | (simp; done) | (simp; omega))
  have cd0_0 := blk_cell hd0 0 rfl; have fd0_0 := blk_free hd0 0; have cd0_1 := blk_cell hd0 1 rfl; have fd0_1 := blk_free hd0 1; have ld0 := lt_of_block hd0
  have cd1_0 := blk_cell hd1 0 rfl; have fd1_0 := blk_free hd1 0; have cd1_1 := blk_cell hd1 1 rfl; have fd1_1 := blk_free hd1 1; have ld1 := lt_of_block hd1
  have cd2_0 := blk_cell hd2 0 rfl; have fd2_0 := blk_free hd2 0; have cd2_1 := blk_cell hd2 1 rfl; have fd2_1 := blk_free hd2 1; have ld2 := lt_of_block hd2
  have cd3_0 := blk_cell hd3 0 rfl; have fd3_0 := blk_free hd3 0; have cd3_1 := blk_cell hd3 1 rfl; have fd3_1 := blk_free hd3 1; have ld3 := lt_of_block hd3
  go_wp2_with fail
  refine (km2 _).mono ?_
  rintro e we ⟨rfl, hbe⟩
  have hze := hbe.size; try simp at hze
  have he0 := blk_below (q := w.heap.size) (by repeat (first | (with_reducible assumption) | ((with_reducible apply blk_far); rotate_left; (first | omega | (simp <;> omega)); rotate_right) | (with_reducible apply blk_drew) | (with_reducible apply blk_drewN) | (with_reducible exact heap_new _ _) | ((with_reducible apply heap_new'); (first | rfl | (simp <;> fail))) | (with_reducible apply blk_alloc))) hbe (by first | omega | (simp; done) | (simp; omega))
  have he1 := blk_below (q := wa.heap.size) (by repeat (first | (with_reducible assumption) | ((with_reducible apply blk_far); rotate_left; (first | omega | (simp <;> omega)); rotate_right) | (with_reducible apply blk_drew) | (with_reducible apply blk_drewN) | (with_reducible exact heap_new _ _) | ((with_reducible apply heap_new'); (first | rfl | (simp <;> fail))) | (with_reducible apply blk_alloc))) hbe (by first | omega | (simp; done) | (simp; omega))
  have he2 := blk_below (q := wb.heap.size) (by repeat (first | (with_reducible assumption) | ((with_reducible apply blk_far); rotate_left; (first | omega | (simp <;> omega)); rotate_right) | (with_reducible apply blk_drew) | (with_reducible apply blk_drewN) | (with_reducible exact heap_new _ _) | ((with_reducible apply heap_new'); (first | rfl | (simp <;> fail))) | (with_reducible apply blk_alloc))) hbe (by first | omega | (simp; done) | (simp; omega))
  have he3 := blk_below (q := wc.heap.size) (by repeat (first | (with_reducible assumption) | ((with_reducible apply blk_far); rotate_left; (first | omega | (simp <;> omega)); rotate_right) | (with_reducible apply blk_drew) | (with_reducible apply blk_drewN) | (with_reducible exact heap_new _ _) | ((with_reducible apply heap_new'); (first | rfl | (simp <;> fail))) | (with_reducible apply blk_alloc))) hbe (by first | omega | (simp; done) | (simp; omega))
  have he4 := blk_below (q := wd.heap.size) (by repeat (first | (with_reducible assumption) | ((with_reducible apply blk_far); rotate_left; (first | omega | (simp <;> omega)); rotate_right) | (with_reducible apply blk_drew) | (with_reducible apply blk_drewN) | (with_reducible exact heap_new _ _) | ((with_reducible apply heap_new'); (first | rfl | (simp <;> fail))) | (with_reducible apply blk_alloc))) hbe (by first | omega | (simp; done) | (simp; omega))
  have ce0_0 := blk_cell he0 0 rfl; have fe0_0 := blk_free he0 0; have ce0_1 := blk_cell he0 1 rfl; have fe0_1 := blk_free he0 1; have le0 := lt_of_block he0
  have ce1_0 := blk_cell he1 0 rfl; have fe1_0 := blk_free he1 0; have ce1_1 := blk_cell he1 1 rfl; have fe1_1 := blk_free he1 1; have le1 := lt_of_block he1
  have ce2_0 := blk_cell he2 0 rfl; have fe2_0 := blk_free he2 0; have ce2_1 := blk_cell he2 1 rfl; have fe2_1 := blk_free he2 1; have le2 := lt_of_block he2
  have ce3_0 := blk_cell he3 0 rfl; have fe3_0 := blk_free he3 0; have ce3_1 := blk_cell he3 1 rfl; have fe3_1 := blk_free he3 1; have le3 := lt_of_block he3
  have ce4_0 := blk_cell he4 0 rfl; have fe4_0 := blk_free he4 0; have ce4_1 := blk_cell he4 1 rfl; have fe4_1 := blk_free he4 1; have le4 := lt_of_block he4
  go_wp2_with fail
  refine (is_yes _ _ _).mono ?_
  rintro e wf ⟨rfl, hbf⟩
  have hzf := hbf.size; try simp at hzf
  have hf0 := blk_below (q := w.heap.size) (by repeat (first | (with_reducible assumption) | ((with_reducible apply blk_far); rotate_left; (first | omega | (simp <;> omega)); rotate_right) | (with_reducible apply blk_drew) | (with_reducible apply blk_drewN) | (with_reducible exact heap_new _ _) | ((with_reducible apply heap_new'); (first | rfl | (simp <;> fail))) | (with_reducible apply blk_alloc))) hbf (by first | omega | (simp; done) | (simp; omega))
  have hf1 := blk_below (q := wa.heap.size) (by repeat (first | (with_reducible assumption) | ((with_reducible apply blk_far); rotate_left; (first | omega | (simp <;> omega)); rotate_right) | (with_reducible apply blk_drew) | (with_reducible apply blk_drewN) | (with_reducible exact heap_new _ _) | ((with_reducible apply heap_new'); (first | rfl | (simp <;> fail))) | (with_reducible apply blk_alloc))) hbf (by first | omega | (simp; done) | (simp; omega))
  have hf2 := blk_below (q := wb.heap.size) (by repeat (first | (with_reducible assumption) | ((with_reducible apply blk_far); rotate_left; (first | omega | (simp <;> omega)); rotate_right) | (with_reducible apply blk_drew) | (with_reducible apply blk_drewN) | (with_reducible exact heap_new _ _) | ((with_reducible apply heap_new'); (first | rfl | (simp <;> fail))) | (with_reducible apply blk_alloc))) hbf (by first | omega | (simp; done) | (simp; omega))
  have hf3 := blk_below (q := wc.heap.size) (by repeat (first | (with_reducible assumption) | ((with_reducible apply blk_far); rotate_left; (first | omega | (simp <;> omega)); rotate_right) | (with_reducible apply blk_drew) | (with_reducible apply blk_drewN) | (with_reducible exact heap_new _ _) | ((with_reducible apply heap_new'); (first | rfl | (simp <;> fail))) | (with_reducible apply blk_alloc))) hbf (by first | omega | (simp; done) | (simp; omega))
  have hf4 := blk_below (q := wd.heap.size) (by repeat (first | (with_reducible assumption) | ((with_reducible apply blk_far); rotate_left; (first | omega | (simp <;> omega)); rotate_right) | (with_reducible apply blk_drew) | (with_reducible apply blk_drewN) | (with_reducible exact heap_new _ _) | ((with_reducible apply heap_new'); (first | rfl | (simp <;> fail))) | (with_reducible apply blk_alloc))) hbf (by first | omega | (simp; done) | (simp; omega))
  have hf5 := blk_below (q := we.heap.size) (by repeat (first | (with_reducible assumption) | ((with_reducible apply blk_far); rotate_left; (first | omega | (simp <;> omega)); rotate_right) | (with_reducible apply blk_drew) | (with_reducible apply blk_drewN) | (with_reducible exact heap_new _ _) | ((with_reducible apply heap_new'); (first | rfl | (simp <;> fail))) | (with_reducible apply blk_alloc))) hbf (by first | omega | (simp; done) | (simp; omega))
  have cf0_0 := blk_cell hf0 0 rfl; have ff0_0 := blk_free hf0 0; have cf0_1 := blk_cell hf0 1 rfl; have ff0_1 := blk_free hf0 1; have lf0 := lt_of_block hf0
  have cf1_0 := blk_cell hf1 0 rfl; have ff1_0 := blk_free hf1 0; have cf1_1 := blk_cell hf1 1 rfl; have ff1_1 := blk_free hf1 1; have lf1 := lt_of_block hf1
  have cf2_0 := blk_cell hf2 0 rfl; have ff2_0 := blk_free hf2 0; have cf2_1 := blk_cell hf2 1 rfl; have ff2_1 := blk_free hf2 1; have lf2 := lt_of_block hf2
  have cf3_0 := blk_cell hf3 0 rfl; have ff3_0 := blk_free hf3 0; have cf3_1 := blk_cell hf3 1 rfl; have ff3_1 := blk_free hf3 1; have lf3 := lt_of_block hf3
  have cf4_0 := blk_cell hf4 0 rfl; have ff4_0 := blk_free hf4 0; have cf4_1 := blk_cell hf4 1 rfl; have ff4_1 := blk_free hf4 1; have lf4 := lt_of_block hf4
  have cf5_0 := blk_cell hf5 0 rfl; have ff5_0 := blk_free hf5 0; have cf5_1 := blk_cell hf5 1 rfl; have ff5_1 := blk_free hf5 1; have lf5 := lt_of_block hf5
  go_wp2_with fail
  refine (is_yes _ _ _).mono ?_
  rintro e wg ⟨rfl, hbg⟩
  have hzg := hbg.size; try simp at hzg
  have hg0 := blk_below (q := w.heap.size) (by repeat (first | (with_reducible assumption) | ((with_reducible apply blk_far); rotate_left; (first | omega | (simp <;> omega)); rotate_right) | (with_reducible apply blk_drew) | (with_reducible apply blk_drewN) | (with_reducible exact heap_new _ _) | ((with_reducible apply heap_new'); (first | rfl | (simp <;> fail))) | (with_reducible apply blk_alloc))) hbg (by first | omega | (simp; done) | (simp; omega))
  have hg1 := blk_below (q := wa.heap.size) (by repeat (first | (with_reducible assumption) | ((with_reducible apply blk_far); rotate_left; (first | omega | (simp <;> omega)); rotate_right) | (with_reducible apply blk_drew) | (with_reducible apply blk_drewN) | (with_reducible exact heap_new _ _) | ((with_reducible apply heap_new'); (first | rfl | (simp <;> fail))) | (with_reducible apply blk_alloc))) hbg (by first | omega | (simp; done) | (simp; omega))
  have hg2 := blk_below (q := wb.heap.size) (by repeat (first | (with_reducible assumption) | ((with_reducible apply blk_far); rotate_left; (first | omega | (simp <;> omega)); rotate_right) | (with_reducible apply blk_drew) | (with_reducible apply blk_drewN) | (with_reducible exact heap_new _ _) | ((with_reducible apply heap_new'); (first | rfl | (simp <;> fail))) | (with_reducible apply blk_alloc))) hbg (by first | omega | (simp; done) | (simp; omega))
  have hg3 := blk_below (q := wc.heap.size) (by repeat (first | (with_reducible assumption) | ((with_reducible apply blk_far); rotate_left; (first | omega | (simp <;> omega)); rotate_right) | (with_reducible apply blk_drew) | (with_reducible apply blk_drewN) | (with_reducible exact heap_new _ _) | ((with_reducible apply heap_new'); (first | rfl | (simp <;> fail))) | (with_reducible apply blk_alloc))) hbg (by first | omega | (simp; done) | (simp; omega))
  have hg4 := blk_below (q := wd.heap.size) (by repeat (first | (with_reducible assumption) | ((with_reducible apply blk_far); rotate_left; (first | omega | (simp <;> omega)); rotate_right) | (with_reducible apply blk_drew) | (with_reducible apply blk_drewN) | (with_reducible exact heap_new _ _) | ((with_reducible apply heap_new'); (first | rfl | (simp <;> fail))) | (with_reducible apply blk_alloc))) hbg (by first | omega | (simp; done) | (simp; omega))
  have hg5 := blk_below (q := we.heap.size) (by repeat (first | (with_reducible assumption) | ((with_reducible apply blk_far); rotate_left; (first | omega | (simp <;> omega)); rotate_right) | (with_reducible apply blk_drew) | (with_reducible apply blk_drewN) | (with_reducible exact heap_new _ _) | ((with_reducible apply heap_new'); (first | rfl | (simp <;> fail))) | (with_reducible apply blk_alloc))) hbg (by first | omega | (simp; done) | (simp; omega))
  have cg0_0 := blk_cell hg0 0 rfl; have fg0_0 := blk_free hg0 0; have cg0_1 := blk_cell hg0 1 rfl; have fg0_1 := blk_free hg0 1; have lg0 := lt_of_block hg0
  have cg1_0 := blk_cell hg1 0 rfl; have fg1_0 := blk_free hg1 0; have cg1_1 := blk_cell hg1 1 rfl; have fg1_1 := blk_free hg1 1; have lg1 := lt_of_block hg1
  have cg2_0 := blk_cell hg2 0 rfl; have fg2_0 := blk_free hg2 0; have cg2_1 := blk_cell hg2 1 rfl; have fg2_1 := blk_free hg2 1; have lg2 := lt_of_block hg2
  have cg3_0 := blk_cell hg3 0 rfl; have fg3_0 := blk_free hg3 0; have cg3_1 := blk_cell hg3 1 rfl; have fg3_1 := blk_free hg3 1; have lg3 := lt_of_block hg3
  have cg4_0 := blk_cell hg4 0 rfl; have fg4_0 := blk_free hg4 0; have cg4_1 := blk_cell hg4 1 rfl; have fg4_1 := blk_free hg4 1; have lg4 := lt_of_block hg4
  have cg5_0 := blk_cell hg5 0 rfl; have fg5_0 := blk_free hg5 0; have cg5_1 := blk_cell hg5 1 rfl; have fg5_1 := blk_free hg5 1; have lg5 := lt_of_block hg5
  go_wp2_with fail
  refine (is_yes _ _ _).mono ?_
  rintro e wh ⟨rfl, hbh⟩
  have hzh := hbh.size; try simp at hzh
  have hh0 := blk_below (q := w.heap.size) (by repeat (first | (with_reducible assumption) | ((with_reducible apply blk_far); rotate_left; (first | omega | (simp <;> omega)); rotate_right) | (with_reducible apply blk_drew) | (with_reducible apply blk_drewN) | (with_reducible exact heap_new _ _) | ((with_reducible apply heap_new'); (first | rfl | (simp <;> fail))) | (with_reducible apply blk_alloc))) hbh (by first | omega | (simp; done) | (simp; omega))
  have hh1 := blk_below (q := wa.heap.size) (by repeat (first | (with_reducible assumption) | ((with_reducible apply blk_far); rotate_left; (first | omega | (simp <;> omega)); rotate_right) | (with_reducible apply blk_drew) | (with_reducible apply blk_drewN) | (with_reducible exact heap_new _ _) | ((with_reducible apply heap_new'); (first | rfl | (simp <;> fail))) | (with_reducible apply blk_alloc))) hbh (by first | omega | (simp; done) | (simp; omega))
  have hh2 := blk_below (q := wb.heap.size) (by repeat (first | (with_reducible assumption) | ((with_reducible apply blk_far); rotate_left; (first | omega | (simp <;> omega)); rotate_right) | (with_reducible apply blk_drew) | (with_reducible apply blk_drewN) | (with_reducible exact heap_new _ _) | ((with_reducible apply heap_new'); (first | rfl | (simp <;> fail))) | (with_reducible apply blk_alloc))) hbh (by first | omega | (simp; done) | (simp; omega))
  have hh3 := blk_below (q := wc.heap.size) (by repeat (first | (with_reducible assumption) | ((with_reducible apply blk_far); rotate_left; (first | omega | (simp <;> omega)); rotate_right) | (with_reducible apply blk_drew) | (with_reducible apply blk_drewN) | (with_reducible exact heap_new _ _) | ((with_reducible apply heap_new'); (first | rfl | (simp <;> fail))) | (with_reducible apply blk_alloc))) hbh (by first | omega | (simp; done) | (simp; omega))
  have hh4 := blk_below (q := wd.heap.size) (by repeat (first | (with_reducible assumption) | ((with_reducible apply blk_far); rotate_left; (first | omega | (simp <;> omega)); rotate_right) | (with_reducible apply blk_drew) | (with_reducible apply blk_drewN) | (with_reducible exact heap_new _ _) | ((with_reducible apply heap_new'); (first | rfl | (simp <;> fail))) | (with_reducible apply blk_alloc))) hbh (by first | omega | (simp; done) | (simp; omega))
  have hh5 := blk_below (q := we.heap.size) (by repeat (first | (with_reducible assumption) | ((with_reducible apply blk_far); rotate_left; (first | omega | (simp <;> omega)); rotate_right) | (with_reducible apply blk_drew) | (with_reducible apply blk_drewN) | (with_reducible exact heap_new _ _) | ((with_reducible apply heap_new'); (first | rfl | (simp <;> fail))) | (with_reducible apply blk_alloc))) hbh (by first | omega | (simp; done) | (simp; omega))
  have ch0_0 := blk_cell hh0 0 rfl; have fh0_0 := blk_free hh0 0; have ch0_1 := blk_cell hh0 1 rfl; have fh0_1 := blk_free hh0 1; have lh0 := lt_of_block hh0
  have ch1_0 := blk_cell hh1 0 rfl; have fh1_0 := blk_free hh1 0; have ch1_1 := blk_cell hh1 1 rfl; have fh1_1 := blk_free hh1 1; have lh1 := lt_of_block hh1
  have ch2_0 := blk_cell hh2 0 rfl; have fh2_0 := blk_free hh2 0; have ch2_1 := blk_cell hh2 1 rfl; have fh2_1 := blk_free hh2 1; have lh2 := lt_of_block hh2
  have ch3_0 := blk_cell hh3 0 rfl; have fh3_0 := blk_free hh3 0; have ch3_1 := blk_cell hh3 1 rfl; have fh3_1 := blk_free hh3 1; have lh3 := lt_of_block hh3
  have ch4_0 := blk_cell hh4 0 rfl; have fh4_0 := blk_free hh4 0; have ch4_1 := blk_cell hh4 1 rfl; have fh4_1 := blk_free hh4 1; have lh4 := lt_of_block hh4
  have ch5_0 := blk_cell hh5 0 rfl; have fh5_0 := blk_free hh5 0; have ch5_1 := blk_cell hh5 1 rfl; have fh5_1 := blk_free hh5 1; have lh5 := lt_of_block hh5
  go_wp2_with fail
  refine (is_yes _ _ _).mono ?_
  rintro e wi ⟨rfl, hbi⟩
  have hzi := hbi.size; try simp at hzi
  have HB := (show Below w.heap.size w wi from (by repeat (first | (with_reducible exact Below.refl _ _) | (with_reducible refine Below.drew ?_) | (with_reducible refine below_drewN ?_ _) | ((with_reducible refine Below.alloc ?_ ?_ _); rotate_left; (first | omega | (simp <;> omega)); rotate_right) | ((with_reducible refine Below.setCell ?_ ?_ _); rotate_left; (first | omega | (simp <;> omega)); rotate_right) | (with_reducible assumption) | (refine Below.trans ?_ (Below.mono (by assumption) ?_); rotate_left; (first | omega | (simp <;> omega)); rotate_right))))
  clear hzi hbi fh5_1 ch5_1 fh5_0 ch5_0 lh5 hh5 fh4_1 ch4_1 fh4_0 ch4_0 lh4 hh4 fh3_1 ch3_1 fh3_0 ch3_0 lh3 hh3 fh2_1 ch2_1 fh2_0 ch2_0 lh2 hh2 fh1_1 ch1_1 fh1_0 ch1_0 lh1 hh1 fh0_1 ch0_1 fh0_0 ch0_0 lh0 hh0 hzh hbh fg5_1 cg5_1 fg5_0 cg5_0 lg5 hg5 fg4_1 cg4_1 fg4_0 cg4_0 lg4 hg4 fg3_1 cg3_1 fg3_0 cg3_0 lg3 hg3 fg2_1 cg2_1 fg2_0 cg2_0 lg2 hg2 fg1_1 cg1_1 fg1_0 cg1_0 lg1 hg1 fg0_1 cg0_1 fg0_0 cg0_0 lg0 hg0 hzg hbg ff5_1 cf5_1 ff5_0 cf5_0 lf5 hf5 ff4_1 cf4_1 ff4_0 cf4_0 lf4 hf4 ff3_1 cf3_1 ff3_0 cf3_0 lf3 hf3 ff2_1 cf2_1 ff2_0 cf2_0 lf2 hf2 ff1_1 cf1_1 ff1_0 cf1_0 lf1 hf1 ff0_1 cf0_1 ff0_0 cf0_0 lf0 hf0 hzf hbf fe4_1 ce4_1 fe4_0 ce4_0 le4 he4 fe3_1 ce3_1 fe3_0 ce3_0 le3 he3 fe2_1 ce2_1 fe2_0 ce2_0 le2 he2 fe1_1 ce1_1 fe1_0 ce1_0 le1 he1 fe0_1 ce0_1 fe0_0 ce0_0 le0 he0 hze hbe fd3_1 cd3_1 fd3_0 cd3_0 ld3 hd3 fd2_1 cd2_1 fd2_0 cd2_0 ld2 hd2 fd1_1 cd1_1 fd1_0 cd1_0 ld1 hd1 fd0_1 cd0_1 fd0_0 cd0_0 ld0 hd0 hzd hbd fc2_1 cc2_1 fc2_0 cc2_0 lc2 hc2 fc1_1 cc1_1 fc1_0 cc1_0 lc1 hc1 fc0_1 cc0_1 fc0_0 cc0_0 lc0 hc0 hzc hbc fb1_1 cb1_1 fb1_0 cb1_0 lb1 hb1 fb0_1 cb0_1 fb0_0 cb0_0 lb0 hb0 hzb hbb fa0_1 ca0_1 fa0_0 ca0_0 la0 ha0 hza hba
  have HZ := HB.size
  go_upto_region 14 with fail
  go_cut [2, 15] (fun s2 s15 wx => KCut w s2 s15 wx)
  case first =>
    go_wp2_with fail
    refine (new_yes _ _ (by omega)).mono ?_
    rintro e wj ⟨rfl, hkj, hbj⟩
    go_wp2_with fail
    go_meet
    exact ⟨_, rfl, rfl, by omega, hkj, (by repeat (first | (with_reducible exact Below.refl _ _) | (with_reducible refine Below.drew ?_) | (with_reducible refine below_drewN ?_ _) | ((with_reducible refine Below.alloc ?_ ?_ _); rotate_left; (first | omega | (simp <;> omega)); rotate_right) | ((with_reducible refine Below.setCell ?_ ?_ _); rotate_left; (first | omega | (simp <;> omega)); rotate_right) | (with_reducible assumption) | (refine Below.trans ?_ (Below.mono (by assumption) ?_); rotate_left; (first | omega | (simp <;> omega)); rotate_right)))⟩
  case rest =>
    obtain ⟨b, rfl, rfl, hbb, hk0, HB0⟩ := hcut
    clear HB HZ
    have hs0 := HB0.size
    have hlt0 := clk_lt hk0
    go_wp2_with fail
    refine (kadd1 b _ hk0).mono ?_
    rintro e v1 ⟨rfl, hk1, hg1⟩
    have HB1 : Below w.heap.size w v1 := below_of_only1 (k := hg1) (hg := hbb) (h := (by repeat (first | (with_reducible exact Below.refl _ _) | (with_reducible refine Below.drew ?_) | (with_reducible refine below_drewN ?_ _) | ((with_reducible refine Below.alloc ?_ ?_ _); rotate_left; (first | omega | (simp <;> omega)); rotate_right) | ((with_reducible refine Below.setCell ?_ ?_ _); rotate_left; (first | omega | (simp <;> omega)); rotate_right) | (with_reducible assumption) | (refine Below.trans ?_ (Below.mono (by assumption) ?_); rotate_left; (first | omega | (simp <;> omega)); rotate_right))))
    clear hg1
    clear HB0 hk0 hs0 hlt0
    have hs1 := HB1.size
    have hlt1 := clk_lt hk1
    go_wp2_with fail
    refine (reading_clk b 0 108 1002 1009 _ (by repeat (first | (with_reducible assumption) | (with_reducible refine clk_alloc ?_ _) | (with_reducible refine clk_drew ?_) | (with_reducible refine clk_drewN ?_ _) | ((with_reducible refine clk_far ?_ ?_ _); rotate_left; (first | omega | (simp <;> omega)); rotate_right)))).mono ?_
    rintro e v2 ⟨rfl, hv2⟩
    have hs := hv2.size
    try simp at hs
    have HB2 := (show Below w.heap.size w v2 from (by repeat (first | (with_reducible exact Below.refl _ _) | (with_reducible refine Below.drew ?_) | (with_reducible refine below_drewN ?_ _) | ((with_reducible refine Below.alloc ?_ ?_ _); rotate_left; (first | omega | (simp <;> omega)); rotate_right) | ((with_reducible refine Below.setCell ?_ ?_ _); rotate_left; (first | omega | (simp <;> omega)); rotate_right) | (with_reducible assumption) | (refine Below.trans ?_ (Below.mono (by assumption) ?_); rotate_left; (first | omega | (simp <;> omega)); rotate_right))))
    have hk2 := clk_below (show IsClk _ b 0 108 true true 1002 1009 from (by repeat (first | (with_reducible assumption) | (with_reducible refine clk_alloc ?_ _) | (with_reducible refine clk_drew ?_) | (with_reducible refine clk_drewN ?_ _) | ((with_reducible refine clk_far ?_ ?_ _); rotate_left; (first | omega | (simp <;> omega)); rotate_right)))) hv2 (by first | omega | (simp; done) | (simp; omega))
    clear hv2 hs
    clear HB1 hk1 hs1 hlt1
    have hs2 := HB2.size
    have hlt2 := clk_lt hk2
    go_wp2_with fail
    refine (at_range b 0 108 1002 1009 107 _ (by repeat (first | (with_reducible assumption) | (with_reducible refine clk_alloc ?_ _) | (with_reducible refine clk_drew ?_) | (with_reducible refine clk_drewN ?_ _) | ((with_reducible refine clk_far ?_ ?_ _); rotate_left; (first | omega | (simp <;> omega)); rotate_right))) (by omega)).mono ?_
    rintro e v3 ⟨rfl, hv3⟩
    have hs := hv3.size
    try simp at hs
    have HB3 := (show Below w.heap.size w v3 from (by repeat (first | (with_reducible exact Below.refl _ _) | (with_reducible refine Below.drew ?_) | (with_reducible refine below_drewN ?_ _) | ((with_reducible refine Below.alloc ?_ ?_ _); rotate_left; (first | omega | (simp <;> omega)); rotate_right) | ((with_reducible refine Below.setCell ?_ ?_ _); rotate_left; (first | omega | (simp <;> omega)); rotate_right) | (with_reducible assumption) | (refine Below.trans ?_ (Below.mono (by assumption) ?_); rotate_left; (first | omega | (simp <;> omega)); rotate_right))))
    have hk3 := clk_below (show IsClk _ b 0 108 true true 1002 1009 from (by repeat (first | (with_reducible assumption) | (with_reducible refine clk_alloc ?_ _) | (with_reducible refine clk_drew ?_) | (with_reducible refine clk_drewN ?_ _) | ((with_reducible refine clk_far ?_ ?_ _); rotate_left; (first | omega | (simp <;> omega)); rotate_right)))) hv3 (by first | omega | (simp; done) | (simp; omega))
    have hl3_0 := blk_below (q := v2.heap.size) (by repeat (first | (with_reducible assumption) | ((with_reducible apply blk_far); rotate_left; (first | omega | (simp <;> omega)); rotate_right) | (with_reducible apply blk_drew) | (with_reducible apply blk_drewN) | (with_reducible exact heap_new _ _) | ((with_reducible apply heap_new'); (first | rfl | (simp <;> fail))) | (with_reducible apply blk_alloc))) hv3 (by first | omega | (simp; done) | (simp; omega))
    clear hv3 hs
    clear HB2 hk2 hs2 hlt2
    have hs3 := HB3.size
    have hlt3 := clk_lt hk3
    have cL30_0 := blk_cell hl3_0 0 rfl; have fL30_0 := blk_free hl3_0 0; have cL30_1 := blk_cell hl3_0 1 rfl; have fL30_1 := blk_free hl3_0 1; have lL30 := lt_of_block hl3_0
    go_wp2_with fail
    refine (is_yes _ _ _).mono ?_
    rintro e v4 ⟨rfl, hv4⟩
    have hs := hv4.size
    try simp at hs
    have HB4 := (show Below w.heap.size w v4 from (by repeat (first | (with_reducible exact Below.refl _ _) | (with_reducible refine Below.drew ?_) | (with_reducible refine below_drewN ?_ _) | ((with_reducible refine Below.alloc ?_ ?_ _); rotate_left; (first | omega | (simp <;> omega)); rotate_right) | ((with_reducible refine Below.setCell ?_ ?_ _); rotate_left; (first | omega | (simp <;> omega)); rotate_right) | (with_reducible assumption) | (refine Below.trans ?_ (Below.mono (by assumption) ?_); rotate_left; (first | omega | (simp <;> omega)); rotate_right))))
    have hk4 := clk_below (show IsClk _ b 0 108 true true 1002 1009 from (by repeat (first | (with_reducible assumption) | (with_reducible refine clk_alloc ?_ _) | (with_reducible refine clk_drew ?_) | (with_reducible refine clk_drewN ?_ _) | ((with_reducible refine clk_far ?_ ?_ _); rotate_left; (first | omega | (simp <;> omega)); rotate_right)))) hv4 (by first | omega | (simp; done) | (simp; omega))
    clear hv4 hs
    clear HB3 hk3 hs3 hlt3 hl3_0 lL30 cL30_0 fL30_0 cL30_1 fL30_1
    have hs4 := HB4.size
    have hlt4 := clk_lt hk4
    go_wp2_with fail
    refine (at_is b 0 108 1002 1009 108 1002 1010 _ (by repeat (first | (with_reducible assumption) | (with_reducible refine clk_alloc ?_ _) | (with_reducible refine clk_drew ?_) | (with_reducible refine clk_drewN ?_ _) | ((with_reducible refine clk_far ?_ ?_ _); rotate_left; (first | omega | (simp <;> omega)); rotate_right))) (by unfold Clk.CInv; decide +kernel) (by decide +kernel) (by decide +kernel) (by decide +kernel)).mono ?_
    rintro e v5 ⟨rfl, hv5⟩
    have hs := hv5.size
    try simp at hs
    have HB5 := (show Below w.heap.size w v5 from (by repeat (first | (with_reducible exact Below.refl _ _) | (with_reducible refine Below.drew ?_) | (with_reducible refine below_drewN ?_ _) | ((with_reducible refine Below.alloc ?_ ?_ _); rotate_left; (first | omega | (simp <;> omega)); rotate_right) | ((with_reducible refine Below.setCell ?_ ?_ _); rotate_left; (first | omega | (simp <;> omega)); rotate_right) | (with_reducible assumption) | (refine Below.trans ?_ (Below.mono (by assumption) ?_); rotate_left; (first | omega | (simp <;> omega)); rotate_right))))
    have hk5 := clk_below (show IsClk _ b 0 108 true true 1002 1009 from (by repeat (first | (with_reducible assumption) | (with_reducible refine clk_alloc ?_ _) | (with_reducible refine clk_drew ?_) | (with_reducible refine clk_drewN ?_ _) | ((with_reducible refine clk_far ?_ ?_ _); rotate_left; (first | omega | (simp <;> omega)); rotate_right)))) hv5 (by first | omega | (simp; done) | (simp; omega))
    clear hv5 hs
    clear HB4 hk4 hs4 hlt4
    have hs5 := HB5.size
    have hlt5 := clk_lt hk5
    go_wp2_with fail
    refine (at_is b 0 108 1002 1009 109 1002 1011 _ (by repeat (first | (with_reducible assumption) | (with_reducible refine clk_alloc ?_ _) | (with_reducible refine clk_drew ?_) | (with_reducible refine clk_drewN ?_ _) | ((with_reducible refine clk_far ?_ ?_ _); rotate_left; (first | omega | (simp <;> omega)); rotate_right))) (by unfold Clk.CInv; decide +kernel) (by decide +kernel) (by decide +kernel) (by decide +kernel)).mono ?_
    rintro e v6 ⟨rfl, hv6⟩
    have hs := hv6.size
    try simp at hs
    have HB6 := (show Below w.heap.size w v6 from (by repeat (first | (with_reducible exact Below.refl _ _) | (with_reducible refine Below.drew ?_) | (with_reducible refine below_drewN ?_ _) | ((with_reducible refine Below.alloc ?_ ?_ _); rotate_left; (first | omega | (simp <;> omega)); rotate_right) | ((with_reducible refine Below.setCell ?_ ?_ _); rotate_left; (first | omega | (simp <;> omega)); rotate_right) | (with_reducible assumption) | (refine Below.trans ?_ (Below.mono (by assumption) ?_); rotate_left; (first | omega | (simp <;> omega)); rotate_right))))
    have hk6 := clk_below (show IsClk _ b 0 108 true true 1002 1009 from (by repeat (first | (with_reducible assumption) | (with_reducible refine clk_alloc ?_ _) | (with_reducible refine clk_drew ?_) | (with_reducible refine clk_drewN ?_ _) | ((with_reducible refine clk_far ?_ ?_ _); rotate_left; (first | omega | (simp <;> omega)); rotate_right)))) hv6 (by first | omega | (simp; done) | (simp; omega))
    clear hv6 hs
    clear HB5 hk5 hs5 hlt5
    have hs6 := HB6.size
    have hlt6 := clk_lt hk6
    go_wp2_with fail
    refine (ks1 b _ (by repeat (first | (with_reducible assumption) | (with_reducible refine clk_alloc ?_ _) | (with_reducible refine clk_drew ?_) | (with_reducible refine clk_drewN ?_ _) | ((with_reducible refine clk_far ?_ ?_ _); rotate_left; (first | omega | (simp <;> omega)); rotate_right)))).mono ?_
    rintro e v7 ⟨rfl, hv7⟩
    have hs := hv7.size
    try simp at hs
    have HB7 := (show Below w.heap.size w v7 from (by repeat (first | (with_reducible exact Below.refl _ _) | (with_reducible refine Below.drew ?_) | (with_reducible refine below_drewN ?_ _) | ((with_reducible refine Below.alloc ?_ ?_ _); rotate_left; (first | omega | (simp <;> omega)); rotate_right) | ((with_reducible refine Below.setCell ?_ ?_ _); rotate_left; (first | omega | (simp <;> omega)); rotate_right) | (with_reducible assumption) | (refine Below.trans ?_ (Below.mono (by assumption) ?_); rotate_left; (first | omega | (simp <;> omega)); rotate_right))))
    have hk7 := clk_below (show IsClk _ b 0 108 true true 1002 1009 from (by repeat (first | (with_reducible assumption) | (with_reducible refine clk_alloc ?_ _) | (with_reducible refine clk_drew ?_) | (with_reducible refine clk_drewN ?_ _) | ((with_reducible refine clk_far ?_ ?_ _); rotate_left; (first | omega | (simp <;> omega)); rotate_right)))) hv7 (by first | omega | (simp; done) | (simp; omega))
    clear hv7 hs
    clear HB6 hk6 hs6 hlt6
    have hs7 := HB7.size
    have hlt7 := clk_lt hk7
    go_wp2_with fail
    refine (kadd2 b _ hk7).mono ?_
    rintro e v8 ⟨rfl, hk8, hg8⟩
    have HB8 : Below w.heap.size w v8 := below_of_only1 (k := hg8) (hg := hbb) (h := (by repeat (first | (with_reducible exact Below.refl _ _) | (with_reducible refine Below.drew ?_) | (with_reducible refine below_drewN ?_ _) | ((with_reducible refine Below.alloc ?_ ?_ _); rotate_left; (first | omega | (simp <;> omega)); rotate_right) | ((with_reducible refine Below.setCell ?_ ?_ _); rotate_left; (first | omega | (simp <;> omega)); rotate_right) | (with_reducible assumption) | (refine Below.trans ?_ (Below.mono (by assumption) ?_); rotate_left; (first | omega | (simp <;> omega)); rotate_right))))
    clear hg8
    clear HB7 hk7 hs7 hlt7
    have hs8 := HB8.size
    have hlt8 := clk_lt hk8
    go_wp2_with fail
    refine (at_is b 0 111 1010 1012 111 1010 1013 _ (by repeat (first | (with_reducible assumption) | (with_reducible refine clk_alloc ?_ _) | (with_reducible refine clk_drew ?_) | (with_reducible refine clk_drewN ?_ _) | ((with_reducible refine clk_far ?_ ?_ _); rotate_left; (first | omega | (simp <;> omega)); rotate_right))) (by unfold Clk.CInv; decide +kernel) (by decide +kernel) (by decide +kernel) (by decide +kernel)).mono ?_
    rintro e v9 ⟨rfl, hv9⟩
    have hs := hv9.size
    try simp at hs
    have HB9 := (show Below w.heap.size w v9 from (by repeat (first | (with_reducible exact Below.refl _ _) | (with_reducible refine Below.drew ?_) | (with_reducible refine below_drewN ?_ _) | ((with_reducible refine Below.alloc ?_ ?_ _); rotate_left; (first | omega | (simp <;> omega)); rotate_right) | ((with_reducible refine Below.setCell ?_ ?_ _); rotate_left; (first | omega | (simp <;> omega)); rotate_right) | (with_reducible assumption) | (refine Below.trans ?_ (Below.mono (by assumption) ?_); rotate_left; (first | omega | (simp <;> omega)); rotate_right))))
    have hk9 := clk_below (show IsClk _ b 0 111 true true 1010 1012 from (by repeat (first | (with_reducible assumption) | (with_reducible refine clk_alloc ?_ _) | (with_reducible refine clk_drew ?_) | (with_reducible refine clk_drewN ?_ _) | ((with_reducible refine clk_far ?_ ?_ _); rotate_left; (first | omega | (simp <;> omega)); rotate_right)))) hv9 (by first | omega | (simp; done) | (simp; omega))
    clear hv9 hs
    clear HB8 hk8 hs8 hlt8
    have hs9 := HB9.size
    have hlt9 := clk_lt hk9
    go_wp2_with fail
    refine (ks2 b _ (by repeat (first | (with_reducible assumption) | (with_reducible refine clk_alloc ?_ _) | (with_reducible refine clk_drew ?_) | (with_reducible refine clk_drewN ?_ _) | ((with_reducible refine clk_far ?_ ?_ _); rotate_left; (first | omega | (simp <;> omega)); rotate_right)))).mono ?_
    rintro e v10 ⟨rfl, hv10⟩
    have hs := hv10.size
    try simp at hs
    have HB10 := (show Below w.heap.size w v10 from (by repeat (first | (with_reducible exact Below.refl _ _) | (with_reducible refine Below.drew ?_) | (with_reducible refine below_drewN ?_ _) | ((with_reducible refine Below.alloc ?_ ?_ _); rotate_left; (first | omega | (simp <;> omega)); rotate_right) | ((with_reducible refine Below.setCell ?_ ?_ _); rotate_left; (first | omega | (simp <;> omega)); rotate_right) | (with_reducible assumption) | (refine Below.trans ?_ (Below.mono (by assumption) ?_); rotate_left; (first | omega | (simp <;> omega)); rotate_right))))
    have hk10 := clk_below (show IsClk _ b 0 111 true true 1010 1012 from (by repeat (first | (with_reducible assumption) | (with_reducible refine clk_alloc ?_ _) | (with_reducible refine clk_drew ?_) | (with_reducible refine clk_drewN ?_ _) | ((with_reducible refine clk_far ?_ ?_ _); rotate_left; (first | omega | (simp <;> omega)); rotate_right)))) hv10 (by first | omega | (simp; done) | (simp; omega))
    clear hv10 hs
    clear HB9 hk9 hs9 hlt9
    have hs10 := HB10.size
    have hlt10 := clk_lt hk10
    go_wp2_with fail
    refine (kadd3 b _ hk10).mono ?_
    rintro e v11 ⟨rfl, hk11, hg11⟩
    have HB11 : Below w.heap.size w v11 := below_of_only1 (k := hg11) (hg := hbb) (h := (by repeat (first | (with_reducible exact Below.refl _ _) | (with_reducible refine Below.drew ?_) | (with_reducible refine below_drewN ?_ _) | ((with_reducible refine Below.alloc ?_ ?_ _); rotate_left; (first | omega | (simp <;> omega)); rotate_right) | ((with_reducible refine Below.setCell ?_ ?_ _); rotate_left; (first | omega | (simp <;> omega)); rotate_right) | (with_reducible assumption) | (refine Below.trans ?_ (Below.mono (by assumption) ?_); rotate_left; (first | omega | (simp <;> omega)); rotate_right))))
    clear hg11
    clear HB10 hk10 hs10 hlt10
    have hs11 := HB11.size
    have hlt11 := clk_lt hk11
    go_wp2_with fail
    refine (at_is b 0 111 1010 1012 111 1010 1013 _ (by repeat (first | (with_reducible assumption) | (with_reducible refine clk_alloc ?_ _) | (with_reducible refine clk_drew ?_) | (with_reducible refine clk_drewN ?_ _) | ((with_reducible refine clk_far ?_ ?_ _); rotate_left; (first | omega | (simp <;> omega)); rotate_right))) (by unfold Clk.CInv; decide +kernel) (by decide +kernel) (by decide +kernel) (by decide +kernel)).mono ?_
    rintro e v12 ⟨rfl, hv12⟩
    have hs := hv12.size
    try simp at hs
    have HB12 := (show Below w.heap.size w v12 from (by repeat (first | (with_reducible exact Below.refl _ _) | (with_reducible refine Below.drew ?_) | (with_reducible refine below_drewN ?_ _) | ((with_reducible refine Below.alloc ?_ ?_ _); rotate_left; (first | omega | (simp <;> omega)); rotate_right) | ((with_reducible refine Below.setCell ?_ ?_ _); rotate_left; (first | omega | (simp <;> omega)); rotate_right) | (with_reducible assumption) | (refine Below.trans ?_ (Below.mono (by assumption) ?_); rotate_left; (first | omega | (simp <;> omega)); rotate_right))))
    have hk12 := clk_below (show IsClk _ b 0 111 true true 1010 1012 from (by repeat (first | (with_reducible assumption) | (with_reducible refine clk_alloc ?_ _) | (with_reducible refine clk_drew ?_) | (with_reducible refine clk_drewN ?_ _) | ((with_reducible refine clk_far ?_ ?_ _); rotate_left; (first | omega | (simp <;> omega)); rotate_right)))) hv12 (by first | omega | (simp; done) | (simp; omega))
    clear hv12 hs
    clear HB11 hk11 hs11 hlt11
    have hs12 := HB12.size
    have hlt12 := clk_lt hk12
    obtain ⟨z, hz⟩ : ∃ z : Nat, z = v12.heap.size := ⟨_, rfl⟩
    have hZ := (show IsClk (v12.alloc (.cells #[.int .i64 0, .int .i64 0, .bool false, .bool false, .int .i64 0, .int .i64 0] 68)) z 0 0 false false 0 0 from heap_new' _ _ _ hz)
    subst hz
    have hz0 : v12.heap.size < (v12.alloc (.cells #[.int .i64 0, .int .i64 0, .bool false, .bool false, .int .i64 0, .int .i64 0] 68)).heap.size := clk_lt hZ
    go_wp2_with fail
    refine (at_nil 0 _).mono ?_
    rintro e v13 ⟨rfl, hv13⟩
    have hs := hv13.size
    try simp at hs
    have HB13 := (show Below w.heap.size w v13 from (by repeat (first | (with_reducible exact Below.refl _ _) | (with_reducible refine Below.drew ?_) | (with_reducible refine below_drewN ?_ _) | ((with_reducible refine Below.alloc ?_ ?_ _); rotate_left; (first | omega | (simp <;> omega)); rotate_right) | ((with_reducible refine Below.setCell ?_ ?_ _); rotate_left; (first | omega | (simp <;> omega)); rotate_right) | (with_reducible assumption) | (refine Below.trans ?_ (Below.mono (by assumption) ?_); rotate_left; (first | omega | (simp <;> omega)); rotate_right))))
    have hZ13 := clk_below (b := v12.heap.size) (show IsClk _ v12.heap.size 0 0 false false 0 0 from (by repeat (first | (with_reducible assumption) | (with_reducible refine clk_alloc ?_ _) | (with_reducible refine clk_drew ?_) | (with_reducible refine clk_drewN ?_ _) | ((with_reducible refine clk_far ?_ ?_ _); rotate_left; (first | omega | (simp <;> omega)); rotate_right)))) hv13 (by first | omega | (simp; done) | (simp; omega))
    clear hv13 hs
    have hs13 := HB13.size
    have hlz13 := clk_lt hZ13
    clear hZ hz0
    go_wp2_with fail
    refine (sure_zero v12.heap.size 0 0 false 0 0 0 _ (by repeat (first | (with_reducible assumption) | (with_reducible refine clk_alloc ?_ _) | (with_reducible refine clk_drew ?_) | (with_reducible refine clk_drewN ?_ _) | ((with_reducible refine clk_far ?_ ?_ _); rotate_left; (first | omega | (simp <;> omega)); rotate_right)))).mono ?_
    rintro e v14 ⟨rfl, hv14⟩
    have hs := hv14.size
    try simp at hs
    have HB14 := (show Below w.heap.size w v14 from (by repeat (first | (with_reducible exact Below.refl _ _) | (with_reducible refine Below.drew ?_) | (with_reducible refine below_drewN ?_ _) | ((with_reducible refine Below.alloc ?_ ?_ _); rotate_left; (first | omega | (simp <;> omega)); rotate_right) | ((with_reducible refine Below.setCell ?_ ?_ _); rotate_left; (first | omega | (simp <;> omega)); rotate_right) | (with_reducible assumption) | (refine Below.trans ?_ (Below.mono (by assumption) ?_); rotate_left; (first | omega | (simp <;> omega)); rotate_right))))
    have hZ14 := clk_below (b := v12.heap.size) (show IsClk _ v12.heap.size 0 0 false false 0 0 from (by repeat (first | (with_reducible assumption) | (with_reducible refine clk_alloc ?_ _) | (with_reducible refine clk_drew ?_) | (with_reducible refine clk_drewN ?_ _) | ((with_reducible refine clk_far ?_ ?_ _); rotate_left; (first | omega | (simp <;> omega)); rotate_right)))) hv14 (by first | omega | (simp; done) | (simp; omega))
    clear hv14 hs
    clear HB13 hZ13 hs13 hlz13
    have hs14 := HB14.size
    have hlz14 := clk_lt hZ14
    go_wp2_with fail
    refine (reading_nil _).mono ?_
    rintro e v15 ⟨rfl, hv15⟩
    have hs := hv15.size
    try simp at hs
    have HB15 := (show Below w.heap.size w v15 from (by repeat (first | (with_reducible exact Below.refl _ _) | (with_reducible refine Below.drew ?_) | (with_reducible refine below_drewN ?_ _) | ((with_reducible refine Below.alloc ?_ ?_ _); rotate_left; (first | omega | (simp <;> omega)); rotate_right) | ((with_reducible refine Below.setCell ?_ ?_ _); rotate_left; (first | omega | (simp <;> omega)); rotate_right) | (with_reducible assumption) | (refine Below.trans ?_ (Below.mono (by assumption) ?_); rotate_left; (first | omega | (simp <;> omega)); rotate_right))))
    have hZ15 := clk_below (b := v12.heap.size) (show IsClk _ v12.heap.size 0 0 false false 0 0 from (by repeat (first | (with_reducible assumption) | (with_reducible refine clk_alloc ?_ _) | (with_reducible refine clk_drew ?_) | (with_reducible refine clk_drewN ?_ _) | ((with_reducible refine clk_far ?_ ?_ _); rotate_left; (first | omega | (simp <;> omega)); rotate_right)))) hv15 (by first | omega | (simp; done) | (simp; omega))
    clear hv15 hs
    clear HB14 hZ14 hs14 hlz14
    have hs15 := HB15.size
    have hlz15 := clk_lt hZ15
    go_wp2_with fail
    refine (add_nil 0 0 0 0 _).mono ?_
    rintro e v16 ⟨rfl, hv16⟩
    have hs := hv16.size
    try simp at hs
    have HB16 := (show Below w.heap.size w v16 from (by repeat (first | (with_reducible exact Below.refl _ _) | (with_reducible refine Below.drew ?_) | (with_reducible refine below_drewN ?_ _) | ((with_reducible refine Below.alloc ?_ ?_ _); rotate_left; (first | omega | (simp <;> omega)); rotate_right) | ((with_reducible refine Below.setCell ?_ ?_ _); rotate_left; (first | omega | (simp <;> omega)); rotate_right) | (with_reducible assumption) | (refine Below.trans ?_ (Below.mono (by assumption) ?_); rotate_left; (first | omega | (simp <;> omega)); rotate_right))))
    have hZ16 := clk_below (b := v12.heap.size) (show IsClk _ v12.heap.size 0 0 false false 0 0 from (by repeat (first | (with_reducible assumption) | (with_reducible refine clk_alloc ?_ _) | (with_reducible refine clk_drew ?_) | (with_reducible refine clk_drewN ?_ _) | ((with_reducible refine clk_far ?_ ?_ _); rotate_left; (first | omega | (simp <;> omega)); rotate_right)))) hv16 (by first | omega | (simp; done) | (simp; omega))
    clear hv16 hs
    clear HB15 hZ15 hs15 hlz15
    have hs16 := HB16.size
    have hlz16 := clk_lt hZ16
    go_wp2_with fail
    refine (add_zero v12.heap.size 0 0 false 0 0 0 0 0 0 _ (by repeat (first | (with_reducible assumption) | (with_reducible refine clk_alloc ?_ _) | (with_reducible refine clk_drew ?_) | (with_reducible refine clk_drewN ?_ _) | ((with_reducible refine clk_far ?_ ?_ _); rotate_left; (first | omega | (simp <;> omega)); rotate_right)))).mono ?_
    rintro e v17 ⟨rfl, hv17⟩
    have hs := hv17.size
    try simp at hs
    have HB17 := (show Below w.heap.size w v17 from (by repeat (first | (with_reducible exact Below.refl _ _) | (with_reducible refine Below.drew ?_) | (with_reducible refine below_drewN ?_ _) | ((with_reducible refine Below.alloc ?_ ?_ _); rotate_left; (first | omega | (simp <;> omega)); rotate_right) | ((with_reducible refine Below.setCell ?_ ?_ _); rotate_left; (first | omega | (simp <;> omega)); rotate_right) | (with_reducible assumption) | (refine Below.trans ?_ (Below.mono (by assumption) ?_); rotate_left; (first | omega | (simp <;> omega)); rotate_right))))
    have hZ17 := clk_below (b := v12.heap.size) (show IsClk _ v12.heap.size 0 0 false false 0 0 from (by repeat (first | (with_reducible assumption) | (with_reducible refine clk_alloc ?_ _) | (with_reducible refine clk_drew ?_) | (with_reducible refine clk_drewN ?_ _) | ((with_reducible refine clk_far ?_ ?_ _); rotate_left; (first | omega | (simp <;> omega)); rotate_right)))) hv17 (by first | omega | (simp; done) | (simp; omega))
    clear hv17 hs
    clear HB16 hZ16 hs16 hlz16
    have hs17 := HB17.size
    have hlz17 := clk_lt hZ17
    go_wp2_with fail
    refine (drift_nil _).mono ?_
    rintro e v' ⟨rfl, rfl⟩
    go_wp2_with fail
    refine (copy_nil _).mono ?_
    rintro e v' ⟨rfl, rfl⟩
    go_wp2_with fail
    go_ret
    exact ⟨rfl, (by repeat (first | (with_reducible exact Below.refl _ _) | (with_reducible refine Below.drew ?_) | (with_reducible refine below_drewN ?_ _) | ((with_reducible refine Below.alloc ?_ ?_ _); rotate_left; (first | omega | (simp <;> omega)); rotate_right) | ((with_reducible refine Below.setCell ?_ ?_ _); rotate_left; (first | omega | (simp <;> omega)); rotate_right) | (with_reducible assumption) | (refine Below.trans ?_ (Below.mono (by assumption) ?_); rotate_left; (first | omega | (simp <;> omega)); rotate_right)))⟩
end Go.Proofs.Ytfbkbpoabajgdaa

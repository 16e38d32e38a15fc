/- The law of the links' rules holds: 'skylanternlaw35.LinkValids' returns true at every input. No conditions. -/
import Derived.Test.YtgdpoiapkaahfaaLkM
import Derived.Test.YtgdpoiapkaahfaaArg
namespace Go.Proofs.Ytgdpoiapkaahfaa.lawLinkValids
open Go.ChangeShapes Go.WideShapes Go.ChangeAt Go.RowKit Go.Joins
set_option linter.unusedVariables false
set_option linter.unusedSimpArgs false
attribute [local go_sem ↓] Go.wp_at_zero Go.wp_at_succ
set_option maxHeartbeats 8000000
set_option maxRecDepth 100000
theorem walk (a00 a01 a02 a03 a04 : Int) (w : World) (w00 : (Lit.int .i64 a00).wf = true) (w01 : (Lit.int .i64 a01).wf = true) (w02 : (Lit.int .i64 a02).wf = true) (w03 : (Lit.int .i64 a03).wf = true) (w04 : (Lit.int .i64 a04).wf = true) :
    Calls Try.prog 3 #[.agg #[.int .i64 a00, .int .i64 a01, .int .i64 a02, .int .i64 a03, .int .i64 a04]] w fun e w' => e = .returned (.bool true) ∧ Below w.heap.size w w' := by
  have hse := (i64_wf w04).2
  have V := Lib.hid (fun W : World => lvalid_any ⟨a00, a01, a02, a03, a04⟩ W)
  have R := Lib.hid (fun W : World => rlvalid_any ⟨a00, a01, a02, a03, a04⟩ W)
  cases hv : Lnk.vld ⟨a00, a01, a02, a03, a04⟩
  · have M := Lib.hid (fun W : World => made_no ⟨a00, a01, a02, a03, a04⟩ W hv)
    rw [hv] at V R
    simp only [rul, rlv, rll] at M V R
    clear hv w00 w01 w02 w03 w04
    go_enter Try.func3, Try.ntmps3
    go_wp2_with fail
    refine (M.out _).mono ?_
    rintro e w1 ⟨rfl, hb1⟩
    have hz1 := hb1.size; try simp at hz1
    have k1 := blk_below (q := w.heap.size) (by repeat (first | (with_reducible assumption) | ((with_reducible apply blk_far); rotate_left; (first | omega | (simp <;> omega)); rotate_right) | (with_reducible apply blk_drew) | (with_reducible apply blk_drewN) | (with_reducible exact heap_new _ _) | ((with_reducible apply heap_new'); (first | rfl | (simp <;> fail))) | (with_reducible apply blk_alloc))) hb1 (by first | omega | (simp; done) | (simp; omega))
    have HB1 := (show Below w.heap.size w w1 from (by repeat (first | (with_reducible exact Below.refl _ _) | (with_reducible refine Below.drew ?_) | (with_reducible refine below_drewN ?_ _) | ((with_reducible refine Below.alloc ?_ ?_ _); rotate_left; (first | omega | (simp <;> omega)); rotate_right) | ((with_reducible refine Below.setCell ?_ ?_ _); rotate_left; (first | omega | (simp <;> omega)); rotate_right) | (with_reducible assumption) | (refine Below.trans ?_ (Below.mono (by assumption) ?_); rotate_left; (first | omega | (simp <;> omega)); rotate_right))))
    clear hb1
    go_wp2_with fail
    generalize hW : World.alloc _ _ = W
    have h1 : W.heap[w.heap.size]? = some (.cells #[.int .i64 a00, .int .i64 a01, .int .i64 a02, .int .i64 a03, .int .i64 a04] 23 (0, 0)) := by rw [← hW]; exact (by repeat (first | (with_reducible assumption) | ((with_reducible apply blk_far); rotate_left; (first | omega | (simp <;> omega)); rotate_right) | (with_reducible apply blk_drew) | (with_reducible apply blk_drewN) | (with_reducible exact heap_new _ _) | ((with_reducible apply heap_new'); (first | rfl | (simp <;> fail))) | (with_reducible apply blk_alloc)))
    have HBW : Below w.heap.size w W := by rw [← hW]; exact (by repeat (first | (with_reducible exact Below.refl _ _) | (with_reducible refine Below.drew ?_) | (with_reducible refine below_drewN ?_ _) | ((with_reducible refine Below.alloc ?_ ?_ _); rotate_left; (first | omega | (simp <;> omega)); rotate_right) | ((with_reducible refine Below.setCell ?_ ?_ _); rotate_left; (first | omega | (simp <;> omega)); rotate_right) | (with_reducible assumption) | (refine Below.trans ?_ (Below.mono (by assumption) ?_); rotate_left; (first | omega | (simp <;> omega)); rotate_right)))
    clear hW k1 HB1
    have hlt := lt_of_block h1
    have HB := Lib.hid HBW
    clear HBW
    have ca_0 := blk_cell h1 0 rfl; have fa_0 := blk_free h1 0; have ca_1 := blk_cell h1 1 rfl; have fa_1 := blk_free h1 1; have ca_2 := blk_cell h1 2 rfl; have fa_2 := blk_free h1 2; have ca_3 := blk_cell h1 3 rfl; have fa_3 := blk_free h1 3; have ca_4 := blk_cell h1 4 rfl; have fa_4 := blk_free h1 4; have la := lt_of_block h1
    go_region_held3 (fun w' => w'.cell? ⟨w.heap.size, 0, none⟩ = some (.int .i64 a00) ∧ w'.cell? ⟨w.heap.size, 1, none⟩ = some (.int .i64 a01) ∧ w'.cell? ⟨w.heap.size, 2, none⟩ = some (.int .i64 a02) ∧ w'.cell? ⟨w.heap.size, 3, none⟩ = some (.int .i64 a03) ∧ w'.cell? ⟨w.heap.size, 4, none⟩ = some (.int .i64 a04)) (first | exact ⟨cg_0, cg_1, cg_2, cg_3, cg_4⟩ | exact ⟨ck_0, ck_1, ck_2, ck_3, ck_4⟩ | exact ⟨cd_0, cd_1, cd_2, cd_3, cd_4⟩ | exact ⟨ca_0, ca_1, ca_2, ca_3, ca_4⟩ | go_keep) (first | (go_at_call 10; refine (V.out _).mono ?_; rintro e w2 ⟨rfl, hb2⟩; have hz2 := hb2.size; (try simp at hz2); have h2 : w2.heap[w.heap.size]? = some (.cells #[.int .i64 a00, .int .i64 a01, .int .i64 a02, .int .i64 a03, .int .i64 a04] 23 (0, 0)) := blk_below (q := w.heap.size) (by repeat (first | (with_reducible assumption) | ((with_reducible apply blk_far); rotate_left; (first | omega | (simp <;> omega)); rotate_right) | (with_reducible apply blk_drew) | (with_reducible apply blk_drewN) | (with_reducible exact heap_new _ _) | ((with_reducible apply heap_new'); (first | rfl | (simp <;> fail))) | (with_reducible apply blk_alloc))) hb2 (by first | omega | (simp; done) | (simp; omega)); have cd_0 := blk_cell h2 0 rfl; have fd_0 := blk_free h2 0; have cd_1 := blk_cell h2 1 rfl; have fd_1 := blk_free h2 1; have cd_2 := blk_cell h2 2 rfl; have fd_2 := blk_free h2 2; have cd_3 := blk_cell h2 3 rfl; have fd_3 := blk_free h2 3; have cd_4 := blk_cell h2 4 rfl; have fd_4 := blk_free h2 4; have ld := lt_of_block h2) | (go_at_call 11; refine (R.out _).mono ?_; rintro e w3 ⟨rfl, hb3⟩; have hz3 := hb3.size; (try simp at hz3); have h3 : w3.heap[w.heap.size]? = some (.cells #[.int .i64 a00, .int .i64 a01, .int .i64 a02, .int .i64 a03, .int .i64 a04] 23 (0, 0)) := blk_below (q := w.heap.size) (by repeat (first | (with_reducible assumption) | ((with_reducible apply blk_far); rotate_left; (first | omega | (simp <;> omega)); rotate_right) | (with_reducible apply blk_drew) | (with_reducible apply blk_drewN) | (with_reducible exact heap_new _ _) | ((with_reducible apply heap_new'); (first | rfl | (simp <;> fail))) | (with_reducible apply blk_alloc))) hb3 (by first | omega | (simp; done) | (simp; omega)); have ck_0 := blk_cell h3 0 rfl; have fk_0 := blk_free h3 0; have ck_1 := blk_cell h3 1 rfl; have fk_1 := blk_free h3 1; have ck_2 := blk_cell h3 2 rfl; have fk_2 := blk_free h3 2; have ck_3 := blk_cell h3 3 rfl; have fk_3 := blk_free h3 3; have ck_4 := blk_cell h3 4 rfl; have fk_4 := blk_free h3 4; have lk := lt_of_block h3) | (go_at_call 12; refine (known_true _).mono ?_; rintro e w4 ⟨rfl, hb4⟩; have hz4 := hb4.size; (try simp at hz4); have h4 : w4.heap[w.heap.size]? = some (.cells #[.int .i64 a00, .int .i64 a01, .int .i64 a02, .int .i64 a03, .int .i64 a04] 23 (0, 0)) := blk_below (q := w.heap.size) (by repeat (first | (with_reducible assumption) | ((with_reducible apply blk_far); rotate_left; (first | omega | (simp <;> omega)); rotate_right) | (with_reducible apply blk_drew) | (with_reducible apply blk_drewN) | (with_reducible exact heap_new _ _) | ((with_reducible apply heap_new'); (first | rfl | (simp <;> fail))) | (with_reducible apply blk_alloc))) hb4 (by first | omega | (simp; done) | (simp; omega)); have cg_0 := blk_cell h4 0 rfl; have fg_0 := blk_free h4 0; have cg_1 := blk_cell h4 1 rfl; have fg_1 := blk_free h4 1; have cg_2 := blk_cell h4 2 rfl; have fg_2 := blk_free h4 2; have cg_3 := blk_cell h4 3 rfl; have fg_3 := blk_free h4 3; have cg_4 := blk_cell h4 4 rfl; have fg_4 := blk_free h4 4; have lg := lt_of_block h4))
    all_goals go_wp2_with fail
    all_goals have HB' := HB.out
    all_goals go_ret
    all_goals exact ⟨rfl, (by repeat (first | (with_reducible exact Below.refl _ _) | (with_reducible refine Below.drew ?_) | (with_reducible refine below_drewN ?_ _) | ((with_reducible refine Below.alloc ?_ ?_ _); rotate_left; (first | omega | (simp <;> omega)); rotate_right) | ((with_reducible refine Below.setCell ?_ ?_ _); rotate_left; (first | omega | (simp <;> omega)); rotate_right) | (with_reducible assumption) | (refine Below.trans ?_ (Below.mono (by assumption) ?_); rotate_left; (first | omega | (simp <;> omega)); rotate_right)))⟩
  · have M := Lib.hid (show ∀ W : World, Calls Try.prog 9 #[.agg #[.int .i64 a00, .int .i64 a01, .int .i64 a02, .int .i64 a03, .int .i64 a04]] W fun e w' => ∃ b, e = .returned (.tuple #[.pointer (some ⟨b, 0, none⟩), .agg #[.int .i64 a00, .int .i64 a01, .int .i64 a02, .int .i64 a03, .int .i64 a04, .int .u64 a04, .int .i64 0, .slice none 0 0, .int .i64 0, .int .i64 0, .int .i64 0], .bool true]) ∧ IsLk w' W.heap.size b none 0 ⟨a00, a01, a02, a03, a04⟩ (Lnk.new ⟨a00, a01, a02, a03, a04⟩) ∧ Below W.heap.size W w' from fun W => made_yes ⟨a00, a01, a02, a03, a04⟩ W hv hse)
    rw [hv] at V R
    simp only [rul] at V R
    clear hv w00 w01 w02 w03 w04
    go_enter Try.func3, Try.ntmps3
    go_wp2_with fail
    refine (M.out _).mono ?_
    rintro e w1 ⟨b, rfl, _, hb1⟩
    have hz1 := hb1.size; try simp at hz1
    have k1 := blk_below (q := w.heap.size) (by repeat (first | (with_reducible assumption) | ((with_reducible apply blk_far); rotate_left; (first | omega | (simp <;> omega)); rotate_right) | (with_reducible apply blk_drew) | (with_reducible apply blk_drewN) | (with_reducible exact heap_new _ _) | ((with_reducible apply heap_new'); (first | rfl | (simp <;> fail))) | (with_reducible apply blk_alloc))) hb1 (by first | omega | (simp; done) | (simp; omega))
    have HB1 := (show Below w.heap.size w w1 from (by repeat (first | (with_reducible exact Below.refl _ _) | (with_reducible refine Below.drew ?_) | (with_reducible refine below_drewN ?_ _) | ((with_reducible refine Below.alloc ?_ ?_ _); rotate_left; (first | omega | (simp <;> omega)); rotate_right) | ((with_reducible refine Below.setCell ?_ ?_ _); rotate_left; (first | omega | (simp <;> omega)); rotate_right) | (with_reducible assumption) | (refine Below.trans ?_ (Below.mono (by assumption) ?_); rotate_left; (first | omega | (simp <;> omega)); rotate_right))))
    clear hb1
    go_wp2_with fail
    generalize hW : World.alloc _ _ = W
    have h1 : W.heap[w.heap.size]? = some (.cells #[.int .i64 a00, .int .i64 a01, .int .i64 a02, .int .i64 a03, .int .i64 a04] 23 (0, 0)) := by rw [← hW]; exact (by repeat (first | (with_reducible assumption) | ((with_reducible apply blk_far); rotate_left; (first | omega | (simp <;> omega)); rotate_right) | (with_reducible apply blk_drew) | (with_reducible apply blk_drewN) | (with_reducible exact heap_new _ _) | ((with_reducible apply heap_new'); (first | rfl | (simp <;> fail))) | (with_reducible apply blk_alloc)))
    have HBW : Below w.heap.size w W := by rw [← hW]; exact (by repeat (first | (with_reducible exact Below.refl _ _) | (with_reducible refine Below.drew ?_) | (with_reducible refine below_drewN ?_ _) | ((with_reducible refine Below.alloc ?_ ?_ _); rotate_left; (first | omega | (simp <;> omega)); rotate_right) | ((with_reducible refine Below.setCell ?_ ?_ _); rotate_left; (first | omega | (simp <;> omega)); rotate_right) | (with_reducible assumption) | (refine Below.trans ?_ (Below.mono (by assumption) ?_); rotate_left; (first | omega | (simp <;> omega)); rotate_right)))
    clear hW k1 HB1
    have hlt := lt_of_block h1
    have HB := Lib.hid HBW
    clear HBW
    have ca_0 := blk_cell h1 0 rfl; have fa_0 := blk_free h1 0; have ca_1 := blk_cell h1 1 rfl; have fa_1 := blk_free h1 1; have ca_2 := blk_cell h1 2 rfl; have fa_2 := blk_free h1 2; have ca_3 := blk_cell h1 3 rfl; have fa_3 := blk_free h1 3; have ca_4 := blk_cell h1 4 rfl; have fa_4 := blk_free h1 4; have la := lt_of_block h1
    go_region_held3 (fun w' => w'.cell? ⟨w.heap.size, 0, none⟩ = some (.int .i64 a00) ∧ w'.cell? ⟨w.heap.size, 1, none⟩ = some (.int .i64 a01) ∧ w'.cell? ⟨w.heap.size, 2, none⟩ = some (.int .i64 a02) ∧ w'.cell? ⟨w.heap.size, 3, none⟩ = some (.int .i64 a03) ∧ w'.cell? ⟨w.heap.size, 4, none⟩ = some (.int .i64 a04)) (first | exact ⟨cg_0, cg_1, cg_2, cg_3, cg_4⟩ | exact ⟨ck_0, ck_1, ck_2, ck_3, ck_4⟩ | exact ⟨cd_0, cd_1, cd_2, cd_3, cd_4⟩ | exact ⟨ca_0, ca_1, ca_2, ca_3, ca_4⟩ | go_keep) (first | (go_at_call 10; refine (V.out _).mono ?_; rintro e w2 ⟨rfl, hb2⟩; have hz2 := hb2.size; (try simp at hz2); have h2 : w2.heap[w.heap.size]? = some (.cells #[.int .i64 a00, .int .i64 a01, .int .i64 a02, .int .i64 a03, .int .i64 a04] 23 (0, 0)) := blk_below (q := w.heap.size) (by repeat (first | (with_reducible assumption) | ((with_reducible apply blk_far); rotate_left; (first | omega | (simp <;> omega)); rotate_right) | (with_reducible apply blk_drew) | (with_reducible apply blk_drewN) | (with_reducible exact heap_new _ _) | ((with_reducible apply heap_new'); (first | rfl | (simp <;> fail))) | (with_reducible apply blk_alloc))) hb2 (by first | omega | (simp; done) | (simp; omega)); have cd_0 := blk_cell h2 0 rfl; have fd_0 := blk_free h2 0; have cd_1 := blk_cell h2 1 rfl; have fd_1 := blk_free h2 1; have cd_2 := blk_cell h2 2 rfl; have fd_2 := blk_free h2 2; have cd_3 := blk_cell h2 3 rfl; have fd_3 := blk_free h2 3; have cd_4 := blk_cell h2 4 rfl; have fd_4 := blk_free h2 4; have ld := lt_of_block h2) | (go_at_call 11; refine (R.out _).mono ?_; rintro e w3 ⟨rfl, hb3⟩; have hz3 := hb3.size; (try simp at hz3); have h3 : w3.heap[w.heap.size]? = some (.cells #[.int .i64 a00, .int .i64 a01, .int .i64 a02, .int .i64 a03, .int .i64 a04] 23 (0, 0)) := blk_below (q := w.heap.size) (by repeat (first | (with_reducible assumption) | ((with_reducible apply blk_far); rotate_left; (first | omega | (simp <;> omega)); rotate_right) | (with_reducible apply blk_drew) | (with_reducible apply blk_drewN) | (with_reducible exact heap_new _ _) | ((with_reducible apply heap_new'); (first | rfl | (simp <;> fail))) | (with_reducible apply blk_alloc))) hb3 (by first | omega | (simp; done) | (simp; omega)); have ck_0 := blk_cell h3 0 rfl; have fk_0 := blk_free h3 0; have ck_1 := blk_cell h3 1 rfl; have fk_1 := blk_free h3 1; have ck_2 := blk_cell h3 2 rfl; have fk_2 := blk_free h3 2; have ck_3 := blk_cell h3 3 rfl; have fk_3 := blk_free h3 3; have ck_4 := blk_cell h3 4 rfl; have fk_4 := blk_free h3 4; have lk := lt_of_block h3) | (go_at_call 12; refine (known_true _).mono ?_; rintro e w4 ⟨rfl, hb4⟩; have hz4 := hb4.size; (try simp at hz4); have h4 : w4.heap[w.heap.size]? = some (.cells #[.int .i64 a00, .int .i64 a01, .int .i64 a02, .int .i64 a03, .int .i64 a04] 23 (0, 0)) := blk_below (q := w.heap.size) (by repeat (first | (with_reducible assumption) | ((with_reducible apply blk_far); rotate_left; (first | omega | (simp <;> omega)); rotate_right) | (with_reducible apply blk_drew) | (with_reducible apply blk_drewN) | (with_reducible exact heap_new _ _) | ((with_reducible apply heap_new'); (first | rfl | (simp <;> fail))) | (with_reducible apply blk_alloc))) hb4 (by first | omega | (simp; done) | (simp; omega)); have cg_0 := blk_cell h4 0 rfl; have fg_0 := blk_free h4 0; have cg_1 := blk_cell h4 1 rfl; have fg_1 := blk_free h4 1; have cg_2 := blk_cell h4 2 rfl; have fg_2 := blk_free h4 2; have cg_3 := blk_cell h4 3 rfl; have fg_3 := blk_free h4 3; have cg_4 := blk_cell h4 4 rfl; have fg_4 := blk_free h4 4; have lg := lt_of_block h4))
    all_goals go_wp2_with fail
    all_goals have HB' := HB.out
    all_goals go_ret
    all_goals exact ⟨rfl, (by repeat (first | (with_reducible exact Below.refl _ _) | (with_reducible refine Below.drew ?_) | (with_reducible refine below_drewN ?_ _) | ((with_reducible refine Below.alloc ?_ ?_ _); rotate_left; (first | omega | (simp <;> omega)); rotate_right) | ((with_reducible refine Below.setCell ?_ ?_ _); rotate_left; (first | omega | (simp <;> omega)); rotate_right) | (with_reducible assumption) | (refine Below.trans ?_ (Below.mono (by assumption) ?_); rotate_left; (first | omega | (simp <;> omega)); rotate_right)))⟩
theorem own : ownKnob Try.prog.godebug = none := by kernel_rfl
theorem laidOut : laidOutB Try.prog = true := by kernel_rfl
theorem cells23 : Try.prog.cellsOf 23 = 5 := by kernel_rfl
set_option maxRecDepth 100000 in
theorem lifted (os : Os) (started : os.Started) (H : Type) (enc : TypeId × Value → H) :
    ReturnsInHanded {} Try.checked os 3 .any (Rows.linkValidsSpec.pre6 enc Try.prog Try.f3 Rows.linkValidsRow.domain false) (Rows.linkValidsSpec.post enc Try.prog Try.f3 false true false false) := by
  refine returnsInHanded_of_change (C := Try.checked) own started (by kernel_rfl) Try.func3
    (ChangeSpec.witness6 (enc := enc) (C := Try.checked) false ⟨#[], #[.agg #[.int .i64 0, .int .i64 0, .int .i64 0, .int .i64 0, .int .i64 0]], []⟩ 8 (by kernel_rfl) (by kernel_rfl) (by kernel_rfl) (by kernel_rfl)) ?_
  intro W base args ds gs before hval0 hW hcnd _
  have hval : ∀ (j : Nat) t v, Try.f3.params[j]? = some t → args[j]? = some v → Value.okWide Try.prog W .any base t v := hval0
  have hW' := hW
  obtain ⟨p, q, hA0, hV, rfl, hfz, hnd⟩ := hW
  have hA : DataW.TrodAll enc Try.prog W 0 (fun _ => true) true Try.f3.params.toList args.toList ds p := hA0
  rw [Try.params3] at hA hval
  obtain ⟨v0, vs0, d0, ds0, p0, q0, hargs, rfl, rfl, h0, r0⟩ := trodAll_cons hA
  obtain ⟨rfl, rfl, rfl⟩ := trodAll_nil r0
  obtain rfl : args = #[v0] := by cases args; simp_all
  obtain ⟨rfl, rfl⟩ := trodVars_none hV
  have k0 := h0
  have lt0 : ∀ x ∈ p0, x.block < W.heap.size := by obtain ⟨m, hm⟩ := k0; exact DataW.trod_lt m _ _ _ hm
  obtain ⟨c00, c01, c02, c03, c04, y00, y01, y02, y03, y04, m0, rfl, _, _, hy00, hy01, hy02, hy03, hy04⟩ := open_agg5 Try.underlying23 (by kernel_rfl) cells23 (hval 0 23 v0 rfl rfl) h0
  obtain ⟨a00, e00, _, w00⟩ := DataW.trod_int Try.underlying3 hy00; simp at e00; subst e00
  obtain ⟨a01, e01, _, w01⟩ := DataW.trod_int Try.underlying3 hy01; simp at e01; subst e01
  obtain ⟨a02, e02, _, w02⟩ := DataW.trod_int Try.underlying3 hy02; simp at e02; subst e02
  obtain ⟨a03, e03, _, w03⟩ := DataW.trod_int Try.underlying3 hy03; simp at e03; subst e03
  obtain ⟨a04, e04, _, w04⟩ := DataW.trod_int Try.underlying3 hy04; simp at e04; subst e04
  clear hA0 hval0
  refine (walk a00 a01 a02 a03 a04 W w00 w01 w02 w03 w04).mono fun e W' ⟨he, bel⟩ => ?_
  subst he
  exact ⟨_, rfl, _, _, _, [], _, [], hW', trodAll_mk1 (shut_bool Try.underlying4 _), (trodAll_cons_mk (Below.trod laidOut (by kernel_rfl) (of_decide_eq_true (by kernel_rfl)) k0 bel lt0) trodAll_mk0), rfl, bel.frame _, fun h => by cases h⟩
theorem over : Rows.linkValidsRow.holds Try.pinned (OpenSpec.ofChange Rows.linkValidsSpec) :=
  OpenClaim.holds_of_wide 3 Try.f3 rfl rfl rfl rfl rfl rfl rfl ⟨rfl, rfl, rfl, rfl, rfl⟩ rfl rfl rfl rfl rfl (by kernel_rfl) Try.func3 (by kernel_rfl)
    (of_decide_eq_true (by kernel_rfl)) (by unfold Func.isWrapper; first | (rw [if_pos (by decide +kernel)]; kernel_rfl) | (rw [if_neg (by decide +kernel)]; exact ⟨rfl, rfl⟩))
    (fun os started H enc _ => lifted os started H enc)
theorem proved : Rows.LinkValidsSaid := over
end Go.Proofs.Ytgdpoiapkaahfaa.lawLinkValids

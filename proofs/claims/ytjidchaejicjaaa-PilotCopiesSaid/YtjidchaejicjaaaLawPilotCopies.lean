/- The law of the pilots' copies holds: 'skylanternlaw37.PilotCopies' returns true at every input. No conditions. -/
import Derived.Test.YtjidchaejicjaaaPlAE
import Derived.Test.YtjidchaejicjaaaFrC
import Derived.Deep.CutRange
namespace Go.Proofs.Ytjidchaejicjaaa.lawPilotCopies
open Go.ChangeShapes Go.WideShapes Go.ChangeAt Go.RowKit Go.Joins
set_option linter.unusedVariables false
set_option linter.unusedSimpArgs false
attribute [local go_sem ↓] Go.wp_at_zero Go.wp_at_succ
set_option maxHeartbeats 8000000
set_option maxRecDepth 100000
/-- another pilot and its reference, which stand still -/
def OT (B b c R : Nat) (s : Plt.St) (w' : World) : Prop := IsP w' B b c s ∧ RB w' R s
section
variable {B b c R q : Nat} {s : Plt.St} {W W' : World}
theorem OT.keep {S : Nat → Prop} (h : OT B b c R s W) (k : Keeps S W W') (hb : ¬ S b) (hc : ¬ S c) (hR : ¬ S R) : OT B b c R s W' := ⟨h.1.kept k hb hc, blk_keep h.2 k hR⟩
theorem OT.alloc (h : OT B b c R s W) (o : Obj) : OT B b c R s (W.alloc o) := ⟨h.1.alloc o, blk_alloc h.2 o⟩
theorem OT.drew (h : OT B b c R s W) : OT B b c R s W.drew := ⟨h.1.drew, h.2⟩
theorem OT.below (h : OT B b c R s W) (k : Below W.heap.size W W') : OT B b c R s W' := ⟨h.1.below k (Nat.le_refl _), blk_below h.2 k (lt_of_block h.2)⟩
theorem OT.setRow (h : OT B b c R s W) (cs : Array Value) (hq : Ty W q 54) (hn : R ≠ q) : OT B b c R s (W.setRow q cs) := ⟨h.1.setRow cs hq, (setRow_other _ _ _ _ (by first | exact hn | exact fun e => hn e.symm)).trans h.2⟩
end
/-- a pilot with its reference, and the other one -/
structure TP (B b c R C d e T : Nat) (s t : Plt.St) (i j : Nat) (w wr : World) : Prop where
  one : OT B b c R s wr
  two : OT C d e T t wr
  inv : Plt.Inv s
  inw : Plt.Inv t
  rep : s.reports ≤ i
  rew : t.reports ≤ j
  bel : Below B w wr
theorem few_len {l : List LAct} {most : Nat} (h : fewB l most = true) : l.length ≤ most ∧ ∀ y ∈ l, okA y = true := by
  unfold fewB at h
  simp only [Bool.and_eq_true, decide_eq_true_eq, List.all_eq_true] at h
  exact h
/-- behind the copy: the two pilots and the two references -/
def CpC (s : Plt.St) (w wr : World) (b c R : Nat) (v13 v14 : Value) (wx : World) : Prop :=
  ∃ b' c' T, v13 = .pointer (some ⟨b', 0, none⟩) ∧ v14 = .pointer (some ⟨T, 0, none⟩) ∧ RB wx R s ∧ RB wx T s ∧ IsP wx w.heap.size b c s ∧ IsP wx wr.heap.size b' c' s ∧ Below w.heap.size w wx ∧ (b < wr.heap.size ∧ c < wr.heap.size ∧ R < wr.heap.size ∧ wr.heap.size ≤ b' ∧ wr.heap.size ≤ c' ∧ wr.heap.size ≤ T ∧ w.heap.size ≤ wr.heap.size)
/-- a guard fails -/
theorem walk_no (a00 a01 a02 a03 a04 : Int) (a1 : Option Addr) (len1 cap1 : Nat) (l1 : List LAct) (a2 : Option Addr) (len2 cap2 : Nat) (l2 : List LAct) (a3 : Option Addr) (len3 cap3 : Nat) (l3 : List LAct) (w : World) (w00 : (Lit.int .i64 a00).wf = true) (w01 : (Lit.int .i64 a01).wf = true) (w02 : (Lit.int .i64 a02).wf = true) (w03 : (Lit.int .i64 a03).wf = true) (w04 : (Lit.int .i64 a04).wf = true) (w1 : LRf w w.heap.size a1 len1 l1) (r1 : Room a1 len1 cap1) (f1 : ∀ y ∈ l1, LaOk y) (w2 : LRf w w.heap.size a2 len2 l2) (r2 : Room a2 len2 cap2) (f2 : ∀ y ∈ l2, LaOk y) (w3 : LRf w w.heap.size a3 len3 l3) (r3 : Room a3 len3 cap3) (f3 : ∀ y ∈ l3, LaOk y) (hno : fewB l1 30 = false ∨ fewB l1 30 = true ∧ (fewB l2 10 = false ∨ fewB l2 10 = true ∧ (fewB l3 10 = false ∨ fewB l3 10 = true ∧ Plt.ruOk a00 a01 a02 a03 a04 = false))) :
    Calls Try.prog 7 #[.agg #[.int .i64 a00, .int .i64 a01, .int .i64 a02, .int .i64 a03, .int .i64 a04], .slice a1 len1 cap1, .slice a2 len2 cap2, .slice a3 len3 cap3] w fun e w' => e = .returned (.bool true) ∧ Below w.heap.size w w' := by
  have F1 := Lib.hid (show ∀ W : World, LRf W w.heap.size a1 len1 l1 → Calls Try.prog 9 #[.slice a1 len1 cap1, .int .i64 30] W fun e w' => e = .returned (.bool (fewB l1 30)) ∧ W = w' from fun W hW => few_any a1 len1 cap1 30 w.heap.size l1 W hW (by have h1 := r1.1; have h2 := r1.2.1; unfold maxLen at h2; omega) (by omega))
  have F2 := Lib.hid (show ∀ W : World, LRf W w.heap.size a2 len2 l2 → Calls Try.prog 9 #[.slice a2 len2 cap2, .int .i64 10] W fun e w' => e = .returned (.bool (fewB l2 10)) ∧ W = w' from fun W hW => few_any a2 len2 cap2 10 w.heap.size l2 W hW (by have h1 := r2.1; have h2 := r2.2.1; unfold maxLen at h2; omega) (by omega))
  have F3 := Lib.hid (show ∀ W : World, LRf W w.heap.size a3 len3 l3 → Calls Try.prog 9 #[.slice a3 len3 cap3, .int .i64 10] W fun e w' => e = .returned (.bool (fewB l3 10)) ∧ W = w' from fun W hW => few_any a3 len3 cap3 10 w.heap.size l3 W hW (by have h1 := r3.1; have h2 := r3.2.1; unfold maxLen at h2; omega) (by omega))
  have RV := Lib.hid (fun W : World => rpvalid_any a00 a01 a02 a03 a04 W)
  have HW1 := Lib.hid w1
  have HW2 := Lib.hid w2
  have HW3 := Lib.hid w3
  clear w1 w2 w3 r1 r2 r3 w00 w01 w02 w03 w04 f1 f2 f3
  rcases hno with h1 | ⟨h1, h2 | ⟨h2, h3 | ⟨h3, h4⟩⟩⟩
  all_goals
    (try rw [h1] at F1)
    (try rw [h2] at F2)
    (try rw [h3] at F3)
    (try rw [h4] at RV)
    (try clear h1)
    (try clear h2)
    (try clear h3)
    (try clear h4)
    go_enter Try.func7, Try.ntmps7
    go_wp2_with fail
    refine (F1.out _ (HW1.out.below (B' := w.heap.size) (by repeat (first | (with_reducible exact Below.refl _ _) | (with_reducible refine Below.drew ?_) | (with_reducible refine below_drewN ?_ _) | ((with_reducible refine Below.alloc ?_ ?_ _); rotate_left; (first | omega | (simp <;> omega)); rotate_right) | ((with_reducible refine Below.setCell ?_ ?_ _); rotate_left; (first | omega | (simp <;> omega)); rotate_right) | (with_reducible assumption) | (refine Below.trans ?_ (Below.mono (by assumption) ?_); rotate_left; (first | omega | (simp <;> omega)); rotate_right))) (Nat.le_refl _))).mono ?_
    rintro e w2 ⟨rfl, rfl⟩
    go_wp2_with fail
    (try ((refine (F2.out _ (HW2.out.below (B' := w.heap.size) (by repeat (first | (with_reducible exact Below.refl _ _) | (with_reducible refine Below.drew ?_) | (with_reducible refine below_drewN ?_ _) | ((with_reducible refine Below.alloc ?_ ?_ _); rotate_left; (first | omega | (simp <;> omega)); rotate_right) | ((with_reducible refine Below.setCell ?_ ?_ _); rotate_left; (first | omega | (simp <;> omega)); rotate_right) | (with_reducible assumption) | (refine Below.trans ?_ (Below.mono (by assumption) ?_); rotate_left; (first | omega | (simp <;> omega)); rotate_right))) (Nat.le_refl _))).mono ?_); rintro e w3 ⟨rfl, rfl⟩; go_wp2_with fail))
    (try ((refine (F3.out _ (HW3.out.below (B' := w.heap.size) (by repeat (first | (with_reducible exact Below.refl _ _) | (with_reducible refine Below.drew ?_) | (with_reducible refine below_drewN ?_ _) | ((with_reducible refine Below.alloc ?_ ?_ _); rotate_left; (first | omega | (simp <;> omega)); rotate_right) | ((with_reducible refine Below.setCell ?_ ?_ _); rotate_left; (first | omega | (simp <;> omega)); rotate_right) | (with_reducible assumption) | (refine Below.trans ?_ (Below.mono (by assumption) ?_); rotate_left; (first | omega | (simp <;> omega)); rotate_right))) (Nat.le_refl _))).mono ?_); rintro e w3 ⟨rfl, rfl⟩; go_wp2_with fail))
    (try ((refine (RV.out _).mono ?_); rintro e w3 ⟨rfl, hb3⟩; have hz3 := hb3.size; (try simp at hz3); go_wp2_with fail))
    refine (known_true _).mono ?_
    rintro e w4 ⟨rfl, hb4⟩
    have hz4 := hb4.size
    (try simp at hz4)
    go_wp2_with fail
    go_ret
    exact ⟨rfl, (by repeat (first | (with_reducible exact Below.refl _ _) | (with_reducible refine Below.drew ?_) | (with_reducible refine below_drewN ?_ _) | ((with_reducible refine Below.alloc ?_ ?_ _); rotate_left; (first | omega | (simp <;> omega)); rotate_right) | ((with_reducible refine Below.setCell ?_ ?_ _); rotate_left; (first | omega | (simp <;> omega)); rotate_right) | (with_reducible assumption) | (refine Below.trans ?_ (Below.mono (by assumption) ?_); rotate_left; (first | omega | (simp <;> omega)); rotate_right)))⟩
theorem walk_yes (a00 a01 a02 a03 a04 : Int) (a1 : Option Addr) (len1 cap1 : Nat) (l1 : List LAct) (a2 : Option Addr) (len2 cap2 : Nat) (l2 : List LAct) (a3 : Option Addr) (len3 cap3 : Nat) (l3 : List LAct) (w : World) (w00 : (Lit.int .i64 a00).wf = true) (w01 : (Lit.int .i64 a01).wf = true) (w02 : (Lit.int .i64 a02).wf = true) (w03 : (Lit.int .i64 a03).wf = true) (w04 : (Lit.int .i64 a04).wf = true) (w1 : LRf w w.heap.size a1 len1 l1) (r1 : Room a1 len1 cap1) (f1 : ∀ y ∈ l1, LaOk y) (w2 : LRf w w.heap.size a2 len2 l2) (r2 : Room a2 len2 cap2) (f2 : ∀ y ∈ l2, LaOk y) (w3 : LRf w w.heap.size a3 len3 l3) (r3 : Room a3 len3 cap3) (f3 : ∀ y ∈ l3, LaOk y) (h1 : fewB l1 30 = true) (h2 : fewB l2 10 = true) (h3 : fewB l3 10 = true) (h4 : Plt.ruOk a00 a01 a02 a03 a04 = true) :
    Calls Try.prog 7 #[.agg #[.int .i64 a00, .int .i64 a01, .int .i64 a02, .int .i64 a03, .int .i64 a04], .slice a1 len1 cap1, .slice a2 len2 cap2, .slice a3 len3 cap3] w fun e w' => e = .returned (.bool true) ∧ Below w.heap.size w w' := by
  have F1 := Lib.hid (show ∀ W : World, LRf W w.heap.size a1 len1 l1 → Calls Try.prog 9 #[.slice a1 len1 cap1, .int .i64 30] W fun e w' => e = .returned (.bool (fewB l1 30)) ∧ W = w' from fun W hW => few_any a1 len1 cap1 30 w.heap.size l1 W hW (by have h1 := r1.1; have h2 := r1.2.1; unfold maxLen at h2; omega) (by omega))
  have F2 := Lib.hid (show ∀ W : World, LRf W w.heap.size a2 len2 l2 → Calls Try.prog 9 #[.slice a2 len2 cap2, .int .i64 10] W fun e w' => e = .returned (.bool (fewB l2 10)) ∧ W = w' from fun W hW => few_any a2 len2 cap2 10 w.heap.size l2 W hW (by have h1 := r2.1; have h2 := r2.2.1; unfold maxLen at h2; omega) (by omega))
  have F3 := Lib.hid (show ∀ W : World, LRf W w.heap.size a3 len3 l3 → Calls Try.prog 9 #[.slice a3 len3 cap3, .int .i64 10] W fun e w' => e = .returned (.bool (fewB l3 10)) ∧ W = w' from fun W hW => few_any a3 len3 cap3 10 w.heap.size l3 W hW (by have h1 := r3.1; have h2 := r3.2.1; unfold maxLen at h2; omega) (by omega))
  have RV := Lib.hid (fun W : World => rpvalid_any a00 a01 a02 a03 a04 W)
  have HW1 := Lib.hid w1
  have HW2 := Lib.hid w2
  have HW3 := Lib.hid w3
  obtain ⟨hl1, hal1⟩ := few_len h1
  obtain ⟨hl2, hal2⟩ := few_len h2
  obtain ⟨hl3, hal3⟩ := few_len h3
  rw [w1.1] at hl1
  rw [w2.1] at hl2
  rw [w3.1] at hl3
  have AL1 := Lib.hid hal1
  have AL2 := Lib.hid hal2
  have AL3 := Lib.hid hal3
  rw [h1] at F1
  rw [h2] at F2
  rw [h3] at F3
  rw [h4] at RV
  have hv : Plt.newE 3 a00 a01 a02 a03 a04 100 = 0 := by unfold Plt.newE; rw [if_pos ⟨by decide, h4, by omega⟩]
  have M := Lib.hid (fun W : World => made_yes 3 a00 a01 a02 a03 a04 100 W hv)
  have HI := Lib.hid (Plt.new_inv hv)
  obtain ⟨s0, hs0⟩ : ∃ s0, s0 = Plt.new 3 a00 a01 a02 a03 a04 100 := ⟨_, rfl⟩
  have hrep0 : s0.reports = 0 := by rw [hs0]; rfl
  rw [← hs0] at M HI
  have HR0 := Lib.hid hrep0
  clear w1 w2 w3 r1 r2 r3 w00 w01 w02 w03 w04 f1 f2 f3 h1 h2 h3 h4 hal1 hal2 hal3 hv hs0 hrep0
  go_enter Try.func7, Try.ntmps7
  go_wp2_with fail
  refine (F1.out _ (HW1.out.below (B' := w.heap.size) (by repeat (first | (with_reducible exact Below.refl _ _) | (with_reducible refine Below.drew ?_) | (with_reducible refine below_drewN ?_ _) | ((with_reducible refine Below.alloc ?_ ?_ _); rotate_left; (first | omega | (simp <;> omega)); rotate_right) | ((with_reducible refine Below.setCell ?_ ?_ _); rotate_left; (first | omega | (simp <;> omega)); rotate_right) | (with_reducible assumption) | (refine Below.trans ?_ (Below.mono (by assumption) ?_); rotate_left; (first | omega | (simp <;> omega)); rotate_right))) (Nat.le_refl _))).mono ?_
  rintro e w2 ⟨rfl, rfl⟩
  go_wp2_with fail
  refine (F2.out _ (HW2.out.below (B' := w.heap.size) (by repeat (first | (with_reducible exact Below.refl _ _) | (with_reducible refine Below.drew ?_) | (with_reducible refine below_drewN ?_ _) | ((with_reducible refine Below.alloc ?_ ?_ _); rotate_left; (first | omega | (simp <;> omega)); rotate_right) | ((with_reducible refine Below.setCell ?_ ?_ _); rotate_left; (first | omega | (simp <;> omega)); rotate_right) | (with_reducible assumption) | (refine Below.trans ?_ (Below.mono (by assumption) ?_); rotate_left; (first | omega | (simp <;> omega)); rotate_right))) (Nat.le_refl _))).mono ?_
  rintro e w2 ⟨rfl, rfl⟩
  go_wp2_with fail
  refine (F3.out _ (HW3.out.below (B' := w.heap.size) (by repeat (first | (with_reducible exact Below.refl _ _) | (with_reducible refine Below.drew ?_) | (with_reducible refine below_drewN ?_ _) | ((with_reducible refine Below.alloc ?_ ?_ _); rotate_left; (first | omega | (simp <;> omega)); rotate_right) | ((with_reducible refine Below.setCell ?_ ?_ _); rotate_left; (first | omega | (simp <;> omega)); rotate_right) | (with_reducible assumption) | (refine Below.trans ?_ (Below.mono (by assumption) ?_); rotate_left; (first | omega | (simp <;> omega)); rotate_right))) (Nat.le_refl _))).mono ?_
  rintro e w2 ⟨rfl, rfl⟩
  go_wp2_with fail
  refine (RV.out _).mono ?_
  rintro e w3 ⟨rfl, hb3⟩
  have hz3 := hb3.size
  (try simp at hz3)
  have k3 := blk_below (q := w.heap.size) (heap_new _ _) hb3 (by first | omega | (simp; done) | (simp; omega))
  have HB := Lib.hid (show Below w.heap.size w w3 from (by repeat (first | (with_reducible exact Below.refl _ _) | (with_reducible refine Below.drew ?_) | (with_reducible refine below_drewN ?_ _) | ((with_reducible refine Below.alloc ?_ ?_ _); rotate_left; (first | omega | (simp <;> omega)); rotate_right) | ((with_reducible refine Below.setCell ?_ ?_ _); rotate_left; (first | omega | (simp <;> omega)); rotate_right) | (with_reducible assumption) | (refine Below.trans ?_ (Below.mono (by assumption) ?_); rotate_left; (first | omega | (simp <;> omega)); rotate_right))))
  clear hb3
  have cf_0 := blk_cell k3 0 rfl; have ff_0 := blk_free k3 0; have cf_1 := blk_cell k3 1 rfl; have ff_1 := blk_free k3 1; have cf_2 := blk_cell k3 2 rfl; have ff_2 := blk_free k3 2; have cf_3 := blk_cell k3 3 rfl; have ff_3 := blk_free k3 3; have cf_4 := blk_cell k3 4 rfl; have ff_4 := blk_free k3 4; have lf := lt_of_block k3
  go_wp2_with fail
  refine (M.out _).mono ?_
  rintro e W1 ⟨b, c, rfl, hp1, hb1⟩
  have z1 := heap_new W1 (.cells (rag rzero).toArray 54 (0, 0))
  have hz1 : w.heap.size < W1.heap.size := lt_of_block (blk_below k3 hb1 (lt_of_block k3))
  have HB1 := Lib.hid ((HB.out.trans (hb1.mono HB.out.size)).alloc (by omega) (.cells (rag rzero).toArray 54 (0, 0)))
  have HP1 := Lib.hid ((hp1.lower HB.out.size).alloc (.cells (rag rzero).toArray 54 (0, 0)))
  clear cf_0 ff_0 cf_1 ff_1 cf_2 ff_2 cf_3 ff_3 cf_4 ff_4
  clear k3 HB hb1 hp1 M hz3 F1 F2 F3 RV
  (go_upto_region 4 with (refine wpList_store_row rfl 54 _ _ rfl _ _ rfl rfl 54 _ z1 (by kernel_rfl) rfl (rag_one _) ?_))
  generalize hW : World.setRow _ _ _ = W2
  have HS := Lib.hid (show PS w.heap.size b c W1.heap.size s0 0 w W2 from ⟨by rw [← hW]; exact HP1.out.setRow _ ⟨_, z1⟩, HI.out, by rw [HR0.out]; omega, by rw [← hW]; exact setRow_heap _ _ _ _ _ _ z1, by rw [← hW]; exact below_setRow HB1.out (by omega) _⟩)
  have hR0 : w.heap.size ≤ W1.heap.size := by omega
  obtain ⟨R, hR⟩ : ∃ R, R = W1.heap.size := ⟨_, rfl⟩
  rw [← hR] at HS hR0 ⊢
  clear hW z1 HB1 HP1 hR hz1 HI HR0
  go_wp2_with fail
  go_loopw [12] (fun sl wr => ∃ (i : Nat) (s : Plt.St), sl = .int .i64 i ∧ i ≤ len1 ∧ Hid (PS w.heap.size b c R s i w wr)) (fun sl _ => len1 - (intOf sl).toNat)
  case atStart => exact ⟨0, s0, by go_num, by omega, HS⟩
  case round =>
    obtain ⟨i, s, rfl, hi, HQ⟩ := hrel
    clear HS
    have HP := Lib.hid HQ.out.1
    have HI := Lib.hid HQ.out.2.1
    have HRP := Lib.hid HQ.out.2.2.1
    have g0 : RB wr R s := HQ.out.2.2.2.1
    have HB := Lib.hid HQ.out.2.2.2.2
    clear HQ
    by_cases hlt : i < len1
    case neg =>
      obtain rfl : len1 = i := by omega
      have CP := Lib.hid (fun (W : World) (hW : IsP W w.heap.size b c s) => pcopy_any hW)
      have hRl := lt_of_block g0
      have hzr := HB.out.size
      have hlen1 := hi
      clear hlt
      go_upto_region 10 with fail
      go_cut [13, 14] from 68 to 70 (fun v13 v14 wx => CpC s w wr b c R v13 v14 wx)
      case first =>
       refine wp_region_held_drew (S := fun w' => RB w' R s ∧ IsP w' w.heap.size b c s ∧ Below w.heap.size w w') (by kernel_rfl) ?_ (fun h0 => ?_)
       · exact ⟨g0, HP.out.drew, HB.out.drew⟩
       refine wpAnyH_take (i := 0) (v := ?_) rfl (by kernel_rfl) (by kernel_rfl) (by kernel_rfl) (fun _ _ _ h => h) (Or.inl ⟨by rfl, ?_⟩) h0 ?_
       rotate_left
       focus (intro w' hSw; skip; go_simp; (try with_reducible rfl))
       (try simp only [List.getElem_toArray, List.getElem_cons_succ, List.getElem_cons_zero, Act.put, List.setIfInBounds_toArray, List.set_cons_zero, List.set_cons_succ])
       refine wpAnyH_take (i := 2) (v := .agg (rag s).toArray) rfl (by kernel_rfl) (by kernel_rfl) (by kernel_rfl) (fun _ _ _ h => h) (yields_load_row (by rfl) 54 _ rfl R rfl 54 _ (0, 0) _ (fun w' h => h.1) Try.underlying54 rfl (by kernel_rfl)) h0 ?_
       (try simp only [List.getElem_toArray, List.getElem_cons_succ, List.getElem_cons_zero, Act.put, List.setIfInBounds_toArray, List.set_cons_zero, List.set_cons_succ])
       refine wpAnyH_ready (rs := [1, 3]) (by kernel_rfl) (by simp) ?_
       refine AllReadyH.cons rfl (fun K hK => ?_) (AllReadyH.cons rfl (fun K hK => ?_) AllReadyH.nil)
       ·go_simp
        refine (CP.out _ HP.out.drew).mono ?_
        rintro e W3 ⟨b', c', rfl, hp3, hb3⟩
        go_wp2_with fail
        refine hK.out _ _ ?_ (fun h1 => ?_)
        · exact ⟨blk_below h0.1 hb3 (lt_of_block h0.1), h0.2.1.below hb3 (Nat.le_refl _), h0.2.2.trans (hb3.mono h0.2.2.size)⟩
        clear hK K
        (try simp only [List.getElem_toArray, List.getElem_cons_succ, List.getElem_cons_zero, Act.put, List.setIfInBounds_toArray, List.set_cons_zero, List.set_cons_succ])
        refine wpAnyH_ready (rs := [3]) (by kernel_rfl) (by simp) ?_
        refine AllReadyH.cons rfl (fun K hK => ?_) AllReadyH.nil
        go_simp
        refine hK.out _ _ ?_ (fun h2 => ?_)
        · exact ⟨blk_alloc h1.1 _, h1.2.1.alloc _, h1.2.2.alloc h1.2.2.size _⟩
        clear hK K
        (try simp only [List.getElem_toArray, List.getElem_cons_succ, List.getElem_cons_zero, Act.put, List.setIfInBounds_toArray, List.set_cons_zero, List.set_cons_succ])
        refine wpAnyH_take (i := 4) (v := ?_) rfl (by kernel_rfl) (by kernel_rfl) (by kernel_rfl) (fun _ _ _ h => h) (Or.inl ⟨by rfl, ?_⟩) h2 ?_
        rotate_left
        focus (intro w' hSw; skip; go_simp; (try with_reducible rfl))
        (try simp only [List.getElem_toArray, List.getElem_cons_succ, List.getElem_cons_zero, Act.put, List.setIfInBounds_toArray, List.set_cons_zero, List.set_cons_succ])
        refine wpAnyH_ready (rs := [5]) (by kernel_rfl) (by simp) ?_
        refine AllReadyH.cons rfl (fun K hK => ?_) AllReadyH.nil
        refine wp_store_row 54 _ _ rfl _ _ rfl rfl 54 _ (heap_new W3 (.cells (rag rzero).toArray 54 (0, 0))) (by kernel_rfl) rfl (rag_one _) ?_
        have hRW : R < W3.heap.size := lt_of_block h1.1
        refine hK.out _ _ ?_ (fun h3 => ?_)
        · exact ⟨(setRow_other _ _ _ _ (by omega)).trans h2.1, h2.2.1.setRow _ ⟨_, heap_new W3 (.cells (rag rzero).toArray 54 (0, 0))⟩, below_setRow h2.2.2 h1.2.2.size _⟩
        clear hK K
        (try simp only [List.getElem_toArray, List.getElem_cons_succ, List.getElem_cons_zero, Act.put, List.setIfInBounds_toArray, List.set_cons_zero, List.set_cons_succ])
        have hq3 := (hp3.alloc (.cells (rag rzero).toArray 54 (0, 0))).setRow (rag s).toArray ⟨_, heap_new W3 (.cells (rag rzero).toArray 54 (0, 0))⟩
        have gT0 := setRow_heap (W3.alloc (.cells (rag rzero).toArray 54 (0, 0))) W3.heap.size _ (rag s).toArray _ _ (heap_new W3 (.cells (rag rzero).toArray 54 (0, 0)))
        have hbl := HP.out.lt
        have hz3 := hb3.size
        have hge := hp3.ge
        have h3 := h3
        clear h0 h1 h2 hp3 hb3
        refine wpAnyH_done (by kernel_rfl) ?_ _
        go_wp2_with fail
        generalize hZ : World.setRow _ _ _ = Wz
        have gT : RB Wz W3.heap.size s := by rw [← hZ]; exact gT0
        have gR : RB Wz R s := by rw [← hZ]; exact h3.1
        have HPz := (show IsP Wz w.heap.size b c s by rw [← hZ]; exact h3.2.1)
        have HBz := (show Below w.heap.size w Wz by rw [← hZ]; exact h3.2.2)
        have HQz := (show IsP Wz wr.heap.size b' c' s by rw [← hZ]; exact hq3)
        clear hZ hq3 gT0 h3
        go_meet
        exact ⟨b', c', W3.heap.size, rfl, rfl, gR, gT, HPz, HQz, HBz, ⟨hbl.1, hbl.2, hRl, hge.1, hge.2, hz3, hzr⟩⟩
       ·go_simp
        refine hK.out _ _ ?_ (fun h1 => ?_)
        · exact ⟨blk_alloc h0.1 _, h0.2.1.alloc _, h0.2.2.alloc h0.2.2.size _⟩
        clear hK K
        (try simp only [List.getElem_toArray, List.getElem_cons_succ, List.getElem_cons_zero, Act.put, List.setIfInBounds_toArray, List.set_cons_zero, List.set_cons_succ])
        refine wpAnyH_ready (rs := [1]) (by kernel_rfl) (by simp) ?_
        refine AllReadyH.cons rfl (fun K hK => ?_) AllReadyH.nil
        go_simp
        obtain ⟨X, hX⟩ : ∃ X, X = (wr.alloc (.cells (rag rzero).toArray 54 (0, 0))).drew := ⟨_, rfl⟩
        have xN : X.heap[wr.heap.size]? = some (.cells (rag rzero).toArray 54 (0, 0)) := by rw [hX]; exact heap_new wr _
        have hsX : X.heap.size = wr.heap.size + 1 := by rw [hX]; show (World.alloc _ _).heap.size = _; simp
        have h1 : RB X R s ∧ IsP X w.heap.size b c s ∧ Below w.heap.size w X := by rw [hX]; exact h1
        have e9 : (wr.alloc (.cells (rag rzero).toArray 54 (0, 0))).drew = X := hX.symm
        simp only [rag, rzero] at e9
        (try rw [e9])
        clear hX
        refine (CP.out _ h1.2.1).mono ?_
        rintro e W3 ⟨b', c', rfl, hp3, hb3⟩
        go_wp2_with fail
        refine hK.out _ _ ?_ (fun h2 => ?_)
        · exact ⟨blk_below h1.1 hb3 (lt_of_block h1.1), h1.2.1.below hb3 (Nat.le_refl _), h1.2.2.trans (hb3.mono h1.2.2.size)⟩
        clear hK K
        (try simp only [List.getElem_toArray, List.getElem_cons_succ, List.getElem_cons_zero, Act.put, List.setIfInBounds_toArray, List.set_cons_zero, List.set_cons_succ])
        have yN := blk_below xN hb3 (lt_of_block xN)
        refine wpAnyH_take (i := 4) (v := ?_) rfl (by kernel_rfl) (by kernel_rfl) (by kernel_rfl) (fun _ _ _ h => h) (Or.inl ⟨by rfl, ?_⟩) h2 ?_
        rotate_left
        focus (intro w' hSw; skip; go_simp; (try with_reducible rfl))
        (try simp only [List.getElem_toArray, List.getElem_cons_succ, List.getElem_cons_zero, Act.put, List.setIfInBounds_toArray, List.set_cons_zero, List.set_cons_succ])
        refine wpAnyH_ready (rs := [5]) (by kernel_rfl) (by simp) ?_
        refine AllReadyH.cons rfl (fun K hK => ?_) AllReadyH.nil
        refine wp_store_row 54 _ _ rfl _ _ rfl rfl 54 _ yN (by kernel_rfl) rfl (rag_one _) ?_
        refine hK.out _ _ ?_ (fun h3 => ?_)
        · exact ⟨(setRow_other _ _ _ _ (by omega)).trans h2.1, h2.2.1.setRow _ ⟨_, yN⟩, below_setRow h2.2.2 hzr _⟩
        clear hK K
        (try simp only [List.getElem_toArray, List.getElem_cons_succ, List.getElem_cons_zero, Act.put, List.setIfInBounds_toArray, List.set_cons_zero, List.set_cons_succ])
        have hq3 := hp3.setRow (rag s).toArray ⟨_, yN⟩
        have gT0 := setRow_heap W3 wr.heap.size _ (rag s).toArray _ _ yN
        have hbl := HP.out.lt
        have hge := hp3.ge
        have h3 := h3
        clear h0 h1 h2 hp3 hb3 xN yN
        refine wpAnyH_done (by kernel_rfl) ?_ _
        go_wp2_with fail
        generalize hZ : World.setRow _ _ _ = Wz
        have gT : RB Wz wr.heap.size s := by rw [← hZ]; exact gT0
        have gR : RB Wz R s := by rw [← hZ]; exact h3.1
        have HPz := (show IsP Wz w.heap.size b c s by rw [← hZ]; exact h3.2.1)
        have HBz := (show Below w.heap.size w Wz by rw [← hZ]; exact h3.2.2)
        rw [hsX] at hge
        have HQz := (show IsP Wz wr.heap.size b' c' s by rw [← hZ]; exact hq3.lower (by omega))
        clear hZ hq3 gT0 h3 hsX
        go_meet
        exact ⟨b', c', wr.heap.size, rfl, rfl, gR, gT, HPz, HQz, HBz, ⟨hbl.1, hbl.2, hRl, by omega, by omega, Nat.le_refl _, hzr⟩⟩
      case rest =>
      obtain ⟨b', c', T, rfl, rfl, gR, gT, hpz, hqz, hbz, hnn⟩ := hcut
      have HPz := Lib.hid hpz
      have HQz := Lib.hid hqz
      have HBz := Lib.hid hbz
      obtain ⟨C, hC⟩ : ∃ C, C = wr.heap.size := ⟨_, rfl⟩
      rw [← hC] at HQz hnn
      have HN := Lib.hid hnn
      clear hC hnn hpz hqz hbz
      have HX := Lib.hid (show TP w.heap.size b c R C b' c' T s s len1 len1 w wc from ⟨⟨HPz.out, gR⟩, ⟨HQz.out, gT⟩, HI.out, HI.out, HRP.out, HRP.out, HBz.out⟩)
      clear HB HP HI HRP g0 hRl hzr
      go_wp2_with (first | (refine wpList_load_row_on (by rfl) 54 _ rfl _ rfl 54 _ (0, 0) _ gT Try.underlying54 rfl (by kernel_rfl) ?_))
      refine (shows_yes HQz.out HX.out.inv).mono ?_
      rintro e W8 ⟨rfl, hb8⟩
      have HS8 := Lib.hid (show TP w.heap.size b c R C b' c' T s s len1 len1 w W8 from ⟨HX.out.one.below hb8, HX.out.two.below hb8, HX.out.inv, HX.out.inw, HX.out.rep, HX.out.rew, HX.out.bel.trans (hb8.mono HX.out.bel.size)⟩)
      clear hb8 gR gT HPz HQz HBz HX CP
      go_wp2_with fail
      go_loopw [15] (fun sl wr => ∃ (i : Nat) (s t : Plt.St), sl = .int .i64 i ∧ i ≤ len2 ∧ Hid (TP w.heap.size b c R C b' c' T s t (len1 + i) len1 w wr)) (fun sl _ => len2 - (intOf sl).toNat)
      case atStart => exact ⟨0, _, _, by go_num, by omega, HS8⟩
      case round =>
       obtain ⟨i, s, t, rfl, hi, HQ⟩ := hrel
       clear HS8
       have HP := Lib.hid (show IsP wr w.heap.size b c s from HQ.out.one.1)
       have HO : Hid (OT C b' c' T t wr) := Lib.hid HQ.out.two
       have HI := Lib.hid HQ.out.inv
       have HJ := Lib.hid HQ.out.inw
       have HRP := Lib.hid HQ.out.rep
       have HRW := Lib.hid HQ.out.rew
       have g0 : RB wr R s := HQ.out.one.2
       have HB := Lib.hid HQ.out.bel
       by_cases hlt : i < len2
       case neg =>
        obtain rfl : len2 = i := by omega
        have HS8 := HQ
        clear g0 HP HO HI HJ HRP HRW HB HQ
        go_wp2_with fail
        go_loopw [18] (fun sl wr => ∃ (i : Nat) (s t : Plt.St), sl = .int .i64 i ∧ i ≤ len3 ∧ Hid (TP w.heap.size b c R C b' c' T s t (len1 + len2) (len1 + i) w wr)) (fun sl _ => len3 - (intOf sl).toNat)
        case atStart => exact ⟨0, _, _, by go_num, by omega, HS8⟩
        case round =>
         obtain ⟨i, s, t, rfl, hi, HQ⟩ := hrel
         clear HS8
         have HP := Lib.hid (show IsP wr w.heap.size b' c' t from HQ.out.two.1.lower HN.out.2.2.2.2.2.2)
         have HO : Hid (OT w.heap.size b c R s wr) := Lib.hid HQ.out.one
         have HI := Lib.hid HQ.out.inw
         have HJ := Lib.hid HQ.out.inv
         have HRP := Lib.hid HQ.out.rew
         have HRW := Lib.hid HQ.out.rep
         have g0 : RB wr T t := HQ.out.two.2
         have HB := Lib.hid HQ.out.bel
         by_cases hlt : i < len3
         case neg =>
          obtain rfl : len3 = i := by omega
          clear g0 HP HO HI HJ HRP HRW
          have gR := HQ.out.one.2
          go_wp2_with (first | (refine wpList_load_row_on (by rfl) 54 _ rfl _ rfl 54 _ (0, 0) _ gR Try.underlying54 rfl (by kernel_rfl) ?_))
          refine (shows_yes HQ.out.one.1 HQ.out.inv).mono ?_
          rintro e W6 ⟨rfl, hb6⟩
          have HB6 := Lib.hid (HB.out.trans (hb6.mono HB.out.size))
          have O6 := Lib.hid (HQ.out.two.below hb6)
          have gT := O6.out.2
          clear hb6 HB
          go_wp2_with (first | (refine wpList_load_row_on (by rfl) 54 _ rfl _ rfl 54 _ (0, 0) _ gT Try.underlying54 rfl (by kernel_rfl) ?_))
          refine (shows_yes O6.out.1 HQ.out.inw).mono ?_
          rintro e W7 ⟨rfl, hb7⟩
          have HB := Lib.hid (HB6.out.trans (hb7.mono HB6.out.size))
          clear hb7 HB6 O6 gT gR
          go_wp2_with fail; refine (known_true _).mono ?_; rintro e W9 ⟨rfl, hb9⟩; have HB9 := Lib.hid (HB.out.trans (hb9.mono HB.out.size)); clear hb9; go_wp2_with fail; go_ret; exact ⟨rfl, HB9.out⟩
         case pos =>
         clear HQ
         obtain ⟨bb, oo, rfl, hbb, hcc⟩ := (HW3.out.below HB.out (Nat.le_refl _)).2 (by omega)
         obtain ⟨FD, fc, c0, c1, c2, c3, c4, c5, hrd, hrm⟩ := hcc i hlt
         obtain ⟨x, hx⟩ : ∃ x, x = l3.getD i la0 := ⟨_, rfl⟩
         rw [← hx] at c0 c1 c2 c3 c4 c5 hrd
         have hok : okA x = true := AL3.out x (by rw [hx]; simp [List.getD, List.getElem?_eq_getElem (show i < l3.length by rw [HW3.out.1]; exact hlt)])
         unfold okA at hok
         simp only [decide_eq_true_eq] at hok
         have AC := Lib.hid (show ∀ W : World, IsP W w.heap.size b' c' t → w.heap.size ≤ W.heap.size → Rd W w.heap.size FD x.f.d.length x.f.d → Calls Try.prog 21 #[.pointer (some ⟨b', 0, none⟩), .agg (rag t).toArray, .agg #[.int .i64 x.now, .int .i64 x.f.k, .int .i64 x.f.f, .int .i64 x.f.t, .int .i64 x.f.s, .slice FD x.f.d.length fc]] W (ActPost w.heap.size b' c' (Plt.actS t x) W) from fun W h1 h2 h3 => act_any h1 HI.out (by have := HRP.out; omega) x FD fc (by omega) h2 h3)
         have HI2 := Lib.hid (Plt.actS_inv HI.out (a := x) hrd.2.1)
         have HRP2 := Lib.hid (show (Plt.actS t x).reports ≤ ((len1 + (i + 1) : Nat) : Int) by have h1 := (Plt.actS_reports t x).1; have h2 := HRP.out; omega)
         obtain ⟨s', hs'⟩ : ∃ s', s' = Plt.actS t x := ⟨_, rfl⟩
         rw [← hs'] at AC HI2 HRP2
         have hzr := HB.out.size
         have HRD := Lib.hid hrd
         have hin : (i : Int) < (len3 : Int) := by omega
         have hG := Lib.hid g0
         have hRl := lt_of_block g0
         clear hcc hrd hrm hx hok hs' HI HRP
         obtain ⟨n1, n2, n3, n4, n5, n6, n7⟩ := HN.out
         go_upto_region 23 with fail
         refine wp_region_held_drew (S := fun w' => RB w' T t ∧ SC bb (oo + i * 6) x FD fc w' ∧ OT w.heap.size b c R s w') (by kernel_rfl) ?_ (fun h0 => ?_)
         · exact ⟨g0, ⟨c0, c1, c2, c3, c4, c5⟩, HO.out.drew⟩
         refine wpAnyH_take (i := 0) (v := ?_) rfl (by kernel_rfl) (by kernel_rfl) (by kernel_rfl) (fun _ _ _ h => h) (Or.inl ⟨by rfl, ?_⟩) h0 ?_
         rotate_left
         focus (intro w' hSw; skip; go_simp; (try with_reducible rfl))
         (try simp only [List.getElem_toArray, List.getElem_cons_succ, List.getElem_cons_zero, Act.put, List.setIfInBounds_toArray, List.set_cons_zero, List.set_cons_succ])
         refine wpAnyH_take (i := 1) (v := .agg (rag t).toArray) rfl (by kernel_rfl) (by kernel_rfl) (by kernel_rfl) (fun _ _ _ h => h) (yields_load_row (by rfl) 54 _ rfl T rfl 54 _ (0, 0) _ (fun w' h => h.1) Try.underlying54 rfl (by kernel_rfl)) h0 ?_
         (try simp only [List.getElem_toArray, List.getElem_cons_succ, List.getElem_cons_zero, Act.put, List.setIfInBounds_toArray, List.set_cons_zero, List.set_cons_succ])
         refine wpAnyH_take (i := 2) (v := ?_) rfl (by kernel_rfl) (by kernel_rfl) (by kernel_rfl) (fun _ _ _ h => h) (Or.inl ⟨by rfl, ?_⟩) h0 ?_
         rotate_left
         focus (intro w' hSw; skip; go_simp; (try with_reducible rfl))
         (try simp only [List.getElem_toArray, List.getElem_cons_succ, List.getElem_cons_zero, Act.put, List.setIfInBounds_toArray, List.set_cons_zero, List.set_cons_succ])
         refine wpAnyH_take (i := 3) (v := ?_) rfl (by kernel_rfl) (by kernel_rfl) (by kernel_rfl) (fun _ _ _ h => h) (Or.inl ⟨by rfl, ?_⟩) h0 ?_
         rotate_left
         focus (intro w' hSw; skip; go_simp; (try with_reducible rfl))
         (try simp only [List.getElem_toArray, List.getElem_cons_succ, List.getElem_cons_zero, Act.put, List.setIfInBounds_toArray, List.set_cons_zero, List.set_cons_succ])
         refine wpAnyH_take (i := 4) (v := ?_) rfl (by kernel_rfl) (by kernel_rfl) (by kernel_rfl) (fun _ _ _ h => h) (Or.inl ⟨by rfl, ?_⟩) h0 ?_
         rotate_left
         focus (intro w' hSw; skip; go_simp; (try with_reducible rfl))
         (try simp only [List.getElem_toArray, List.getElem_cons_succ, List.getElem_cons_zero, Act.put, List.setIfInBounds_toArray, List.set_cons_zero, List.set_cons_succ])
         refine wpAnyH_take (i := 5) (v := ?_) rfl (by kernel_rfl) (by kernel_rfl) (by kernel_rfl) (fun _ _ _ h => h) (Or.inl ⟨by rfl, ?_⟩) h0 ?_
         rotate_left
         focus (intro w' hSw; obtain ⟨_, ⟨a0, a1, a2, a3, a4, a5⟩, _⟩ := hSw; go_simp; (try with_reducible rfl))
         (try simp only [List.getElem_toArray, List.getElem_cons_succ, List.getElem_cons_zero, Act.put, List.setIfInBounds_toArray, List.set_cons_zero, List.set_cons_succ])
         clear c0 c1 c2 c3 c4 c5
         refine wpAnyH_ready (rs := [6, 10]) (by kernel_rfl) (by simp) ?_
         refine AllReadyH.cons rfl (fun K hK => ?_) (AllReadyH.cons rfl (fun K hK => ?_) AllReadyH.nil)
         ·go_simp
          refine (AC.out _ HP.out.drew hzr HRD.out.drew).mono ?_
          rintro e W3 ⟨rfl, hp3, hk3⟩
          go_wp2_with fail
          refine hK.out _ _ ?_ (fun h1 => ?_)
          · exact ⟨blk_keep h0.1 hk3 (HP.out.noR h0.1), h0.2.1.keep hk3 (HP.out.noA hbb), h0.2.2.keep hk3 (by omega) (by omega) (HP.out.noR h0.2.2.2)⟩
          clear hK K
          (try simp only [List.getElem_toArray, List.getElem_cons_succ, List.getElem_cons_zero, Act.put, List.setIfInBounds_toArray, List.set_cons_zero, List.set_cons_succ])
          refine wpAnyH_take (i := 7) (v := ?_) rfl (by kernel_rfl) (by kernel_rfl) (by kernel_rfl) (fun _ _ _ h => h) (Or.inl ⟨by rfl, ?_⟩) h1 ?_
          rotate_left
          focus (intro w' hSw; skip; go_simp; (try with_reducible rfl))
          (try simp only [List.getElem_toArray, List.getElem_cons_succ, List.getElem_cons_zero, Act.put, List.setIfInBounds_toArray, List.set_cons_zero, List.set_cons_succ])
          refine wpAnyH_take (i := 8) (v := ?_) rfl (by kernel_rfl) (by kernel_rfl) (by kernel_rfl) (fun _ _ _ h => h) (Or.inl ⟨by rfl, ?_⟩) h1 ?_
          rotate_left
          focus (intro w' hSw; skip; go_simp; (try with_reducible rfl))
          (try simp only [List.getElem_toArray, List.getElem_cons_succ, List.getElem_cons_zero, Act.put, List.setIfInBounds_toArray, List.set_cons_zero, List.set_cons_succ])
          refine wpAnyH_take (i := 9) (v := ?_) rfl (by kernel_rfl) (by kernel_rfl) (by kernel_rfl) (fun _ _ _ h => h) (Or.inl ⟨by rfl, ?_⟩) h1 ?_
          rotate_left
          focus (intro w' hSw; skip; go_simp; (try with_reducible rfl))
          (try simp only [List.getElem_toArray, List.getElem_cons_succ, List.getElem_cons_zero, Act.put, List.setIfInBounds_toArray, List.set_cons_zero, List.set_cons_succ])
          refine wpAnyH_ready (rs := [10]) (by kernel_rfl) (by simp) ?_
          refine AllReadyH.cons rfl (fun K hK => ?_) AllReadyH.nil
          go_simp
          refine hK.out _ _ ?_ (fun h2 => ?_)
          · exact ⟨blk_alloc h1.1 _, ⟨h1.2.1.alloc _, h1.2.2.alloc _⟩⟩
          clear hK K
          (try simp only [List.getElem_toArray, List.getElem_cons_succ, List.getElem_cons_zero, Act.put, List.setIfInBounds_toArray, List.set_cons_zero, List.set_cons_succ])
          refine wpAnyH_ready (rs := [11]) (by kernel_rfl) (by simp) ?_
          refine AllReadyH.cons rfl (fun K hK => ?_) AllReadyH.nil
          refine wp_store_row 54 _ _ rfl _ _ rfl rfl 54 _ (heap_new W3 (.cells (rag rzero).toArray 54 (0, 0))) (by kernel_rfl) rfl (rag_one _) ?_
          have hRW : T < W3.heap.size := lt_of_block h1.1
          have hOW := lt_of_block h1.2.2.2
          have hbW : bb < W3.heap.size := cell_lt h1.2.1.1
          refine hK.out _ _ ?_ (fun h3 => ?_)
          · exact ⟨(setRow_other _ _ _ _ (by omega)).trans h2.1, h2.2.1.setRow (by omega) _, h2.2.2.setRow _ ⟨_, heap_new W3 (.cells (rag rzero).toArray 54 (0, 0))⟩ (by omega)⟩
          clear hK K
          (try simp only [List.getElem_toArray, List.getElem_cons_succ, List.getElem_cons_zero, Act.put, List.setIfInBounds_toArray, List.set_cons_zero, List.set_cons_succ])
          refine wpAnyH_take (i := 12) (v := ?_) rfl (by kernel_rfl) (by kernel_rfl) (by kernel_rfl) (fun _ _ _ h => h) (Or.inl ⟨by rfl, ?_⟩) h3 ?_
          rotate_left
          focus (intro w' hSw; skip; go_simp; (try with_reducible rfl))
          (try simp only [List.getElem_toArray, List.getElem_cons_succ, List.getElem_cons_zero, Act.put, List.setIfInBounds_toArray, List.set_cons_zero, List.set_cons_succ])
          have hB3 : Below w.heap.size w W3 := act_below HB.out.drew hzr HP.out.drew hk3
          have hS9 := h3
          have HBz0 := below_setRow (hB3.alloc hB3.size (.cells (rag rzero).toArray 54 (0, 0))) (show w.heap.size ≤ W3.heap.size from hB3.size) (rag s').toArray
          have gN0 := setRow_heap (W3.alloc (.cells (rag rzero).toArray 54 (0, 0))) W3.heap.size _ (rag s').toArray _ _ (heap_new W3 (.cells (rag rzero).toArray 54 (0, 0)))
          have HPz0 := (hp3.alloc (.cells (rag rzero).toArray 54 (0, 0))).setRow (rag s').toArray ⟨_, heap_new W3 (.cells (rag rzero).toArray 54 (0, 0))⟩
          clear h0 h1 h2 h3 hp3 hk3
          refine wpAnyH_done (by kernel_rfl) ?_ _
          go_upto_region 24 with fail
          generalize hZ : World.setRow _ _ _ = Wz
          have gN : RB Wz W3.heap.size s' := by rw [← hZ]; exact gN0
          have HPz := Lib.hid (show IsP Wz w.heap.size b' c' s' by rw [← hZ]; exact HPz0)
          have HBz := Lib.hid (show Below w.heap.size w Wz by rw [← hZ]; exact HBz0)
          have hS9 : RB Wz T t ∧ SC bb (oo + i * 6) x FD fc Wz ∧ OT w.heap.size b c R s Wz := by rw [← hZ]; exact hS9
          clear hZ gN0 HPz0 HBz0 hB3
          have gR : RB Wz T t := hS9.1
          go_upto_region 25 with (first | (refine wpList_load_row rfl 54 _ rfl _ rfl 54 _ (0, 0) _ gN Try.underlying54 rfl (by kernel_rfl) ?_) | (refine wpList_store_row rfl 54 _ _ rfl _ _ rfl rfl 54 _ gR (by kernel_rfl) rfl (rag_one _) ?_))
          generalize hY : World.setRow _ _ _ = Wy
          have yR : RB Wy T s' := by rw [← hY]; exact setRow_heap _ _ _ _ _ _ gR
          have HPy := (show IsP Wy w.heap.size b' c' s' by rw [← hY]; exact HPz.out.setRow _ ⟨_, gR⟩)
          have HOy : OT w.heap.size b c R s Wy := by rw [← hY]; exact hS9.2.2.setRow _ ⟨_, gR⟩ (by omega)
          have HBy := (show Below w.heap.size w Wy by rw [← hY]; exact below_setRow HBz.out (by omega) _)
          have HS9 := Lib.hid (show TP w.heap.size b c R C b' c' T s s' (len1 + len2) (len1 + (i + 1)) w Wy from ⟨HOy, ⟨⟨HPy.blk, HPy.clk, ⟨n4, n5⟩⟩, yR⟩, HJ.out, HI2.out, HRW.out, HRP2.out, HBy⟩)
          clear hY gR gN hS9 HPz HBz yR HPy HOy HBy
          go_wp2_with fail
          go_roundw
          case rel => exact ⟨i + 1, s, s', by go_num, by omega, HS9⟩
          case measure => simp [intOf]; omega
         ·go_simp
          refine hK.out _ _ ?_ (fun h1 => ?_)
          · exact ⟨blk_alloc h0.1 _, ⟨h0.2.1.alloc _, h0.2.2.alloc _⟩⟩
          clear hK K
          (try simp only [List.getElem_toArray, List.getElem_cons_succ, List.getElem_cons_zero, Act.put, List.setIfInBounds_toArray, List.set_cons_zero, List.set_cons_succ])
          refine wpAnyH_ready (rs := [6]) (by kernel_rfl) (by simp) ?_
          refine AllReadyH.cons rfl (fun K hK => ?_) AllReadyH.nil
          go_simp
          obtain ⟨X, hX⟩ : ∃ X, X = (wr.alloc (.cells (rag rzero).toArray 54 (0, 0))).drew := ⟨_, rfl⟩
          have xN : X.heap[wr.heap.size]? = some (.cells (rag rzero).toArray 54 (0, 0)) := by rw [hX]; exact heap_new wr _
          have hPX : IsP X w.heap.size b' c' t := by rw [hX]; exact (HP.out.alloc _).drew
          have hBX : Below w.heap.size w X := by rw [hX]; exact (HB.out.alloc hzr _).drew
          have hwX : Below wr.heap.size wr X := by rw [hX]; exact ((Below.refl _ _).alloc (Nat.le_refl _) _).drew
          have h1 : RB X T t ∧ SC bb (oo + i * 6) x FD fc X ∧ OT w.heap.size b c R s X := by rw [hX]; exact h1
          have e9 : (wr.alloc (.cells (rag rzero).toArray 54 (0, 0))).drew = X := hX.symm
          simp only [rag, rzero] at e9
          (try rw [e9])
          clear hX
          refine (AC.out _ hPX hBX.size (HRD.out.below hwX hzr)).mono ?_
          rintro e W3 ⟨rfl, hp3, hk3⟩
          go_wp2_with fail
          have hOl := lt_of_block HO.out.2
          refine hK.out _ _ ?_ (fun h2 => ?_)
          · exact ⟨blk_keep h1.1 hk3 (hPX.noR h1.1), h1.2.1.keep hk3 (hPX.noA hbb), h1.2.2.keep hk3 (by omega) (by omega) (hPX.noR h1.2.2.2)⟩
          clear hK K
          (try simp only [List.getElem_toArray, List.getElem_cons_succ, List.getElem_cons_zero, Act.put, List.setIfInBounds_toArray, List.set_cons_zero, List.set_cons_succ])
          have yN := blk_keep xN hk3 (hPX.noR xN)
          refine wpAnyH_take (i := 7) (v := ?_) rfl (by kernel_rfl) (by kernel_rfl) (by kernel_rfl) (fun _ _ _ h => h) (Or.inl ⟨by rfl, ?_⟩) h2 ?_
          rotate_left
          focus (intro w' hSw; skip; go_simp; (try with_reducible rfl))
          (try simp only [List.getElem_toArray, List.getElem_cons_succ, List.getElem_cons_zero, Act.put, List.setIfInBounds_toArray, List.set_cons_zero, List.set_cons_succ])
          refine wpAnyH_take (i := 8) (v := ?_) rfl (by kernel_rfl) (by kernel_rfl) (by kernel_rfl) (fun _ _ _ h => h) (Or.inl ⟨by rfl, ?_⟩) h2 ?_
          rotate_left
          focus (intro w' hSw; skip; go_simp; (try with_reducible rfl))
          (try simp only [List.getElem_toArray, List.getElem_cons_succ, List.getElem_cons_zero, Act.put, List.setIfInBounds_toArray, List.set_cons_zero, List.set_cons_succ])
          refine wpAnyH_take (i := 9) (v := ?_) rfl (by kernel_rfl) (by kernel_rfl) (by kernel_rfl) (fun _ _ _ h => h) (Or.inl ⟨by rfl, ?_⟩) h2 ?_
          rotate_left
          focus (intro w' hSw; skip; go_simp; (try with_reducible rfl))
          (try simp only [List.getElem_toArray, List.getElem_cons_succ, List.getElem_cons_zero, Act.put, List.setIfInBounds_toArray, List.set_cons_zero, List.set_cons_succ])
          refine wpAnyH_ready (rs := [11]) (by kernel_rfl) (by simp) ?_
          refine AllReadyH.cons rfl (fun K hK => ?_) AllReadyH.nil
          refine wp_store_row 54 _ _ rfl _ _ rfl rfl 54 _ yN (by kernel_rfl) rfl (rag_one _) ?_
          refine hK.out _ _ ?_ (fun h3 => ?_)
          · exact ⟨(setRow_other _ _ _ _ (by omega)).trans h2.1, h2.2.1.setRow (by omega) _, h2.2.2.setRow _ ⟨_, yN⟩ (by omega)⟩
          clear hK K
          (try simp only [List.getElem_toArray, List.getElem_cons_succ, List.getElem_cons_zero, Act.put, List.setIfInBounds_toArray, List.set_cons_zero, List.set_cons_succ])
          refine wpAnyH_take (i := 12) (v := ?_) rfl (by kernel_rfl) (by kernel_rfl) (by kernel_rfl) (fun _ _ _ h => h) (Or.inl ⟨by rfl, ?_⟩) h3 ?_
          rotate_left
          focus (intro w' hSw; skip; go_simp; (try with_reducible rfl))
          (try simp only [List.getElem_toArray, List.getElem_cons_succ, List.getElem_cons_zero, Act.put, List.setIfInBounds_toArray, List.set_cons_zero, List.set_cons_succ])
          have hB3 : Below w.heap.size w W3 := act_below hBX hBX.size hPX hk3
          have hS9 := h3
          have HBz0 := below_setRow hB3 hzr (rag s').toArray
          have gN0 := setRow_heap W3 wr.heap.size _ (rag s').toArray _ _ yN
          have HPz0 := hp3.setRow (rag s').toArray ⟨_, yN⟩
          clear h0 h1 h2 h3 hp3 hk3 xN yN hPX hBX
          refine wpAnyH_done (by kernel_rfl) ?_ _
          go_upto_region 24 with fail
          generalize hZ : World.setRow _ _ _ = Wz
          have gN : RB Wz wr.heap.size s' := by rw [← hZ]; exact gN0
          have HPz := Lib.hid (show IsP Wz w.heap.size b' c' s' by rw [← hZ]; exact HPz0)
          have HBz := Lib.hid (show Below w.heap.size w Wz by rw [← hZ]; exact HBz0)
          have hS9 : RB Wz T t ∧ SC bb (oo + i * 6) x FD fc Wz ∧ OT w.heap.size b c R s Wz := by rw [← hZ]; exact hS9
          clear hZ gN0 HPz0 HBz0 hB3
          have gR : RB Wz T t := hS9.1
          go_upto_region 25 with (first | (refine wpList_load_row rfl 54 _ rfl _ rfl 54 _ (0, 0) _ gN Try.underlying54 rfl (by kernel_rfl) ?_) | (refine wpList_store_row rfl 54 _ _ rfl _ _ rfl rfl 54 _ gR (by kernel_rfl) rfl (rag_one _) ?_))
          generalize hY : World.setRow _ _ _ = Wy
          have yR : RB Wy T s' := by rw [← hY]; exact setRow_heap _ _ _ _ _ _ gR
          have HPy := (show IsP Wy w.heap.size b' c' s' by rw [← hY]; exact HPz.out.setRow _ ⟨_, gR⟩)
          have HOy : OT w.heap.size b c R s Wy := by rw [← hY]; exact hS9.2.2.setRow _ ⟨_, gR⟩ (by omega)
          have HBy := (show Below w.heap.size w Wy by rw [← hY]; exact below_setRow HBz.out (by omega) _)
          have HS9 := Lib.hid (show TP w.heap.size b c R C b' c' T s s' (len1 + len2) (len1 + (i + 1)) w Wy from ⟨HOy, ⟨⟨HPy.blk, HPy.clk, ⟨n4, n5⟩⟩, yR⟩, HJ.out, HI2.out, HRW.out, HRP2.out, HBy⟩)
          clear hY gR gN hS9 HPz HBz yR HPy HOy HBy
          go_wp2_with fail
          go_roundw
          case rel => exact ⟨i + 1, s, s', by go_num, by omega, HS9⟩
          case measure => simp [intOf]; omega
       case pos =>
       clear HQ
       obtain ⟨bb, oo, rfl, hbb, hcc⟩ := (HW2.out.below HB.out (Nat.le_refl _)).2 (by omega)
       obtain ⟨FD, fc, c0, c1, c2, c3, c4, c5, hrd, hrm⟩ := hcc i hlt
       obtain ⟨x, hx⟩ : ∃ x, x = l2.getD i la0 := ⟨_, rfl⟩
       rw [← hx] at c0 c1 c2 c3 c4 c5 hrd
       have hok : okA x = true := AL2.out x (by rw [hx]; simp [List.getD, List.getElem?_eq_getElem (show i < l2.length by rw [HW2.out.1]; exact hlt)])
       unfold okA at hok
       simp only [decide_eq_true_eq] at hok
       have AC := Lib.hid (show ∀ W : World, IsP W w.heap.size b c s → w.heap.size ≤ W.heap.size → Rd W w.heap.size FD x.f.d.length x.f.d → Calls Try.prog 21 #[.pointer (some ⟨b, 0, none⟩), .agg (rag s).toArray, .agg #[.int .i64 x.now, .int .i64 x.f.k, .int .i64 x.f.f, .int .i64 x.f.t, .int .i64 x.f.s, .slice FD x.f.d.length fc]] W (ActPost w.heap.size b c (Plt.actS s x) W) from fun W h1 h2 h3 => act_any h1 HI.out (by have := HRP.out; omega) x FD fc (by omega) h2 h3)
       have HI2 := Lib.hid (Plt.actS_inv HI.out (a := x) hrd.2.1)
       have HRP2 := Lib.hid (show (Plt.actS s x).reports ≤ ((len1 + (i + 1) : Nat) : Int) by have h1 := (Plt.actS_reports s x).1; have h2 := HRP.out; omega)
       obtain ⟨s', hs'⟩ : ∃ s', s' = Plt.actS s x := ⟨_, rfl⟩
       rw [← hs'] at AC HI2 HRP2
       have hzr := HB.out.size
       have HRD := Lib.hid hrd
       have hin : (i : Int) < (len2 : Int) := by omega
       have hG := Lib.hid g0
       have hRl := lt_of_block g0
       clear hcc hrd hrm hx hok hs' HI HRP
       obtain ⟨n1, n2, n3, n4, n5, n6, n7⟩ := HN.out
       go_upto_region 16 with fail
       refine wp_region_held_drew (S := fun w' => RB w' R s ∧ SC bb (oo + i * 6) x FD fc w' ∧ OT C b' c' T t w') (by kernel_rfl) ?_ (fun h0 => ?_)
       · exact ⟨g0, ⟨c0, c1, c2, c3, c4, c5⟩, HO.out.drew⟩
       refine wpAnyH_take (i := 0) (v := ?_) rfl (by kernel_rfl) (by kernel_rfl) (by kernel_rfl) (fun _ _ _ h => h) (Or.inl ⟨by rfl, ?_⟩) h0 ?_
       rotate_left
       focus (intro w' hSw; skip; go_simp; (try with_reducible rfl))
       (try simp only [List.getElem_toArray, List.getElem_cons_succ, List.getElem_cons_zero, Act.put, List.setIfInBounds_toArray, List.set_cons_zero, List.set_cons_succ])
       refine wpAnyH_take (i := 1) (v := .agg (rag s).toArray) rfl (by kernel_rfl) (by kernel_rfl) (by kernel_rfl) (fun _ _ _ h => h) (yields_load_row (by rfl) 54 _ rfl R rfl 54 _ (0, 0) _ (fun w' h => h.1) Try.underlying54 rfl (by kernel_rfl)) h0 ?_
       (try simp only [List.getElem_toArray, List.getElem_cons_succ, List.getElem_cons_zero, Act.put, List.setIfInBounds_toArray, List.set_cons_zero, List.set_cons_succ])
       refine wpAnyH_take (i := 2) (v := ?_) rfl (by kernel_rfl) (by kernel_rfl) (by kernel_rfl) (fun _ _ _ h => h) (Or.inl ⟨by rfl, ?_⟩) h0 ?_
       rotate_left
       focus (intro w' hSw; skip; go_simp; (try with_reducible rfl))
       (try simp only [List.getElem_toArray, List.getElem_cons_succ, List.getElem_cons_zero, Act.put, List.setIfInBounds_toArray, List.set_cons_zero, List.set_cons_succ])
       refine wpAnyH_take (i := 3) (v := ?_) rfl (by kernel_rfl) (by kernel_rfl) (by kernel_rfl) (fun _ _ _ h => h) (Or.inl ⟨by rfl, ?_⟩) h0 ?_
       rotate_left
       focus (intro w' hSw; skip; go_simp; (try with_reducible rfl))
       (try simp only [List.getElem_toArray, List.getElem_cons_succ, List.getElem_cons_zero, Act.put, List.setIfInBounds_toArray, List.set_cons_zero, List.set_cons_succ])
       refine wpAnyH_take (i := 4) (v := ?_) rfl (by kernel_rfl) (by kernel_rfl) (by kernel_rfl) (fun _ _ _ h => h) (Or.inl ⟨by rfl, ?_⟩) h0 ?_
       rotate_left
       focus (intro w' hSw; skip; go_simp; (try with_reducible rfl))
       (try simp only [List.getElem_toArray, List.getElem_cons_succ, List.getElem_cons_zero, Act.put, List.setIfInBounds_toArray, List.set_cons_zero, List.set_cons_succ])
       refine wpAnyH_take (i := 5) (v := ?_) rfl (by kernel_rfl) (by kernel_rfl) (by kernel_rfl) (fun _ _ _ h => h) (Or.inl ⟨by rfl, ?_⟩) h0 ?_
       rotate_left
       focus (intro w' hSw; obtain ⟨_, ⟨a0, a1, a2, a3, a4, a5⟩, _⟩ := hSw; go_simp; (try with_reducible rfl))
       (try simp only [List.getElem_toArray, List.getElem_cons_succ, List.getElem_cons_zero, Act.put, List.setIfInBounds_toArray, List.set_cons_zero, List.set_cons_succ])
       clear c0 c1 c2 c3 c4 c5
       refine wpAnyH_ready (rs := [6, 10]) (by kernel_rfl) (by simp) ?_
       refine AllReadyH.cons rfl (fun K hK => ?_) (AllReadyH.cons rfl (fun K hK => ?_) AllReadyH.nil)
       ·go_simp
        refine (AC.out _ HP.out.drew hzr HRD.out.drew).mono ?_
        rintro e W3 ⟨rfl, hp3, hk3⟩
        go_wp2_with fail
        refine hK.out _ _ ?_ (fun h1 => ?_)
        · exact ⟨blk_keep h0.1 hk3 (HP.out.noR h0.1), h0.2.1.keep hk3 (HP.out.noA hbb), h0.2.2.keep hk3 (by omega) (by omega) (HP.out.noR h0.2.2.2)⟩
        clear hK K
        (try simp only [List.getElem_toArray, List.getElem_cons_succ, List.getElem_cons_zero, Act.put, List.setIfInBounds_toArray, List.set_cons_zero, List.set_cons_succ])
        refine wpAnyH_take (i := 7) (v := ?_) rfl (by kernel_rfl) (by kernel_rfl) (by kernel_rfl) (fun _ _ _ h => h) (Or.inl ⟨by rfl, ?_⟩) h1 ?_
        rotate_left
        focus (intro w' hSw; skip; go_simp; (try with_reducible rfl))
        (try simp only [List.getElem_toArray, List.getElem_cons_succ, List.getElem_cons_zero, Act.put, List.setIfInBounds_toArray, List.set_cons_zero, List.set_cons_succ])
        refine wpAnyH_take (i := 8) (v := ?_) rfl (by kernel_rfl) (by kernel_rfl) (by kernel_rfl) (fun _ _ _ h => h) (Or.inl ⟨by rfl, ?_⟩) h1 ?_
        rotate_left
        focus (intro w' hSw; skip; go_simp; (try with_reducible rfl))
        (try simp only [List.getElem_toArray, List.getElem_cons_succ, List.getElem_cons_zero, Act.put, List.setIfInBounds_toArray, List.set_cons_zero, List.set_cons_succ])
        refine wpAnyH_take (i := 9) (v := ?_) rfl (by kernel_rfl) (by kernel_rfl) (by kernel_rfl) (fun _ _ _ h => h) (Or.inl ⟨by rfl, ?_⟩) h1 ?_
        rotate_left
        focus (intro w' hSw; skip; go_simp; (try with_reducible rfl))
        (try simp only [List.getElem_toArray, List.getElem_cons_succ, List.getElem_cons_zero, Act.put, List.setIfInBounds_toArray, List.set_cons_zero, List.set_cons_succ])
        refine wpAnyH_ready (rs := [10]) (by kernel_rfl) (by simp) ?_
        refine AllReadyH.cons rfl (fun K hK => ?_) AllReadyH.nil
        go_simp
        refine hK.out _ _ ?_ (fun h2 => ?_)
        · exact ⟨blk_alloc h1.1 _, ⟨h1.2.1.alloc _, h1.2.2.alloc _⟩⟩
        clear hK K
        (try simp only [List.getElem_toArray, List.getElem_cons_succ, List.getElem_cons_zero, Act.put, List.setIfInBounds_toArray, List.set_cons_zero, List.set_cons_succ])
        refine wpAnyH_ready (rs := [11]) (by kernel_rfl) (by simp) ?_
        refine AllReadyH.cons rfl (fun K hK => ?_) AllReadyH.nil
        refine wp_store_row 54 _ _ rfl _ _ rfl rfl 54 _ (heap_new W3 (.cells (rag rzero).toArray 54 (0, 0))) (by kernel_rfl) rfl (rag_one _) ?_
        have hRW : R < W3.heap.size := lt_of_block h1.1
        have hOW := lt_of_block h1.2.2.2
        have hbW : bb < W3.heap.size := cell_lt h1.2.1.1
        refine hK.out _ _ ?_ (fun h3 => ?_)
        · exact ⟨(setRow_other _ _ _ _ (by omega)).trans h2.1, h2.2.1.setRow (by omega) _, h2.2.2.setRow _ ⟨_, heap_new W3 (.cells (rag rzero).toArray 54 (0, 0))⟩ (by omega)⟩
        clear hK K
        (try simp only [List.getElem_toArray, List.getElem_cons_succ, List.getElem_cons_zero, Act.put, List.setIfInBounds_toArray, List.set_cons_zero, List.set_cons_succ])
        refine wpAnyH_take (i := 12) (v := ?_) rfl (by kernel_rfl) (by kernel_rfl) (by kernel_rfl) (fun _ _ _ h => h) (Or.inl ⟨by rfl, ?_⟩) h3 ?_
        rotate_left
        focus (intro w' hSw; skip; go_simp; (try with_reducible rfl))
        (try simp only [List.getElem_toArray, List.getElem_cons_succ, List.getElem_cons_zero, Act.put, List.setIfInBounds_toArray, List.set_cons_zero, List.set_cons_succ])
        have hB3 : Below w.heap.size w W3 := act_below HB.out.drew hzr HP.out.drew hk3
        have hS9 := h3
        have HBz0 := below_setRow (hB3.alloc hB3.size (.cells (rag rzero).toArray 54 (0, 0))) (show w.heap.size ≤ W3.heap.size from hB3.size) (rag s').toArray
        have gN0 := setRow_heap (W3.alloc (.cells (rag rzero).toArray 54 (0, 0))) W3.heap.size _ (rag s').toArray _ _ (heap_new W3 (.cells (rag rzero).toArray 54 (0, 0)))
        have HPz0 := (hp3.alloc (.cells (rag rzero).toArray 54 (0, 0))).setRow (rag s').toArray ⟨_, heap_new W3 (.cells (rag rzero).toArray 54 (0, 0))⟩
        clear h0 h1 h2 h3 hp3 hk3
        refine wpAnyH_done (by kernel_rfl) ?_ _
        go_upto_region 17 with fail
        generalize hZ : World.setRow _ _ _ = Wz
        have gN : RB Wz W3.heap.size s' := by rw [← hZ]; exact gN0
        have HPz := Lib.hid (show IsP Wz w.heap.size b c s' by rw [← hZ]; exact HPz0)
        have HBz := Lib.hid (show Below w.heap.size w Wz by rw [← hZ]; exact HBz0)
        have hS9 : RB Wz R s ∧ SC bb (oo + i * 6) x FD fc Wz ∧ OT C b' c' T t Wz := by rw [← hZ]; exact hS9
        clear hZ gN0 HPz0 HBz0 hB3
        have gR : RB Wz R s := hS9.1
        go_upto_region 18 with (first | (refine wpList_load_row rfl 54 _ rfl _ rfl 54 _ (0, 0) _ gN Try.underlying54 rfl (by kernel_rfl) ?_) | (refine wpList_store_row rfl 54 _ _ rfl _ _ rfl rfl 54 _ gR (by kernel_rfl) rfl (rag_one _) ?_))
        generalize hY : World.setRow _ _ _ = Wy
        have yR : RB Wy R s' := by rw [← hY]; exact setRow_heap _ _ _ _ _ _ gR
        have HPy := (show IsP Wy w.heap.size b c s' by rw [← hY]; exact HPz.out.setRow _ ⟨_, gR⟩)
        have HOy : OT C b' c' T t Wy := by rw [← hY]; exact hS9.2.2.setRow _ ⟨_, gR⟩ (by omega)
        have HBy := (show Below w.heap.size w Wy by rw [← hY]; exact below_setRow HBz.out (by omega) _)
        have HS9 := Lib.hid (show TP w.heap.size b c R C b' c' T s' t (len1 + (i + 1)) len1 w Wy from ⟨⟨HPy, yR⟩, HOy, HI2.out, HJ.out, HRP2.out, HRW.out, HBy⟩)
        clear hY gR gN hS9 HPz HBz yR HPy HOy HBy
        go_wp2_with fail
        go_roundw
        case rel => exact ⟨i + 1, s', t, by go_num, by omega, HS9⟩
        case measure => simp [intOf]; omega
       ·go_simp
        refine hK.out _ _ ?_ (fun h1 => ?_)
        · exact ⟨blk_alloc h0.1 _, ⟨h0.2.1.alloc _, h0.2.2.alloc _⟩⟩
        clear hK K
        (try simp only [List.getElem_toArray, List.getElem_cons_succ, List.getElem_cons_zero, Act.put, List.setIfInBounds_toArray, List.set_cons_zero, List.set_cons_succ])
        refine wpAnyH_ready (rs := [6]) (by kernel_rfl) (by simp) ?_
        refine AllReadyH.cons rfl (fun K hK => ?_) AllReadyH.nil
        go_simp
        obtain ⟨X, hX⟩ : ∃ X, X = (wr.alloc (.cells (rag rzero).toArray 54 (0, 0))).drew := ⟨_, rfl⟩
        have xN : X.heap[wr.heap.size]? = some (.cells (rag rzero).toArray 54 (0, 0)) := by rw [hX]; exact heap_new wr _
        have hPX : IsP X w.heap.size b c s := by rw [hX]; exact (HP.out.alloc _).drew
        have hBX : Below w.heap.size w X := by rw [hX]; exact (HB.out.alloc hzr _).drew
        have hwX : Below wr.heap.size wr X := by rw [hX]; exact ((Below.refl _ _).alloc (Nat.le_refl _) _).drew
        have h1 : RB X R s ∧ SC bb (oo + i * 6) x FD fc X ∧ OT C b' c' T t X := by rw [hX]; exact h1
        have e9 : (wr.alloc (.cells (rag rzero).toArray 54 (0, 0))).drew = X := hX.symm
        simp only [rag, rzero] at e9
        (try rw [e9])
        clear hX
        refine (AC.out _ hPX hBX.size (HRD.out.below hwX hzr)).mono ?_
        rintro e W3 ⟨rfl, hp3, hk3⟩
        go_wp2_with fail
        have hOl := lt_of_block HO.out.2
        refine hK.out _ _ ?_ (fun h2 => ?_)
        · exact ⟨blk_keep h1.1 hk3 (hPX.noR h1.1), h1.2.1.keep hk3 (hPX.noA hbb), h1.2.2.keep hk3 (by omega) (by omega) (hPX.noR h1.2.2.2)⟩
        clear hK K
        (try simp only [List.getElem_toArray, List.getElem_cons_succ, List.getElem_cons_zero, Act.put, List.setIfInBounds_toArray, List.set_cons_zero, List.set_cons_succ])
        have yN := blk_keep xN hk3 (hPX.noR xN)
        refine wpAnyH_take (i := 7) (v := ?_) rfl (by kernel_rfl) (by kernel_rfl) (by kernel_rfl) (fun _ _ _ h => h) (Or.inl ⟨by rfl, ?_⟩) h2 ?_
        rotate_left
        focus (intro w' hSw; skip; go_simp; (try with_reducible rfl))
        (try simp only [List.getElem_toArray, List.getElem_cons_succ, List.getElem_cons_zero, Act.put, List.setIfInBounds_toArray, List.set_cons_zero, List.set_cons_succ])
        refine wpAnyH_take (i := 8) (v := ?_) rfl (by kernel_rfl) (by kernel_rfl) (by kernel_rfl) (fun _ _ _ h => h) (Or.inl ⟨by rfl, ?_⟩) h2 ?_
        rotate_left
        focus (intro w' hSw; skip; go_simp; (try with_reducible rfl))
        (try simp only [List.getElem_toArray, List.getElem_cons_succ, List.getElem_cons_zero, Act.put, List.setIfInBounds_toArray, List.set_cons_zero, List.set_cons_succ])
        refine wpAnyH_take (i := 9) (v := ?_) rfl (by kernel_rfl) (by kernel_rfl) (by kernel_rfl) (fun _ _ _ h => h) (Or.inl ⟨by rfl, ?_⟩) h2 ?_
        rotate_left
        focus (intro w' hSw; skip; go_simp; (try with_reducible rfl))
        (try simp only [List.getElem_toArray, List.getElem_cons_succ, List.getElem_cons_zero, Act.put, List.setIfInBounds_toArray, List.set_cons_zero, List.set_cons_succ])
        refine wpAnyH_ready (rs := [11]) (by kernel_rfl) (by simp) ?_
        refine AllReadyH.cons rfl (fun K hK => ?_) AllReadyH.nil
        refine wp_store_row 54 _ _ rfl _ _ rfl rfl 54 _ yN (by kernel_rfl) rfl (rag_one _) ?_
        refine hK.out _ _ ?_ (fun h3 => ?_)
        · exact ⟨(setRow_other _ _ _ _ (by omega)).trans h2.1, h2.2.1.setRow (by omega) _, h2.2.2.setRow _ ⟨_, yN⟩ (by omega)⟩
        clear hK K
        (try simp only [List.getElem_toArray, List.getElem_cons_succ, List.getElem_cons_zero, Act.put, List.setIfInBounds_toArray, List.set_cons_zero, List.set_cons_succ])
        refine wpAnyH_take (i := 12) (v := ?_) rfl (by kernel_rfl) (by kernel_rfl) (by kernel_rfl) (fun _ _ _ h => h) (Or.inl ⟨by rfl, ?_⟩) h3 ?_
        rotate_left
        focus (intro w' hSw; skip; go_simp; (try with_reducible rfl))
        (try simp only [List.getElem_toArray, List.getElem_cons_succ, List.getElem_cons_zero, Act.put, List.setIfInBounds_toArray, List.set_cons_zero, List.set_cons_succ])
        have hB3 : Below w.heap.size w W3 := act_below hBX hBX.size hPX hk3
        have hS9 := h3
        have HBz0 := below_setRow hB3 hzr (rag s').toArray
        have gN0 := setRow_heap W3 wr.heap.size _ (rag s').toArray _ _ yN
        have HPz0 := hp3.setRow (rag s').toArray ⟨_, yN⟩
        clear h0 h1 h2 h3 hp3 hk3 xN yN hPX hBX
        refine wpAnyH_done (by kernel_rfl) ?_ _
        go_upto_region 17 with fail
        generalize hZ : World.setRow _ _ _ = Wz
        have gN : RB Wz wr.heap.size s' := by rw [← hZ]; exact gN0
        have HPz := Lib.hid (show IsP Wz w.heap.size b c s' by rw [← hZ]; exact HPz0)
        have HBz := Lib.hid (show Below w.heap.size w Wz by rw [← hZ]; exact HBz0)
        have hS9 : RB Wz R s ∧ SC bb (oo + i * 6) x FD fc Wz ∧ OT C b' c' T t Wz := by rw [← hZ]; exact hS9
        clear hZ gN0 HPz0 HBz0 hB3
        have gR : RB Wz R s := hS9.1
        go_upto_region 18 with (first | (refine wpList_load_row rfl 54 _ rfl _ rfl 54 _ (0, 0) _ gN Try.underlying54 rfl (by kernel_rfl) ?_) | (refine wpList_store_row rfl 54 _ _ rfl _ _ rfl rfl 54 _ gR (by kernel_rfl) rfl (rag_one _) ?_))
        generalize hY : World.setRow _ _ _ = Wy
        have yR : RB Wy R s' := by rw [← hY]; exact setRow_heap _ _ _ _ _ _ gR
        have HPy := (show IsP Wy w.heap.size b c s' by rw [← hY]; exact HPz.out.setRow _ ⟨_, gR⟩)
        have HOy : OT C b' c' T t Wy := by rw [← hY]; exact hS9.2.2.setRow _ ⟨_, gR⟩ (by omega)
        have HBy := (show Below w.heap.size w Wy by rw [← hY]; exact below_setRow HBz.out (by omega) _)
        have HS9 := Lib.hid (show TP w.heap.size b c R C b' c' T s' t (len1 + (i + 1)) len1 w Wy from ⟨⟨HPy, yR⟩, HOy, HI2.out, HJ.out, HRP2.out, HRW.out, HBy⟩)
        clear hY gR gN hS9 HPz HBz yR HPy HOy HBy
        go_wp2_with fail
        go_roundw
        case rel => exact ⟨i + 1, s', t, by go_num, by omega, HS9⟩
        case measure => simp [intOf]; omega
    case pos =>
    obtain ⟨bb, oo, rfl, hbb, hcc⟩ := (HW1.out.below HB.out (Nat.le_refl _)).2 (by omega)
    obtain ⟨FD, fc, c0, c1, c2, c3, c4, c5, hrd, hrm⟩ := hcc i hlt
    obtain ⟨x, hx⟩ : ∃ x, x = l1.getD i la0 := ⟨_, rfl⟩
    rw [← hx] at c0 c1 c2 c3 c4 c5 hrd
    have hok : okA x = true := AL1.out x (by rw [hx]; simp [List.getD, List.getElem?_eq_getElem (show i < l1.length by rw [HW1.out.1]; exact hlt)])
    unfold okA at hok
    simp only [decide_eq_true_eq] at hok
    have AC := Lib.hid (show ∀ W : World, IsP W w.heap.size b c s → w.heap.size ≤ W.heap.size → Rd W w.heap.size FD x.f.d.length x.f.d → Calls Try.prog 21 #[.pointer (some ⟨b, 0, none⟩), .agg (rag s).toArray, .agg #[.int .i64 x.now, .int .i64 x.f.k, .int .i64 x.f.f, .int .i64 x.f.t, .int .i64 x.f.s, .slice FD x.f.d.length fc]] W (ActPost w.heap.size b c (Plt.actS s x) W) from fun W h1 h2 h3 => act_any h1 HI.out (by have := HRP.out; omega) x FD fc (by omega) h2 h3)
    have HI2 := Lib.hid (Plt.actS_inv HI.out (a := x) hrd.2.1)
    have HRP2 := Lib.hid (show (Plt.actS s x).reports ≤ ((i + 1 : Nat) : Int) by have h1 := (Plt.actS_reports s x).1; have h2 := HRP.out; omega)
    obtain ⟨s', hs'⟩ : ∃ s', s' = Plt.actS s x := ⟨_, rfl⟩
    rw [← hs'] at AC HI2 HRP2
    have hzr := HB.out.size
    have HRD := Lib.hid hrd
    have hin : (i : Int) < (len1 : Int) := by omega
    have hG := Lib.hid g0
    have hRl := lt_of_block g0
    clear hcc hrd hrm hx hok hs' HI HRP
    go_upto_region 9 with fail
    refine wp_region_held_drew (S := fun w' => SC bb (oo + i * 6) x FD fc w') (by kernel_rfl) ?_ (fun h0 => ?_)
    · exact ⟨c0, c1, c2, c3, c4, c5⟩
    refine wpAnyH_take (i := 0) (v := ?_) rfl (by kernel_rfl) (by kernel_rfl) (by kernel_rfl) (fun _ _ _ h => h) (Or.inl ⟨by rfl, ?_⟩) h0 ?_
    rotate_left
    focus (intro w' hSw; skip; go_simp; (try with_reducible rfl))
    (try simp only [List.getElem_toArray, List.getElem_cons_succ, List.getElem_cons_zero, Act.put, List.setIfInBounds_toArray, List.set_cons_zero, List.set_cons_succ])
    refine wpAnyH_take (i := 2) (v := ?_) rfl (by kernel_rfl) (by kernel_rfl) (by kernel_rfl) (fun _ _ _ h => h) (Or.inl ⟨by rfl, ?_⟩) h0 ?_
    rotate_left
    focus (intro w' hSw; skip; go_simp; (try with_reducible rfl))
    (try simp only [List.getElem_toArray, List.getElem_cons_succ, List.getElem_cons_zero, Act.put, List.setIfInBounds_toArray, List.set_cons_zero, List.set_cons_succ])
    refine wpAnyH_take (i := 3) (v := ?_) rfl (by kernel_rfl) (by kernel_rfl) (by kernel_rfl) (fun _ _ _ h => h) (Or.inl ⟨by rfl, ?_⟩) h0 ?_
    rotate_left
    focus (intro w' hSw; skip; go_simp; (try with_reducible rfl))
    (try simp only [List.getElem_toArray, List.getElem_cons_succ, List.getElem_cons_zero, Act.put, List.setIfInBounds_toArray, List.set_cons_zero, List.set_cons_succ])
    refine wpAnyH_take (i := 4) (v := ?_) rfl (by kernel_rfl) (by kernel_rfl) (by kernel_rfl) (fun _ _ _ h => h) (Or.inl ⟨by rfl, ?_⟩) h0 ?_
    rotate_left
    focus (intro w' hSw; skip; go_simp; (try with_reducible rfl))
    (try simp only [List.getElem_toArray, List.getElem_cons_succ, List.getElem_cons_zero, Act.put, List.setIfInBounds_toArray, List.set_cons_zero, List.set_cons_succ])
    refine wpAnyH_take (i := 5) (v := ?_) rfl (by kernel_rfl) (by kernel_rfl) (by kernel_rfl) (fun _ _ _ h => h) (Or.inl ⟨by rfl, ?_⟩) h0 ?_
    rotate_left
    focus (intro w' hSw; obtain ⟨a0, a1, a2, a3, a4, a5⟩ := hSw; go_simp; (try with_reducible rfl))
    (try simp only [List.getElem_toArray, List.getElem_cons_succ, List.getElem_cons_zero, Act.put, List.setIfInBounds_toArray, List.set_cons_zero, List.set_cons_succ])
    clear c0 c1 c2 c3 c4 c5
    refine wpAnyH_ready (rs := [1]) (by kernel_rfl) (by simp) ?_
    refine AllReadyH.cons rfl (fun K hK => ?_) AllReadyH.nil
    refine wp_load_row 54 _ rfl R rfl 54 _ (0, 0) _ g0 Try.underlying54 rfl (by kernel_rfl) ?_
    refine hK.out _ _ ?_ (fun h1 => ?_)
    · exact h0
    clear hK K
    (try simp only [List.getElem_toArray, List.getElem_cons_succ, List.getElem_cons_zero, Act.put, List.setIfInBounds_toArray, List.set_cons_zero, List.set_cons_succ])
    refine wpAnyH_ready (rs := [6]) (by kernel_rfl) (by simp) ?_
    refine AllReadyH.cons rfl (fun K hK => ?_) AllReadyH.nil
    go_simp
    refine (AC.out _ HP.out.drew hzr HRD.out.drew).mono ?_
    rintro e W3 ⟨rfl, hp3, hk3⟩
    go_wp2_with fail
    refine hK.out _ _ ?_ (fun h2 => ?_)
    · exact h1.keep hk3 (HP.out.noA hbb)
    clear hK K
    (try simp only [List.getElem_toArray, List.getElem_cons_succ, List.getElem_cons_zero, Act.put, List.setIfInBounds_toArray, List.set_cons_zero, List.set_cons_succ])
    refine wpAnyH_take (i := 7) (v := ?_) rfl (by kernel_rfl) (by kernel_rfl) (by kernel_rfl) (fun _ _ _ h => h) (Or.inl ⟨by rfl, ?_⟩) h2 ?_
    rotate_left
    focus (intro w' hSw; skip; go_simp; (try with_reducible rfl))
    (try simp only [List.getElem_toArray, List.getElem_cons_succ, List.getElem_cons_zero, Act.put, List.setIfInBounds_toArray, List.set_cons_zero, List.set_cons_succ])
    refine wpAnyH_take (i := 8) (v := ?_) rfl (by kernel_rfl) (by kernel_rfl) (by kernel_rfl) (fun _ _ _ h => h) (Or.inl ⟨by rfl, ?_⟩) h2 ?_
    rotate_left
    focus (intro w' hSw; skip; go_simp; (try with_reducible rfl))
    (try simp only [List.getElem_toArray, List.getElem_cons_succ, List.getElem_cons_zero, Act.put, List.setIfInBounds_toArray, List.set_cons_zero, List.set_cons_succ])
    refine wpAnyH_take (i := 9) (v := ?_) rfl (by kernel_rfl) (by kernel_rfl) (by kernel_rfl) (fun _ _ _ h => h) (Or.inl ⟨by rfl, ?_⟩) h2 ?_
    rotate_left
    focus (intro w' hSw; skip; go_simp; (try with_reducible rfl))
    (try simp only [List.getElem_toArray, List.getElem_cons_succ, List.getElem_cons_zero, Act.put, List.setIfInBounds_toArray, List.set_cons_zero, List.set_cons_succ])
    have g3 := blk_keep (show (World.drew _).heap[R]? = _ from g0) hk3 (HP.out.noR g0)
    refine wpAnyH_ready (rs := [10]) (by kernel_rfl) (by simp) ?_
    refine AllReadyH.cons rfl (fun K hK => ?_) AllReadyH.nil
    refine wp_store_row 54 _ _ rfl _ _ rfl rfl 54 _ g3 (by kernel_rfl) rfl (rag_one _) ?_
    refine hK.out _ _ ?_ (fun h3 => ?_)
    · exact h2.setRow (by omega) _
    clear hK K
    (try simp only [List.getElem_toArray, List.getElem_cons_succ, List.getElem_cons_zero, Act.put, List.setIfInBounds_toArray, List.set_cons_zero, List.set_cons_succ])
    have hB3 : Below w.heap.size w W3 := act_below HB.out.drew hzr HP.out.drew hk3
    have HS3 := Lib.hid (show PS w.heap.size b c R s' (i + 1) w (W3.setRow R (rag s').toArray) from ⟨hp3.setRow _ ⟨_, g3⟩, HI2.out, HRP2.out, setRow_heap _ _ _ _ _ _ g3, below_setRow hB3 hR0 _⟩)
    clear h0 h1 h2 h3 hp3 hk3 g3 hB3
    refine wpAnyH_done (by kernel_rfl) ?_ _
    go_wp2_with fail
    go_roundw
    case rel => exact ⟨i + 1, s', by go_num, by omega, HS3⟩
    case measure => simp [intOf]; omega
theorem walk (a00 a01 a02 a03 a04 : Int) (a1 : Option Addr) (len1 cap1 : Nat) (l1 : List LAct) (a2 : Option Addr) (len2 cap2 : Nat) (l2 : List LAct) (a3 : Option Addr) (len3 cap3 : Nat) (l3 : List LAct) (w : World) (w00 : (Lit.int .i64 a00).wf = true) (w01 : (Lit.int .i64 a01).wf = true) (w02 : (Lit.int .i64 a02).wf = true) (w03 : (Lit.int .i64 a03).wf = true) (w04 : (Lit.int .i64 a04).wf = true) (w1 : LRf w w.heap.size a1 len1 l1) (r1 : Room a1 len1 cap1) (f1 : ∀ y ∈ l1, LaOk y) (w2 : LRf w w.heap.size a2 len2 l2) (r2 : Room a2 len2 cap2) (f2 : ∀ y ∈ l2, LaOk y) (w3 : LRf w w.heap.size a3 len3 l3) (r3 : Room a3 len3 cap3) (f3 : ∀ y ∈ l3, LaOk y) :
    Calls Try.prog 7 #[.agg #[.int .i64 a00, .int .i64 a01, .int .i64 a02, .int .i64 a03, .int .i64 a04], .slice a1 len1 cap1, .slice a2 len2 cap2, .slice a3 len3 cap3] w fun e w' => e = .returned (.bool true) ∧ Below w.heap.size w w' := by
  by_cases h1 : fewB l1 30 = true
  · by_cases h2 : fewB l2 10 = true
    · by_cases h3 : fewB l3 10 = true
      · by_cases h4 : Plt.ruOk a00 a01 a02 a03 a04 = true
        · apply walk_yes <;> assumption
        · apply walk_no <;> first | assumption | exact .inr ⟨h1, .inr ⟨h2, .inr ⟨h3, by simpa using h4⟩⟩⟩
      · apply walk_no <;> first | assumption | exact .inr ⟨h1, .inr ⟨h2, .inl (by simpa using h3)⟩⟩
    · apply walk_no <;> first | assumption | exact .inr ⟨h1, .inl (by simpa using h2)⟩
  · apply walk_no <;> first | assumption | exact .inl (by simpa using h1)
theorem own : ownKnob Try.prog.godebug = none := by kernel_rfl
theorem laidOut : laidOutB Try.prog = true := by kernel_rfl
theorem cells23 : Try.prog.cellsOf 23 = 5 := by kernel_rfl
set_option maxRecDepth 100000 in
theorem lifted (os : Os) (started : os.Started) (H : Type) (enc : TypeId × Value → H) :
    ReturnsInHanded {} Try.checked os 7 .any (Rows.pilotCopiesSpec.pre6 enc Try.prog Try.f7 Rows.pilotCopiesRow.domain false) (Rows.pilotCopiesSpec.post enc Try.prog Try.f7 false true false false) := by
  refine returnsInHanded_of_change (C := Try.checked) own started (by kernel_rfl) Try.func7
    (ChangeSpec.witness6 (enc := enc) (C := Try.checked) false ⟨#[], #[.agg #[.int .i64 0, .int .i64 0, .int .i64 0, .int .i64 0, .int .i64 0], .slice none 0 0, .slice none 0 0, .slice none 0 0], []⟩ 8 (by kernel_rfl) (by kernel_rfl) (by kernel_rfl) (by kernel_rfl)) ?_
  intro W base args ds gs before hval0 hW hcnd _
  have hval : ∀ (j : Nat) t v, Try.f7.params[j]? = some t → args[j]? = some v → Value.okWide Try.prog W .any base t v := hval0
  have hW' := hW
  obtain ⟨p, q, hA0, hV, rfl, hfz, hnd⟩ := hW
  have hA : DataW.TrodAll enc Try.prog W 0 (fun _ => true) true Try.f7.params.toList args.toList ds p := hA0
  rw [Try.params7] at hA hval
  obtain ⟨v0, vs0, d0, ds0, p0, q0, hargs, rfl, rfl, h0, r0⟩ := trodAll_cons hA
  obtain ⟨v1, vs1, d1, ds1, p1, q1, rfl, rfl, rfl, h1, r1⟩ := trodAll_cons r0
  obtain ⟨v2, vs2, d2, ds2, p2, q2, rfl, rfl, rfl, h2, r2⟩ := trodAll_cons r1
  obtain ⟨v3, vs3, d3, ds3, p3, q3, rfl, rfl, rfl, h3, r3⟩ := trodAll_cons r2
  obtain ⟨rfl, rfl, rfl⟩ := trodAll_nil r3
  obtain rfl : args = #[v0, v1, v2, v3] := by cases args; simp_all
  obtain ⟨rfl, rfl⟩ := trodVars_none hV
  have k0 := h0
  have lt0 : ∀ x ∈ p0, x.block < W.heap.size := by obtain ⟨m, hm⟩ := k0; exact DataW.trod_lt m _ _ _ hm
  obtain ⟨c00, c01, c02, c03, c04, y00, y01, y02, y03, y04, m0, rfl, _, _, hy00, hy01, hy02, hy03, hy04⟩ := open_agg5 Try.underlying23 (by kernel_rfl) cells23 (hval 0 23 v0 rfl rfl) h0
  obtain ⟨a00, e00, _, w00⟩ := DataW.trod_int Try.underlying3 hy00; simp at e00; subst e00
  obtain ⟨a01, e01, _, w01⟩ := DataW.trod_int Try.underlying3 hy01; simp at e01; subst e01
  obtain ⟨a02, e02, _, w02⟩ := DataW.trod_int Try.underlying3 hy02; simp at e02; subst e02
  obtain ⟨a03, e03, _, w03⟩ := DataW.trod_int Try.underlying3 hy03; simp at e03; subst e03
  obtain ⟨a04, e04, _, w04⟩ := DataW.trod_int Try.underlying3 hy04; simp at e04; subst e04
  have k1 := h1
  have lt1 : ∀ x ∈ p1, x.block < W.heap.size := by obtain ⟨m, hm⟩ := k1; exact DataW.trod_lt m _ _ _ hm
  obtain ⟨a1, len1, cap1, rfl⟩ := okWide_slice Try.underlying24 (hval 1 24 v1 rfl rfl)
  obtain ⟨fuel1, hf1⟩ := h1
  obtain ⟨xa1, xlen1, xcap1, l1, xe1, ro1, wo1, fo1⟩ := lacts_of hf1
  obtain ⟨rfl, rfl, rfl⟩ : a1 = xa1 ∧ len1 = xlen1 ∧ cap1 = xcap1 := by injection xe1 with e1 e2 e3; exact ⟨e1, e2, e3⟩
  have k2 := h2
  have lt2 : ∀ x ∈ p2, x.block < W.heap.size := by obtain ⟨m, hm⟩ := k2; exact DataW.trod_lt m _ _ _ hm
  obtain ⟨a2, len2, cap2, rfl⟩ := okWide_slice Try.underlying24 (hval 2 24 v2 rfl rfl)
  obtain ⟨fuel2, hf2⟩ := h2
  obtain ⟨xa2, xlen2, xcap2, l2, xe2, ro2, wo2, fo2⟩ := lacts_of hf2
  obtain ⟨rfl, rfl, rfl⟩ : a2 = xa2 ∧ len2 = xlen2 ∧ cap2 = xcap2 := by injection xe2 with e1 e2 e3; exact ⟨e1, e2, e3⟩
  have k3 := h3
  have lt3 : ∀ x ∈ p3, x.block < W.heap.size := by obtain ⟨m, hm⟩ := k3; exact DataW.trod_lt m _ _ _ hm
  obtain ⟨a3, len3, cap3, rfl⟩ := okWide_slice Try.underlying24 (hval 3 24 v3 rfl rfl)
  obtain ⟨fuel3, hf3⟩ := h3
  obtain ⟨xa3, xlen3, xcap3, l3, xe3, ro3, wo3, fo3⟩ := lacts_of hf3
  obtain ⟨rfl, rfl, rfl⟩ : a3 = xa3 ∧ len3 = xlen3 ∧ cap3 = xcap3 := by injection xe3 with e1 e2 e3; exact ⟨e1, e2, e3⟩
  clear hA0 hval0
  refine (walk a00 a01 a02 a03 a04 a1 len1 cap1 l1 a2 len2 cap2 l2 a3 len3 cap3 l3 W w00 w01 w02 w03 w04 wo1 ro1 fo1 wo2 ro2 fo2 wo3 ro3 fo3).mono fun e W' ⟨he, bel⟩ => ?_
  subst he
  exact ⟨_, rfl, _, _, _, [], _, [], hW', trodAll_mk1 (shut_bool Try.underlying4 _), (trodAll_cons_mk (Below.trod laidOut (by kernel_rfl) (of_decide_eq_true (by kernel_rfl)) k0 bel lt0) (trodAll_cons_mk (Below.trod laidOut (by kernel_rfl) (of_decide_eq_true (by kernel_rfl)) k1 bel lt1) (trodAll_cons_mk (Below.trod laidOut (by kernel_rfl) (of_decide_eq_true (by kernel_rfl)) k2 bel lt2) (trodAll_cons_mk (Below.trod laidOut (by kernel_rfl) (of_decide_eq_true (by kernel_rfl)) k3 bel lt3) trodAll_mk0)))), rfl, bel.frame _, fun h => by cases h⟩
theorem over : Rows.pilotCopiesRow.holds Try.pinned (OpenSpec.ofChange Rows.pilotCopiesSpec) :=
  OpenClaim.holds_of_wide 7 Try.f7 rfl rfl rfl rfl rfl rfl rfl ⟨rfl, rfl, rfl, rfl, rfl⟩ rfl rfl rfl rfl rfl (by kernel_rfl) Try.func7 (by kernel_rfl)
    (of_decide_eq_true (by kernel_rfl)) (by unfold Func.isWrapper; first | (rw [if_pos (by decide +kernel)]; kernel_rfl) | (rw [if_neg (by decide +kernel)]; exact ⟨rfl, rfl⟩))
    (fun os started H enc _ => lifted os started H enc)
theorem proved : Rows.PilotCopiesSaid := over
end Go.Proofs.Ytjidchaejicjaaa.lawPilotCopies

import Derived.Test.YtdocdgcdldpagaaGreatAp
import Derived.Test.YtdocdgcdldpagaaGreatAv28
import Derived.Test.YtdocdgcdldpagaaGreatAv24
import Derived.StillTailTactics
import Derived.Deep.RegionHeld3
import Derived.Test.YtdocdgcdldpagaaGreatAv40
import Derived.Test.YtdocdgcdldpagaaGreatAv23
import Derived.StillTail
import Derived.Test.YtdocdgcdldpagaaGreatAv42
namespace Go.Proofs.YtdocdgcdldpagaaGreat
open Go.RowKit
set_option maxHeartbeats 2000000
set_option maxRecDepth 100000
set_option linter.unusedSimpArgs false
set_option linter.unusedVariables false
attribute [local go_sem ↓] Go.wp_at_zero Go.wp_at_succ
theorem z45 (s : Plt.St) : ((s.st == 4) = true ∧ (s.st == 5) = false) ∨ ((s.st == 4) = false ∧ (s.st == 5) = true) ∨ ((s.st == 4) = false ∧ (s.st == 5) = false) := by
  by_cases h : s.st = 4
  · left; exact ⟨by rw [h]; rfl, by rw [h]; rfl⟩
  · right
    by_cases g : s.st = 5
    · left; exact ⟨by rw [g]; rfl, by rw [g]; rfl⟩
    · right; exact ⟨by rw [beq_eq_false_iff_ne]; exact h, by rw [beq_eq_false_iff_ne]; exact g⟩
end Go.Proofs.YtdocdgcdldpagaaGreat
namespace Go.Proofs.YtdocdgcdldpagaaGreat
open Go.RowKit
set_option maxHeartbeats 4000000
set_option maxRecDepth 100000
set_option linter.unusedSimpArgs false
set_option linter.unusedVariables false
attribute [local go_sem ↓] Go.wp_at_zero Go.wp_at_succ
theorem rpnew_yes (id lost ret desc late every d : Int) (w : World) (h : Plt.newE id lost ret desc late every d = 0) :
    Calls Tryz.prog 78 #[.int .i64 id, .agg #[.int .i64 lost, .int .i64 ret, .int .i64 desc, .int .i64 late, .int .i64 every], .int .i64 d] w fun e w' => e = .returned (.tuple #[.agg (rag (Plt.new id lost ret desc late every d)).toArray, .int .i64 0]) ∧ Below w.heap.size w w' := by
  have hh : Ck.Clk.inB id 1 64 = true ∧ Plt.ruOk lost ret desc late every = true ∧ (0 ≤ d ∧ d ≤ 100000) := by
    unfold Plt.newE at h
    split at h
    · assumption
    · omega
  obtain ⟨hi, hr, hd⟩ := hh
  have WI := Lib.hid (fun W : World => rto_yes id 1 64 W (Ck.Clk.inB_iff.1 hi))
  have VA := Lib.hid (fun W : World => by have := rpvalid_any lost ret desc late every W; rw [hr] at this; exact this)
  have CM := Lib.hid (fun W : World => Ck.rNew_yes d W hd)
  clear h hi hr hd
  go_enter Tryz.func78, Tryz.ntmps78; go_upto_region 1 with fail; generalize hV : World.alloc _ _ = V; have kr : V.heap[w.heap.size]? = some (.cells #[.int .i64 lost, .int .i64 ret, .int .i64 desc, .int .i64 late, .int .i64 every] 23 (0, 0)) := (by rw [← hV]; exact blk_alloc (heap_new _ _) _); have k2 : RB V (w.heap.size + 1) rzero := (by rw [← hV]; exact heap_new' _ _ _ C9); have HB := Lib.hid (show Below w.heap.size w V from by rw [← hV]; exact A9); clear hV
  obtain ⟨xd, hxd⟩ : ∃ xd : Int, xd = d := ⟨_, rfl⟩
  go_wp2_with fail
  refine (CM.out _).mono ?_
  rintro e W1 ⟨rfl, hb1⟩
  subst hxd
  have hz1 : w.heap.size + 1 < W1.heap.size := lt_of_block (blk_below k2 hb1 (lt_of_block k2)); (go_upto_region 2 with fail); generalize hV : World.alloc _ _ = V1; have jr : V1.heap[w.heap.size]? = some (.cells #[.int .i64 lost, .int .i64 ret, .int .i64 desc, .int .i64 late, .int .i64 every] 23 (0, 0)) := (by rw [← hV]; exact blk_alloc (blk_below kr hb1 (lt_of_block kr)) _); have j2 : RB V1 (w.heap.size + 1) rzero := (by rw [← hV]; exact blk_alloc (blk_below k2 hb1 (lt_of_block k2)) _); have jc : V1.heap[W1.heap.size]? = some (.cells #[.int .i64 xd, .int .i64 0, .bool false, .int .i64 0, .int .i64 0] 99 (0, 0)) := Bd; have HB1 := Lib.hid (show Below w.heap.size w V1 by rw [← hV]; exact (HB.out.trans (hb1.mono HB.out.size)).alloc Cb _); clear hV kr k2 HB hb1; (have cf_0 := blk_cell jr 0 rfl; have ff_0 := blk_free jr 0; have cf_1 := blk_cell jr 1 rfl; have ff_1 := blk_free jr 1; have cf_2 := blk_cell jr 2 rfl; have ff_2 := blk_free jr 2; have cf_3 := blk_cell jr 3 rfl; have ff_3 := blk_free jr 3; have cf_4 := blk_cell jr 4 rfl; have ff_4 := blk_free jr 4; have lf := lt_of_block jr); have JR := Lib.hid jr; have JC := Lib.hid jc; clear jr jc; go_wp2_with fail
  refine (WI.out _).mono ?_
  rintro e w' ⟨rfl, rfl⟩
  go_wp2_with fail
  refine (VA.out _).mono ?_
  rintro e W2 ⟨rfl, hb2⟩
  have i2 := blk_below j2 hb2 (lt_of_block j2)
  have ir := blk_below JR.out hb2 (lt_of_block JR.out)
  have ic := blk_below JC.out hb2 (lt_of_block JC.out)
  have HB2 := Lib.hid (HB1.out.trans (hb2.mono HB1.out.size))
  clear hb2 j2 JR JC
  clear cf_0 ff_0 cf_1 ff_1 cf_2 ff_2 cf_3 ff_3 cf_4 ff_4
  have cg_0 := blk_cell ir 0 rfl; have fg_0 := blk_free ir 0; have cg_1 := blk_cell ir 1 rfl; have fg_1 := blk_free ir 1; have cg_2 := blk_cell ir 2 rfl; have fg_2 := blk_free ir 2; have cg_3 := blk_cell ir 3 rfl; have fg_3 := blk_free ir 3; have cg_4 := blk_cell ir 4 rfl; have fg_4 := blk_free ir 4; have lg := lt_of_block ir
  have ch_0 := blk_cell ic 0 rfl; have fh_0 := blk_free ic 0; have ch_1 := blk_cell ic 1 rfl; have fh_1 := blk_free ic 1; have ch_2 := blk_cell ic 2 rfl; have fh_2 := blk_free ic 2; have ch_3 := blk_cell ic 3 rfl; have fh_3 := blk_free ic 3; have ch_4 := blk_cell ic 4 rfl; have fh_4 := blk_free ic 4; have lh := lt_of_block ic
  clear ir ic
  go_wp2_with (refine wpList_store_row rfl 101 _ _ rfl _ _ rfl rfl 101 _ i2 C7 rfl (rag_one (Plt.new id lost ret desc late every xd)) ?_)
  exact bodyPost_ret (results_ct rfl _ _ _ _ _ (0, 0) _ rfl (setRow_heap _ _ _ _ _ _ i2) Tryz.underlying101 rfl C7) rfl ⟨rfl, below_setRow HB2.out Cb _⟩
end Go.Proofs.YtdocdgcdldpagaaGreat
namespace Go.Proofs.YtdocdgcdldpagaaGreat
open Go.RowKit
set_option maxHeartbeats 4000000
set_option linter.unusedSimpArgs false
set_option linter.unusedVariables false
section
variable {P : Program} {ops : Array Oper} {Q : Exit → Act → World → Prop} {md : Region.Mode} {S : World → Prop} {nd : Nat → Bool}
def wpAnyF (P : Program) (md : Region.Mode) (ops : Array Oper) (Q : Exit → Act → World → Prop) (S : World → Prop) (nd : Nat → Bool) : Nat → Array Bool → Act → World → Prop
  | 0, listed, a, w => Region.ready md ops listed = [] ∧ Q .normal a w
  | fuel + 1, listed, a, w =>
    (Region.ready md ops listed = [] → Q .normal a w) ∧
    ∀ i ∈ Region.ready md ops listed, wpOp P ops Q i (fun a' w' => (nd i = true → S w') ∧ wpAnyF P md ops Q S nd fuel (listed.setIfInBounds i true) a' w') a w
theorem wpAny_of_F : ∀ (fuel : Nat) (listed : Array Bool) (a : Act) (w : World), wpAnyF P md ops Q S nd fuel listed a w → wpAny P md ops Q fuel listed a w
  | 0, _, _, _, h => h
  | fuel + 1, _, _, _, h => ⟨h.1, fun i hi => wpOp_mono (fun a' w' h' => wpAny_of_F fuel _ a' w' h'.2) (h.2 i hi)⟩
theorem getD_set_other {l : Array Bool} {i j : Nat} (b : Bool) (h : j ≠ i) : (l.setIfInBounds j true).getD i b = l.getD i b := by
  simp [Array.getD_eq_getD_getElem?, Array.getElem?_setIfInBounds_ne h]
def ClosedF (md : Region.Mode) (ops : Array Oper) (listed : Array Bool) : Prop := ∀ j oj, ops[j]? = some oj → listed.getD j false = true → ∀ e ∈ oj.after, Region.binds md e = true → listed.getD e.on false = true
def closedB (md : Region.Mode) (ops : Array Oper) (listed : Array Bool) : Bool := (List.range ops.size).all fun j => match ops[j]? with
  | some oj => !(listed.getD j false) || oj.after.all fun e => !(Region.binds md e) || listed.getD e.on false
  | none => true
theorem closedB_spec {listed : Array Bool} (h : closedB md ops listed = true) : ClosedF md ops listed := by
  intro j oj hj hl e he hb
  have hjs : j < ops.size := by
    rcases Nat.lt_or_ge j ops.size with g | g
    · exact g
    · rw [Array.getElem?_eq_none g] at hj; cases hj
  have := List.all_eq_true.1 h j (List.mem_range.2 hjs)
  rw [hj] at this
  simp only [hl, Bool.not_true, Bool.false_or] at this
  have h2 := Array.all_eq_true'.1 this e he
  rw [hb] at h2
  simpa using h2
theorem ClosedF.step {listed : Array Bool} {j : Nat} {oj : Oper} (h : ClosedF md ops listed) (hj : ops[j]? = some oj) (hr : ∀ e ∈ oj.after, Region.binds md e = true → listed.getD e.on false = true) : ClosedF md ops (listed.setIfInBounds j true) := by
  intro k ok hk hl e he hb
  have up : ∀ i, listed.getD i false = true → (listed.setIfInBounds j true).getD i false = true := fun i hi => by
    by_cases hij : i = j
    · subst hij
      have hs : i < listed.size := by
        rcases Nat.lt_or_ge i listed.size with g | g
        · exact g
        · simp [Array.getD_eq_getD_getElem?, Array.getElem?_eq_none g] at hi
      simp [Array.getD_eq_getD_getElem?, Array.getElem?_setIfInBounds_self_of_lt hs]
    · simpa [Array.getD_eq_getD_getElem?, Array.getElem?_setIfInBounds_ne (Ne.symm hij)] using hi
  by_cases hkj : k = j
  · subst hkj
    rw [hj] at hk
    cases hk
    exact up _ (hr e he hb)
  · refine up _ (h k ok hk ?_ e he hb)
    simpa [Array.getD_eq_getD_getElem?, Array.getElem?_setIfInBounds_ne (Ne.symm hkj)] using hl
def FarF (md : Region.Mode) (ops : Array Oper) (k1 k2 i j : Nat) : Prop := Region.waitsFor md ops j k1 = true ∧ Region.waitsFor md ops k1 k2 = true ∧ Region.waitsFor md ops k2 i = true
theorem wpAnyF_first {R : World → Prop} {i : Nat} {oi : Oper} {v : Value} (hi : ops[i]? = some oi) (hsel : ∀ (j : Nat) (o : Oper) cs b, ops[j]? = some o → o.op ≠ .select cs b)
    (hQ : ∀ c a w, Q (.panic c) (a.put oi.dst v) w → Q (.panic c) a w) (hRS : ∀ w, R w → nd i = true → S w) {k1 k2 : Nat} :
    ∀ (fuel : Nat) (listed : Array Bool) (a : Act) (w : World), ClosedF md ops listed →
      (∀ j oj, ops[j]? = some oj → j ≠ i → listed.getD j true = false → (∀ e ∈ oj.after, Region.binds md e = true → e.on ≠ i) → oi.apart ops oj = true ∧ (¬ FarF md ops k1 k2 i j → ∀ w, (nd j = true → S w) → R w)) →
      i ∈ Region.ready md ops listed → YieldsIf P ops R oi v a → R w →
      wpAnyF P md ops Q S nd fuel (listed.setIfInBounds i true) (a.put oi.dst v) w → wpAnyF P md ops Q S nd (fuel + 1) listed a w := by
  intro fuel
  induction fuel with
  | zero =>
    intro listed a w hcl _ hr hy hS H
    refine ⟨fun h => (by rw [h] at hr; cases hr), fun j hj => ?_⟩
    by_cases hji : j = i
    · subst hji; exact hy.wpOp hi hS ⟨hRS w hS, H⟩
    · have := ready_mono hj hji
      rw [H.1] at this
      cases this
  | succ fuel ih =>
    intro listed a w hcl hfree hr hy hS H
    refine ⟨fun h => (by rw [h] at hr; cases hr), fun j hj => ?_⟩
    by_cases hji : j = i
    · subst hji; exact hy.wpOp hi hS ⟨hRS w hS, H⟩
    · have h1 := H.2 j (ready_mono hj hji)
      obtain ⟨hjun, oj, hoj, hall⟩ := mem_ready.1 hj
      have hnot : ∀ e ∈ oj.after, Region.binds md e = true → e.on ≠ i := fun e he hb heq => by
        have h1 := hall e he hb
        have h0 := (mem_ready.1 hr).1
        rw [heq] at h1
        rcases Nat.lt_or_ge i listed.size with h' | h'
        · simp [h'] at h0 h1; rw [h0] at h1; cases h1
        · simp [Array.getElem?_eq_none h'] at h1
      have hg := hfree j oj hoj hji hjun hnot
      have hfar : ¬ FarF md ops k1 k2 i j := by
        rintro ⟨f1, f2, f3⟩
        obtain ⟨o1, ho1, e1, he1, hb1, hn1⟩ := Region.waitsFor_spec f1
        obtain ⟨o2, ho2, e2, he2, hb2, hn2⟩ := Region.waitsFor_spec f2
        obtain ⟨o3, ho3, e3, he3, hb3, hn3⟩ := Region.waitsFor_spec f3
        rw [hoj] at ho1
        cases ho1
        have l1 := hall e1 he1 hb1
        rw [hn1] at l1
        have l2 := hcl k1 o2 ho2 l1 e2 he2 hb2
        rw [hn2] at l2
        have l3 := hcl k2 o3 ho3 l2 e3 he3 hb3
        rw [hn3] at l3
        have h0 := (mem_ready.1 hr).1
        rcases Nat.lt_or_ge i listed.size with h' | h'
        · simp [h'] at h0 l3; rw [h0] at l3; cases l3
        · simp [Array.getElem?_eq_none h'] at l3
      have h2 := wpOp_putIf hoj hg.1 (fun cs b => hsel i oi cs b hi) (fun cs b => hsel j oj cs b hoj) hQ hy h1
      have hfree' : ∀ k ok, ops[k]? = some ok → k ≠ i → (listed.setIfInBounds j true).getD k true = false →
          (∀ e ∈ ok.after, Region.binds md e = true → e.on ≠ i) → oi.apart ops ok = true ∧ (¬ FarF md ops k1 k2 i k → ∀ w, (nd k = true → S w) → R w) := fun k ok hk hki hun hno => by
        refine hfree k ok hk hki ?_ hno
        by_cases hjk : j = k
        · subst hjk; exact hjun
        · rw [getD_set_other true hjk] at hun; exact hun
      refine wpOp_mono (fun a' w' h3 => ⟨h3.2.1, ih (listed.setIfInBounds j true) a' w' (hcl.step hoj hall) hfree' (ready_mono hr (Ne.symm hji)) h3.1 (hg.2 hfar w' h3.2.1) ?_⟩) h2
      rw [Array.setIfInBounds_comm _ _ hji]
      exact h3.2.2
def goodB (md : Region.Mode) (ops : Array Oper) (nd : Nat → Bool) (listed : Array Bool) (k1 k2 i : Nat) : Bool :=
  (List.range ops.size).all fun j => decide (j = i) || listed.getD j true || Region.waitsFor md ops j i || nd j || (Region.waitsFor md ops j k1 && Region.waitsFor md ops k1 k2 && Region.waitsFor md ops k2 i)
theorem goodB_spec {listed : Array Bool} {k1 k2 i : Nat} (h : goodB md ops nd listed k1 k2 i = true) : ∀ j oj, ops[j]? = some oj → j ≠ i → listed.getD j true = false → (∀ e ∈ oj.after, Region.binds md e = true → e.on ≠ i) → ¬ FarF md ops k1 k2 i j → nd j = true := by
  intro j oj hj hji hl hno hfar
  have hjs : j < ops.size := by
    rcases Nat.lt_or_ge j ops.size with g | g
    · exact g
    · rw [Array.getElem?_eq_none g] at hj; cases hj
  have := List.all_eq_true.1 h j (List.mem_range.2 hjs)
  rw [hl] at this
  simp only [Bool.or_eq_true, Bool.and_eq_true, decide_eq_true_eq, Bool.false_eq_true, or_false] at this
  rcases this with ((g | g) | g) | ⟨⟨g1, g2⟩, g3⟩
  · exact absurd g hji
  · obtain ⟨oj', ho, e, he, hb, hon⟩ := Region.waitsFor_spec g
    rw [hj] at ho
    cases ho
    exact absurd hon (hno e he hb)
  · exact g
  · exact absurd ⟨g1, g2, g3⟩ hfar
theorem wpAnyF_take (k1 k2 : Nat) {i : Nat} {oi : Oper} {v : Value} {fuel : Nat} {listed : Array Bool} {a : Act} {w : World} (hi : ops[i]? = some oi)
    (hs : Region.noSelect ops = true) (hf : Region.free md ops listed i = true) (hc : closedB md ops listed = true) (hg : goodB md ops nd listed k1 k2 i = true) (hr : (Region.ready md ops listed).contains i = true)
    (hQ : ∀ c a w, Q (.panic c) (a.put oi.dst v) w → Q (.panic c) a w) (hy : YieldsIf P ops S oi v a) (hS : S w)
    (h : wpAnyF P md ops Q S nd fuel (listed.setIfInBounds i true) (a.put oi.dst v) w) : wpAnyF P md ops Q S nd (fuel + 1) listed a w :=
  wpAnyF_first (R := S) (k1 := k1) (k2 := k2) hi (Region.noSelect_spec hs) hQ (fun _ h _ => h) fuel listed a w (closedB_spec hc) (fun j oj hj hji hl hno => ⟨Region.free_spec hi hf j oj hj hji hl hno, fun hfar w hw => hw (goodB_spec hg j oj hj hji hl hno hfar)⟩) (by simpa using hr) hy hS h
theorem wpAnyF_pure {i : Nat} {oi : Oper} {v : Value} {fuel : Nat} {listed : Array Bool} {a : Act} {w : World} (hi : ops[i]? = some oi)
    (hs : Region.noSelect ops = true) (hf : Region.free md ops listed i = true) (hc : closedB md ops listed = true) (hg : nd i = false) (hr : (Region.ready md ops listed).contains i = true)
    (hQ : ∀ c a w, Q (.panic c) (a.put oi.dst v) w → Q (.panic c) a w) (hy : YieldsIf P ops (fun _ => True) oi v a)
    (h : wpAnyF P md ops Q S nd fuel (listed.setIfInBounds i true) (a.put oi.dst v) w) : wpAnyF P md ops Q S nd (fuel + 1) listed a w :=
  wpAnyF_first (R := fun _ => True) (k1 := 0) (k2 := 0) hi (Region.noSelect_spec hs) hQ (fun _ _ h => by rw [hg] at h; cases h) fuel listed a w (closedB_spec hc) (fun j oj hj hji hl hno => ⟨Region.free_spec hi hf j oj hj hji hl hno, fun _ _ _ => trivial⟩) (by simpa using hr) hy trivial h
theorem wpAnyF_done {listed : Array Bool} {a : Act} {w : World} (hr : Region.ready md ops listed = []) (h : Q .normal a w) : ∀ fuel, wpAnyF P md ops Q S nd fuel listed a w
  | 0 => ⟨hr, h⟩
  | _ + 1 => ⟨fun _ => h, by rw [hr]; simp⟩
def AllReadyF (P : Program) (md : Region.Mode) (ops : Array Oper) (Q : Exit → Act → World → Prop) (S : World → Prop) (nd : Nat → Bool) (fuel : Nat) (listed : Array Bool) (a : Act) (w : World) (rs : List Nat) : Prop :=
  ∀ i ∈ rs, wpOp P ops Q i (fun a' w' => (nd i = true → S w') ∧ wpAnyF P md ops Q S nd fuel (listed.setIfInBounds i true) a' w') a w
theorem AllReadyF.nil {fuel : Nat} {listed : Array Bool} {a : Act} {w : World} : AllReadyF P md ops Q S nd fuel listed a w [] := fun _ h => by cases h
theorem AllReadyF.cons {fuel : Nat} {listed : Array Bool} {a : Act} {w : World} {i : Nat} {o : Oper} {rs : List Nat} (ho : ops[i]? = some o)
    (h : ∀ K' : Act → World → Prop, Shut (∀ a w, (nd i = true → S w) → wpAnyF P md ops Q S nd fuel (listed.setIfInBounds i true) a w → K' a w) → if Region.wanted o (yielded ops a.tmps) = true then Oper.wp P o a w K' Q else K' (a.put o.dst undef) w)
    (hs : AllReadyF P md ops Q S nd fuel listed a w rs) : AllReadyF P md ops Q S nd fuel listed a w (i :: rs) := fun j hj => by
  rcases List.mem_cons.1 hj with rfl | hj
  · exact wpOp_step ho (fun K' hK => h K' (fun a w hS hW => hK a w ⟨hS, hW⟩))
  · exact hs j hj
theorem wpAnyF_ready {rs : List Nat} {fuel : Nat} {listed : Array Bool} {a : Act} {w : World} (hr : Region.ready md ops listed = rs) (hne : rs ≠ [])
    (h : AllReadyF P md ops Q S nd fuel listed a w rs) : wpAnyF P md ops Q S nd (fuel + 1) listed a w := ⟨fun h0 => absurd (hr ▸ h0) hne, hr ▸ h⟩
theorem wp_region_F {id : Nat} {a : Act} {w : World} (hm : P.follows .mixedOrders = true)
    (h : wpAnyF P .any ops Q S nd ops.size (Array.replicate ops.size false) a w.drew) : (Code.region id ops true).wp P Q a w := wp_region_any hm (wpAny_of_F _ _ _ _ h)
end
end Go.Proofs.YtdocdgcdldpagaaGreat
namespace Go.Proofs.YtdocdgcdldpagaaGreat
open Go.RowKit
set_option maxHeartbeats 8000000
set_option maxRecDepth 100000
set_option linter.unusedSimpArgs false
set_option linter.unusedVariables false
structure W16 (U V : World) (p : Nat) (N : Array Value) (x6 x10 x12 : Nat) (X6 X10 X12 : List Value) (A1 : Option Addr) (n1 c1 : Nat) (r1 : List Value) (A2 : Option Addr) (n2 c2 : Nat) (r2 : List Value) (A3 : Option Addr) (n3 c3 : Nat) (r3 : List Value) (b1 b2 b3 : Option Nat) : Prop where
  hp : V.heap[p]? = some (.cells N 55 (0, 0))
  h6 : V.heap[x6]? = some (.cells X6.toArray 101 (0, 0))
  h10 : V.heap[x10]? = some (.cells X10.toArray 136 (0, 0))
  h12 : V.heap[x12]? = some (.cells X12.toArray 136 (0, 0))
  w1 : Row V U.heap.size 101 24 A1 n1 c1 r1
  w2 : Row V U.heap.size 136 11 A2 n2 c2 r2
  w3 : Row V U.heap.size 136 11 A3 n3 c3 r3
  f1 : ∀ q, b1 = some q → V.heap[q]? = some (.cells X6.toArray 101 (0, 0)) ∧ blkOf A1 ≠ some q
  f2 : ∀ q, b2 = some q → V.heap[q]? = some (.cells X10.toArray 136 (0, 0)) ∧ blkOf A2 ≠ some q ∧ blkOf A3 ≠ some q
  f3 : ∀ q, b3 = some q → V.heap[q]? = some (.cells X12.toArray 136 (0, 0)) ∧ blkOf A2 ≠ some q ∧ blkOf A3 ≠ some q
  d : ∀ q, blkOf A2 = some q → blkOf A3 ≠ some q
  d6 : blkOf A1 ≠ some x6
  d10 : blkOf A2 ≠ some x10 ∧ blkOf A3 ≠ some x10
  d12 : blkOf A2 ≠ some x12 ∧ blkOf A3 ≠ some x12
  kU : Keeps (fun q => q = p) U V
  up : U.heap.size ≤ V.heap.size
section
variable {U V V' : World} {p : Nat} {N : Array Value} {x6 x10 x12 : Nat} {X6 X10 X12 : List Value} {A1 : Option Addr} {n1 c1 : Nat} {r1 : List Value} {A2 : Option Addr} {n2 c2 : Nat} {r2 : List Value} {A3 : Option Addr} {n3 c3 : Nat} {r3 : List Value} {b1 b2 b3 : Option Nat}
theorem row_ne {e : TypeId} {z n c q : Nat} {A : Option Addr} {xs : List Value} {B : Nat} (h : Row V B e z A n c xs) (hq : V.heap.size ≤ q) : blkOf A ≠ some q := fun hh => by
  have := (h.lt hh).2
  omega
theorem row_ty {e e' : TypeId} {z n c q : Nat} {A : Option Addr} {xs : List Value} {B : Nat} {cs : Array Value} (h : Row V B e z A n c xs) (hq : V.heap[q]? = some (.cells cs e' (0, 0))) (hne : e ≠ e') : blkOf A ≠ some q := fun hh => (h.ty hh).ne ⟨_, hq⟩ hne rfl
theorem W16.drew (h : W16 U V p N x6 x10 x12 X6 X10 X12 A1 n1 c1 r1 A2 n2 c2 r2 A3 n3 c3 r3 b1 b2 b3) : W16 U V.drew p N x6 x10 x12 X6 X10 X12 A1 n1 c1 r1 A2 n2 c2 r2 A3 n3 c3 r3 b1 b2 b3 :=
  ⟨h.hp, h.h6, h.h10, h.h12, h.w1, h.w2, h.w3, h.f1, h.f2, h.f3, h.d, h.d6, h.d10, h.d12, h.kU.drew, h.up⟩
theorem W16.mk1 (h : W16 U V p N x6 x10 x12 X6 X10 X12 A1 n1 c1 r1 A2 n2 c2 r2 A3 n3 c3 r3 none b2 b3) : W16 U (V.alloc (.cells X6.toArray 101)) p N x6 x10 x12 X6 X10 X12 A1 n1 c1 r1 A2 n2 c2 r2 A3 n3 c3 r3 (some V.heap.size) b2 b3 where
  hp := blk_alloc h.hp _
  h6 := blk_alloc h.h6 _
  h10 := blk_alloc h.h10 _
  h12 := blk_alloc h.h12 _
  w1 := h.w1.alloc _
  w2 := h.w2.alloc _
  w3 := h.w3.alloc _
  f1 := fun q hq => by cases hq; exact ⟨heap_new _ _, row_ne h.w1 (Nat.le_refl _)⟩
  f2 := fun q hq => ⟨blk_alloc (h.f2 q hq).1 _, (h.f2 q hq).2⟩
  f3 := fun q hq => ⟨blk_alloc (h.f3 q hq).1 _, (h.f3 q hq).2⟩
  d := h.d
  d6 := h.d6
  d10 := h.d10
  d12 := h.d12
  kU := h.kU.alloc _
  up := by have := h.up; simp; omega
theorem W16.mk2 (h : W16 U V p N x6 x10 x12 X6 X10 X12 A1 n1 c1 r1 A2 n2 c2 r2 A3 n3 c3 r3 b1 none b3) : W16 U (V.alloc (.cells X10.toArray 136)) p N x6 x10 x12 X6 X10 X12 A1 n1 c1 r1 A2 n2 c2 r2 A3 n3 c3 r3 b1 (some V.heap.size) b3 where
  hp := blk_alloc h.hp _
  h6 := blk_alloc h.h6 _
  h10 := blk_alloc h.h10 _
  h12 := blk_alloc h.h12 _
  w1 := h.w1.alloc _
  w2 := h.w2.alloc _
  w3 := h.w3.alloc _
  f1 := fun q hq => ⟨blk_alloc (h.f1 q hq).1 _, (h.f1 q hq).2⟩
  f2 := fun q hq => by cases hq; exact ⟨heap_new _ _, row_ne h.w2 (Nat.le_refl _), row_ne h.w3 (Nat.le_refl _)⟩
  f3 := fun q hq => ⟨blk_alloc (h.f3 q hq).1 _, (h.f3 q hq).2⟩
  d := h.d
  d6 := h.d6
  d10 := h.d10
  d12 := h.d12
  kU := h.kU.alloc _
  up := by have := h.up; simp; omega
theorem W16.mk3 (h : W16 U V p N x6 x10 x12 X6 X10 X12 A1 n1 c1 r1 A2 n2 c2 r2 A3 n3 c3 r3 b1 b2 none) : W16 U (V.alloc (.cells X12.toArray 136)) p N x6 x10 x12 X6 X10 X12 A1 n1 c1 r1 A2 n2 c2 r2 A3 n3 c3 r3 b1 b2 (some V.heap.size) where
  hp := blk_alloc h.hp _
  h6 := blk_alloc h.h6 _
  h10 := blk_alloc h.h10 _
  h12 := blk_alloc h.h12 _
  w1 := h.w1.alloc _
  w2 := h.w2.alloc _
  w3 := h.w3.alloc _
  f1 := fun q hq => ⟨blk_alloc (h.f1 q hq).1 _, (h.f1 q hq).2⟩
  f2 := fun q hq => ⟨blk_alloc (h.f2 q hq).1 _, (h.f2 q hq).2⟩
  f3 := fun q hq => by cases hq; exact ⟨heap_new _ _, row_ne h.w2 (Nat.le_refl _), row_ne h.w3 (Nat.le_refl _)⟩
  d := h.d
  d6 := h.d6
  d10 := h.d10
  d12 := h.d12
  kU := h.kU.alloc _
  up := by have := h.up; simp; omega
theorem new_ne {A A' : Option Addr} {q : Nat} (hat : blkOf A' = blkOf A ∨ blkOf A' = some V.heap.size) (h : blkOf A ≠ some q) (hq : q < V.heap.size) : blkOf A' ≠ some q := fun hh => by
  rcases hat with e | e
  · exact h (e ▸ hh)
  · rw [e] at hh; injection hh with hh; omega
theorem W16.a1 (h : W16 U V p N x6 x10 x12 X6 X10 X12 A1 n1 c1 r1 A2 n2 c2 r2 A3 n3 c3 r3 b1 b2 b3) {A' : Option Addr} {n' c' : Nat} {r' : List Value} (hrow : Row V' U.heap.size 101 24 A' n' c' r') (hg : V.grownBy V' (blkOf A1)) (hat : blkOf A' = blkOf A1 ∨ blkOf A' = some V.heap.size) :
    W16 U V' p N x6 x10 x12 X6 X10 X12 A' n' c' r' A2 n2 c2 r2 A3 n3 c3 r3 b1 b2 b3 := by
  have kk : Keeps (fun i => blkOf A1 = some i) V V' := Keeps.of_grown hg (fun g e => e)
  refine ⟨blk_keep h.hp kk (row_ty h.w1 h.hp C8), blk_keep h.h6 kk h.d6, blk_keep h.h10 kk (row_ty h.w1 h.h10 C8), blk_keep h.h12 kk (row_ty h.w1 h.h12 C8), hrow,
    h.w2.kept kk (fun g hg' hh => (h.w1.ty hh).ne (h.w2.ty hg') C8 rfl), h.w3.kept kk (fun g hg' hh => (h.w1.ty hh).ne (h.w3.ty hg') C8 rfl), ?_, ?_, ?_, h.d, new_ne hat h.d6 (lt_of_block h.h6), h.d10, h.d12, ?_, Nat.le_trans h.up kk.size⟩
  · intro q hq
    obtain ⟨g1, g2⟩ := h.f1 q hq
    exact ⟨blk_keep g1 kk g2, new_ne hat g2 (lt_of_block g1)⟩
  · intro q hq
    obtain ⟨g1, g2⟩ := h.f2 q hq
    exact ⟨blk_keep g1 kk (row_ty h.w1 g1 C8), g2⟩
  · intro q hq
    obtain ⟨g1, g2⟩ := h.f3 q hq
    exact ⟨blk_keep g1 kk (row_ty h.w1 g1 C8), g2⟩
  · exact h.kU.trans kk (fun i hi hh => by have := (h.w1.lt hh).1; omega)
theorem W16.a2 (h : W16 U V p N x6 x10 x12 X6 X10 X12 A1 n1 c1 r1 A2 n2 c2 r2 A3 n3 c3 r3 b1 b2 b3) {A' : Option Addr} {n' c' : Nat} {r' : List Value} (hrow : Row V' U.heap.size 136 11 A' n' c' r') (hg : V.grownBy V' (blkOf A2)) (hat : blkOf A' = blkOf A2 ∨ blkOf A' = some V.heap.size) :
    W16 U V' p N x6 x10 x12 X6 X10 X12 A1 n1 c1 r1 A' n' c' r' A3 n3 c3 r3 b1 b2 b3 := by
  have kk : Keeps (fun i => blkOf A2 = some i) V V' := Keeps.of_grown hg (fun g e => e)
  refine ⟨blk_keep h.hp kk (row_ty h.w2 h.hp C8), blk_keep h.h6 kk (row_ty h.w2 h.h6 C8), blk_keep h.h10 kk h.d10.1, blk_keep h.h12 kk h.d12.1,
    h.w1.kept kk (fun g hg' hh => (h.w2.ty hh).ne (h.w1.ty hg') C8 rfl), hrow, h.w3.kept kk (fun g hg' hh => h.d g hh hg'), ?_, ?_, ?_, ?_, h.d6, ⟨new_ne hat h.d10.1 (lt_of_block h.h10), h.d10.2⟩, ⟨new_ne hat h.d12.1 (lt_of_block h.h12), h.d12.2⟩, ?_, Nat.le_trans h.up kk.size⟩
  · intro q hq
    obtain ⟨g1, g2⟩ := h.f1 q hq
    exact ⟨blk_keep g1 kk (row_ty h.w2 g1 C8), g2⟩
  · intro q hq
    obtain ⟨g1, g2, g3⟩ := h.f2 q hq
    exact ⟨blk_keep g1 kk g2, new_ne hat g2 (lt_of_block g1), g3⟩
  · intro q hq
    obtain ⟨g1, g2, g3⟩ := h.f3 q hq
    exact ⟨blk_keep g1 kk g2, new_ne hat g2 (lt_of_block g1), g3⟩
  · intro q hq
    rcases hat with e | e
    · exact h.d q (e ▸ hq)
    · rw [e] at hq
      injection hq with hq
      exact row_ne h.w3 Cb
  · exact h.kU.trans kk (fun i hi hh => by have := (h.w2.lt hh).1; omega)
theorem W16.a3 (h : W16 U V p N x6 x10 x12 X6 X10 X12 A1 n1 c1 r1 A2 n2 c2 r2 A3 n3 c3 r3 b1 b2 b3) {A' : Option Addr} {n' c' : Nat} {r' : List Value} (hrow : Row V' U.heap.size 136 11 A' n' c' r') (hg : V.grownBy V' (blkOf A3)) (hat : blkOf A' = blkOf A3 ∨ blkOf A' = some V.heap.size) :
    W16 U V' p N x6 x10 x12 X6 X10 X12 A1 n1 c1 r1 A2 n2 c2 r2 A' n' c' r' b1 b2 b3 := by
  have kk : Keeps (fun i => blkOf A3 = some i) V V' := Keeps.of_grown hg (fun g e => e)
  refine ⟨blk_keep h.hp kk (row_ty h.w3 h.hp C8), blk_keep h.h6 kk (row_ty h.w3 h.h6 C8), blk_keep h.h10 kk h.d10.2, blk_keep h.h12 kk h.d12.2,
    h.w1.kept kk (fun g hg' hh => (h.w3.ty hh).ne (h.w1.ty hg') C8 rfl), h.w2.kept kk (fun g hg' hh => h.d g hg' hh), hrow, ?_, ?_, ?_, ?_, h.d6, ⟨h.d10.1, new_ne hat h.d10.2 (lt_of_block h.h10)⟩, ⟨h.d12.1, new_ne hat h.d12.2 (lt_of_block h.h12)⟩, ?_, Nat.le_trans h.up kk.size⟩
  · intro q hq
    obtain ⟨g1, g2⟩ := h.f1 q hq
    exact ⟨blk_keep g1 kk (row_ty h.w3 g1 C8), g2⟩
  · intro q hq
    obtain ⟨g1, g2, g3⟩ := h.f2 q hq
    exact ⟨blk_keep g1 kk g3, g2, new_ne hat g3 (lt_of_block g1)⟩
  · intro q hq
    obtain ⟨g1, g2, g3⟩ := h.f3 q hq
    exact ⟨blk_keep g1 kk g3, g2, new_ne hat g3 (lt_of_block g1)⟩
  · intro q hq
    exact new_ne hat (h.d q hq) (h.w2.lt hq).2
  · exact h.kU.trans kk (fun i hi hh => by have := (h.w3.lt hh).1; omega)
def S16 (p x6 x10 x12 : Nat) (X6 X10 X12 : List Value) (v1 v2 v3 : Value) (V : World) : Prop := (V.cell? ⟨p, 34, none⟩ = some v1 ∧ V.cell? ⟨p, 35, none⟩ = some v2 ∧ V.cell? ⟨p, 36, none⟩ = some v3) ∧
  V.heap[x6]? = some (.cells X6.toArray 101 (0, 0)) ∧ V.heap[x10]? = some (.cells X10.toArray 136 (0, 0)) ∧ V.heap[x12]? = some (.cells X12.toArray 136 (0, 0))
theorem W16.s {l : List Value} {v1 v2 v3 : Value} (h : W16 U V p l.toArray x6 x10 x12 X6 X10 X12 A1 n1 c1 r1 A2 n2 c2 r2 A3 n3 c3 r3 b1 b2 b3) (e1 : l[34]? = some v1) (e2 : l[35]? = some v2) (e3 : l[36]? = some v3) : S16 p x6 x10 x12 X6 X10 X12 v1 v2 v3 V :=
  ⟨⟨blk_cell h.hp 34 e1, blk_cell h.hp 35 e2, blk_cell h.hp 36 e3⟩, h.h6, h.h10, h.h12⟩
end
end Go.Proofs.YtdocdgcdldpagaaGreat

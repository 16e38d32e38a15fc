/- The law of a log's iterators holds: 'skylanternlaw39.FlightlogLists' returns true at every input. No conditions. -/
import Derived.Test.YtgmejplcdecmkaaLgMj
import Derived.BigQuiet
import Derived.BigFrame
import Derived.Deep.CutBlock
namespace Go.Proofs.Ytgmejplcdecmkaa.lawFlightlogLists
open Go.ChangeShapes Go.WideShapes Go.ChangeAt Go.RowKit Go.Joins Go.Shelf
set_option linter.unusedVariables false
set_option linter.unusedSimpArgs false
attribute [local go_sem ↓] Go.wp_at_zero Go.wp_at_succ
attribute [local go_sem] Oper.semAt_some
set_option maxHeartbeats 8000000
set_option maxRecDepth 100000
theorem fill12 (C : List Value) (h : C.length = 12) : List.foldl (fun (cs : Array Value) (x : Value × Nat) => cs.setIfInBounds x.snd x.fst) (#[.int .i64 0, .int .i64 0, .int .i64 0, .int .i64 0, .int .i64 0, .int .i64 0, .int .i64 0, .int .i64 0, .int .i64 0, .int .i64 0, .int .i64 0, .slice none 0 0] : Array Value) C.zipIdx = C.toArray := by
  have := fill_from C [.int .i64 0, .int .i64 0, .int .i64 0, .int .i64 0, .int .i64 0, .int .i64 0, .int .i64 0, .int .i64 0, .int .i64 0, .int .i64 0, .int .i64 0, .slice none 0 0] 0 (by simp [h])
  simpa using this
theorem wpList_load_row_on {P : Program} {ops : Array Oper} {rest : List Oper} {o : Oper} {a : Act} {w : World} {Q : Exit → Act → World → Prop} (hw : Region.wanted o (yielded ops a.tmps) = true) (ty : TypeId) (x : Operand) (ho : o.op = .load ty x)
    (g : Nat) (hx : a.eval x = .pointer (some ⟨g, 0, none⟩)) (t : TypeId) (cs : Array Value) (fr : Nat × Nat) (d : TypeDesc) (hg : w.heap[g]? = some (.cells cs t fr))
    (hu : P.underlying ty = some d) (hd : (match d with | .struct _ | .array _ _ => true | _ => false) = true) (hi : (P.info? ty).map (·.size) = some cs.size)
    (h : wpList P ops Q rest (a.put o.dst (.agg cs)) w) : wpList P ops Q (o :: rest) a w :=
  BigFrame.wpList_want hw fun K hK => wp_load_row ty x ho g hx t cs fr d hg hu hd hi (hK _ _ h)
theorem fnn (W : World) : (binOp .eql 73 .nilFunc .nilFunc).run Try.prog W = .ok (.bool true) W := by kernel_rfl
/-- a slice of one call -/
theorem ra_one (W : World) (B : Nat) (y : AV) (C : List Value) (hC : C = y.cells) (hB : B ≤ W.heap.size) (hy : AvOk W B y) : Ra (W.alloc (.cells (List.foldl (fun (cs : Array Value) (x : Value × Nat) => cs.setIfInBounds x.snd x.fst) (#[.int .i64 0, .int .i64 0, .int .i64 0, .int .i64 0, .int .i64 0, .int .i64 0, .int .i64 0, .int .i64 0, .int .i64 0, .int .i64 0, .int .i64 0, .slice none 0 0] : Array Value) C.zipIdx) 83)) (W.heap.size + 1) (some ⟨W.heap.size, 0, none⟩) 1 [y] := by
  have hl : C.length = 12 := by rw [hC]; rfl
  rw [fill12 C hl]
  refine ⟨rfl, fun _ => ⟨W.heap.size, 0, rfl, by omega, fun i hi j u hu => ?_⟩, fun z hz => ?_⟩
  · obtain rfl : i = 0 := by omega
    rw [hC]
    have := blk_cell (heap_new W (.cells y.cells.toArray 83 (0, 0))) j hu
    simpa using this
  · rw [List.mem_singleton.1 hz]
    exact (hy.below ((Below.refl B W).alloc hB _) (Nat.le_refl _)).more (by omega)
theorem walk_no (a0 : Option Addr) (len0 cap0 : Nat) (l0 : List AV) (a1 : Int) (a2 : Int) (y3 : AV) (w : World) (w0 : Ra w w.heap.size a0 len0 l0) (r0 : Room a0 len0 cap0) (f0 : ∀ y ∈ l0, GaOk y.x) (w1 : (Lit.int .i64 a1).wf = true) (w2 : (Lit.int .i64 a2).wf = true) (f3 : GaOk y3.x) (w3 : AvOk w w.heap.size y3) (hno : fewB l0 30 = false ∨ (fewB l0 30 = true ∧ (fewB [y3] 1 = false ∨ (fewB [y3] 1 = true ∧ a2 < 1)))) :
    Calls Try.prog 8 #[.slice a0 len0 cap0, .int .i64 a1, .int .i64 a2, y3.val] w fun e w' => e = .returned (.bool true) ∧ Below w.heap.size w w' := by
  obtain ⟨C, hC⟩ : ∃ C : List Value, C = y3.cells := ⟨_, rfl⟩
  have hC1 : C.length = 12 := by rw [hC]; rfl
  have hv : y3.val = .agg C.toArray := by rw [hC]; rfl
  have HC := Lib.hid hC
  have FW := Lib.hid (fun (W : World) (hW : Below w.heap.size w W) => few_all a0 len0 cap0 30 W.heap.size l0 W ((w0.below hW (Nat.le_refl _)).more hW.size) (room_len r0) (by omega))
  have FM := Lib.hid (fun (W : World) (hW : Below w.heap.size w W) => few_all (some ⟨W.heap.size, 0, none⟩) 1 1 1 (W.heap.size + 1) [y3] _ (ra_one W W.heap.size y3 C hC (Nat.le_refl _) ((w3.below hW (Nat.le_refl _)).more hW.size)) (by omega) (by omega))
  clear w0 r0 f0 w1 w2 f3 w3
  rw [hv]
  clear hC hv
  go_enter Try.func8, Try.ntmps8
  go_upto_region 1 with fail
  (try dsimp only)
  generalize hW0 : World.alloc _ _ = W0
  have y6 : W0.heap[w.heap.size]? = some (.cells #[.int .i64 a2] 3 (0, 0)) := by rw [← hW0]; exact blk_alloc (blk_alloc (heap_new _ _) _) _
  have y7 : W0.heap[w.heap.size + 1]? = some (.cells C.toArray 83 (0, 0)) := by rw [← hW0]; exact blk_alloc (show ((w.alloc (.cells #[.int .i64 a2] 3 (0, 0))).alloc (.cells C.toArray 83 (0, 0))).heap[w.heap.size + 1]? = _ from heap_new' _ _ _ (by simp)) _
  have y8 : W0.heap[w.heap.size + 1 + 1]? = some (.cells #[.bool false] 4 (0, 0)) := by rw [← hW0]; exact heap_new' _ _ _ (by simp)
  have B0 : Below w.heap.size w W0 := by rw [← hW0]; exact (((Below.refl _ w).alloc (Nat.le_refl _) _).alloc (by simp) _).alloc (by simp; omega) _
  have h7 : C.toArray.size = 12 := by simpa using hC1
  have c6 := blk_cell (l := [_]) y6 0 rfl
  clear hW0 hC1
  rcases hno with h | ⟨h, h' | ⟨h', h2⟩⟩
  · rw [h] at FW
    clear h FM
    go_wp2_with fail
    refine (FW.out _ B0).mono ?_
    rintro _ _ ⟨rfl, rfl⟩
    go_wp2_with fail
    refine (known_true _).mono ?_
    rintro _ w5 ⟨rfl, hb5⟩
    have r5 := blk_below y8 hb5 (lt_of_block y8)
    have c5 := blk_cell (l := [_]) r5 0 rfl
    have f5 := blk_free r5 0
    have B5 := B0.trans (hb5.mono B0.size)
    go_wp2_with fail
    exact bodyPost_ret (results_c1 rfl _ _ (w.heap.size + 1 + 1) (.bool true) _ rfl (blk_cell (l := [_]) (blk_set r5 0 _) 0 rfl) Try.underlying4 rfl) rfl ⟨rfl, B5.setCell (p := ⟨w.heap.size + 1 + 1, 0, none⟩) (by show w.heap.size ≤ w.heap.size + 1 + 1; omega) _⟩
  · rw [h] at FW
    rw [h'] at FM
    clear h h'
    go_wp2_with fail
    refine (FW.out _ B0).mono ?_
    rintro _ _ ⟨rfl, rfl⟩
    go_wp2_with (refine wpList_load_row_on (by rfl) 83 (.tmp 7) rfl (w.heap.size + 1) rfl 83 C.toArray (0, 0) _ y7 Try.underlying83 rfl (by rw [h7]; kernel_rfl) ?_)
    refine (FM.out _ B0).mono ?_
    rintro _ _ ⟨rfl, rfl⟩
    have B1 : Below w.heap.size w (W0.alloc (.cells (List.foldl (fun (cs : Array Value) (x : Value × Nat) => cs.setIfInBounds x.snd x.fst) (#[.int .i64 0, .int .i64 0, .int .i64 0, .int .i64 0, .int .i64 0, .int .i64 0, .int .i64 0, .int .i64 0, .int .i64 0, .int .i64 0, .int .i64 0, .slice none 0 0] : Array Value) C.zipIdx) 83)) := B0.alloc B0.size _
    have r1 := blk_alloc y8 (.cells (List.foldl (fun (cs : Array Value) (x : Value × Nat) => cs.setIfInBounds x.snd x.fst) (#[.int .i64 0, .int .i64 0, .int .i64 0, .int .i64 0, .int .i64 0, .int .i64 0, .int .i64 0, .int .i64 0, .int .i64 0, .int .i64 0, .int .i64 0, .slice none 0 0] : Array Value) C.zipIdx) 83)
    go_wp2_with fail
    refine (known_true _).mono ?_
    rintro _ w5 ⟨rfl, hb5⟩
    have r5 := blk_below r1 hb5 (lt_of_block r1)
    have c5 := blk_cell (l := [_]) r5 0 rfl
    have f5 := blk_free r5 0
    have B5 := B1.trans (hb5.mono B1.size)
    go_wp2_with fail
    exact bodyPost_ret (results_c1 rfl _ _ (w.heap.size + 1 + 1) (.bool true) _ rfl (blk_cell (l := [_]) (blk_set r5 0 _) 0 rfl) Try.underlying4 rfl) rfl ⟨rfl, B5.setCell (p := ⟨w.heap.size + 1 + 1, 0, none⟩) (by show w.heap.size ≤ w.heap.size + 1 + 1; omega) _⟩
  · rw [h] at FW
    rw [h'] at FM
    clear h h'
    go_wp2_with fail
    refine (FW.out _ B0).mono ?_
    rintro _ _ ⟨rfl, rfl⟩
    go_wp2_with (refine wpList_load_row_on (by rfl) 83 (.tmp 7) rfl (w.heap.size + 1) rfl 83 C.toArray (0, 0) _ y7 Try.underlying83 rfl (by rw [h7]; kernel_rfl) ?_)
    refine (FM.out _ B0).mono ?_
    rintro _ _ ⟨rfl, rfl⟩
    have B1 : Below w.heap.size w (W0.alloc (.cells (List.foldl (fun (cs : Array Value) (x : Value × Nat) => cs.setIfInBounds x.snd x.fst) (#[.int .i64 0, .int .i64 0, .int .i64 0, .int .i64 0, .int .i64 0, .int .i64 0, .int .i64 0, .int .i64 0, .int .i64 0, .int .i64 0, .int .i64 0, .slice none 0 0] : Array Value) C.zipIdx) 83)) := B0.alloc B0.size _
    have r1 := blk_alloc y8 (.cells (List.foldl (fun (cs : Array Value) (x : Value × Nat) => cs.setIfInBounds x.snd x.fst) (#[.int .i64 0, .int .i64 0, .int .i64 0, .int .i64 0, .int .i64 0, .int .i64 0, .int .i64 0, .int .i64 0, .int .i64 0, .int .i64 0, .int .i64 0, .slice none 0 0] : Array Value) C.zipIdx) 83)
    have c6 := blk_cell (l := [_]) (blk_alloc y6 (.cells (List.foldl (fun (cs : Array Value) (x : Value × Nat) => cs.setIfInBounds x.snd x.fst) (#[.int .i64 0, .int .i64 0, .int .i64 0, .int .i64 0, .int .i64 0, .int .i64 0, .int .i64 0, .int .i64 0, .int .i64 0, .int .i64 0, .int .i64 0, .slice none 0 0] : Array Value) C.zipIdx) 83)) 0 rfl
    go_wp2_with fail
    refine (known_true _).mono ?_
    rintro _ w5 ⟨rfl, hb5⟩
    have r5 := blk_below r1 hb5 (lt_of_block r1)
    have c5 := blk_cell (l := [_]) r5 0 rfl
    have f5 := blk_free r5 0
    have B5 := B1.trans (hb5.mono B1.size)
    go_wp2_with fail
    exact bodyPost_ret (results_c1 rfl _ _ (w.heap.size + 1 + 1) (.bool true) _ rfl (blk_cell (l := [_]) (blk_set r5 0 _) 0 rfl) Try.underlying4 rfl) rfl ⟨rfl, B5.setCell (p := ⟨w.heap.size + 1 + 1, 0, none⟩) (by show w.heap.size ≤ w.heap.size + 1 + 1; omega) _⟩
theorem walk_yes (a0 : Option Addr) (len0 cap0 : Nat) (l0 : List AV) (a1 : Int) (a2 : Int) (y3 : AV) (w : World) (w0 : Ra w w.heap.size a0 len0 l0) (r0 : Room a0 len0 cap0) (f0 : ∀ y ∈ l0, GaOk y.x) (w1 : (Lit.int .i64 a1).wf = true) (w2 : (Lit.int .i64 a2).wf = true) (f3 : GaOk y3.x) (w3 : AvOk w w.heap.size y3) (hyes : fewB l0 30 = true) (hy1 : fewB [y3] 1 = true) (hs1 : ¬ a2 < 1) :
    Calls Try.prog 8 #[.slice a0 len0 cap0, .int .i64 a1, .int .i64 a2, y3.val] w fun e w' => e = .returned (.bool true) ∧ Below w.heap.size w w' := by
  obtain ⟨C, hC⟩ : ∃ C : List Value, C = y3.cells := ⟨_, rfl⟩
  have hC1 : C.length = 12 := by rw [hC]; rfl
  have hv : y3.val = .agg C.toArray := by rw [hC]; rfl
  have HC := Lib.hid hC
  have FW := Lib.hid (fun (W : World) (hW : Below w.heap.size w W) => few_all a0 len0 cap0 30 W.heap.size l0 W ((w0.below hW (Nat.le_refl _)).more hW.size) (room_len r0) (by omega))
  have FM := Lib.hid (fun (W : World) (hW : Below w.heap.size w W) => few_all (some ⟨W.heap.size, 0, none⟩) 1 1 1 (W.heap.size + 1) [y3] _ (ra_one W W.heap.size y3 C hC (Nat.le_refl _) ((w3.below hW (Nat.le_refl _)).more hW.size)) (by omega) (by omega))
  have hfe := few_yes hyes
  have hfm := few_yes hy1
  have HLL := Lib.hid w0.1
  have hn : len0 ≤ 30 := by rw [← HLL.out]; exact hfe.1
  have MD := Lib.hid (fun (W : World) (hW : Below w.heap.size w W) => made_any a0 len0 cap0 l0 W ((w0.below hW (Nat.le_refl _)).more hW.size) (by omega) (fun y hy => by have := hfe.2 y hy; omega))
  have HM3 := Lib.hid (show y3.x.f.d.length ≤ 1000 from by have := hfm.2 y3 (List.mem_singleton.2 rfl); omega)
  have W3 := Lib.hid w3
  rw [hyes] at FW
  rw [hy1] at FM
  have HNL := Lib.hid hfe.1
  clear w0 r0 f0 w1 w2 f3 w3 hyes hy1 hfe hfm hn
  rw [hv]
  clear hC hv
  refine (callsIn_wide (n := 5)).1 (callsIn_of_wp_marks Try.func8 rfl trivial ?_ rfl)
  simp only [Try.ntmps8, List.size_toArray, List.length_cons, List.length_nil, Nat.reduceAdd, Nat.reduceSub, Array.replicate_succ, Array.replicate_zero, List.push_toArray, List.append_toArray, List.nil_append, List.cons_append]
  refine wpIn_wide.2 ?_
  go_upto_region 1 with fail
  (try dsimp only)
  generalize hW0 : World.alloc _ _ = W0
  have y6 : W0.heap[w.heap.size]? = some (.cells #[.int .i64 a2] 3 (0, 0)) := by rw [← hW0]; exact blk_alloc (blk_alloc (heap_new _ _) _) _
  have y7 : W0.heap[w.heap.size + 1]? = some (.cells C.toArray 83 (0, 0)) := by rw [← hW0]; exact blk_alloc (show ((w.alloc (.cells #[.int .i64 a2] 3 (0, 0))).alloc (.cells C.toArray 83 (0, 0))).heap[w.heap.size + 1]? = _ from heap_new' _ _ _ (by simp)) _
  have y8 : W0.heap[w.heap.size + 1 + 1]? = some (.cells #[.bool false] 4 (0, 0)) := by rw [← hW0]; exact heap_new' _ _ _ (by simp)
  have B0 : Below w.heap.size w W0 := by rw [← hW0]; exact (((Below.refl _ w).alloc (Nat.le_refl _) _).alloc (by simp) _).alloc (by simp; omega) _
  have h7 : C.toArray.size = 12 := by simpa using hC1
  have c6 := blk_cell (l := [_]) y6 0 rfl
  clear hW0 hC1
  go_wp2_with fail
  refine (FW.out _ B0).mono ?_
  rintro _ _ ⟨rfl, rfl⟩
  go_wp2_with (refine wpList_load_row_on (by rfl) 83 (.tmp 7) rfl (w.heap.size + 1) rfl 83 C.toArray (0, 0) _ y7 Try.underlying83 rfl (by rw [h7]; kernel_rfl) ?_)
  refine (FM.out _ B0).mono ?_
  rintro _ _ ⟨rfl, rfl⟩
  have B1 : Below w.heap.size w (W0.alloc (.cells (List.foldl (fun (cs : Array Value) (x : Value × Nat) => cs.setIfInBounds x.snd x.fst) (#[.int .i64 0, .int .i64 0, .int .i64 0, .int .i64 0, .int .i64 0, .int .i64 0, .int .i64 0, .int .i64 0, .int .i64 0, .int .i64 0, .int .i64 0, .slice none 0 0] : Array Value) C.zipIdx) 83)) := B0.alloc B0.size _
  have r1 := blk_alloc y8 (.cells (List.foldl (fun (cs : Array Value) (x : Value × Nat) => cs.setIfInBounds x.snd x.fst) (#[.int .i64 0, .int .i64 0, .int .i64 0, .int .i64 0, .int .i64 0, .int .i64 0, .int .i64 0, .int .i64 0, .int .i64 0, .int .i64 0, .int .i64 0, .slice none 0 0] : Array Value) C.zipIdx) 83)
  have y7 := blk_alloc y7 (.cells (List.foldl (fun (cs : Array Value) (x : Value × Nat) => cs.setIfInBounds x.snd x.fst) (#[.int .i64 0, .int .i64 0, .int .i64 0, .int .i64 0, .int .i64 0, .int .i64 0, .int .i64 0, .int .i64 0, .int .i64 0, .int .i64 0, .int .i64 0, .slice none 0 0] : Array Value) C.zipIdx) 83)
  have y6 := blk_alloc y6 (.cells (List.foldl (fun (cs : Array Value) (x : Value × Nat) => cs.setIfInBounds x.snd x.fst) (#[.int .i64 0, .int .i64 0, .int .i64 0, .int .i64 0, .int .i64 0, .int .i64 0, .int .i64 0, .int .i64 0, .int .i64 0, .int .i64 0, .int .i64 0, .slice none 0 0] : Array Value) C.zipIdx) 83)
  have c6 := blk_cell (l := [_]) y6 0 rfl
  go_upto_region 3 with fail
  generalize hW1 : World.alloc _ _ = W1 at *
  clear hW1 y8 B0 FW FM c6
  go_wp2_with fail
  refine (MD.out _ B1).mono ?_
  rintro _ w1 ⟨p, A, c, vs, X, A2, c2, us, XJ, rfl, hlj, hvl, hb1⟩
  have r2 := blk_below r1 hb1 (lt_of_block r1)
  have s2 := blk_below y6 hb1 (lt_of_block y6)
  have m2 := blk_below y7 hb1 (lt_of_block y7)
  have B2 := Lib.hid (B1.trans (hb1.mono B1.size))
  have HVL := Lib.hid (Nat.le_trans hvl HNL.out)
  have HB2 := Lib.hid (B1.size)
  have HB0 := HB2
  have B1z := hb1.size
  obtain ⟨n, hn⟩ : ∃ n, n = us.length := ⟨_, rfl⟩
  have HN := Lib.hid hn
  have hnn : n ≤ 30 := by
    have h1 := congrArg List.length hlj.eq
    rw [Lg.xs_len, Lg.xs_len] at h1
    rw [hn, h1]
    exact HVL.out
  have hvn : vs.length = n := by
    have h1 := congrArg List.length hlj.eq
    rw [Lg.xs_len, Lg.xs_len] at h1
    rw [hn, h1]
  have HVN := Lib.hid hvn
  have LJ := Lib.hid hlj
  rw [← hn]
  clear MD B1 r1 y6 y7 hb1 hvl hn hvn hlj
  go_upto_region 6 with fail
  generalize hW2 : World.alloc _ _ = W2
  obtain ⟨JB, hJB⟩ : ∃ q, q = w1.heap.size := ⟨_, rfl⟩
  have t2 : W2.heap[JB]? = some (.cells #[.slice A2 n c2] 45 (0, 0)) := by rw [← hW2, hJB]; exact heap_new _ _
  have bW2 : Below w1.heap.size w1 W2 := by rw [← hW2]; exact (Below.refl _ w1).alloc (Nat.le_refl _) _
  have r2 := blk_below r2 bW2 (lt_of_block r2)
  have s2 := blk_below s2 bW2 (lt_of_block s2)
  have m2 := blk_below m2 bW2 (lt_of_block m2)
  have B2 := Lib.hid (B2.out.trans (bW2.mono B2.out.size))
  have LJ := Lib.hid (LJ.out.below bW2)
  have HBZ := Lib.hid (Nat.le_trans B1z bW2.size)
  rw [← hJB]
  clear hW2 hJB bW2
  have AL := Lib.hid (all_any LJ.out.lg (by rw [HVN.out]; omega))
  rw [HVN.out] at AL
  go_wp2_with fail
  refine AL.out.mono ?_
  rintro _ w3 ⟨AB, rfl, hAB, a3, b3⟩
  have r2 := blk_below r2 b3 (lt_of_block r2)
  have s2 := blk_below s2 b3 (lt_of_block s2)
  have m2 := blk_below m2 b3 (lt_of_block m2)
  have t2 := blk_below t2 b3 (lt_of_block t2)
  have B2 := Lib.hid (B2.out.trans (b3.mono B2.out.size))
  have LJ := Lib.hid (LJ.out.below b3)
  have HBZ := Lib.hid (Nat.le_trans HBZ.out b3.size)
  clear b3 AL hAB
  go_upto_region 7 with fail
  have hE : Lg.ofE a1 = 0 ∨ Lg.ofE a1 = 2 := by unfold Lg.ofE; split <;> simp
  rcases hE with hE | hE
  · have HE := Lib.hid hE
    have OF := Lib.hid (of_any LJ.out.lg (by rw [HVN.out]; omega) a1 hE)
    have RO := Lib.hid (fun (W : World) (hW : Below w3.heap.size w3 W) => rof_yes (c := c2) (LJ.out.j.below hW).rr (by rw [← HN.out]; omega) a1 hE)
    rw [HVN.out] at OF
    rw [← HN.out] at RO
    rw [LJ.out.eq] at RO
    obtain ⟨N, hN⟩ : ∃ N, N = (Lg.ofL (Lg.xs vs) a1 n).length := ⟨_, rfl⟩
    rw [← hN] at RO
    have HNL2 := Lib.hid hN.symm
    have hNn : N ≤ 30 := by have h1 := Lg.ofL_le (Lg.xs vs) a1 n; omega
    clear hE hN
    go_wp2_with fail
    refine OF.out.mono ?_
    rintro _ w4 ⟨fB, f1, f2, rfl, yB, y1, y2, hB, hq1, hq2, b4⟩
    have r2 := blk_below r2 b4 (lt_of_block r2)
    have s2 := blk_below s2 b4 (lt_of_block s2)
    have m2 := blk_below m2 b4 (lt_of_block m2)
    have t2 := blk_below t2 b4 (lt_of_block t2)
    have a3 := blk_below a3 b4 (lt_of_block a3)
    have B2 := Lib.hid (B2.out.trans (b4.mono B2.out.size))
    have c2' := blk_cell (l := [_]) t2 0 rfl
    clear hB hq1 hq2 OF
    go_wp2_with fail
    refine (RO.out w4 b4).mono ?_
    rintro _ w5 ⟨A4, c4, rfl, row4, b5⟩
    have r2 := blk_below r2 b5 (lt_of_block r2)
    have s2 := blk_below s2 b5 (lt_of_block s2)
    have m2 := blk_below m2 b5 (lt_of_block m2)
    have t2 := blk_below t2 b5 (lt_of_block t2)
    have a3 := blk_below a3 b5 (lt_of_block a3)
    have yB := blk_below yB b5 (lt_of_block yB)
    have y1 := blk_below y1 b5 (lt_of_block y1)
    have y2 := blk_below y2 b5 (lt_of_block y2)
    have B2 := Lib.hid (B2.out.trans (b5.mono B2.out.size))
    have B35 := Lib.hid (b4.trans (b5.mono b4.size))
    have HR4 := Lib.hid row4
    clear RO b4 b5 c2' row4
    have hfa := fnil 53 #[.pointer (some ⟨AB, 0, none⟩)]
    have hfo := fnil 66 #[.pointer (some ⟨f1, 0, none⟩), .pointer (some ⟨f2, 0, none⟩)]
    go_upto_region 9 with fail
    generalize hW6 : World.alloc _ _ = W6
    obtain ⟨NB, hNB⟩ : ∃ q, q = w5.heap.size := ⟨_, rfl⟩
    have n2 : W6.heap[NB]? = some (.cells #[.slice A4 N c4] 62 (0, 0)) := by rw [← hW6, hNB]; exact heap_new _ _
    have b6 : Below w5.heap.size w5 W6 := by rw [← hW6]; exact (Below.refl _ w5).alloc (Nat.le_refl _) _
    have r2 := blk_below r2 b6 (lt_of_block r2)
    have s2 := blk_below s2 b6 (lt_of_block s2)
    have m2 := blk_below m2 b6 (lt_of_block m2)
    have t2 := blk_below t2 b6 (lt_of_block t2)
    have a3 := blk_below a3 b6 (lt_of_block a3)
    have yB := blk_below yB b6 (lt_of_block yB)
    have y1 := blk_below y1 b6 (lt_of_block y1)
    have y2 := blk_below y2 b6 (lt_of_block y2)
    have HR4 := Lib.hid (HR4.out.kept (Keeps.of_below (S := fun _ => False) b6) (fun _ _ h => h))
    have B2 := Lib.hid (B2.out.trans (b6.mono B2.out.size))
    have B36 := Lib.hid (B35.out.trans (b6.mono B35.out.size))
    rw [← hNB]
    clear hW6 hNB b6
    go_upto_region 11 with fail
    clear hfa
    have LJ6 := LJ.out.below B36.out
    have CL := Lib.hid (call_any LJ6.lg (Nat.le_trans HBZ.out B36.out.size) (by rw [HVN.out]; omega) y3 ((W3.out.below B2.out (Nat.le_refl _)).more B2.out.size) HM3.out)
    rw [show y3.val = .agg C.toArray from by rw [HC.out]; rfl] at CL
    have LG6 := Lib.hid LJ6.lg
    have J6 := Lib.hid LJ6.j
    have D6 := Lib.hid LJ6.dis
    clear LJ6
    go_wp2_with (refine wpList_load_row_on (by rfl) 83 (.tmp 7) rfl (w.heap.size + 1) rfl 83 C.toArray (0, 0) _ m2 Try.underlying83 rfl (by rw [h7]; kernel_rfl) ?_)
    refine CL.out.mono ?_
    rintro _ w7 ⟨A7, c7, vs7, rfl, _, _, kk7, _, rr7, _⟩
    have KK := Lib.hid kk7
    have RR7 := Lib.hid rr7
    rw [HVN.out] at RR7
    go_upto_region 12 with fail
    have r2 := blk_keep r2 KK.out (LG6.out.away ⟨_, r2⟩ (by decide) (by decide))
    have s2 := blk_keep s2 KK.out (LG6.out.away ⟨_, s2⟩ (by decide) (by decide))
    have t2 := blk_keep t2 KK.out (LG6.out.away ⟨_, t2⟩ (by decide) (by decide))
    have a3 := blk_keep a3 KK.out (LG6.out.away ⟨_, a3⟩ (by decide) (by decide))
    have n2 := blk_keep n2 KK.out (LG6.out.away ⟨_, n2⟩ (by decide) (by decide))
    have yB := blk_keep yB KK.out (LG6.out.away ⟨_, yB⟩ (by decide) (by decide))
    have y1 := blk_keep y1 KK.out (LG6.out.away ⟨_, y1⟩ (by decide) (by decide))
    have y2 := blk_keep y2 KK.out (LG6.out.away ⟨_, y2⟩ (by decide) (by decide))
    have RW7 := Lib.hid (HR4.out.kept KK.out (fun g hg => LG6.out.away (HR4.out.ty hg) (by decide) (by decide)))
    have J7 := Lib.hid (J6.out.keep KK.out (fun i hi => D6.out i hi))
    rw [← HN.out] at J7
    have B7 := Lib.hid (B2.out.trans (KK.out.below (fun i _ hi => by have := (LG6.out.two_lt hi).1; have := HB0.out; omega) B2.out.size))
    have HFD := Lib.hid (Lg.good_rd (vs := vs) LJ.out.good)
    obtain ⟨G, hG⟩ : ∃ G, G = w7.heap.size := ⟨_, rfl⟩
    have SV := Lib.hid (fun (V : World) (hV : Below G w7 V) => blk_below s2 (hG ▸ hV) (lt_of_block s2))
    have RV := Lib.hid (fun (V : World) (hV : Below G w7 V) => blk_below r2 (hG ▸ hV) (lt_of_block r2))
    have JV := Lib.hid (fun (V : World) (hV : Below G w7 V) => blk_below t2 (hG ▸ hV) (lt_of_block t2))
    have NV := Lib.hid (fun (V : World) (hV : Below G w7 V) => blk_below n2 (hG ▸ hV) (lt_of_block n2))
    have ABV := Lib.hid (fun (V : World) (hV : Below G w7 V) => blk_below a3 (hG ▸ hV) (lt_of_block a3))
    have RA := Lib.hid (fun (V : World) (hV : Below G w7 V) => (show Lg.Rr V G A n vs from by rw [hG]; exact RR7.out.below (hG ▸ hV) (Nat.le_refl _)))
    have RJ := Lib.hid (fun (V : World) (hV : Below G w7 V) => (show Lg.Rr V G A2 n us from by rw [hG]; exact J7.out.rr.below (hG ▸ hV) (Nat.le_refl _)))
    have yBV := Lib.hid (fun (V : World) (hV : Below G w7 V) => blk_below yB (hG ▸ hV) (lt_of_block yB))
    have y1V := Lib.hid (fun (V : World) (hV : Below G w7 V) => blk_below y1 (hG ▸ hV) (lt_of_block y1))
    have y2V := Lib.hid (fun (V : World) (hV : Below G w7 V) => blk_below y2 (hG ▸ hV) (lt_of_block y2))
    have RW := Lib.hid (fun (V : World) (hV : Below G w7 V) => RW7.out.kept (Keeps.of_below (S := fun _ => False) (show Below w7.heap.size w7 V from hG ▸ hV)) (fun _ _ h => h))
    have hf2G : f2 < G := by rw [hG]; exact lt_of_block y2
    have hrG : w.heap.size + 1 + 1 < G := by rw [hG]; exact lt_of_block r2
    have HG := Lib.hid hG
    clear hG r2 s2 m2 t2 a3 n2 yB y1 y2 RW7 HR4 J7 RR7 rr7 KK kk7 CL J6 D6 LG6 B2 B36 B35 W3 HM3
    go_cut [17] from 18 to 162 (fun v17 wx => v17 = .pointer (some ⟨G, 0, none⟩) ∧ wx.heap[G]? = some (.cells #[.int .i64 0] 3 (0, 0)) ∧ Below G w7 wx)
    case first =>
      go_wp2_with fail
      go_meet
      exact ⟨by rw [HG.out], by rw [HG.out]; exact heap_new _ _, by rw [HG.out]; exact (Below.refl _ w7).alloc (Nat.le_refl _) _⟩
    case rest =>
      obtain ⟨rfl, gT0, bG0⟩ := hcut
      go_wp2_with fail
      refine wp_loop (fun a' wr => ∃ (u18 u19 u20 u21 u22 u76 u77 u78 u79 u80 u81 u82 u83 u84 u85 u86 u87 u88 u89 u90 u91 u92 u93 u94 u95 u96 u97 u98 u99 u100 u101 u102 u103 u104 u105 u106 u107 u108 u109 u110 u111 u112 u113 u114 u115 u116 u117 u118 u119 u120 u121 u122 u123 u124 u125 u126 u127 u128 u129 u130 u131 u132 u133 u134 u135 u136 u137 u138 u139 u140 u141 u142 u143 u144 u145 u146 u147 u148 u149 u150 u151 u152 u153 u154 u155 u156 u157 u158 u159 u160 u161 u162 : Value) (ds : List Deferred) (v17 : Value), (∃ (t tb : Nat), v17 = .pointer (some ⟨tb, 0, none⟩) ∧ t ≤ 2 ∧ G ≤ tb ∧ wr.heap[tb]? = some (.cells #[.int .i64 t] 3 (0, 0)) ∧ Below G w7 wr ∧ Marks G wr wr.heap.size ds) ∧ a' = { tmps := #[.slice a0 len0 cap0, .int .i64 a1, .int .i64 a2, .agg C.toArray, undef, undef, .pointer (some ⟨w.heap.size, 0, none⟩), .pointer (some ⟨(w.heap.size + 1), 0, none⟩), .pointer (some ⟨(w.heap.size + 1 + 1), 0, none⟩), .pointer (some ⟨p, 0, none⟩), .pointer (some ⟨JB, 0, none⟩), .bool true, (.func (.func 53) #[] #[.pointer (some ⟨AB, 0, none⟩)]), (.func (.func 66) #[] #[.pointer (some ⟨f1, 0, none⟩), .pointer (some ⟨f2, 0, none⟩)]), .int .i64 0, .pointer (some ⟨NB, 0, none⟩), .int .i64 0, v17, u18, u19, u20, u21, u22, u23, u24, u25, u26, u27, u28, u29, u30, u31, u32, u33, u34, u35, u36, u37, u38, u39, u40, u41, u42, u43, u44, u45, u46, u47, u48, u49, u50, u51, u52, u53, u54, u55, u56, u57, u58, u59, u60, u61, u62, u63, u64, u65, u66, u67, u68, u69, u70, u71, u72, u73, u74, u75, u76, u77, u78, u79, u80, u81, u82, u83, u84, u85, u86, u87, u88, u89, u90, u91, u92, u93, u94, u95, u96, u97, u98, u99, u100, u101, u102, u103, u104, u105, u106, u107, u108, u109, u110, u111, u112, u113, u114, u115, u116, u117, u118, u119, u120, u121, u122, u123, u124, u125, u126, u127, u128, u129, u130, u131, u132, u133, u134, u135, u136, u137, u138, u139, u140, u141, u142, u143, u144, u145, u146, u147, u148, u149, u150, u151, u152, u153, u154, u155, u156, u157, u158, u159, u160, u161, u162], defers := ds }) (fun a' wr => 2 - boxInt wr (a'.tmps.getD 17 undef)) ?_ ?_
      · (repeat apply Exists.intro)
        refine ⟨?_, rfl⟩
        exact ⟨0, G, rfl, by omega, by omega, gT0, bG0, trivial⟩
      · clear gT0 bG0
        intro _ wr hinv
        obtain ⟨u18, hinv⟩ := hinv; obtain ⟨u19, hinv⟩ := hinv; obtain ⟨u20, hinv⟩ := hinv; obtain ⟨u21, hinv⟩ := hinv; obtain ⟨u22, hinv⟩ := hinv; obtain ⟨u76, hinv⟩ := hinv; obtain ⟨u77, hinv⟩ := hinv; obtain ⟨u78, hinv⟩ := hinv; obtain ⟨u79, hinv⟩ := hinv; obtain ⟨u80, hinv⟩ := hinv; obtain ⟨u81, hinv⟩ := hinv; obtain ⟨u82, hinv⟩ := hinv; obtain ⟨u83, hinv⟩ := hinv; obtain ⟨u84, hinv⟩ := hinv; obtain ⟨u85, hinv⟩ := hinv; obtain ⟨u86, hinv⟩ := hinv; obtain ⟨u87, hinv⟩ := hinv; obtain ⟨u88, hinv⟩ := hinv; obtain ⟨u89, hinv⟩ := hinv; obtain ⟨u90, hinv⟩ := hinv; obtain ⟨u91, hinv⟩ := hinv; obtain ⟨u92, hinv⟩ := hinv; obtain ⟨u93, hinv⟩ := hinv; obtain ⟨u94, hinv⟩ := hinv; obtain ⟨u95, hinv⟩ := hinv; obtain ⟨u96, hinv⟩ := hinv; obtain ⟨u97, hinv⟩ := hinv; obtain ⟨u98, hinv⟩ := hinv; obtain ⟨u99, hinv⟩ := hinv; obtain ⟨u100, hinv⟩ := hinv; obtain ⟨u101, hinv⟩ := hinv; obtain ⟨u102, hinv⟩ := hinv; obtain ⟨u103, hinv⟩ := hinv; obtain ⟨u104, hinv⟩ := hinv; obtain ⟨u105, hinv⟩ := hinv; obtain ⟨u106, hinv⟩ := hinv; obtain ⟨u107, hinv⟩ := hinv; obtain ⟨u108, hinv⟩ := hinv; obtain ⟨u109, hinv⟩ := hinv; obtain ⟨u110, hinv⟩ := hinv; obtain ⟨u111, hinv⟩ := hinv; obtain ⟨u112, hinv⟩ := hinv; obtain ⟨u113, hinv⟩ := hinv; obtain ⟨u114, hinv⟩ := hinv; obtain ⟨u115, hinv⟩ := hinv; obtain ⟨u116, hinv⟩ := hinv; obtain ⟨u117, hinv⟩ := hinv; obtain ⟨u118, hinv⟩ := hinv; obtain ⟨u119, hinv⟩ := hinv; obtain ⟨u120, hinv⟩ := hinv; obtain ⟨u121, hinv⟩ := hinv; obtain ⟨u122, hinv⟩ := hinv; obtain ⟨u123, hinv⟩ := hinv; obtain ⟨u124, hinv⟩ := hinv; obtain ⟨u125, hinv⟩ := hinv; obtain ⟨u126, hinv⟩ := hinv; obtain ⟨u127, hinv⟩ := hinv; obtain ⟨u128, hinv⟩ := hinv; obtain ⟨u129, hinv⟩ := hinv; obtain ⟨u130, hinv⟩ := hinv; obtain ⟨u131, hinv⟩ := hinv; obtain ⟨u132, hinv⟩ := hinv; obtain ⟨u133, hinv⟩ := hinv; obtain ⟨u134, hinv⟩ := hinv; obtain ⟨u135, hinv⟩ := hinv; obtain ⟨u136, hinv⟩ := hinv; obtain ⟨u137, hinv⟩ := hinv; obtain ⟨u138, hinv⟩ := hinv; obtain ⟨u139, hinv⟩ := hinv; obtain ⟨u140, hinv⟩ := hinv; obtain ⟨u141, hinv⟩ := hinv; obtain ⟨u142, hinv⟩ := hinv; obtain ⟨u143, hinv⟩ := hinv; obtain ⟨u144, hinv⟩ := hinv; obtain ⟨u145, hinv⟩ := hinv; obtain ⟨u146, hinv⟩ := hinv; obtain ⟨u147, hinv⟩ := hinv; obtain ⟨u148, hinv⟩ := hinv; obtain ⟨u149, hinv⟩ := hinv; obtain ⟨u150, hinv⟩ := hinv; obtain ⟨u151, hinv⟩ := hinv; obtain ⟨u152, hinv⟩ := hinv; obtain ⟨u153, hinv⟩ := hinv; obtain ⟨u154, hinv⟩ := hinv; obtain ⟨u155, hinv⟩ := hinv; obtain ⟨u156, hinv⟩ := hinv; obtain ⟨u157, hinv⟩ := hinv; obtain ⟨u158, hinv⟩ := hinv; obtain ⟨u159, hinv⟩ := hinv; obtain ⟨u160, hinv⟩ := hinv; obtain ⟨u161, hinv⟩ := hinv; obtain ⟨u162, hinv⟩ := hinv
        obtain ⟨ds, v17, ⟨t, tb, rfl, ht, htG, gT, bG, MK⟩, hact⟩ := hinv
        subst hact
        have hzT := lt_of_block gT
        have cT := blk_cell (l := [_]) gT 0 rfl
        have fT := blk_free gT 0
        by_cases ht2 : t < 2
        · have kt : (t : Int) < 2 := by omega
          go_upto_block 2 with fail
          generalize hW8 : World.alloc _ _ = W8
          obtain ⟨bn, hbn⟩ : ∃ q, q = wr.heap.size := ⟨_, rfl⟩
          have gN : W8.heap[bn]? = some (.cells #[.int .i64 0] 3 (0, 0)) := by rw [← hW8, hbn]; exact heap_new _ _
          have b8 : Below wr.heap.size wr W8 := by rw [← hW8]; exact (Below.refl _ wr).alloc (Nat.le_refl _) _
          have gTr := Lib.hid gT
          have gT := blk_below gT b8 hzT
          have bW8 := bG.trans (b8.mono (by have := bG.size; omega))
          have MK8 := (MK.below b8).le b8.size
          have htn : tb < bn := by rw [hbn]; exact hzT
          rw [← hbn]
          have hGW : G < W8.heap.size := by have := lt_of_block gT; omega
          have hnW := lt_of_block gN
          clear hW8 hbn b8 MK bG cT fT hzT
          refine wp_cut (fun a' w' => ∃ (ds' : List Deferred), (∃ z : Nat, w'.heap[bn]? = some (.cells #[.int .i64 z] 3 (0, 0)) ∧ (t ≠ 0 → z = n) ∧ w'.heap[tb]? = some (.cells #[.int .i64 t] 3 (0, 0)) ∧ Below G w7 w' ∧ Marks G w' w'.heap.size ds') ∧ a' = { tmps := #[.slice a0 len0 cap0, .int .i64 a1, .int .i64 a2, .agg C.toArray, undef, undef, .pointer (some ⟨w.heap.size, 0, none⟩), .pointer (some ⟨(w.heap.size + 1), 0, none⟩), .pointer (some ⟨(w.heap.size + 1 + 1), 0, none⟩), .pointer (some ⟨p, 0, none⟩), .pointer (some ⟨JB, 0, none⟩), .bool true, (.func (.func 53) #[] #[.pointer (some ⟨AB, 0, none⟩)]), (.func (.func 66) #[] #[.pointer (some ⟨f1, 0, none⟩), .pointer (some ⟨f2, 0, none⟩)]), .int .i64 0, .pointer (some ⟨NB, 0, none⟩), .int .i64 0, .pointer (some ⟨tb, 0, none⟩), .pointer (some ⟨bn, 0, none⟩), u19, u20, u21, u22, u23, u24, u25, u26, u27, u28, u29, u30, u31, u32, u33, u34, u35, u36, u37, u38, u39, u40, u41, u42, u43, u44, u45, u46, u47, u48, u49, u50, u51, u52, u53, u54, u55, u56, u57, u58, u59, u60, u61, u62, u63, u64, u65, u66, u67, u68, u69, u70, u71, u72, u73, u74, u75, .int .i64 t, .bool true, u78, u79, (.func (.func 53) #[] #[.pointer (some ⟨AB, 0, none⟩)]), u81, u82, u83, u84, u85, u86, u87, u88, u89, u90, u91, u92, u93, u94, u95, u96, u97, u98, u99, u100, u101, u102, u103, u104, u105, u106, u107, u108, u109, u110, u111, u112, u113, u114, u115, u116, u117, u118, u119, u120, u121, u122, u123, u124, u125, u126, u127, u128, u129, u130, u131, u132, u133, u134, u135, u136, u137, u138, u139, u140, u141, u142, u143, u144, u145, u146, u147, u148, u149, u150, u151, u152, u153, u154, u155, u156, u157, u158, u159, u160, u161, u162], defers := ds' }) ?_ ?_
          · rintro _ wc ⟨ds, ⟨z, gN1, hzn, gT1, bG1, MK1⟩, ha⟩
            subst ha
            (try dsimp only)
            have cN1 := blk_cell (l := [_]) gN1 0 rfl
            have cT1 := blk_cell (l := [_]) gT1 0 rfl
            have cJ1 := blk_cell (l := [_]) (JV.out wc bG1) 0 rfl
            clear gN gT bW8 MK8 hGW hnW
            have zz : ((t : Int) == 1) = false ∨ (((t : Int) == 1) = true ∧ ((z : Int) != (n : Int)) = false) := by
              by_cases h : t = 1
              · exact .inr ⟨by simp [h], by rw [hzn (by omega)]; simp⟩
              · exact .inl (by simp; omega)
            have HZN := Lib.hid hzn
            have HC1 := Lib.hid bG1
            clear hzn
            go_upto_region 23 with fail
            go_cut [117] from 76 to 162 (fun v117 wx => v117 = .bool false ∧ wx = wc)
            case first => rcases zz with z1 | ⟨z1, z2⟩ <;> (go_wp2_with fail; go_meet; exact ⟨rfl, rfl⟩)
            case rest =>
              obtain ⟨rfl, rfl⟩ := hcut
              clear zz
              have fN1 := blk_free gN1 0
              have hfo' := hfo
              have hzw : bn < wc.heap.size := lt_of_block gN1
              go_upto_block 4 with fail
              generalize hW8 : World.setCell _ _ _ = W8
              have gN : W8.heap[bn]? = some (.cells #[.int .i64 0] 3 (0, 0)) := by rw [← hW8]; exact blk_set gN1 0 _
              have gT : W8.heap[tb]? = some (.cells #[.int .i64 t] 3 (0, 0)) := by rw [← hW8]; exact blk_far gT1 (by show tb ≠ bn; omega) _
              have bW8 : Below G w7 W8 := by rw [← hW8]; exact bG1.setCell (p := ⟨bn, 0, none⟩) (by show G ≤ bn; omega) _
              have MK8 : Marks G W8 W8.heap.size ds := by rw [← hW8]; exact (MK1.setCell gN1 _ _).le (by simp)
              have hGW : G < W8.heap.size := by have := lt_of_block gT; omega
              have hnW := lt_of_block gN
              clear hW8 hfo' gN1 gT1 cN1 cT1 cJ1 fN1 bG1 MK1 HZN
              refine wp_cut (fun a' w' => ∃ (ds' : List Deferred), (∃ z : Nat, w'.heap[bn]? = some (.cells #[.int .i64 z] 3 (0, 0)) ∧ (t ≠ 0 → z = N) ∧ w'.heap[tb]? = some (.cells #[.int .i64 t] 3 (0, 0)) ∧ Below G w7 w' ∧ Marks G w' w'.heap.size ds') ∧ a' = { tmps := #[.slice a0 len0 cap0, .int .i64 a1, .int .i64 a2, .agg C.toArray, undef, undef, .pointer (some ⟨w.heap.size, 0, none⟩), .pointer (some ⟨(w.heap.size + 1), 0, none⟩), .pointer (some ⟨(w.heap.size + 1 + 1), 0, none⟩), .pointer (some ⟨p, 0, none⟩), .pointer (some ⟨JB, 0, none⟩), .bool true, (.func (.func 53) #[] #[.pointer (some ⟨AB, 0, none⟩)]), (.func (.func 66) #[] #[.pointer (some ⟨f1, 0, none⟩), .pointer (some ⟨f2, 0, none⟩)]), .int .i64 0, .pointer (some ⟨NB, 0, none⟩), .int .i64 0, .pointer (some ⟨tb, 0, none⟩), .pointer (some ⟨bn, 0, none⟩), u19, u20, u21, u22, u23, u24, u25, u26, u27, u28, u29, u30, u31, u32, u33, u34, u35, u36, u37, u38, u39, u40, u41, u42, u43, u44, u45, u46, u47, u48, u49, u50, u51, u52, u53, u54, u55, u56, u57, u58, u59, u60, u61, u62, u63, u64, u65, u66, u67, u68, u69, u70, u71, u72, u73, u74, u75, u76, u77, u78, u79, u80, u81, u82, u83, u84, u85, u86, u87, u88, u89, u90, u91, u92, u93, u94, u95, u96, u97, u98, u99, u100, u101, u102, u103, u104, u105, u106, u107, u108, u109, u110, u111, u112, u113, u114, u115, u116, .bool false, (.func (.func 66) #[] #[.pointer (some ⟨f1, 0, none⟩), .pointer (some ⟨f2, 0, none⟩)]), .bool false, (.func (.func 66) #[] #[.pointer (some ⟨f1, 0, none⟩), .pointer (some ⟨f2, 0, none⟩)]), u121, u122, u123, u124, u125, u126, u127, u128, u129, u130, u131, u132, u133, u134, u135, u136, u137, u138, u139, u140, u141, u142, u143, u144, u145, u146, u147, u148, u149, u150, u151, u152, u153, u154, u155, u156, u157, u158, u159, u160, u161, u162], defers := ds' }) ?_ ?_
              · rintro _ wc ⟨ds, ⟨z, gN1, hzn, gT1, bG1, MK1⟩, ha⟩
                subst ha
                (try dsimp only)
                have cN1 := blk_cell (l := [_]) gN1 0 rfl
                have cT1 := blk_cell (l := [_]) gT1 0 rfl
                have cW1 := blk_cell (l := [_]) (NV.out wc bG1) 0 rfl
                clear gN gT bW8 MK8 hGW hnW
                have zz : ((t : Int) == 1) = false ∨ (((t : Int) == 1) = true ∧ ((z : Int) != (N : Int)) = false) := by
                  by_cases h : t = 1
                  · exact .inr ⟨by simp [h], by rw [hzn (by omega)]; simp⟩
                  · exact .inl (by simp; omega)
                clear hzn
                go_upto_region 34 with fail
                go_cut [160] from 76 to 162 (fun v160 wx => v160 = .bool false ∧ wx = wc)
                case first => rcases zz with z1 | ⟨z1, z2⟩ <;> (go_wp2_with fail; go_meet; exact ⟨rfl, rfl⟩)
                case rest =>
                  obtain ⟨rfl, rfl⟩ := hcut
                  clear zz
                  have wt : IntKind.i64.wrap ((t : Int) + 1) = (t : Int) + 1 := IntWalk.i64_in _ (by omega)
                  have MKh := Lib.hid MK1
                  clear MK1
                  go_wp2_with fail
                  have kA : Below wc.heap.size wc (wc.alloc (.cells #[.int .i64 ((t : Int) + 1)] 3)) := (Below.refl _ wc).alloc (Nat.le_refl _) _
                  have gW := heap_new wc (.cells #[.int .i64 ((t : Int) + 1)] 3)
                  have ea : ((t : Int) + 1) = ((t + 1 : Nat) : Int) := by omega
                  have hGc : G ≤ wc.heap.size := by have := lt_of_block gT1; omega
                  refine ⟨?_, ?measure⟩
                  (repeat apply Exists.intro)
                  refine ⟨?rel, rfl⟩
                  case rel => exact ⟨t + 1, wc.heap.size, rfl, by omega, hGc, by rw [← ea]; exact gW, bG1.trans (kA.mono hGc), (MKh.out.below kA).le kA.size⟩
                  case measure =>
                    have c1 := blk_cell (l := [_]) gW 0 rfl
                    have b1 := boxInt_is c1
                    have d1 := blk_cell (l := [_]) gTr.out 0 rfl
                    have b2 := boxInt_is d1
                    show 2 - boxInt _ (.pointer (some ⟨wc.heap.size, 0, none⟩)) < 2 - boxInt _ (.pointer (some ⟨tb, 0, none⟩))
                    rw [b1, b2]
                    omega
              · intro _ _ _ _
                go_wp2_with fail
                have hseq := of1_seq 4 G fB f1 f2 a1 A n n vs W8 (by omega) (by omega) (Nat.le_of_lt hGW) (yBV.out W8 bW8) (RA.out W8 bW8) HFD.out (y1V.out W8 bW8) (y2V.out W8 bW8)
                rw [HNL2.out] at hseq
                have hy2 := y2V.out W8 bW8
                refine (wpIn_wide (n := 5)).1 ?_
                refine range_own (F := Fence.wide) rfl (by omega) (gf := 66) (lb := #[.pointer (some ⟨f1, 0, none⟩), .pointer (some ⟨f2, 0, none⟩)]) rfl trivial (enters_of Try.func66 (by kernel_rfl) rfl) hseq (fun h k => h.trans k)
                  (fun V l' o o' hl h hc => Lg.KpQ.put2 (by omega) (by omega) h hc) (fun x => rfl)
                  (fun pre V => Below G W8 V ∧ (V.heap[f2]? = some (.cells #[.int .i64 a1] 3 (0, 0)) ∧ (V.heap[bn]? = some (.cells #[.int .i64 (pre.length : Nat)] 3 (0, 0)) ∧ (V.heap[tb]? = some (.cells #[.int .i64 t] 3 (0, 0)) ∧ Marks G V W8.heap.size ds))))
                  (fun c pre V => c = .exit 4 ∧ (t = 0 ∧ (Below G W8 V ∧ (V.heap[f2]? = some (.cells #[.int .i64 a1] 3 (0, 0)) ∧ (V.heap[bn]? = some (.cells #[.int .i64 (pre.length : Nat)] 3 (0, 0)) ∧ (V.heap[tb]? = some (.cells #[.int .i64 t] 3 (0, 0)) ∧ Marks G V W8.heap.size ds))))))
                  (fun x a' V => ∃ Bx, W8.heap.size ≤ Bx ∧ V.heap[Bx]? = some (.cells x.2.cells.toArray 32 (0, 0)) ∧ a' = { tmps := #[.slice a0 len0 cap0, .int .i64 a1, .int .i64 a2, .agg C.toArray, undef, undef, .pointer (some ⟨w.heap.size, 0, none⟩), .pointer (some ⟨(w.heap.size + 1), 0, none⟩), .pointer (some ⟨(w.heap.size + 1 + 1), 0, none⟩), .pointer (some ⟨p, 0, none⟩), .pointer (some ⟨JB, 0, none⟩), .bool true, (.func (.func 53) #[] #[.pointer (some ⟨AB, 0, none⟩)]), (.func (.func 66) #[] #[.pointer (some ⟨f1, 0, none⟩), .pointer (some ⟨f2, 0, none⟩)]), .int .i64 0, .pointer (some ⟨NB, 0, none⟩), .int .i64 0, .pointer (some ⟨tb, 0, none⟩), .pointer (some ⟨bn, 0, none⟩), u19, u20, .int .i64 x.1, .pointer (some ⟨Bx, 0, none⟩), u23, u24, u25, u26, u27, u28, u29, u30, u31, u32, u33, u34, u35, u36, u37, u38, u39, u40, u41, u42, u43, u44, u45, u46, u47, u48, u49, u50, u51, u52, u53, u54, u55, u56, u57, u58, u59, u60, u61, u62, u63, u64, u65, u66, u67, u68, u69, u70, u71, u72, u73, u74, u75, u76, u77, u78, u79, u80, u81, u82, u83, u84, u85, u86, u87, u88, u89, u90, u91, u92, u93, u94, u95, u96, u97, u98, u99, u100, u101, u102, u103, u104, u105, u106, u107, u108, u109, u110, u111, u112, u113, u114, u115, u116, .bool false, (.func (.func 66) #[] #[.pointer (some ⟨f1, 0, none⟩), .pointer (some ⟨f2, 0, none⟩)]), .bool false, (.func (.func 66) #[] #[.pointer (some ⟨f1, 0, none⟩), .pointer (some ⟨f2, 0, none⟩)]), .int .i64 x.1, x.2.val, u123, u124, u125, u126, u127, u128, u129, u130, u131, u132, u133, u134, u135, u136, u137, u138, u139, u140, u141, u142, u143, u144, u145, u146, u147, u148, u149, u150, u151, u152, u153, u154, u155, u156, u157, u158, u159, u160, u161, u162], defers := [] })
                  ?hI ?hIx ?hPr ?hAx ?h0 ?assign ?body ?done ?stop
                case hI => exact OwnFrom.and (ownFrom_below (Nat.le_of_lt hGW) (Nat.le_of_lt hGW)) (OwnFrom.and (blk_own _ _ _ _) (OwnFrom.and (fun s X Y row hs hg hr => blk_own (β := Unit) _ bn _ _ () X Y row hs hg hr) (OwnFrom.and (blk_own _ _ _ _) (marks_own (Nat.le_refl _)))))
                case hIx => exact fun c => OwnFrom.and (ownFrom_pure _ _) (OwnFrom.and (ownFrom_pure _ _) (OwnFrom.and (ownFrom_below (Nat.le_of_lt hGW) (Nat.le_of_lt hGW)) (OwnFrom.and (blk_own _ _ _ _) (OwnFrom.and (fun s X Y row hs hg hr => blk_own (β := Unit) _ bn _ _ () X Y row hs hg hr) (OwnFrom.and (blk_own _ _ _ _) (marks_own (Nat.le_refl _)))))))
                case hPr => exact fun pre => Lg.PrO.own _ vs a1 n pre
                case hAx =>
                  rintro a' x X Y row ⟨Bx, e1, e2, e3⟩ hg hr
                  exact ⟨Bx, e1, blk_own (β := Unit) _ Bx _ _ () X Y row e2 hg hr, e3⟩
                case h0 => exact ⟨Below.refl _ _, hy2, gN, gT, MK8⟩
                case assign =>
                  rintro l' pre x V K ⟨hBn, hy2, hg, htb, hmk⟩ hpr hK
                  have hzV := hBn.size
                  have z1 : x.2.cells.toArray.size = 13 := rfl
                  have HPR := Lib.hid hpr
                  clear hpr
                  simp only [Lg.encNR]
                  gi_wp2_with (refine wpListIn_store_row rfl 32 _ _ rfl V.heap.size x.2.cells.toArray rfl rfl 32 _ (heap_new V (.cells #[.int .i64 0, .int .i64 0, .int .i64 0, .int .i64 0, .int .i64 0, .int .i64 0, .int .i64 0, .int .i64 0, .int .i64 0, .int .i64 0, .int .i64 0, .slice none 0 0, .int .u32 0] 32 (0, 0))) (by rw [z1]; kernel_rfl) z1.symm (rv_ones x.2) ?_)
                  have kx := setRow_heap (V.alloc (.cells #[.int .i64 0, .int .i64 0, .int .i64 0, .int .i64 0, .int .i64 0, .int .i64 0, .int .i64 0, .int .i64 0, .int .i64 0, .int .i64 0, .int .i64 0, .slice none 0 0, .int .u32 0] 32 (0, 0))) V.heap.size #[.int .i64 0, .int .i64 0, .int .i64 0, .int .i64 0, .int .i64 0, .int .i64 0, .int .i64 0, .int .i64 0, .int .i64 0, .int .i64 0, .int .i64 0, .slice none 0 0, .int .u32 0] x.2.cells.toArray 32 (0, 0) (heap_new V (.cells #[.int .i64 0, .int .i64 0, .int .i64 0, .int .i64 0, .int .i64 0, .int .i64 0, .int .i64 0, .int .i64 0, .int .i64 0, .int .i64 0, .int .i64 0, .slice none 0 0, .int .u32 0] 32 (0, 0)))
                  have bx : Below V.heap.size V ((V.alloc (.cells #[.int .i64 0, .int .i64 0, .int .i64 0, .int .i64 0, .int .i64 0, .int .i64 0, .int .i64 0, .int .i64 0, .int .i64 0, .int .i64 0, .int .i64 0, .slice none 0 0, .int .u32 0] 32 (0, 0))).setRow V.heap.size x.2.cells.toArray) := below_setRow ((Below.refl V.heap.size V).alloc (Nat.le_refl _) _) (Nat.le_refl _) _
                  obtain ⟨p1, p2, p3, p4, p5⟩ := HPR.out
                  exact hK _ _ (keepsFrom_below bx) (Lg.KpQ.of_below bx (by omega) (by omega)) ⟨hBn.trans (bx.mono (by omega)), blk_below hy2 bx (lt_of_block hy2), blk_below hg bx (lt_of_block hg), blk_below htb bx (lt_of_block htb), hmk.below bx⟩ ⟨p1, p2, p3, p4, p5.up bx⟩ ⟨V.heap.size, hzV, kx, rfl⟩
                case stop =>
                  rintro D c' pre V hD hsp ⟨rfl, ht0, hBn, hy2, hg, htb, hmk⟩ hDf
                  have MKn := Lib.hid (show Marks G V V.heap.size ({ target := .collected D, args := #[] } :: ds) from ⟨D, rfl, by omega, (Array.getElem?_eq_some_iff.1 hDf).1, hDf, hmk.le hD⟩)
                  have HZ := Lib.hid (show ∃ z : Nat, V.heap[bn]? = some (.cells #[.int .i64 z] 3 (0, 0)) ∧ (t ≠ 0 → z = N) ∧ V.heap[tb]? = some (.cells #[.int .i64 t] 3 (0, 0)) ∧ Below G w7 V ∧ bn < V.heap.size from ⟨pre.length, hg, fun h => absurd ht0 h, htb, bW8.trans hBn, lt_of_block hg⟩)
                  clear hDf hmk hg htb hsp ht0 hBn hy2
                  refine wpIn_wide.2 ?_
                  go_wp2_with fail
                  go_meet
                  obtain ⟨z, h1, h2, h3, h4, h5⟩ := HZ.out
                  exact ⟨z, h1, h2, h3, h4, MKn.out⟩
                case done =>
                  rintro D ys V hD hys ⟨hBn, hy2, hg, htb, hmk⟩ hDf
                  have MKn := Lib.hid (show Marks G V V.heap.size ({ target := .collected D, args := #[] } :: ds) from ⟨D, rfl, by omega, (Array.getElem?_eq_some_iff.1 hDf).1, hDf, hmk.le hD⟩)
                  have HZ := Lib.hid (show ∃ z : Nat, V.heap[bn]? = some (.cells #[.int .i64 z] 3 (0, 0)) ∧ (t ≠ 0 → z = N) ∧ V.heap[tb]? = some (.cells #[.int .i64 t] 3 (0, 0)) ∧ Below G w7 V ∧ bn < V.heap.size from ⟨ys.length, hg, fun _ => hys, htb, bW8.trans hBn, lt_of_block hg⟩)
                  clear hDf hmk hg htb hys hBn hseq hy2
                  go_wp2_with fail
                  go_meet
                  obtain ⟨z, h1, h2, h3, h4, h5⟩ := HZ.out
                  exact ⟨z, h1, h2, h3, h4, MKn.out⟩
                case body =>
                  rintro l' pre x a' V ⟨hBn, hy2, hg, htb, hmk⟩ ⟨p1, p2, p3, _, p5⟩ ⟨Bx, hBx, hbx, rfl⟩ hlt
                  have hzV := hBn.size
                  have bV : Below G w7 V := bW8.trans hBn
                  have jV := JV.out V bV
                  have sV := SV.out V bV
                  have RJV := Lib.hid (RJ.out V bV)
                  obtain ⟨k, hk⟩ : ∃ k, k = pre.length := ⟨_, rfl⟩
                  obtain ⟨i, hi⟩ : ∃ i, i = x.1 := ⟨_, rfl⟩
                  have hkn : k < N := by rw [hk]; exact hlt
                  have hin : i < n := by rw [hi]; exact p2
                  obtain ⟨b2, o2, hS, hb2l, hcy, hoy⟩ := RJV.out.at_ hin
                  obtain ⟨y, hy⟩ : ∃ y, y = us.getD i Lg.rv0 := ⟨_, rfl⟩
                  rw [← hy] at hcy hoy
                  rw [hS] at jV
                  have hxy : x.2.x = y.x := by
                    rw [p3, hy, ← hi, ← Lg.xs_at (by rw [HVN.out]; exact hin), ← Lg.xs_at (by rw [RJV.out.len]; exact hin), LJ.out.eq]
                  obtain ⟨CX, hval, hCX, hCs⟩ := rv_opaque x.2
                  have HVAL := Lib.hid hval
                  have HXY := Lib.hid hxy
                  have OKX := Lib.hid p5
                  have OKY := Lib.hid (hoy.more (Nat.le_trans (Nat.le_of_lt hGW) hzV))
                  have HY := Lib.hid hcy
                  have SM := Lib.hid (show ∀ W : World, Below V.heap.size V W → Calls Try.prog 36 #[.agg CX, .agg y.cells.toArray] W fun e w' => e = .returned (.bool true) ∧ Below W.heap.size W w' from fun W hW => by
                    have := rsameR_any x.2 y W (OKX.out.up hW) (OKY.out.up hW)
                    rw [HVAL.out, HXY.out, Lg.sameR_refl] at this
                    exact this)
                  have hb2l : b2 < V.heap.size := by omega
                  have nV := NV.out V bV
                  obtain ⟨b4, o4, cur4, hA4, hg4, hgs4, hh4, hnc4, hcm4, hoc4, hcur4, hcell4, hfr4⟩ := (RW.out V bV).some_ (by omega)
                  have hw4 : V.cell? ⟨b4, o4 + k, none⟩ = some (.int .i64 i) := by
                    refine hcell4 k _ ?_
                    rw [hi, hk, Lg.ns, List.getElem?_map, p1]
                    rfl
                  rw [hA4] at nV
                  have hb4l : b4 < V.heap.size := hgs4
                  have kN2 : ¬ (N : Int) ≤ (k : Int) := by omega
                  have kN : (k : Int) < (N : Int) := by omega
                  rw [hval, ← hi]
                  skip
                  skip
                  rw [hCX] at hbx
                  rw [← hk] at hg
                  skip
                  skip
                  have HK := Lib.hid hk
                  have wk : IntKind.i64.wrap ((k : Int) + 1) = (k : Int) + 1 := IntWalk.i64_in _ (by omega)
                  have km : (i : Int) < (n : Int) := by omega
                  have kk0 : (0 : Int) ≤ (i : Int) := by omega
                  have kk1 : (0 : Int) ≤ (k : Int) := by omega
                  have km3 : ¬ N ≤ k := by omega
                  clear p1 p3 p5 p2 hi hA4 hg4 hgs4 hh4 hnc4 hcm4 hoc4 hcur4 hcell4 hfr4 hk hy hcy hoy hxy hval hCX hS hlt
                  gi_wp2
                  (try refine wpIn_block ?_)
                  refine region_round (S := fun w' => w'.heap[JB]? = some (.cells #[.slice (some ⟨b2, o2, none⟩) n c2] 45 (0, 0)) ∧ w'.heap[Bx]? = some (.cells CX 32 (0, 0)) ∧ w'.heap[bn]? = some (.cells #[.int .i64 k] 3 (0, 0)) ∧ (∀ (j : Nat) (u : Value), y.cells[j]? = some u → w'.cell? ⟨b2, o2 + i * 13 + j, none⟩ = some u) ∧ w'.heap[NB]? = some (.cells #[.slice (some ⟨b4, o4, none⟩) N c4] 62 (0, 0)) ∧ w'.cell? ⟨b4, o4 + k, none⟩ = some (.int .i64 i)) (by kernel_rfl) (by kernel_rfl) (by rintro ⟨a, w, h⟩; exact h) ⟨jV, hbx, hg, HY.out, nV, hw4⟩ ?_
                  intro h0
                  refine wpAnyH_take (i := 0) (v := ?_) rfl (by kernel_rfl) (by kernel_rfl) (by kernel_rfl) (fun _ _ _ h => h) (Or.inl ⟨by rfl, ?_⟩) h0 ?_
                  rotate_left
                  focus (intro w' hSw; have ck' : w'.cell? ⟨bn, 0, none⟩ = some (.int .i64 k) := blk_cell (l := [_]) hSw.2.2.1 0 rfl; go_simp; (try with_reducible rfl))
                  (try simp only [List.getElem_toArray, List.getElem_cons_succ, List.getElem_cons_zero, Act.put, List.setIfInBounds_toArray, List.set_cons_zero, List.set_cons_succ])
                  refine wpAnyH_take (i := 1) (v := ?_) rfl (by kernel_rfl) (by kernel_rfl) (by kernel_rfl) (fun _ _ _ h => h) (Or.inl ⟨by rfl, ?_⟩) h0 ?_
                  rotate_left
                  focus (intro w' hSw; have cn' : w'.cell? ⟨NB, 0, none⟩ = some (.slice (some ⟨b4, o4, none⟩) N c4) := blk_cell (l := [_]) hSw.2.2.2.2.1 0 rfl; go_simp; (try with_reducible rfl))
                  (try simp only [List.getElem_toArray, List.getElem_cons_succ, List.getElem_cons_zero, Act.put, List.setIfInBounds_toArray, List.set_cons_zero, List.set_cons_succ])
                  refine wpAnyH_take (i := 2) (v := ?_) rfl (by kernel_rfl) (by kernel_rfl) (by kernel_rfl) (fun _ _ _ h => h) (Or.inl ⟨by rfl, ?_⟩) h0 ?_
                  rotate_left
                  focus (intro w' hSw; skip; go_simp; (try with_reducible rfl))
                  (try simp only [List.getElem_toArray, List.getElem_cons_succ, List.getElem_cons_zero, Act.put, List.setIfInBounds_toArray, List.set_cons_zero, List.set_cons_succ])
                  refine wpAnyH_take (i := 3) (v := .bool false) rfl (by kernel_rfl) (by kernel_rfl) (by kernel_rfl) (fun _ _ _ h => h) (Or.inl ⟨by rfl, ?_⟩) h0 ?_
                  focus (intro w' hSw; skip; go_simp; (try simp only [decide_eq_false km3, Bool.not_true]); (try with_reducible rfl); (try simp); done)
                  (try simp only [List.getElem_toArray, List.getElem_cons_succ, List.getElem_cons_zero, Act.put, List.setIfInBounds_toArray, List.set_cons_zero, List.set_cons_succ])
                  refine wpAnyH_take (i := 4) (v := ?_) rfl (by kernel_rfl) (by kernel_rfl) (by kernel_rfl) (fun _ _ _ h => h) (Or.inl ⟨by rfl, ?_⟩) h0 ?_
                  rotate_left
                  focus (intro w' hSw; skip; go_simp; (try with_reducible rfl))
                  (try simp only [List.getElem_toArray, List.getElem_cons_succ, List.getElem_cons_zero, Act.put, List.setIfInBounds_toArray, List.set_cons_zero, List.set_cons_succ])
                  refine wpAnyH_take (i := 5) (v := ?_) rfl (by kernel_rfl) (by kernel_rfl) (by kernel_rfl) (fun _ _ _ h => h) (Or.inl ⟨by rfl, ?_⟩) h0 ?_
                  rotate_left
                  focus (intro w' hSw; skip; go_simp; (try with_reducible rfl))
                  (try simp only [List.getElem_toArray, List.getElem_cons_succ, List.getElem_cons_zero, Act.put, List.setIfInBounds_toArray, List.set_cons_zero, List.set_cons_succ])
                  refine wpAnyH_take (i := 6) (v := ?_) rfl (by kernel_rfl) (by kernel_rfl) (by kernel_rfl) (fun _ _ _ h => h) (Or.inl ⟨by rfl, ?_⟩) h0 ?_
                  rotate_left
                  focus (intro w' hSw; have cn' : w'.cell? ⟨NB, 0, none⟩ = some (.slice (some ⟨b4, o4, none⟩) N c4) := blk_cell (l := [_]) hSw.2.2.2.2.1 0 rfl; go_simp; (try with_reducible rfl))
                  (try simp only [List.getElem_toArray, List.getElem_cons_succ, List.getElem_cons_zero, Act.put, List.setIfInBounds_toArray, List.set_cons_zero, List.set_cons_succ])
                  refine wpAnyH_take (i := 7) (v := ?_) rfl (by kernel_rfl) (by kernel_rfl) (by kernel_rfl) (fun _ _ _ h => h) (Or.inl ⟨by rfl, ?_⟩) h0 ?_
                  rotate_left
                  focus (intro w' hSw; have ck' : w'.cell? ⟨bn, 0, none⟩ = some (.int .i64 k) := blk_cell (l := [_]) hSw.2.2.1 0 rfl; go_simp; (try with_reducible rfl))
                  (try simp only [List.getElem_toArray, List.getElem_cons_succ, List.getElem_cons_zero, Act.put, List.setIfInBounds_toArray, List.set_cons_zero, List.set_cons_succ])
                  refine wpAnyH_take (i := 8) (v := ?_) rfl (by kernel_rfl) (by kernel_rfl) (by kernel_rfl) (fun _ _ _ h => h) (Or.inl ⟨by rfl, ?_⟩) h0 ?_
                  rotate_left
                  focus (intro w' hSw; skip; go_simp; (try with_reducible rfl))
                  (try simp only [List.getElem_toArray, List.getElem_cons_succ, List.getElem_cons_zero, Act.put, List.setIfInBounds_toArray, List.set_cons_zero, List.set_cons_succ])
                  refine wpAnyH_take (i := 9) (v := ?_) rfl (by kernel_rfl) (by kernel_rfl) (by kernel_rfl) (fun _ _ _ h => h) (Or.inl ⟨by rfl, ?_⟩) h0 ?_
                  rotate_left
                  focus (intro w' hSw; have cw' : w'.cell? ⟨b4, o4 + k, none⟩ = some (.int .i64 i) := hSw.2.2.2.2.2; go_simp; (try with_reducible rfl))
                  (try simp only [List.getElem_toArray, List.getElem_cons_succ, List.getElem_cons_zero, Act.put, List.setIfInBounds_toArray, List.set_cons_zero, List.set_cons_succ])
                  refine wpAnyH_take (i := 10) (v := .bool false) rfl (by kernel_rfl) (by kernel_rfl) (by kernel_rfl) (fun _ _ _ h => h) (Or.inl ⟨by rfl, ?_⟩) h0 ?_
                  focus (intro w' hSw; skip; go_simp; (try simp only [decide_eq_false km3, Bool.not_true]); (try with_reducible rfl); (try simp); done)
                  (try simp only [List.getElem_toArray, List.getElem_cons_succ, List.getElem_cons_zero, Act.put, List.setIfInBounds_toArray, List.set_cons_zero, List.set_cons_succ])
                  refine wpAnyH_take (i := 11) (v := ?_) rfl (by kernel_rfl) (by kernel_rfl) (by kernel_rfl) (fun _ _ _ h => h) (Or.inl ⟨by rfl, ?_⟩) h0 ?_
                  rotate_left
                  focus (intro w' hSw; skip; go_simp; (try with_reducible rfl))
                  (try simp only [List.getElem_toArray, List.getElem_cons_succ, List.getElem_cons_zero, Act.put, List.setIfInBounds_toArray, List.set_cons_zero, List.set_cons_succ])
                  refine wpAnyH_take (i := 12) (v := ?_) rfl (by kernel_rfl) (by kernel_rfl) (by kernel_rfl) (fun _ _ _ h => h) (Or.inl ⟨by rfl, ?_⟩) h0 ?_
                  rotate_left
                  focus (intro w' hSw; skip; go_simp; (try with_reducible rfl))
                  (try simp only [List.getElem_toArray, List.getElem_cons_succ, List.getElem_cons_zero, Act.put, List.setIfInBounds_toArray, List.set_cons_zero, List.set_cons_succ])
                  refine wpAnyH_take (i := 13) (v := .agg CX) rfl (by kernel_rfl) (by kernel_rfl) (by kernel_rfl) (fun _ _ _ h => h) (yields_load_row (by rfl) 32 _ rfl Bx rfl 32 _ (0, 0) _ (fun w' hS => hS.2.1) Try.underlying32 rfl (by rw [hCs]; kernel_rfl)) h0 ?_
                  (try simp only [List.getElem_toArray, List.getElem_cons_succ, List.getElem_cons_zero, Act.put, List.setIfInBounds_toArray, List.set_cons_zero, List.set_cons_succ])
                  refine wpAnyH_take (i := 14) (v := ?_) rfl (by kernel_rfl) (by kernel_rfl) (by kernel_rfl) (fun _ _ _ h => h) (Or.inl ⟨by rfl, ?_⟩) h0 ?_
                  rotate_left
                  focus (intro w' hSw; have cj' : w'.cell? ⟨JB, 0, none⟩ = some (.slice (some ⟨b2, o2, none⟩) n c2) := blk_cell (l := [_]) hSw.1 0 rfl; go_simp; (try with_reducible rfl))
                  (try simp only [List.getElem_toArray, List.getElem_cons_succ, List.getElem_cons_zero, Act.put, List.setIfInBounds_toArray, List.set_cons_zero, List.set_cons_succ])
                  refine wpAnyH_take (i := 15) (v := ?_) rfl (by kernel_rfl) (by kernel_rfl) (by kernel_rfl) (fun _ _ _ h => h) (Or.inl ⟨by rfl, ?_⟩) h0 ?_
                  rotate_left
                  focus (intro w' hSw; skip; go_simp; (try with_reducible rfl))
                  (try simp only [List.getElem_toArray, List.getElem_cons_succ, List.getElem_cons_zero, Act.put, List.setIfInBounds_toArray, List.set_cons_zero, List.set_cons_succ])
                  refine wpAnyH_take (i := 16) (v := ?_) rfl (by kernel_rfl) (by kernel_rfl) (by kernel_rfl) (fun _ _ _ h => h) (Or.inl ⟨by rfl, ?_⟩) h0 ?_
                  rotate_left
                  focus (intro w' hSw; skip; go_simp; (try with_reducible rfl))
                  (try simp only [List.getElem_toArray, List.getElem_cons_succ, List.getElem_cons_zero, Act.put, List.setIfInBounds_toArray, List.set_cons_zero, List.set_cons_succ])
                  refine wpAnyH_take (i := 17) (v := .agg y.cells.toArray) rfl (by kernel_rfl) (by kernel_rfl) (by kernel_rfl) (fun _ _ _ h => h) (yields_load_at (by rfl) 32 _ rfl b2 (o2 + i * 13) rfl _ _ (fun w' hS => hS.2.2.2.1) Try.underlying32 rfl (by rw [Lg.RV.len]; kernel_rfl)) h0 ?_
                  (try simp only [List.getElem_toArray, List.getElem_cons_succ, List.getElem_cons_zero, Act.put, List.setIfInBounds_toArray, List.set_cons_zero, List.set_cons_succ])
                  refine wpAnyH_ready (rs := [18]) (by kernel_rfl) (by simp) ?_
                  refine AllReadyH.cons rfl (fun K hK => ?_) AllReadyH.nil
                  go_simp
                  refine (SM.out _ (Below.refl _ V).drew).mono ?_
                  rintro e w5 ⟨rfl, hb5⟩
                  go_wp2_with fail
                  refine hK.out _ _ ?_ (fun h1 => ?_)
                  · exact ⟨(hb5.block JB (lt_of_block jV)).trans jV, (hb5.block Bx (lt_of_block hbx)).trans hbx, (hb5.block bn (lt_of_block hg)).trans hg, (fun j u hj => (hb5.cell (p := ⟨b2, o2 + i * 13 + j, none⟩) hb2l).trans (HY.out j u hj)), (hb5.block NB (lt_of_block nV)).trans nV, (hb5.cell (p := ⟨b4, o4 + k, none⟩) hb4l).trans hw4⟩
                  clear hK K
                  (try simp only [List.getElem_toArray, List.getElem_cons_succ, List.getElem_cons_zero, Act.put, List.setIfInBounds_toArray, List.set_cons_zero, List.set_cons_succ])
                  refine wpAnyH_take (i := 19) (v := ?_) rfl (by kernel_rfl) (by kernel_rfl) (by kernel_rfl) (fun _ _ _ h => h) (Or.inl ⟨by rfl, ?_⟩) h1 ?_
                  rotate_left
                  focus (intro w' hSw; skip; go_simp; (try with_reducible rfl))
                  (try simp only [List.getElem_toArray, List.getElem_cons_succ, List.getElem_cons_zero, Act.put, List.setIfInBounds_toArray, List.set_cons_zero, List.set_cons_succ])
                  refine wpAnyH_take (i := 20) (v := ?_) rfl (by kernel_rfl) (by kernel_rfl) (by kernel_rfl) (fun _ _ _ h => h) (Or.inl ⟨by rfl, ?_⟩) h1 ?_
                  rotate_left
                  focus (intro w' hSw; skip; go_simp; (try with_reducible rfl))
                  (try simp only [List.getElem_toArray, List.getElem_cons_succ, List.getElem_cons_zero, Act.put, List.setIfInBounds_toArray, List.set_cons_zero, List.set_cons_succ])
                  refine wpAnyH_done (by kernel_rfl) ?_ _
                  have bV5 : Below V.heap.size V w5 := (Below.refl _ V).drew.trans hb5
                  have hg5 := blk_below hg bV5 (lt_of_block hg)
                  have ht5 := blk_below htb bV5 (lt_of_block htb)
                  have hs5 := blk_below sV bV5 (lt_of_block sV)
                  have hf5 := blk_below hy2 bV5 (lt_of_block hy2)
                  have hmk5 := hmk.below bV5
                  have hB5 : Below G W8 w5 := hBn.trans (bV5.mono (by omega))
                  have cG5 := blk_cell (l := [_]) hg5 0 rfl
                  have fG5 := blk_free hg5 0
                  have cT5 := blk_cell (l := [_]) (blk_far (a := ⟨bn, 0, none⟩) ht5 (by show tb ≠ bn; omega) (.int .i64 ((k : Int) + 1))) 0 rfl
                  have cS5 := blk_cell (l := [_]) (blk_far (a := ⟨bn, 0, none⟩) hs5 (by show w.heap.size ≠ bn; omega) (.int .i64 ((k : Int) + 1))) 0 rfl
                  have cN5 := blk_cell (l := [_]) (blk_set hg5 0 (.int .i64 ((k : Int) + 1))) 0 rfl
                  have HKF := Lib.hid (keepsFrom_below (B := W8.heap.size) bV5)
                  have hlen : (((pre ++ [x]).length : Nat) : Int) = (k : Int) + 1 := by rw [List.length_append, List.length_singleton, ← HK.out]; omega
                  have HLN := Lib.hid hlen
                  have HKQ := Lib.hid (Lg.KpQ.of_below (n0 := G) (q := f2) bV5 (by omega) (by omega))
                  have I5 := Lib.hid (show Below G W8 (w5.setCell ⟨bn, 0, none⟩ (.int .i64 ((k : Int) + 1))) ∧ (w5.setCell ⟨bn, 0, none⟩ (.int .i64 ((k : Int) + 1))).heap[f2]? = some (.cells #[.int .i64 a1] 3 (0, 0)) ∧ (w5.setCell ⟨bn, 0, none⟩ (.int .i64 ((k : Int) + 1))).heap[bn]? = some (.cells #[.int .i64 ((pre ++ [x]).length : Nat)] 3 (0, 0)) ∧ (w5.setCell ⟨bn, 0, none⟩ (.int .i64 ((k : Int) + 1))).heap[tb]? = some (.cells #[.int .i64 t] 3 (0, 0)) ∧ Marks G (w5.setCell ⟨bn, 0, none⟩ (.int .i64 ((k : Int) + 1))) W8.heap.size ds from ⟨hB5.setCell (p := ⟨bn, 0, none⟩) (by show G ≤ bn; omega) _, blk_far hf5 (by show f2 ≠ bn; omega) _, by rw [HLN.out]; exact blk_set hg5 0 _, blk_far ht5 (by show tb ≠ bn; omega) _, hmk5.setCell hg5 _ _⟩)
                  have K5 := Lib.hid (show KeepsFrom W8.heap.size V (w5.setCell ⟨bn, 0, none⟩ (.int .i64 ((k : Int) + 1))) from HKF.out.trans (kf_setCell (by show bn < W8.heap.size; omega)))
                  have KQ5 := Lib.hid (show Lg.KpQ G f2 V (w5.setCell ⟨bn, 0, none⟩ (.int .i64 ((k : Int) + 1))) from by
                    have hTG : Ty w5 bn 3 := ⟨_, hg5⟩
                    refine HKQ.out.trans ⟨(Below.refl _ w5).setCell (p := ⟨bn, 0, none⟩) (by show G ≤ bn; omega) _, ?_, fun i cs' e => ?_⟩
                    · exact (blk_far hf5 (by show f2 ≠ bn; omega) _).trans hf5.symm
                    · have ht : Ty w5 i 124 := ⟨_, e⟩
                      exact blk_far e (ht.ne hTG (by decide)) _)
                  have HT := Lib.hid ht2
                  clear hb5 h0 h1 jV hbx hg hg5 ht5 hs5 hmk5 hlen htb sV hf5 nV hw4 hy2
                  have hcase : t = 0 ∨ t = 1 := by have := HT.out; omega
                  rcases hcase with rfl | rfl
                  · by_cases hbr : (k : Int) + 1 = a2
                    · have zb : (((k : Int) + 1) == a2) = true := by simp [hbr]
                      clear hbr
                      gi_wp2
                      first | exact ⟨K5.out, rfl, rfl, I5.out⟩ | exact ⟨K5.out, rfl, I5.out⟩ | exact ⟨K5.out, I5.out⟩
                    · have zb : (((k : Int) + 1) == a2) = false := by simp [hbr]
                      clear hbr
                      gi_wp2
                      exact ⟨K5.out, KQ5.out, I5.out⟩
                  · have z10 : ((((1 : Nat) : Int)) == 0) = false := rfl
                    gi_wp2
                    exact ⟨K5.out, KQ5.out, I5.out⟩
          · intro _ _ _ _
            go_wp2_with fail
            have hseq := all1_seq 4 G AB A n n vs W8 (by omega) (by omega) (Nat.le_of_lt hGW) (ABV.out W8 bW8) (RA.out W8 bW8) HFD.out
            refine (wpIn_wide (n := 5)).1 ?_
            refine range_own (F := Fence.wide) rfl (by omega) (gf := 53) (lb := #[.pointer (some ⟨AB, 0, none⟩)]) rfl trivial (enters_of Try.func53 (by kernel_rfl) rfl) hseq (fun h k => h.trans k)
              (fun V l' o o' hl h hc => (Below.refl _ V).grown (grownBy_putObj' V l' o') (by have := (Array.getElem?_eq_some_iff.1 h).1; omega) (fun k e => by cases e; omega)) (fun x => rfl)
              (fun pre V => Below G W8 V ∧ (V.heap[bn]? = some (.cells #[.int .i64 (pre.length : Nat)] 3 (0, 0)) ∧ (V.heap[tb]? = some (.cells #[.int .i64 t] 3 (0, 0)) ∧ Marks G V W8.heap.size ds)))
              (fun c pre V => c = .exit 2 ∧ (t = 0 ∧ (Below G W8 V ∧ (V.heap[bn]? = some (.cells #[.int .i64 (pre.length : Nat)] 3 (0, 0)) ∧ (V.heap[tb]? = some (.cells #[.int .i64 t] 3 (0, 0)) ∧ Marks G V W8.heap.size ds)))))
              (fun x a' V => ∃ Bx, W8.heap.size ≤ Bx ∧ V.heap[Bx]? = some (.cells x.2.cells.toArray 32 (0, 0)) ∧ a' = { tmps := #[.slice a0 len0 cap0, .int .i64 a1, .int .i64 a2, .agg C.toArray, undef, undef, .pointer (some ⟨w.heap.size, 0, none⟩), .pointer (some ⟨(w.heap.size + 1), 0, none⟩), .pointer (some ⟨(w.heap.size + 1 + 1), 0, none⟩), .pointer (some ⟨p, 0, none⟩), .pointer (some ⟨JB, 0, none⟩), .bool true, (.func (.func 53) #[] #[.pointer (some ⟨AB, 0, none⟩)]), (.func (.func 66) #[] #[.pointer (some ⟨f1, 0, none⟩), .pointer (some ⟨f2, 0, none⟩)]), .int .i64 0, .pointer (some ⟨NB, 0, none⟩), .int .i64 0, .pointer (some ⟨tb, 0, none⟩), .pointer (some ⟨bn, 0, none⟩), .int .i64 x.1, .pointer (some ⟨Bx, 0, none⟩), u21, u22, u23, u24, u25, u26, u27, u28, u29, u30, u31, u32, u33, u34, u35, u36, u37, u38, u39, u40, u41, u42, u43, u44, u45, u46, u47, u48, u49, u50, u51, u52, u53, u54, u55, u56, u57, u58, u59, u60, u61, u62, u63, u64, u65, u66, u67, u68, u69, u70, u71, u72, u73, u74, u75, .int .i64 t, .bool true, u78, u79, (.func (.func 53) #[] #[.pointer (some ⟨AB, 0, none⟩)]), .int .i64 x.1, x.2.val, u83, u84, u85, u86, u87, u88, u89, u90, u91, u92, u93, u94, u95, u96, u97, u98, u99, u100, u101, u102, u103, u104, u105, u106, u107, u108, u109, u110, u111, u112, u113, u114, u115, u116, u117, u118, u119, u120, u121, u122, u123, u124, u125, u126, u127, u128, u129, u130, u131, u132, u133, u134, u135, u136, u137, u138, u139, u140, u141, u142, u143, u144, u145, u146, u147, u148, u149, u150, u151, u152, u153, u154, u155, u156, u157, u158, u159, u160, u161, u162], defers := [] })
              ?hI ?hIx ?hPr ?hAx ?h0 ?assign ?body ?done ?stop
            case hI => exact OwnFrom.and (ownFrom_below (Nat.le_of_lt hGW) (Nat.le_of_lt hGW)) (OwnFrom.and (fun s X Y row hs hg hr => blk_own (β := Unit) _ bn _ _ () X Y row hs hg hr) (OwnFrom.and (blk_own _ _ _ _) (marks_own (Nat.le_refl _))))
            case hIx => exact fun c => OwnFrom.and (ownFrom_pure _ _) (OwnFrom.and (ownFrom_pure _ _) (OwnFrom.and (ownFrom_below (Nat.le_of_lt hGW) (Nat.le_of_lt hGW)) (OwnFrom.and (fun s X Y row hs hg hr => blk_own (β := Unit) _ bn _ _ () X Y row hs hg hr) (OwnFrom.and (blk_own _ _ _ _) (marks_own (Nat.le_refl _))))))
            case hPr => exact fun pre => Lg.PrA.own _ vs pre
            case hAx =>
              rintro a' x X Y row ⟨Bx, e1, e2, e3⟩ hg hr
              exact ⟨Bx, e1, blk_own (β := Unit) _ Bx _ _ () X Y row e2 hg hr, e3⟩
            case h0 => exact ⟨Below.refl _ _, gN, gT, MK8⟩
            case assign =>
              rintro l' pre x V K ⟨hBn, hg, htb, hmk⟩ hpr hK
              have hzV := hBn.size
              have z1 : x.2.cells.toArray.size = 13 := rfl
              have HPR := Lib.hid hpr
              clear hpr
              simp only [Lg.encNR]
              gi_wp2_with (refine wpListIn_store_row rfl 32 _ _ rfl V.heap.size x.2.cells.toArray rfl rfl 32 _ (heap_new V (.cells #[.int .i64 0, .int .i64 0, .int .i64 0, .int .i64 0, .int .i64 0, .int .i64 0, .int .i64 0, .int .i64 0, .int .i64 0, .int .i64 0, .int .i64 0, .slice none 0 0, .int .u32 0] 32 (0, 0))) (by rw [z1]; kernel_rfl) z1.symm (rv_ones x.2) ?_)
              have kx := setRow_heap (V.alloc (.cells #[.int .i64 0, .int .i64 0, .int .i64 0, .int .i64 0, .int .i64 0, .int .i64 0, .int .i64 0, .int .i64 0, .int .i64 0, .int .i64 0, .int .i64 0, .slice none 0 0, .int .u32 0] 32 (0, 0))) V.heap.size #[.int .i64 0, .int .i64 0, .int .i64 0, .int .i64 0, .int .i64 0, .int .i64 0, .int .i64 0, .int .i64 0, .int .i64 0, .int .i64 0, .int .i64 0, .slice none 0 0, .int .u32 0] x.2.cells.toArray 32 (0, 0) (heap_new V (.cells #[.int .i64 0, .int .i64 0, .int .i64 0, .int .i64 0, .int .i64 0, .int .i64 0, .int .i64 0, .int .i64 0, .int .i64 0, .int .i64 0, .int .i64 0, .slice none 0 0, .int .u32 0] 32 (0, 0)))
              have bx : Below V.heap.size V ((V.alloc (.cells #[.int .i64 0, .int .i64 0, .int .i64 0, .int .i64 0, .int .i64 0, .int .i64 0, .int .i64 0, .int .i64 0, .int .i64 0, .int .i64 0, .int .i64 0, .slice none 0 0, .int .u32 0] 32 (0, 0))).setRow V.heap.size x.2.cells.toArray) := below_setRow ((Below.refl V.heap.size V).alloc (Nat.le_refl _) _) (Nat.le_refl _) _
              obtain ⟨p1, p2, p5⟩ := HPR.out
              exact hK _ _ (keepsFrom_below bx) (bx.mono (by omega)) ⟨hBn.trans (bx.mono (by omega)), blk_below hg bx (lt_of_block hg), blk_below htb bx (lt_of_block htb), hmk.below bx⟩ ⟨p1, p2, p5.up bx⟩ ⟨V.heap.size, hzV, kx, rfl⟩
            case stop =>
              rintro D c' pre V hD hsp ⟨rfl, ht0, hBn, hg, htb, hmk⟩ hDf
              have MKn := Lib.hid (show Marks G V V.heap.size ({ target := .collected D, args := #[] } :: ds) from ⟨D, rfl, by omega, (Array.getElem?_eq_some_iff.1 hDf).1, hDf, hmk.le hD⟩)
              have HZ := Lib.hid (show ∃ z : Nat, V.heap[bn]? = some (.cells #[.int .i64 z] 3 (0, 0)) ∧ (t ≠ 0 → z = n) ∧ V.heap[tb]? = some (.cells #[.int .i64 t] 3 (0, 0)) ∧ Below G w7 V ∧ bn < V.heap.size from ⟨pre.length, hg, fun h => absurd ht0 h, htb, bW8.trans hBn, lt_of_block hg⟩)
              clear hDf hmk hg htb hsp ht0 hBn
              refine wpIn_wide.2 ?_
              go_wp2_with fail
              go_meet
              obtain ⟨z, h1, h2, h3, h4, h5⟩ := HZ.out
              exact ⟨z, h1, h2, h3, h4, MKn.out⟩
            case done =>
              rintro D ys V hD hys ⟨hBn, hg, htb, hmk⟩ hDf
              have MKn := Lib.hid (show Marks G V V.heap.size ({ target := .collected D, args := #[] } :: ds) from ⟨D, rfl, by omega, (Array.getElem?_eq_some_iff.1 hDf).1, hDf, hmk.le hD⟩)
              have HZ := Lib.hid (show ∃ z : Nat, V.heap[bn]? = some (.cells #[.int .i64 z] 3 (0, 0)) ∧ (t ≠ 0 → z = n) ∧ V.heap[tb]? = some (.cells #[.int .i64 t] 3 (0, 0)) ∧ Below G w7 V ∧ bn < V.heap.size from ⟨ys.length, hg, fun _ => hys, htb, bW8.trans hBn, lt_of_block hg⟩)
              clear hDf hmk hg htb hys hBn hseq
              go_wp2_with fail
              go_meet
              obtain ⟨z, h1, h2, h3, h4, h5⟩ := HZ.out
              exact ⟨z, h1, h2, h3, h4, MKn.out⟩
            case body =>
              rintro l' pre x a' V ⟨hBn, hg, htb, hmk⟩ ⟨p1, p3, p5⟩ ⟨Bx, hBx, hbx, rfl⟩ hlt
              have hzV := hBn.size
              have bV : Below G w7 V := bW8.trans hBn
              have jV := JV.out V bV
              have sV := SV.out V bV
              have RJV := Lib.hid (RJ.out V bV)
              obtain ⟨k, hk⟩ : ∃ k, k = pre.length := ⟨_, rfl⟩
              obtain ⟨i, hi⟩ : ∃ i, i = pre.length := ⟨_, rfl⟩
              have hkn : k < n := by rw [hk]; exact hlt
              have hin : i < n := by rw [hi]; exact hlt
              obtain ⟨b2, o2, hS, hb2l, hcy, hoy⟩ := RJV.out.at_ hin
              obtain ⟨y, hy⟩ : ∃ y, y = us.getD i Lg.rv0 := ⟨_, rfl⟩
              rw [← hy] at hcy hoy
              rw [hS] at jV
              have hxy : x.2.x = y.x := by
                rw [p3, hy, ← hi, ← Lg.xs_at (by rw [HVN.out]; exact hin), ← Lg.xs_at (by rw [RJV.out.len]; exact hin), LJ.out.eq]
              obtain ⟨CX, hval, hCX, hCs⟩ := rv_opaque x.2
              have HVAL := Lib.hid hval
              have HXY := Lib.hid hxy
              have OKX := Lib.hid p5
              have OKY := Lib.hid (hoy.more (Nat.le_trans (Nat.le_of_lt hGW) hzV))
              have HY := Lib.hid hcy
              have SM := Lib.hid (show ∀ W : World, Below V.heap.size V W → Calls Try.prog 36 #[.agg CX, .agg y.cells.toArray] W fun e w' => e = .returned (.bool true) ∧ Below W.heap.size W w' from fun W hW => by
                have := rsameR_any x.2 y W (OKX.out.up hW) (OKY.out.up hW)
                rw [HVAL.out, HXY.out, Lg.sameR_refl] at this
                exact this)
              have hb2l : b2 < V.heap.size := by omega
              have hx1 : x.1 = k := by rw [hk]; exact p1
              have hik : k = i := by rw [hi, hk]
              rw [hval, hx1]
              rw [hCX] at hbx
              rw [← hk] at hg
              subst hik
              have hki := hi
              have HK := Lib.hid hk
              have wk : IntKind.i64.wrap ((k : Int) + 1) = (k : Int) + 1 := IntWalk.i64_in _ (by omega)
              have km : (k : Int) < (n : Int) := by omega
              have kk0 : (0 : Int) ≤ (k : Int) := by omega
              have kk1 : (0 : Int) ≤ (k : Int) := by omega
              have km3 : ¬ n ≤ k := by omega
              clear p1 p3 p5 hx1 hki hi hk hy hcy hoy hxy hval hCX hS hlt
              gi_wp2
              (try refine wpIn_block ?_)
              refine region_round (S := fun w' => w'.heap[JB]? = some (.cells #[.slice (some ⟨b2, o2, none⟩) n c2] 45 (0, 0)) ∧ w'.heap[Bx]? = some (.cells CX 32 (0, 0)) ∧ w'.heap[bn]? = some (.cells #[.int .i64 k] 3 (0, 0)) ∧ (∀ (j : Nat) (u : Value), y.cells[j]? = some u → w'.cell? ⟨b2, o2 + k * 13 + j, none⟩ = some u) ∧ True ∧ True) (by kernel_rfl) (by kernel_rfl) (by rintro ⟨a, w, h⟩; exact h) ⟨jV, hbx, hg, HY.out, trivial, trivial⟩ ?_
              intro h0
              refine wpAnyH_take (i := 0) (v := ?_) rfl (by kernel_rfl) (by kernel_rfl) (by kernel_rfl) (fun _ _ _ h => h) (Or.inl ⟨by rfl, ?_⟩) h0 ?_
              rotate_left
              focus (intro w' hSw; skip; go_simp; (try with_reducible rfl))
              (try simp only [List.getElem_toArray, List.getElem_cons_succ, List.getElem_cons_zero, Act.put, List.setIfInBounds_toArray, List.set_cons_zero, List.set_cons_succ])
              refine wpAnyH_take (i := 1) (v := ?_) rfl (by kernel_rfl) (by kernel_rfl) (by kernel_rfl) (fun _ _ _ h => h) (Or.inl ⟨by rfl, ?_⟩) h0 ?_
              rotate_left
              focus (intro w' hSw; have ck' : w'.cell? ⟨bn, 0, none⟩ = some (.int .i64 k) := blk_cell (l := [_]) hSw.2.2.1 0 rfl; go_simp; (try with_reducible rfl))
              (try simp only [List.getElem_toArray, List.getElem_cons_succ, List.getElem_cons_zero, Act.put, List.setIfInBounds_toArray, List.set_cons_zero, List.set_cons_succ])
              refine wpAnyH_take (i := 2) (v := .bool false) rfl (by kernel_rfl) (by kernel_rfl) (by kernel_rfl) (fun _ _ _ h => h) (Or.inl ⟨by rfl, ?_⟩) h0 ?_
              focus (intro w' hSw; skip; go_simp; (try simp only [decide_eq_false km3, Bool.not_true]); (try with_reducible rfl); (try simp); done)
              (try simp only [List.getElem_toArray, List.getElem_cons_succ, List.getElem_cons_zero, Act.put, List.setIfInBounds_toArray, List.set_cons_zero, List.set_cons_succ])
              refine wpAnyH_take (i := 3) (v := ?_) rfl (by kernel_rfl) (by kernel_rfl) (by kernel_rfl) (fun _ _ _ h => h) (Or.inl ⟨by rfl, ?_⟩) h0 ?_
              rotate_left
              focus (intro w' hSw; skip; go_simp; (try with_reducible rfl))
              (try simp only [List.getElem_toArray, List.getElem_cons_succ, List.getElem_cons_zero, Act.put, List.setIfInBounds_toArray, List.set_cons_zero, List.set_cons_succ])
              refine wpAnyH_take (i := 4) (v := ?_) rfl (by kernel_rfl) (by kernel_rfl) (by kernel_rfl) (fun _ _ _ h => h) (Or.inl ⟨by rfl, ?_⟩) h0 ?_
              rotate_left
              focus (intro w' hSw; have ck' : w'.cell? ⟨bn, 0, none⟩ = some (.int .i64 k) := blk_cell (l := [_]) hSw.2.2.1 0 rfl; go_simp; (try with_reducible rfl))
              (try simp only [List.getElem_toArray, List.getElem_cons_succ, List.getElem_cons_zero, Act.put, List.setIfInBounds_toArray, List.set_cons_zero, List.set_cons_succ])
              refine wpAnyH_take (i := 5) (v := ?_) rfl (by kernel_rfl) (by kernel_rfl) (by kernel_rfl) (fun _ _ _ h => h) (Or.inl ⟨by rfl, ?_⟩) h0 ?_
              rotate_left
              focus (intro w' hSw; have cj' : w'.cell? ⟨JB, 0, none⟩ = some (.slice (some ⟨b2, o2, none⟩) n c2) := blk_cell (l := [_]) hSw.1 0 rfl; go_simp; (try with_reducible rfl))
              (try simp only [List.getElem_toArray, List.getElem_cons_succ, List.getElem_cons_zero, Act.put, List.setIfInBounds_toArray, List.set_cons_zero, List.set_cons_succ])
              refine wpAnyH_take (i := 6) (v := ?_) rfl (by kernel_rfl) (by kernel_rfl) (by kernel_rfl) (fun _ _ _ h => h) (Or.inl ⟨by rfl, ?_⟩) h0 ?_
              rotate_left
              focus (intro w' hSw; skip; go_simp; (try with_reducible rfl))
              (try simp only [List.getElem_toArray, List.getElem_cons_succ, List.getElem_cons_zero, Act.put, List.setIfInBounds_toArray, List.set_cons_zero, List.set_cons_succ])
              refine wpAnyH_take (i := 7) (v := .bool false) rfl (by kernel_rfl) (by kernel_rfl) (by kernel_rfl) (fun _ _ _ h => h) (Or.inl ⟨by rfl, ?_⟩) h0 ?_
              focus (intro w' hSw; skip; go_simp; (try simp only [decide_eq_false km3, Bool.not_true]); (try with_reducible rfl); (try simp); done)
              (try simp only [List.getElem_toArray, List.getElem_cons_succ, List.getElem_cons_zero, Act.put, List.setIfInBounds_toArray, List.set_cons_zero, List.set_cons_succ])
              refine wpAnyH_take (i := 8) (v := ?_) rfl (by kernel_rfl) (by kernel_rfl) (by kernel_rfl) (fun _ _ _ h => h) (Or.inl ⟨by rfl, ?_⟩) h0 ?_
              rotate_left
              focus (intro w' hSw; skip; go_simp; (try with_reducible rfl))
              (try simp only [List.getElem_toArray, List.getElem_cons_succ, List.getElem_cons_zero, Act.put, List.setIfInBounds_toArray, List.set_cons_zero, List.set_cons_succ])
              refine wpAnyH_take (i := 9) (v := ?_) rfl (by kernel_rfl) (by kernel_rfl) (by kernel_rfl) (fun _ _ _ h => h) (Or.inl ⟨by rfl, ?_⟩) h0 ?_
              rotate_left
              focus (intro w' hSw; skip; go_simp; (try with_reducible rfl))
              (try simp only [List.getElem_toArray, List.getElem_cons_succ, List.getElem_cons_zero, Act.put, List.setIfInBounds_toArray, List.set_cons_zero, List.set_cons_succ])
              refine wpAnyH_take (i := 10) (v := .agg CX) rfl (by kernel_rfl) (by kernel_rfl) (by kernel_rfl) (fun _ _ _ h => h) (yields_load_row (by rfl) 32 _ rfl Bx rfl 32 _ (0, 0) _ (fun w' hS => hS.2.1) Try.underlying32 rfl (by rw [hCs]; kernel_rfl)) h0 ?_
              (try simp only [List.getElem_toArray, List.getElem_cons_succ, List.getElem_cons_zero, Act.put, List.setIfInBounds_toArray, List.set_cons_zero, List.set_cons_succ])
              refine wpAnyH_take (i := 11) (v := ?_) rfl (by kernel_rfl) (by kernel_rfl) (by kernel_rfl) (fun _ _ _ h => h) (Or.inl ⟨by rfl, ?_⟩) h0 ?_
              rotate_left
              focus (intro w' hSw; have cj' : w'.cell? ⟨JB, 0, none⟩ = some (.slice (some ⟨b2, o2, none⟩) n c2) := blk_cell (l := [_]) hSw.1 0 rfl; go_simp; (try with_reducible rfl))
              (try simp only [List.getElem_toArray, List.getElem_cons_succ, List.getElem_cons_zero, Act.put, List.setIfInBounds_toArray, List.set_cons_zero, List.set_cons_succ])
              refine wpAnyH_take (i := 12) (v := ?_) rfl (by kernel_rfl) (by kernel_rfl) (by kernel_rfl) (fun _ _ _ h => h) (Or.inl ⟨by rfl, ?_⟩) h0 ?_
              rotate_left
              focus (intro w' hSw; have ck' : w'.cell? ⟨bn, 0, none⟩ = some (.int .i64 k) := blk_cell (l := [_]) hSw.2.2.1 0 rfl; go_simp; (try with_reducible rfl))
              (try simp only [List.getElem_toArray, List.getElem_cons_succ, List.getElem_cons_zero, Act.put, List.setIfInBounds_toArray, List.set_cons_zero, List.set_cons_succ])
              refine wpAnyH_take (i := 13) (v := ?_) rfl (by kernel_rfl) (by kernel_rfl) (by kernel_rfl) (fun _ _ _ h => h) (Or.inl ⟨by rfl, ?_⟩) h0 ?_
              rotate_left
              focus (intro w' hSw; skip; go_simp; (try with_reducible rfl))
              (try simp only [List.getElem_toArray, List.getElem_cons_succ, List.getElem_cons_zero, Act.put, List.setIfInBounds_toArray, List.set_cons_zero, List.set_cons_succ])
              refine wpAnyH_take (i := 14) (v := .agg y.cells.toArray) rfl (by kernel_rfl) (by kernel_rfl) (by kernel_rfl) (fun _ _ _ h => h) (yields_load_at (by rfl) 32 _ rfl b2 (o2 + k * 13) rfl _ _ (fun w' hS => hS.2.2.2.1) Try.underlying32 rfl (by rw [Lg.RV.len]; kernel_rfl)) h0 ?_
              (try simp only [List.getElem_toArray, List.getElem_cons_succ, List.getElem_cons_zero, Act.put, List.setIfInBounds_toArray, List.set_cons_zero, List.set_cons_succ])
              refine wpAnyH_ready (rs := [15]) (by kernel_rfl) (by simp) ?_
              refine AllReadyH.cons rfl (fun K hK => ?_) AllReadyH.nil
              go_simp
              refine (SM.out _ (Below.refl _ V).drew).mono ?_
              rintro e w5 ⟨rfl, hb5⟩
              go_wp2_with fail
              refine hK.out _ _ ?_ (fun h1 => ?_)
              · exact ⟨(hb5.block JB (lt_of_block jV)).trans jV, (hb5.block Bx (lt_of_block hbx)).trans hbx, (hb5.block bn (lt_of_block hg)).trans hg, (fun j u hj => (hb5.cell (p := ⟨b2, o2 + k * 13 + j, none⟩) hb2l).trans (HY.out j u hj)), trivial, trivial⟩
              clear hK K
              (try simp only [List.getElem_toArray, List.getElem_cons_succ, List.getElem_cons_zero, Act.put, List.setIfInBounds_toArray, List.set_cons_zero, List.set_cons_succ])
              refine wpAnyH_take (i := 16) (v := ?_) rfl (by kernel_rfl) (by kernel_rfl) (by kernel_rfl) (fun _ _ _ h => h) (Or.inl ⟨by rfl, ?_⟩) h1 ?_
              rotate_left
              focus (intro w' hSw; skip; go_simp; (try with_reducible rfl))
              (try simp only [List.getElem_toArray, List.getElem_cons_succ, List.getElem_cons_zero, Act.put, List.setIfInBounds_toArray, List.set_cons_zero, List.set_cons_succ])
              refine wpAnyH_take (i := 17) (v := ?_) rfl (by kernel_rfl) (by kernel_rfl) (by kernel_rfl) (fun _ _ _ h => h) (Or.inl ⟨by rfl, ?_⟩) h1 ?_
              rotate_left
              focus (intro w' hSw; skip; go_simp; (try with_reducible rfl))
              (try simp only [List.getElem_toArray, List.getElem_cons_succ, List.getElem_cons_zero, Act.put, List.setIfInBounds_toArray, List.set_cons_zero, List.set_cons_succ])
              refine wpAnyH_done (by kernel_rfl) ?_ _
              have bV5 : Below V.heap.size V w5 := (Below.refl _ V).drew.trans hb5
              have hg5 := blk_below hg bV5 (lt_of_block hg)
              have ht5 := blk_below htb bV5 (lt_of_block htb)
              have hs5 := blk_below sV bV5 (lt_of_block sV)
              skip
              have hmk5 := hmk.below bV5
              have hB5 : Below G W8 w5 := hBn.trans (bV5.mono (by omega))
              have cG5 := blk_cell (l := [_]) hg5 0 rfl
              have fG5 := blk_free hg5 0
              have cT5 := blk_cell (l := [_]) (blk_far (a := ⟨bn, 0, none⟩) ht5 (by show tb ≠ bn; omega) (.int .i64 ((k : Int) + 1))) 0 rfl
              have cS5 := blk_cell (l := [_]) (blk_far (a := ⟨bn, 0, none⟩) hs5 (by show w.heap.size ≠ bn; omega) (.int .i64 ((k : Int) + 1))) 0 rfl
              have cN5 := blk_cell (l := [_]) (blk_set hg5 0 (.int .i64 ((k : Int) + 1))) 0 rfl
              have HKF := Lib.hid (keepsFrom_below (B := W8.heap.size) bV5)
              have hlen : (((pre ++ [x]).length : Nat) : Int) = (k : Int) + 1 := by rw [List.length_append, List.length_singleton, ← HK.out]; omega
              have HLN := Lib.hid hlen
              have I5 := Lib.hid (show Below G W8 (w5.setCell ⟨bn, 0, none⟩ (.int .i64 ((k : Int) + 1))) ∧ (w5.setCell ⟨bn, 0, none⟩ (.int .i64 ((k : Int) + 1))).heap[bn]? = some (.cells #[.int .i64 ((pre ++ [x]).length : Nat)] 3 (0, 0)) ∧ (w5.setCell ⟨bn, 0, none⟩ (.int .i64 ((k : Int) + 1))).heap[tb]? = some (.cells #[.int .i64 t] 3 (0, 0)) ∧ Marks G (w5.setCell ⟨bn, 0, none⟩ (.int .i64 ((k : Int) + 1))) W8.heap.size ds from ⟨hB5.setCell (p := ⟨bn, 0, none⟩) (by show G ≤ bn; omega) _, by rw [HLN.out]; exact blk_set hg5 0 _, blk_far ht5 (by show tb ≠ bn; omega) _, hmk5.setCell hg5 _ _⟩)
              have K5 := Lib.hid (show KeepsFrom W8.heap.size V (w5.setCell ⟨bn, 0, none⟩ (.int .i64 ((k : Int) + 1))) from HKF.out.trans (kf_setCell (by show bn < W8.heap.size; omega)))
              have KQ5 := Lib.hid (show Below G V (w5.setCell ⟨bn, 0, none⟩ (.int .i64 ((k : Int) + 1))) from (bV5.mono (by omega)).setCell (p := ⟨bn, 0, none⟩) (by show G ≤ bn; omega) _)
              have HT := Lib.hid ht2
              clear hb5 h0 h1 jV hbx hg hg5 ht5 hs5 hmk5 hlen htb sV 
              have hcase : t = 0 ∨ t = 1 := by have := HT.out; omega
              rcases hcase with rfl | rfl
              · by_cases hbr : (k : Int) + 1 = a2
                · have zb : (((k : Int) + 1) == a2) = true := by simp [hbr]
                  clear hbr
                  gi_wp2
                  first | exact ⟨K5.out, rfl, rfl, I5.out⟩ | exact ⟨K5.out, rfl, I5.out⟩ | exact ⟨K5.out, I5.out⟩
                · have zb : (((k : Int) + 1) == a2) = false := by simp [hbr]
                  clear hbr
                  gi_wp2
                  exact ⟨K5.out, KQ5.out, I5.out⟩
              · have z10 : ((((1 : Nat) : Int)) == 0) = false := rfl
                gi_wp2
                exact ⟨K5.out, KQ5.out, I5.out⟩
        · obtain rfl : t = 2 := by omega
          have kt : ¬ ((2 : Nat) : Int) < 2 := by omega
          have rR := RV.out wr bG
          have BR := B7.out.trans (bG.mono (by omega))
          go_wp2_with fail
          refine (known_true _).mono ?_
          rintro _ w9 ⟨rfl, hb9⟩
          have r9 := blk_below rR hb9 (lt_of_block rR)
          have c9 := blk_cell (l := [_]) r9 0 rfl
          have f9 := blk_free r9 0
          have m9 := (MK.below hb9).setCell r9 0 (.bool true)
          have B9 := (BR.trans (hb9.mono BR.size)).setCell (p := ⟨w.heap.size + 1 + 1, 0, none⟩) (by show w.heap.size ≤ w.heap.size + 1 + 1; omega) (.bool true)
          go_wp2_with fail
          exact leaves_marks ds _ _ m9 (fun V' hbV hc => ⟨_, results_c1 rfl _ _ (w.heap.size + 1 + 1) (.bool true) _ rfl (blk_cell (l := [_]) (hc _ _ _ _ (blk_set r9 0 _)) 0 rfl) Try.underlying4 rfl, rfl, B9.trans (hbV.mono (by omega))⟩)
  · have hofe := Lib.hid hE
    have OF := Lib.hid (of_no ⟨p, 0, none⟩ a1 hE w3)
    have RO := Lib.hid (fun (W : World) => rof_no A2 n c2 a1 hE W)
    clear hE
    go_wp2_with fail
    refine OF.out.mono ?_
    rintro _ w4 ⟨rfl, b4⟩
    have r2 := blk_below r2 b4 (lt_of_block r2)
    have s2 := blk_below s2 b4 (lt_of_block s2)
    have m2 := blk_below m2 b4 (lt_of_block m2)
    have t2 := blk_below t2 b4 (lt_of_block t2)
    have a3 := blk_below a3 b4 (lt_of_block a3)
    have B2 := Lib.hid (B2.out.trans (b4.mono B2.out.size))
    have c2' := blk_cell (l := [_]) t2 0 rfl
    clear OF
    go_wp2_with fail
    refine (RO.out w4).mono ?_
    rintro _ w5 ⟨rfl, b5⟩
    have r2 := blk_below r2 b5 (lt_of_block r2)
    have s2 := blk_below s2 b5 (lt_of_block s2)
    have m2 := blk_below m2 b5 (lt_of_block m2)
    have t2 := blk_below t2 b5 (lt_of_block t2)
    have a3 := blk_below a3 b5 (lt_of_block a3)
    have B2 := Lib.hid (B2.out.trans (b5.mono B2.out.size))
    have B35 := Lib.hid (b4.trans (b5.mono b4.size))
    clear RO b4 b5 c2'
    have hfa := fnil 53 #[.pointer (some ⟨AB, 0, none⟩)]
    have hfo := fnn
    go_upto_region 9 with fail
    generalize hW6 : World.alloc _ _ = W6
    obtain ⟨NB, hNB⟩ : ∃ q, q = w5.heap.size := ⟨_, rfl⟩
    have n2 : W6.heap[NB]? = some (.cells #[.slice none 0 0] 62 (0, 0)) := by rw [← hW6, hNB]; exact heap_new _ _
    have b6 : Below w5.heap.size w5 W6 := by rw [← hW6]; exact (Below.refl _ w5).alloc (Nat.le_refl _) _
    have r2 := blk_below r2 b6 (lt_of_block r2)
    have s2 := blk_below s2 b6 (lt_of_block s2)
    have m2 := blk_below m2 b6 (lt_of_block m2)
    have t2 := blk_below t2 b6 (lt_of_block t2)
    have a3 := blk_below a3 b6 (lt_of_block a3)
    have B2 := Lib.hid (B2.out.trans (b6.mono B2.out.size))
    have B36 := Lib.hid (B35.out.trans (b6.mono B35.out.size))
    rw [← hNB]
    clear hW6 hNB b6
    go_upto_region 11 with fail
    clear hfa
    have LJ6 := LJ.out.below B36.out
    have CL := Lib.hid (call_any LJ6.lg (Nat.le_trans HBZ.out B36.out.size) (by rw [HVN.out]; omega) y3 ((W3.out.below B2.out (Nat.le_refl _)).more B2.out.size) HM3.out)
    rw [show y3.val = .agg C.toArray from by rw [HC.out]; rfl] at CL
    have LG6 := Lib.hid LJ6.lg
    have J6 := Lib.hid LJ6.j
    have D6 := Lib.hid LJ6.dis
    clear LJ6
    go_wp2_with (refine wpList_load_row_on (by rfl) 83 (.tmp 7) rfl (w.heap.size + 1) rfl 83 C.toArray (0, 0) _ m2 Try.underlying83 rfl (by rw [h7]; kernel_rfl) ?_)
    refine CL.out.mono ?_
    rintro _ w7 ⟨A7, c7, vs7, rfl, _, _, kk7, _, rr7, _⟩
    have KK := Lib.hid kk7
    have RR7 := Lib.hid rr7
    rw [HVN.out] at RR7
    go_upto_region 12 with fail
    have r2 := blk_keep r2 KK.out (LG6.out.away ⟨_, r2⟩ (by decide) (by decide))
    have s2 := blk_keep s2 KK.out (LG6.out.away ⟨_, s2⟩ (by decide) (by decide))
    have t2 := blk_keep t2 KK.out (LG6.out.away ⟨_, t2⟩ (by decide) (by decide))
    have a3 := blk_keep a3 KK.out (LG6.out.away ⟨_, a3⟩ (by decide) (by decide))
    have n2 := blk_keep n2 KK.out (LG6.out.away ⟨_, n2⟩ (by decide) (by decide))
    have J7 := Lib.hid (J6.out.keep KK.out (fun i hi => D6.out i hi))
    rw [← HN.out] at J7
    have B7 := Lib.hid (B2.out.trans (KK.out.below (fun i _ hi => by have := (LG6.out.two_lt hi).1; have := HB0.out; omega) B2.out.size))
    have HFD := Lib.hid (Lg.good_rd (vs := vs) LJ.out.good)
    obtain ⟨G, hG⟩ : ∃ G, G = w7.heap.size := ⟨_, rfl⟩
    have SV := Lib.hid (fun (V : World) (hV : Below G w7 V) => blk_below s2 (hG ▸ hV) (lt_of_block s2))
    have RV := Lib.hid (fun (V : World) (hV : Below G w7 V) => blk_below r2 (hG ▸ hV) (lt_of_block r2))
    have JV := Lib.hid (fun (V : World) (hV : Below G w7 V) => blk_below t2 (hG ▸ hV) (lt_of_block t2))
    have NV := Lib.hid (fun (V : World) (hV : Below G w7 V) => blk_below n2 (hG ▸ hV) (lt_of_block n2))
    have ABV := Lib.hid (fun (V : World) (hV : Below G w7 V) => blk_below a3 (hG ▸ hV) (lt_of_block a3))
    have RA := Lib.hid (fun (V : World) (hV : Below G w7 V) => (show Lg.Rr V G A n vs from by rw [hG]; exact RR7.out.below (hG ▸ hV) (Nat.le_refl _)))
    have RJ := Lib.hid (fun (V : World) (hV : Below G w7 V) => (show Lg.Rr V G A2 n us from by rw [hG]; exact J7.out.rr.below (hG ▸ hV) (Nat.le_refl _)))
    have hrG : w.heap.size + 1 + 1 < G := by rw [hG]; exact lt_of_block r2
    have HG := Lib.hid hG
    clear hG r2 s2 m2 t2 a3 n2  J7 RR7 rr7 KK kk7 CL J6 D6 LG6 B2 B36 B35 W3 HM3
    go_cut [17] from 18 to 162 (fun v17 wx => v17 = .pointer (some ⟨G, 0, none⟩) ∧ wx.heap[G]? = some (.cells #[.int .i64 0] 3 (0, 0)) ∧ Below G w7 wx)
    case first =>
      go_wp2_with fail
      go_meet
      exact ⟨by rw [HG.out], by rw [HG.out]; exact heap_new _ _, by rw [HG.out]; exact (Below.refl _ w7).alloc (Nat.le_refl _) _⟩
    case rest =>
      obtain ⟨rfl, gT0, bG0⟩ := hcut
      go_wp2_with fail
      refine wp_loop (fun a' wr => ∃ (u18 u19 u20 u21 u22 u76 u77 u78 u79 u80 u81 u82 u83 u84 u85 u86 u87 u88 u89 u90 u91 u92 u93 u94 u95 u96 u97 u98 u99 u100 u101 u102 u103 u104 u105 u106 u107 u108 u109 u110 u111 u112 u113 u114 u115 u116 u117 u118 u119 u120 u121 u122 u123 u124 u125 u126 u127 u128 u129 u130 u131 u132 u133 u134 u135 u136 u137 u138 u139 u140 u141 u142 u143 u144 u145 u146 u147 u148 u149 u150 u151 u152 u153 u154 u155 u156 u157 u158 u159 u160 u161 u162 : Value) (ds : List Deferred) (v17 : Value), (∃ (t tb : Nat), v17 = .pointer (some ⟨tb, 0, none⟩) ∧ t ≤ 2 ∧ G ≤ tb ∧ wr.heap[tb]? = some (.cells #[.int .i64 t] 3 (0, 0)) ∧ Below G w7 wr ∧ Marks G wr wr.heap.size ds) ∧ a' = { tmps := #[.slice a0 len0 cap0, .int .i64 a1, .int .i64 a2, .agg C.toArray, undef, undef, .pointer (some ⟨w.heap.size, 0, none⟩), .pointer (some ⟨(w.heap.size + 1), 0, none⟩), .pointer (some ⟨(w.heap.size + 1 + 1), 0, none⟩), .pointer (some ⟨p, 0, none⟩), .pointer (some ⟨JB, 0, none⟩), .bool true, (.func (.func 53) #[] #[.pointer (some ⟨AB, 0, none⟩)]), .nilFunc, .int .i64 2, .pointer (some ⟨NB, 0, none⟩), .int .i64 2, v17, u18, u19, u20, u21, u22, u23, u24, u25, u26, u27, u28, u29, u30, u31, u32, u33, u34, u35, u36, u37, u38, u39, u40, u41, u42, u43, u44, u45, u46, u47, u48, u49, u50, u51, u52, u53, u54, u55, u56, u57, u58, u59, u60, u61, u62, u63, u64, u65, u66, u67, u68, u69, u70, u71, u72, u73, u74, u75, u76, u77, u78, u79, u80, u81, u82, u83, u84, u85, u86, u87, u88, u89, u90, u91, u92, u93, u94, u95, u96, u97, u98, u99, u100, u101, u102, u103, u104, u105, u106, u107, u108, u109, u110, u111, u112, u113, u114, u115, u116, u117, u118, u119, u120, u121, u122, u123, u124, u125, u126, u127, u128, u129, u130, u131, u132, u133, u134, u135, u136, u137, u138, u139, u140, u141, u142, u143, u144, u145, u146, u147, u148, u149, u150, u151, u152, u153, u154, u155, u156, u157, u158, u159, u160, u161, u162], defers := ds }) (fun a' wr => 2 - boxInt wr (a'.tmps.getD 17 undef)) ?_ ?_
      · (repeat apply Exists.intro)
        refine ⟨?_, rfl⟩
        exact ⟨0, G, rfl, by omega, by omega, gT0, bG0, trivial⟩
      · clear gT0 bG0
        intro _ wr hinv
        obtain ⟨u18, hinv⟩ := hinv; obtain ⟨u19, hinv⟩ := hinv; obtain ⟨u20, hinv⟩ := hinv; obtain ⟨u21, hinv⟩ := hinv; obtain ⟨u22, hinv⟩ := hinv; obtain ⟨u76, hinv⟩ := hinv; obtain ⟨u77, hinv⟩ := hinv; obtain ⟨u78, hinv⟩ := hinv; obtain ⟨u79, hinv⟩ := hinv; obtain ⟨u80, hinv⟩ := hinv; obtain ⟨u81, hinv⟩ := hinv; obtain ⟨u82, hinv⟩ := hinv; obtain ⟨u83, hinv⟩ := hinv; obtain ⟨u84, hinv⟩ := hinv; obtain ⟨u85, hinv⟩ := hinv; obtain ⟨u86, hinv⟩ := hinv; obtain ⟨u87, hinv⟩ := hinv; obtain ⟨u88, hinv⟩ := hinv; obtain ⟨u89, hinv⟩ := hinv; obtain ⟨u90, hinv⟩ := hinv; obtain ⟨u91, hinv⟩ := hinv; obtain ⟨u92, hinv⟩ := hinv; obtain ⟨u93, hinv⟩ := hinv; obtain ⟨u94, hinv⟩ := hinv; obtain ⟨u95, hinv⟩ := hinv; obtain ⟨u96, hinv⟩ := hinv; obtain ⟨u97, hinv⟩ := hinv; obtain ⟨u98, hinv⟩ := hinv; obtain ⟨u99, hinv⟩ := hinv; obtain ⟨u100, hinv⟩ := hinv; obtain ⟨u101, hinv⟩ := hinv; obtain ⟨u102, hinv⟩ := hinv; obtain ⟨u103, hinv⟩ := hinv; obtain ⟨u104, hinv⟩ := hinv; obtain ⟨u105, hinv⟩ := hinv; obtain ⟨u106, hinv⟩ := hinv; obtain ⟨u107, hinv⟩ := hinv; obtain ⟨u108, hinv⟩ := hinv; obtain ⟨u109, hinv⟩ := hinv; obtain ⟨u110, hinv⟩ := hinv; obtain ⟨u111, hinv⟩ := hinv; obtain ⟨u112, hinv⟩ := hinv; obtain ⟨u113, hinv⟩ := hinv; obtain ⟨u114, hinv⟩ := hinv; obtain ⟨u115, hinv⟩ := hinv; obtain ⟨u116, hinv⟩ := hinv; obtain ⟨u117, hinv⟩ := hinv; obtain ⟨u118, hinv⟩ := hinv; obtain ⟨u119, hinv⟩ := hinv; obtain ⟨u120, hinv⟩ := hinv; obtain ⟨u121, hinv⟩ := hinv; obtain ⟨u122, hinv⟩ := hinv; obtain ⟨u123, hinv⟩ := hinv; obtain ⟨u124, hinv⟩ := hinv; obtain ⟨u125, hinv⟩ := hinv; obtain ⟨u126, hinv⟩ := hinv; obtain ⟨u127, hinv⟩ := hinv; obtain ⟨u128, hinv⟩ := hinv; obtain ⟨u129, hinv⟩ := hinv; obtain ⟨u130, hinv⟩ := hinv; obtain ⟨u131, hinv⟩ := hinv; obtain ⟨u132, hinv⟩ := hinv; obtain ⟨u133, hinv⟩ := hinv; obtain ⟨u134, hinv⟩ := hinv; obtain ⟨u135, hinv⟩ := hinv; obtain ⟨u136, hinv⟩ := hinv; obtain ⟨u137, hinv⟩ := hinv; obtain ⟨u138, hinv⟩ := hinv; obtain ⟨u139, hinv⟩ := hinv; obtain ⟨u140, hinv⟩ := hinv; obtain ⟨u141, hinv⟩ := hinv; obtain ⟨u142, hinv⟩ := hinv; obtain ⟨u143, hinv⟩ := hinv; obtain ⟨u144, hinv⟩ := hinv; obtain ⟨u145, hinv⟩ := hinv; obtain ⟨u146, hinv⟩ := hinv; obtain ⟨u147, hinv⟩ := hinv; obtain ⟨u148, hinv⟩ := hinv; obtain ⟨u149, hinv⟩ := hinv; obtain ⟨u150, hinv⟩ := hinv; obtain ⟨u151, hinv⟩ := hinv; obtain ⟨u152, hinv⟩ := hinv; obtain ⟨u153, hinv⟩ := hinv; obtain ⟨u154, hinv⟩ := hinv; obtain ⟨u155, hinv⟩ := hinv; obtain ⟨u156, hinv⟩ := hinv; obtain ⟨u157, hinv⟩ := hinv; obtain ⟨u158, hinv⟩ := hinv; obtain ⟨u159, hinv⟩ := hinv; obtain ⟨u160, hinv⟩ := hinv; obtain ⟨u161, hinv⟩ := hinv; obtain ⟨u162, hinv⟩ := hinv
        obtain ⟨ds, v17, ⟨t, tb, rfl, ht, htG, gT, bG, MK⟩, hact⟩ := hinv
        subst hact
        have hzT := lt_of_block gT
        have cT := blk_cell (l := [_]) gT 0 rfl
        have fT := blk_free gT 0
        by_cases ht2 : t < 2
        · have kt : (t : Int) < 2 := by omega
          go_upto_block 2 with fail
          generalize hW8 : World.alloc _ _ = W8
          obtain ⟨bn, hbn⟩ : ∃ q, q = wr.heap.size := ⟨_, rfl⟩
          have gN : W8.heap[bn]? = some (.cells #[.int .i64 0] 3 (0, 0)) := by rw [← hW8, hbn]; exact heap_new _ _
          have b8 : Below wr.heap.size wr W8 := by rw [← hW8]; exact (Below.refl _ wr).alloc (Nat.le_refl _) _
          have gTr := Lib.hid gT
          have gT := blk_below gT b8 hzT
          have bW8 := bG.trans (b8.mono (by have := bG.size; omega))
          have MK8 := (MK.below b8).le b8.size
          have htn : tb < bn := by rw [hbn]; exact hzT
          rw [← hbn]
          have hGW : G < W8.heap.size := by have := lt_of_block gT; omega
          have hnW := lt_of_block gN
          clear hW8 hbn b8 MK bG cT fT hzT
          refine wp_cut (fun a' w' => ∃ (ds' : List Deferred), (∃ z : Nat, w'.heap[bn]? = some (.cells #[.int .i64 z] 3 (0, 0)) ∧ (t ≠ 0 → z = n) ∧ w'.heap[tb]? = some (.cells #[.int .i64 t] 3 (0, 0)) ∧ Below G w7 w' ∧ Marks G w' w'.heap.size ds') ∧ a' = { tmps := #[.slice a0 len0 cap0, .int .i64 a1, .int .i64 a2, .agg C.toArray, undef, undef, .pointer (some ⟨w.heap.size, 0, none⟩), .pointer (some ⟨(w.heap.size + 1), 0, none⟩), .pointer (some ⟨(w.heap.size + 1 + 1), 0, none⟩), .pointer (some ⟨p, 0, none⟩), .pointer (some ⟨JB, 0, none⟩), .bool true, (.func (.func 53) #[] #[.pointer (some ⟨AB, 0, none⟩)]), .nilFunc, .int .i64 2, .pointer (some ⟨NB, 0, none⟩), .int .i64 2, .pointer (some ⟨tb, 0, none⟩), .pointer (some ⟨bn, 0, none⟩), u19, u20, u21, u22, u23, u24, u25, u26, u27, u28, u29, u30, u31, u32, u33, u34, u35, u36, u37, u38, u39, u40, u41, u42, u43, u44, u45, u46, u47, u48, u49, u50, u51, u52, u53, u54, u55, u56, u57, u58, u59, u60, u61, u62, u63, u64, u65, u66, u67, u68, u69, u70, u71, u72, u73, u74, u75, .int .i64 t, .bool true, u78, u79, (.func (.func 53) #[] #[.pointer (some ⟨AB, 0, none⟩)]), u81, u82, u83, u84, u85, u86, u87, u88, u89, u90, u91, u92, u93, u94, u95, u96, u97, u98, u99, u100, u101, u102, u103, u104, u105, u106, u107, u108, u109, u110, u111, u112, u113, u114, u115, u116, u117, u118, u119, u120, u121, u122, u123, u124, u125, u126, u127, u128, u129, u130, u131, u132, u133, u134, u135, u136, u137, u138, u139, u140, u141, u142, u143, u144, u145, u146, u147, u148, u149, u150, u151, u152, u153, u154, u155, u156, u157, u158, u159, u160, u161, u162], defers := ds' }) ?_ ?_
          · rintro _ wc ⟨ds, ⟨z, gN1, hzn, gT1, bG1, MK1⟩, ha⟩
            subst ha
            (try dsimp only)
            have cN1 := blk_cell (l := [_]) gN1 0 rfl
            have cT1 := blk_cell (l := [_]) gT1 0 rfl
            have cJ1 := blk_cell (l := [_]) (JV.out wc bG1) 0 rfl
            clear gN gT bW8 MK8 hGW hnW
            have zz : ((t : Int) == 1) = false ∨ (((t : Int) == 1) = true ∧ ((z : Int) != (n : Int)) = false) := by
              by_cases h : t = 1
              · exact .inr ⟨by simp [h], by rw [hzn (by omega)]; simp⟩
              · exact .inl (by simp; omega)
            have HZN := Lib.hid hzn
            have HC1 := Lib.hid bG1
            clear hzn
            go_upto_region 23 with fail
            go_cut [117] from 76 to 162 (fun v117 wx => v117 = .bool false ∧ wx = wc)
            case first => rcases zz with z1 | ⟨z1, z2⟩ <;> (go_wp2_with fail; go_meet; exact ⟨rfl, rfl⟩)
            case rest =>
              obtain ⟨rfl, rfl⟩ := hcut
              clear zz
              have wt : IntKind.i64.wrap ((t : Int) + 1) = (t : Int) + 1 := IntWalk.i64_in _ (by omega)
              have MKh := Lib.hid MK1
              clear MK1
              go_wp2_with fail
              have kA : Below wc.heap.size wc (wc.alloc (.cells #[.int .i64 ((t : Int) + 1)] 3)) := (Below.refl _ wc).alloc (Nat.le_refl _) _
              have gW := heap_new wc (.cells #[.int .i64 ((t : Int) + 1)] 3)
              have ea : ((t : Int) + 1) = ((t + 1 : Nat) : Int) := by omega
              have hGc : G ≤ wc.heap.size := by have := lt_of_block gT1; omega
              refine ⟨?_, ?measure⟩
              (repeat apply Exists.intro)
              refine ⟨?rel, rfl⟩
              case rel => exact ⟨t + 1, wc.heap.size, rfl, by omega, hGc, by rw [← ea]; exact gW, bG1.trans (kA.mono hGc), (MKh.out.below kA).le kA.size⟩
              case measure =>
                have c1 := blk_cell (l := [_]) gW 0 rfl
                have b1 := boxInt_is c1
                have d1 := blk_cell (l := [_]) gTr.out 0 rfl
                have b2 := boxInt_is d1
                show 2 - boxInt _ (.pointer (some ⟨wc.heap.size, 0, none⟩)) < 2 - boxInt _ (.pointer (some ⟨tb, 0, none⟩))
                rw [b1, b2]
                omega
          · intro _ _ _ _
            go_wp2_with fail
            have hseq := all1_seq 4 G AB A n n vs W8 (by omega) (by omega) (Nat.le_of_lt hGW) (ABV.out W8 bW8) (RA.out W8 bW8) HFD.out
            refine (wpIn_wide (n := 5)).1 ?_
            refine range_own (F := Fence.wide) rfl (by omega) (gf := 53) (lb := #[.pointer (some ⟨AB, 0, none⟩)]) rfl trivial (enters_of Try.func53 (by kernel_rfl) rfl) hseq (fun h k => h.trans k)
              (fun V l' o o' hl h hc => (Below.refl _ V).grown (grownBy_putObj' V l' o') (by have := (Array.getElem?_eq_some_iff.1 h).1; omega) (fun k e => by cases e; omega)) (fun x => rfl)
              (fun pre V => Below G W8 V ∧ (V.heap[bn]? = some (.cells #[.int .i64 (pre.length : Nat)] 3 (0, 0)) ∧ (V.heap[tb]? = some (.cells #[.int .i64 t] 3 (0, 0)) ∧ Marks G V W8.heap.size ds)))
              (fun c pre V => c = .exit 2 ∧ (t = 0 ∧ (Below G W8 V ∧ (V.heap[bn]? = some (.cells #[.int .i64 (pre.length : Nat)] 3 (0, 0)) ∧ (V.heap[tb]? = some (.cells #[.int .i64 t] 3 (0, 0)) ∧ Marks G V W8.heap.size ds)))))
              (fun x a' V => ∃ Bx, W8.heap.size ≤ Bx ∧ V.heap[Bx]? = some (.cells x.2.cells.toArray 32 (0, 0)) ∧ a' = { tmps := #[.slice a0 len0 cap0, .int .i64 a1, .int .i64 a2, .agg C.toArray, undef, undef, .pointer (some ⟨w.heap.size, 0, none⟩), .pointer (some ⟨(w.heap.size + 1), 0, none⟩), .pointer (some ⟨(w.heap.size + 1 + 1), 0, none⟩), .pointer (some ⟨p, 0, none⟩), .pointer (some ⟨JB, 0, none⟩), .bool true, (.func (.func 53) #[] #[.pointer (some ⟨AB, 0, none⟩)]), .nilFunc, .int .i64 2, .pointer (some ⟨NB, 0, none⟩), .int .i64 2, .pointer (some ⟨tb, 0, none⟩), .pointer (some ⟨bn, 0, none⟩), .int .i64 x.1, .pointer (some ⟨Bx, 0, none⟩), u21, u22, u23, u24, u25, u26, u27, u28, u29, u30, u31, u32, u33, u34, u35, u36, u37, u38, u39, u40, u41, u42, u43, u44, u45, u46, u47, u48, u49, u50, u51, u52, u53, u54, u55, u56, u57, u58, u59, u60, u61, u62, u63, u64, u65, u66, u67, u68, u69, u70, u71, u72, u73, u74, u75, .int .i64 t, .bool true, u78, u79, (.func (.func 53) #[] #[.pointer (some ⟨AB, 0, none⟩)]), .int .i64 x.1, x.2.val, u83, u84, u85, u86, u87, u88, u89, u90, u91, u92, u93, u94, u95, u96, u97, u98, u99, u100, u101, u102, u103, u104, u105, u106, u107, u108, u109, u110, u111, u112, u113, u114, u115, u116, u117, u118, u119, u120, u121, u122, u123, u124, u125, u126, u127, u128, u129, u130, u131, u132, u133, u134, u135, u136, u137, u138, u139, u140, u141, u142, u143, u144, u145, u146, u147, u148, u149, u150, u151, u152, u153, u154, u155, u156, u157, u158, u159, u160, u161, u162], defers := [] })
              ?hI ?hIx ?hPr ?hAx ?h0 ?assign ?body ?done ?stop
            case hI => exact OwnFrom.and (ownFrom_below (Nat.le_of_lt hGW) (Nat.le_of_lt hGW)) (OwnFrom.and (fun s X Y row hs hg hr => blk_own (β := Unit) _ bn _ _ () X Y row hs hg hr) (OwnFrom.and (blk_own _ _ _ _) (marks_own (Nat.le_refl _))))
            case hIx => exact fun c => OwnFrom.and (ownFrom_pure _ _) (OwnFrom.and (ownFrom_pure _ _) (OwnFrom.and (ownFrom_below (Nat.le_of_lt hGW) (Nat.le_of_lt hGW)) (OwnFrom.and (fun s X Y row hs hg hr => blk_own (β := Unit) _ bn _ _ () X Y row hs hg hr) (OwnFrom.and (blk_own _ _ _ _) (marks_own (Nat.le_refl _))))))
            case hPr => exact fun pre => Lg.PrA.own _ vs pre
            case hAx =>
              rintro a' x X Y row ⟨Bx, e1, e2, e3⟩ hg hr
              exact ⟨Bx, e1, blk_own (β := Unit) _ Bx _ _ () X Y row e2 hg hr, e3⟩
            case h0 => exact ⟨Below.refl _ _, gN, gT, MK8⟩
            case assign =>
              rintro l' pre x V K ⟨hBn, hg, htb, hmk⟩ hpr hK
              have hzV := hBn.size
              have z1 : x.2.cells.toArray.size = 13 := rfl
              have HPR := Lib.hid hpr
              clear hpr
              simp only [Lg.encNR]
              gi_wp2_with (refine wpListIn_store_row rfl 32 _ _ rfl V.heap.size x.2.cells.toArray rfl rfl 32 _ (heap_new V (.cells #[.int .i64 0, .int .i64 0, .int .i64 0, .int .i64 0, .int .i64 0, .int .i64 0, .int .i64 0, .int .i64 0, .int .i64 0, .int .i64 0, .int .i64 0, .slice none 0 0, .int .u32 0] 32 (0, 0))) (by rw [z1]; kernel_rfl) z1.symm (rv_ones x.2) ?_)
              have kx := setRow_heap (V.alloc (.cells #[.int .i64 0, .int .i64 0, .int .i64 0, .int .i64 0, .int .i64 0, .int .i64 0, .int .i64 0, .int .i64 0, .int .i64 0, .int .i64 0, .int .i64 0, .slice none 0 0, .int .u32 0] 32 (0, 0))) V.heap.size #[.int .i64 0, .int .i64 0, .int .i64 0, .int .i64 0, .int .i64 0, .int .i64 0, .int .i64 0, .int .i64 0, .int .i64 0, .int .i64 0, .int .i64 0, .slice none 0 0, .int .u32 0] x.2.cells.toArray 32 (0, 0) (heap_new V (.cells #[.int .i64 0, .int .i64 0, .int .i64 0, .int .i64 0, .int .i64 0, .int .i64 0, .int .i64 0, .int .i64 0, .int .i64 0, .int .i64 0, .int .i64 0, .slice none 0 0, .int .u32 0] 32 (0, 0)))
              have bx : Below V.heap.size V ((V.alloc (.cells #[.int .i64 0, .int .i64 0, .int .i64 0, .int .i64 0, .int .i64 0, .int .i64 0, .int .i64 0, .int .i64 0, .int .i64 0, .int .i64 0, .int .i64 0, .slice none 0 0, .int .u32 0] 32 (0, 0))).setRow V.heap.size x.2.cells.toArray) := below_setRow ((Below.refl V.heap.size V).alloc (Nat.le_refl _) _) (Nat.le_refl _) _
              obtain ⟨p1, p2, p5⟩ := HPR.out
              exact hK _ _ (keepsFrom_below bx) (bx.mono (by omega)) ⟨hBn.trans (bx.mono (by omega)), blk_below hg bx (lt_of_block hg), blk_below htb bx (lt_of_block htb), hmk.below bx⟩ ⟨p1, p2, p5.up bx⟩ ⟨V.heap.size, hzV, kx, rfl⟩
            case stop =>
              rintro D c' pre V hD hsp ⟨rfl, ht0, hBn, hg, htb, hmk⟩ hDf
              have MKn := Lib.hid (show Marks G V V.heap.size ({ target := .collected D, args := #[] } :: ds) from ⟨D, rfl, by omega, (Array.getElem?_eq_some_iff.1 hDf).1, hDf, hmk.le hD⟩)
              have HZ := Lib.hid (show ∃ z : Nat, V.heap[bn]? = some (.cells #[.int .i64 z] 3 (0, 0)) ∧ (t ≠ 0 → z = n) ∧ V.heap[tb]? = some (.cells #[.int .i64 t] 3 (0, 0)) ∧ Below G w7 V ∧ bn < V.heap.size from ⟨pre.length, hg, fun h => absurd ht0 h, htb, bW8.trans hBn, lt_of_block hg⟩)
              clear hDf hmk hg htb hsp ht0 hBn
              refine wpIn_wide.2 ?_
              go_wp2_with fail
              go_meet
              obtain ⟨z, h1, h2, h3, h4, h5⟩ := HZ.out
              exact ⟨z, h1, h2, h3, h4, MKn.out⟩
            case done =>
              rintro D ys V hD hys ⟨hBn, hg, htb, hmk⟩ hDf
              have MKn := Lib.hid (show Marks G V V.heap.size ({ target := .collected D, args := #[] } :: ds) from ⟨D, rfl, by omega, (Array.getElem?_eq_some_iff.1 hDf).1, hDf, hmk.le hD⟩)
              have HZ := Lib.hid (show ∃ z : Nat, V.heap[bn]? = some (.cells #[.int .i64 z] 3 (0, 0)) ∧ (t ≠ 0 → z = n) ∧ V.heap[tb]? = some (.cells #[.int .i64 t] 3 (0, 0)) ∧ Below G w7 V ∧ bn < V.heap.size from ⟨ys.length, hg, fun _ => hys, htb, bW8.trans hBn, lt_of_block hg⟩)
              clear hDf hmk hg htb hys hBn hseq
              go_wp2_with fail
              go_meet
              obtain ⟨z, h1, h2, h3, h4, h5⟩ := HZ.out
              exact ⟨z, h1, h2, h3, h4, MKn.out⟩
            case body =>
              rintro l' pre x a' V ⟨hBn, hg, htb, hmk⟩ ⟨p1, p3, p5⟩ ⟨Bx, hBx, hbx, rfl⟩ hlt
              have hzV := hBn.size
              have bV : Below G w7 V := bW8.trans hBn
              have jV := JV.out V bV
              have sV := SV.out V bV
              have RJV := Lib.hid (RJ.out V bV)
              obtain ⟨k, hk⟩ : ∃ k, k = pre.length := ⟨_, rfl⟩
              obtain ⟨i, hi⟩ : ∃ i, i = pre.length := ⟨_, rfl⟩
              have hkn : k < n := by rw [hk]; exact hlt
              have hin : i < n := by rw [hi]; exact hlt
              obtain ⟨b2, o2, hS, hb2l, hcy, hoy⟩ := RJV.out.at_ hin
              obtain ⟨y, hy⟩ : ∃ y, y = us.getD i Lg.rv0 := ⟨_, rfl⟩
              rw [← hy] at hcy hoy
              rw [hS] at jV
              have hxy : x.2.x = y.x := by
                rw [p3, hy, ← hi, ← Lg.xs_at (by rw [HVN.out]; exact hin), ← Lg.xs_at (by rw [RJV.out.len]; exact hin), LJ.out.eq]
              obtain ⟨CX, hval, hCX, hCs⟩ := rv_opaque x.2
              have HVAL := Lib.hid hval
              have HXY := Lib.hid hxy
              have OKX := Lib.hid p5
              have OKY := Lib.hid (hoy.more (Nat.le_trans (Nat.le_of_lt hGW) hzV))
              have HY := Lib.hid hcy
              have SM := Lib.hid (show ∀ W : World, Below V.heap.size V W → Calls Try.prog 36 #[.agg CX, .agg y.cells.toArray] W fun e w' => e = .returned (.bool true) ∧ Below W.heap.size W w' from fun W hW => by
                have := rsameR_any x.2 y W (OKX.out.up hW) (OKY.out.up hW)
                rw [HVAL.out, HXY.out, Lg.sameR_refl] at this
                exact this)
              have hb2l : b2 < V.heap.size := by omega
              have hx1 : x.1 = k := by rw [hk]; exact p1
              have hik : k = i := by rw [hi, hk]
              rw [hval, hx1]
              rw [hCX] at hbx
              rw [← hk] at hg
              subst hik
              have hki := hi
              have HK := Lib.hid hk
              have wk : IntKind.i64.wrap ((k : Int) + 1) = (k : Int) + 1 := IntWalk.i64_in _ (by omega)
              have km : (k : Int) < (n : Int) := by omega
              have kk0 : (0 : Int) ≤ (k : Int) := by omega
              have kk1 : (0 : Int) ≤ (k : Int) := by omega
              have km3 : ¬ n ≤ k := by omega
              clear p1 p3 p5 hx1 hki hi hk hy hcy hoy hxy hval hCX hS hlt
              gi_wp2
              (try refine wpIn_block ?_)
              refine region_round (S := fun w' => w'.heap[JB]? = some (.cells #[.slice (some ⟨b2, o2, none⟩) n c2] 45 (0, 0)) ∧ w'.heap[Bx]? = some (.cells CX 32 (0, 0)) ∧ w'.heap[bn]? = some (.cells #[.int .i64 k] 3 (0, 0)) ∧ (∀ (j : Nat) (u : Value), y.cells[j]? = some u → w'.cell? ⟨b2, o2 + k * 13 + j, none⟩ = some u) ∧ True ∧ True) (by kernel_rfl) (by kernel_rfl) (by rintro ⟨a, w, h⟩; exact h) ⟨jV, hbx, hg, HY.out, trivial, trivial⟩ ?_
              intro h0
              refine wpAnyH_take (i := 0) (v := ?_) rfl (by kernel_rfl) (by kernel_rfl) (by kernel_rfl) (fun _ _ _ h => h) (Or.inl ⟨by rfl, ?_⟩) h0 ?_
              rotate_left
              focus (intro w' hSw; skip; go_simp; (try with_reducible rfl))
              (try simp only [List.getElem_toArray, List.getElem_cons_succ, List.getElem_cons_zero, Act.put, List.setIfInBounds_toArray, List.set_cons_zero, List.set_cons_succ])
              refine wpAnyH_take (i := 1) (v := ?_) rfl (by kernel_rfl) (by kernel_rfl) (by kernel_rfl) (fun _ _ _ h => h) (Or.inl ⟨by rfl, ?_⟩) h0 ?_
              rotate_left
              focus (intro w' hSw; have ck' : w'.cell? ⟨bn, 0, none⟩ = some (.int .i64 k) := blk_cell (l := [_]) hSw.2.2.1 0 rfl; go_simp; (try with_reducible rfl))
              (try simp only [List.getElem_toArray, List.getElem_cons_succ, List.getElem_cons_zero, Act.put, List.setIfInBounds_toArray, List.set_cons_zero, List.set_cons_succ])
              refine wpAnyH_take (i := 2) (v := .bool false) rfl (by kernel_rfl) (by kernel_rfl) (by kernel_rfl) (fun _ _ _ h => h) (Or.inl ⟨by rfl, ?_⟩) h0 ?_
              focus (intro w' hSw; skip; go_simp; (try simp only [decide_eq_false km3, Bool.not_true]); (try with_reducible rfl); (try simp); done)
              (try simp only [List.getElem_toArray, List.getElem_cons_succ, List.getElem_cons_zero, Act.put, List.setIfInBounds_toArray, List.set_cons_zero, List.set_cons_succ])
              refine wpAnyH_take (i := 3) (v := ?_) rfl (by kernel_rfl) (by kernel_rfl) (by kernel_rfl) (fun _ _ _ h => h) (Or.inl ⟨by rfl, ?_⟩) h0 ?_
              rotate_left
              focus (intro w' hSw; skip; go_simp; (try with_reducible rfl))
              (try simp only [List.getElem_toArray, List.getElem_cons_succ, List.getElem_cons_zero, Act.put, List.setIfInBounds_toArray, List.set_cons_zero, List.set_cons_succ])
              refine wpAnyH_take (i := 4) (v := ?_) rfl (by kernel_rfl) (by kernel_rfl) (by kernel_rfl) (fun _ _ _ h => h) (Or.inl ⟨by rfl, ?_⟩) h0 ?_
              rotate_left
              focus (intro w' hSw; have ck' : w'.cell? ⟨bn, 0, none⟩ = some (.int .i64 k) := blk_cell (l := [_]) hSw.2.2.1 0 rfl; go_simp; (try with_reducible rfl))
              (try simp only [List.getElem_toArray, List.getElem_cons_succ, List.getElem_cons_zero, Act.put, List.setIfInBounds_toArray, List.set_cons_zero, List.set_cons_succ])
              refine wpAnyH_take (i := 5) (v := ?_) rfl (by kernel_rfl) (by kernel_rfl) (by kernel_rfl) (fun _ _ _ h => h) (Or.inl ⟨by rfl, ?_⟩) h0 ?_
              rotate_left
              focus (intro w' hSw; have cj' : w'.cell? ⟨JB, 0, none⟩ = some (.slice (some ⟨b2, o2, none⟩) n c2) := blk_cell (l := [_]) hSw.1 0 rfl; go_simp; (try with_reducible rfl))
              (try simp only [List.getElem_toArray, List.getElem_cons_succ, List.getElem_cons_zero, Act.put, List.setIfInBounds_toArray, List.set_cons_zero, List.set_cons_succ])
              refine wpAnyH_take (i := 6) (v := ?_) rfl (by kernel_rfl) (by kernel_rfl) (by kernel_rfl) (fun _ _ _ h => h) (Or.inl ⟨by rfl, ?_⟩) h0 ?_
              rotate_left
              focus (intro w' hSw; skip; go_simp; (try with_reducible rfl))
              (try simp only [List.getElem_toArray, List.getElem_cons_succ, List.getElem_cons_zero, Act.put, List.setIfInBounds_toArray, List.set_cons_zero, List.set_cons_succ])
              refine wpAnyH_take (i := 7) (v := .bool false) rfl (by kernel_rfl) (by kernel_rfl) (by kernel_rfl) (fun _ _ _ h => h) (Or.inl ⟨by rfl, ?_⟩) h0 ?_
              focus (intro w' hSw; skip; go_simp; (try simp only [decide_eq_false km3, Bool.not_true]); (try with_reducible rfl); (try simp); done)
              (try simp only [List.getElem_toArray, List.getElem_cons_succ, List.getElem_cons_zero, Act.put, List.setIfInBounds_toArray, List.set_cons_zero, List.set_cons_succ])
              refine wpAnyH_take (i := 8) (v := ?_) rfl (by kernel_rfl) (by kernel_rfl) (by kernel_rfl) (fun _ _ _ h => h) (Or.inl ⟨by rfl, ?_⟩) h0 ?_
              rotate_left
              focus (intro w' hSw; skip; go_simp; (try with_reducible rfl))
              (try simp only [List.getElem_toArray, List.getElem_cons_succ, List.getElem_cons_zero, Act.put, List.setIfInBounds_toArray, List.set_cons_zero, List.set_cons_succ])
              refine wpAnyH_take (i := 9) (v := ?_) rfl (by kernel_rfl) (by kernel_rfl) (by kernel_rfl) (fun _ _ _ h => h) (Or.inl ⟨by rfl, ?_⟩) h0 ?_
              rotate_left
              focus (intro w' hSw; skip; go_simp; (try with_reducible rfl))
              (try simp only [List.getElem_toArray, List.getElem_cons_succ, List.getElem_cons_zero, Act.put, List.setIfInBounds_toArray, List.set_cons_zero, List.set_cons_succ])
              refine wpAnyH_take (i := 10) (v := .agg CX) rfl (by kernel_rfl) (by kernel_rfl) (by kernel_rfl) (fun _ _ _ h => h) (yields_load_row (by rfl) 32 _ rfl Bx rfl 32 _ (0, 0) _ (fun w' hS => hS.2.1) Try.underlying32 rfl (by rw [hCs]; kernel_rfl)) h0 ?_
              (try simp only [List.getElem_toArray, List.getElem_cons_succ, List.getElem_cons_zero, Act.put, List.setIfInBounds_toArray, List.set_cons_zero, List.set_cons_succ])
              refine wpAnyH_take (i := 11) (v := ?_) rfl (by kernel_rfl) (by kernel_rfl) (by kernel_rfl) (fun _ _ _ h => h) (Or.inl ⟨by rfl, ?_⟩) h0 ?_
              rotate_left
              focus (intro w' hSw; have cj' : w'.cell? ⟨JB, 0, none⟩ = some (.slice (some ⟨b2, o2, none⟩) n c2) := blk_cell (l := [_]) hSw.1 0 rfl; go_simp; (try with_reducible rfl))
              (try simp only [List.getElem_toArray, List.getElem_cons_succ, List.getElem_cons_zero, Act.put, List.setIfInBounds_toArray, List.set_cons_zero, List.set_cons_succ])
              refine wpAnyH_take (i := 12) (v := ?_) rfl (by kernel_rfl) (by kernel_rfl) (by kernel_rfl) (fun _ _ _ h => h) (Or.inl ⟨by rfl, ?_⟩) h0 ?_
              rotate_left
              focus (intro w' hSw; have ck' : w'.cell? ⟨bn, 0, none⟩ = some (.int .i64 k) := blk_cell (l := [_]) hSw.2.2.1 0 rfl; go_simp; (try with_reducible rfl))
              (try simp only [List.getElem_toArray, List.getElem_cons_succ, List.getElem_cons_zero, Act.put, List.setIfInBounds_toArray, List.set_cons_zero, List.set_cons_succ])
              refine wpAnyH_take (i := 13) (v := ?_) rfl (by kernel_rfl) (by kernel_rfl) (by kernel_rfl) (fun _ _ _ h => h) (Or.inl ⟨by rfl, ?_⟩) h0 ?_
              rotate_left
              focus (intro w' hSw; skip; go_simp; (try with_reducible rfl))
              (try simp only [List.getElem_toArray, List.getElem_cons_succ, List.getElem_cons_zero, Act.put, List.setIfInBounds_toArray, List.set_cons_zero, List.set_cons_succ])
              refine wpAnyH_take (i := 14) (v := .agg y.cells.toArray) rfl (by kernel_rfl) (by kernel_rfl) (by kernel_rfl) (fun _ _ _ h => h) (yields_load_at (by rfl) 32 _ rfl b2 (o2 + k * 13) rfl _ _ (fun w' hS => hS.2.2.2.1) Try.underlying32 rfl (by rw [Lg.RV.len]; kernel_rfl)) h0 ?_
              (try simp only [List.getElem_toArray, List.getElem_cons_succ, List.getElem_cons_zero, Act.put, List.setIfInBounds_toArray, List.set_cons_zero, List.set_cons_succ])
              refine wpAnyH_ready (rs := [15]) (by kernel_rfl) (by simp) ?_
              refine AllReadyH.cons rfl (fun K hK => ?_) AllReadyH.nil
              go_simp
              refine (SM.out _ (Below.refl _ V).drew).mono ?_
              rintro e w5 ⟨rfl, hb5⟩
              go_wp2_with fail
              refine hK.out _ _ ?_ (fun h1 => ?_)
              · exact ⟨(hb5.block JB (lt_of_block jV)).trans jV, (hb5.block Bx (lt_of_block hbx)).trans hbx, (hb5.block bn (lt_of_block hg)).trans hg, (fun j u hj => (hb5.cell (p := ⟨b2, o2 + k * 13 + j, none⟩) hb2l).trans (HY.out j u hj)), trivial, trivial⟩
              clear hK K
              (try simp only [List.getElem_toArray, List.getElem_cons_succ, List.getElem_cons_zero, Act.put, List.setIfInBounds_toArray, List.set_cons_zero, List.set_cons_succ])
              refine wpAnyH_take (i := 16) (v := ?_) rfl (by kernel_rfl) (by kernel_rfl) (by kernel_rfl) (fun _ _ _ h => h) (Or.inl ⟨by rfl, ?_⟩) h1 ?_
              rotate_left
              focus (intro w' hSw; skip; go_simp; (try with_reducible rfl))
              (try simp only [List.getElem_toArray, List.getElem_cons_succ, List.getElem_cons_zero, Act.put, List.setIfInBounds_toArray, List.set_cons_zero, List.set_cons_succ])
              refine wpAnyH_take (i := 17) (v := ?_) rfl (by kernel_rfl) (by kernel_rfl) (by kernel_rfl) (fun _ _ _ h => h) (Or.inl ⟨by rfl, ?_⟩) h1 ?_
              rotate_left
              focus (intro w' hSw; skip; go_simp; (try with_reducible rfl))
              (try simp only [List.getElem_toArray, List.getElem_cons_succ, List.getElem_cons_zero, Act.put, List.setIfInBounds_toArray, List.set_cons_zero, List.set_cons_succ])
              refine wpAnyH_done (by kernel_rfl) ?_ _
              have bV5 : Below V.heap.size V w5 := (Below.refl _ V).drew.trans hb5
              have hg5 := blk_below hg bV5 (lt_of_block hg)
              have ht5 := blk_below htb bV5 (lt_of_block htb)
              have hs5 := blk_below sV bV5 (lt_of_block sV)
              skip
              have hmk5 := hmk.below bV5
              have hB5 : Below G W8 w5 := hBn.trans (bV5.mono (by omega))
              have cG5 := blk_cell (l := [_]) hg5 0 rfl
              have fG5 := blk_free hg5 0
              have cT5 := blk_cell (l := [_]) (blk_far (a := ⟨bn, 0, none⟩) ht5 (by show tb ≠ bn; omega) (.int .i64 ((k : Int) + 1))) 0 rfl
              have cS5 := blk_cell (l := [_]) (blk_far (a := ⟨bn, 0, none⟩) hs5 (by show w.heap.size ≠ bn; omega) (.int .i64 ((k : Int) + 1))) 0 rfl
              have cN5 := blk_cell (l := [_]) (blk_set hg5 0 (.int .i64 ((k : Int) + 1))) 0 rfl
              have HKF := Lib.hid (keepsFrom_below (B := W8.heap.size) bV5)
              have hlen : (((pre ++ [x]).length : Nat) : Int) = (k : Int) + 1 := by rw [List.length_append, List.length_singleton, ← HK.out]; omega
              have HLN := Lib.hid hlen
              have I5 := Lib.hid (show Below G W8 (w5.setCell ⟨bn, 0, none⟩ (.int .i64 ((k : Int) + 1))) ∧ (w5.setCell ⟨bn, 0, none⟩ (.int .i64 ((k : Int) + 1))).heap[bn]? = some (.cells #[.int .i64 ((pre ++ [x]).length : Nat)] 3 (0, 0)) ∧ (w5.setCell ⟨bn, 0, none⟩ (.int .i64 ((k : Int) + 1))).heap[tb]? = some (.cells #[.int .i64 t] 3 (0, 0)) ∧ Marks G (w5.setCell ⟨bn, 0, none⟩ (.int .i64 ((k : Int) + 1))) W8.heap.size ds from ⟨hB5.setCell (p := ⟨bn, 0, none⟩) (by show G ≤ bn; omega) _, by rw [HLN.out]; exact blk_set hg5 0 _, blk_far ht5 (by show tb ≠ bn; omega) _, hmk5.setCell hg5 _ _⟩)
              have K5 := Lib.hid (show KeepsFrom W8.heap.size V (w5.setCell ⟨bn, 0, none⟩ (.int .i64 ((k : Int) + 1))) from HKF.out.trans (kf_setCell (by show bn < W8.heap.size; omega)))
              have KQ5 := Lib.hid (show Below G V (w5.setCell ⟨bn, 0, none⟩ (.int .i64 ((k : Int) + 1))) from (bV5.mono (by omega)).setCell (p := ⟨bn, 0, none⟩) (by show G ≤ bn; omega) _)
              have HT := Lib.hid ht2
              clear hb5 h0 h1 jV hbx hg hg5 ht5 hs5 hmk5 hlen htb sV 
              have hcase : t = 0 ∨ t = 1 := by have := HT.out; omega
              rcases hcase with rfl | rfl
              · by_cases hbr : (k : Int) + 1 = a2
                · have zb : (((k : Int) + 1) == a2) = true := by simp [hbr]
                  clear hbr
                  gi_wp2
                  first | exact ⟨K5.out, rfl, rfl, I5.out⟩ | exact ⟨K5.out, rfl, I5.out⟩ | exact ⟨K5.out, I5.out⟩
                · have zb : (((k : Int) + 1) == a2) = false := by simp [hbr]
                  clear hbr
                  gi_wp2
                  exact ⟨K5.out, KQ5.out, I5.out⟩
              · have z10 : ((((1 : Nat) : Int)) == 0) = false := rfl
                gi_wp2
                exact ⟨K5.out, KQ5.out, I5.out⟩
        · obtain rfl : t = 2 := by omega
          have kt : ¬ ((2 : Nat) : Int) < 2 := by omega
          have rR := RV.out wr bG
          have BR := B7.out.trans (bG.mono (by omega))
          go_wp2_with fail
          refine (known_true _).mono ?_
          rintro _ w9 ⟨rfl, hb9⟩
          have r9 := blk_below rR hb9 (lt_of_block rR)
          have c9 := blk_cell (l := [_]) r9 0 rfl
          have f9 := blk_free r9 0
          have m9 := (MK.below hb9).setCell r9 0 (.bool true)
          have B9 := (BR.trans (hb9.mono BR.size)).setCell (p := ⟨w.heap.size + 1 + 1, 0, none⟩) (by show w.heap.size ≤ w.heap.size + 1 + 1; omega) (.bool true)
          go_wp2_with fail
          exact leaves_marks ds _ _ m9 (fun V' hbV hc => ⟨_, results_c1 rfl _ _ (w.heap.size + 1 + 1) (.bool true) _ rfl (blk_cell (l := [_]) (hc _ _ _ _ (blk_set r9 0 _)) 0 rfl) Try.underlying4 rfl, rfl, B9.trans (hbV.mono (by omega))⟩)
theorem walk (a0 : Option Addr) (len0 cap0 : Nat) (l0 : List AV) (a1 : Int) (a2 : Int) (y3 : AV) (w : World) (w0 : Ra w w.heap.size a0 len0 l0) (r0 : Room a0 len0 cap0) (f0 : ∀ y ∈ l0, GaOk y.x) (w1 : (Lit.int .i64 a1).wf = true) (w2 : (Lit.int .i64 a2).wf = true) (f3 : GaOk y3.x) (w3 : AvOk w w.heap.size y3) :
    Calls Try.prog 8 #[.slice a0 len0 cap0, .int .i64 a1, .int .i64 a2, y3.val] w fun e w' => e = .returned (.bool true) ∧ Below w.heap.size w w' := by
  cases hc : fewB l0 30
  · exact walk_no a0 len0 cap0 l0 a1 a2 y3 w w0 r0 f0 w1 w2 f3 w3 (.inl hc)
  · cases hd : fewB [y3] 1
    · exact walk_no a0 len0 cap0 l0 a1 a2 y3 w w0 r0 f0 w1 w2 f3 w3 (.inr ⟨hc, .inl hd⟩)
    · by_cases hs : a2 < 1
      · exact walk_no a0 len0 cap0 l0 a1 a2 y3 w w0 r0 f0 w1 w2 f3 w3 (.inr ⟨hc, .inr ⟨hd, hs⟩⟩)
      · exact walk_yes a0 len0 cap0 l0 a1 a2 y3 w w0 r0 f0 w1 w2 f3 w3 hc hd hs
theorem own : ownKnob Try.prog.godebug = none := by kernel_rfl
theorem laidOut : laidOutB Try.prog = true := by kernel_rfl
set_option maxRecDepth 100000 in
theorem lifted (os : Os) (started : os.Started) (H : Type) (enc : TypeId × Value → H) :
    ReturnsInHanded {} Try.checked os 8 .any (Rows.flightlogListsSpec.pre6 enc Try.prog Try.f8 Rows.flightlogListsRow.domain false) (Rows.flightlogListsSpec.post enc Try.prog Try.f8 false true false false) := by
  refine returnsInHanded_of_change (C := Try.checked) own started (by kernel_rfl) Try.func8
    (ChangeSpec.witness6 (enc := enc) (C := Try.checked) false ⟨#[], #[.slice none 0 0, .int .i64 0, .int .i64 0, .agg #[.int .i64 0, .int .i64 0, .int .i64 0, .int .i64 0, .int .i64 0, .int .i64 0, .int .i64 0, .int .i64 0, .int .i64 0, .int .i64 0, .int .i64 0, .slice none 0 0]], []⟩ 8 (by kernel_rfl) (by kernel_rfl) (by kernel_rfl) (by kernel_rfl)) ?_
  intro W base args ds gs before hval0 hW hcnd _
  have hval : ∀ (j : Nat) t v, Try.f8.params[j]? = some t → args[j]? = some v → Value.okWide Try.prog W .any base t v := hval0
  have hW' := hW
  obtain ⟨p, q, hA0, hV, rfl, hfz, hnd⟩ := hW
  have hA : DataW.TrodAll enc Try.prog W 0 (fun _ => true) true Try.f8.params.toList args.toList ds p := hA0
  rw [Try.params8] at hA hval
  obtain ⟨v0, vs0, d0, ds0, p0, q0, hargs, rfl, rfl, h0, r0⟩ := trodAll_cons hA
  obtain ⟨v1, vs1, d1, ds1, p1, q1, rfl, rfl, rfl, h1, r1⟩ := trodAll_cons r0
  obtain ⟨v2, vs2, d2, ds2, p2, q2, rfl, rfl, rfl, h2, r2⟩ := trodAll_cons r1
  obtain ⟨v3, vs3, d3, ds3, p3, q3, rfl, rfl, rfl, h3, r3⟩ := trodAll_cons r2
  obtain ⟨rfl, rfl, rfl⟩ := trodAll_nil r3
  obtain rfl : args = #[v0, v1, v2, v3] := by cases args; simp_all
  obtain ⟨rfl, rfl⟩ := trodVars_none hV
  have k0 := h0
  have lt0 : ∀ x ∈ p0, x.block < W.heap.size := by obtain ⟨m, hm⟩ := k0; exact DataW.trod_lt m _ _ _ hm
  obtain ⟨a0, len0, cap0, rfl⟩ := okWide_slice Try.underlying78 (hval 0 78 v0 rfl rfl)
  obtain ⟨fuel0, hf0⟩ := h0
  obtain ⟨xa0, xlen0, xcap0, l0, xe0, ro0, wo0, fo0⟩ := gacts_of hf0
  obtain ⟨rfl, rfl, rfl⟩ : a0 = xa0 ∧ len0 = xlen0 ∧ cap0 = xcap0 := by injection xe0 with e1 e2 e3; exact ⟨e1, e2, e3⟩
  have k1 := h1
  have lt1 : ∀ x ∈ p1, x.block < W.heap.size := by obtain ⟨m, hm⟩ := k1; exact DataW.trod_lt m _ _ _ hm
  obtain ⟨a1, rfl, _, _, w1⟩ := open_int Try.underlying3 (hval 1 3 v1 rfl rfl) h1
  have k2 := h2
  have lt2 : ∀ x ∈ p2, x.block < W.heap.size := by obtain ⟨m, hm⟩ := k2; exact DataW.trod_lt m _ _ _ hm
  obtain ⟨a2, rfl, _, _, w2⟩ := open_int Try.underlying3 (hval 2 3 v2 rfl rfl) h2
  have k3 := h3
  have lt3 : ∀ x ∈ p3, x.block < W.heap.size := by obtain ⟨m, hm⟩ := k3; exact DataW.trod_lt m _ _ _ hm
  obtain ⟨y3, rfl, fo3, wo3⟩ := gact_of (hval 3 83 v3 rfl rfl) h3
  clear hA0 hval0
  refine (walk a0 len0 cap0 l0 a1 a2 y3 W wo0 ro0 fo0 w1 w2 fo3 wo3).mono fun e W' ⟨he, bel⟩ => ?_
  subst he
  exact ⟨_, rfl, _, _, _, [], _, [], hW', trodAll_mk1 (shut_bool Try.underlying4 _), (trodAll_cons_mk (Below.trod laidOut (by kernel_rfl) (of_decide_eq_true (by kernel_rfl)) k0 bel lt0) (trodAll_cons_mk (Below.trod laidOut (by kernel_rfl) (of_decide_eq_true (by kernel_rfl)) k1 bel lt1) (trodAll_cons_mk (Below.trod laidOut (by kernel_rfl) (of_decide_eq_true (by kernel_rfl)) k2 bel lt2) (trodAll_cons_mk (Below.trod laidOut (by kernel_rfl) (of_decide_eq_true (by kernel_rfl)) k3 bel lt3) trodAll_mk0)))), rfl, bel.frame _, fun h => by cases h⟩
theorem over : Rows.flightlogListsRow.holds Try.pinned (OpenSpec.ofChange Rows.flightlogListsSpec) :=
  OpenClaim.holds_of_wide 8 Try.f8 rfl rfl rfl rfl rfl rfl rfl ⟨rfl, rfl, rfl, rfl, rfl⟩ rfl rfl rfl rfl rfl (by kernel_rfl) Try.func8 (by kernel_rfl)
    (of_decide_eq_true (by kernel_rfl)) (by unfold Func.isWrapper; first | (rw [if_pos (by decide +kernel)]; kernel_rfl) | (rw [if_neg (by decide +kernel)]; exact ⟨rfl, rfl⟩))
    (fun os started H enc _ => lifted os started H enc)
theorem proved : Rows.FlightlogListsSaid := over
end Go.Proofs.Ytgmejplcdecmkaa.lawFlightlogLists

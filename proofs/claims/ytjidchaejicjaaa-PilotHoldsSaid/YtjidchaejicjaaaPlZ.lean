/- few; made. -/
import Derived.Test.YtjidchaejicjaaaPlY
namespace Go.Proofs.Ytjidchaejicjaaa
open Go.RowKit
set_option maxHeartbeats 4000000
set_option maxRecDepth 100000
set_option linter.unusedSimpArgs false
set_option linter.unusedVariables false
attribute [local go_sem ↓] Go.wp_at_zero Go.wp_at_succ
def okA (a : LAct) : Bool := decide (a.f.d.length ≤ 100)
def fewB (l : List LAct) (most : Nat) : Bool := decide (l.length ≤ most) && l.all okA
theorem few_any (A : Option Addr) (n cap most B : Nat) (l : List LAct) (w : World) (h : LRf w B A n l) (hn : n ≤ 9223372036854775807) (hm : most ≤ 1000) :
    Calls Try.prog 9 #[.slice A n cap, .int .i64 most] w fun e w' => e = .returned (.bool (fewB l most)) ∧ w = w' := by
  have hl := h.1
  by_cases hnm : most < n
  · have E := Lib.hid (show fewB l most = false by unfold fewB; rw [decide_eq_false (by omega)]; rfl)
    clear h hl
    go_enter Try.func9, Try.ntmps9
    go_wp2_with fail
    go_ret
    exact ⟨ret_bool E.out.symm, rfl⟩
  · have H := Lib.hid h
    have HL := Lib.hid hl
    have hn2 : n ≤ 1000 := by omega
    clear h hl hn
    go_enter Try.func9, Try.ntmps9
    go_wp2_with fail
    go_loop [5] (fun s => ∃ j : Nat, s = .int .i64 j ∧ j ≤ n ∧ Hid (∀ i, i < j → okA (l.getD i la0) = true)) (fun s => n - (intOf s).toNat)
    case atStart => exact ⟨0, by go_num, by omega, Lib.hid (fun i hi => absurd hi (by omega))⟩
    case round =>
      obtain ⟨j, rfl, hj, HA⟩ := hrel
      by_cases hlt : j < n
      · obtain ⟨b, o, rfl, hb, hc⟩ := H.out.2 (by omega)
        obtain ⟨E', ce, c0, c1, c2, c3, c4, c5, _, c7⟩ := hc j hlt
        obtain ⟨x, hx⟩ : ∃ x, x = l.getD j la0 := ⟨_, rfl⟩
        rw [← hx] at c5 c7
        have hlen := c7.1
        have hcm := c7.2.1
        unfold maxLen at hcm
        have HX := Lib.hid hx
        have hjn : (j : Int) < (n : Int) := by omega
        clear hc c0 c1 c2 c3 c4 c7 hx
        have NO := Lib.hid (show okA x = false → fewB l most = false from fun ho => by
          have hm' : x ∈ l := by rw [HX.out]; simp [List.getD, List.getElem?_eq_getElem (show j < l.length by rw [HL.out]; exact hlt)]
          unfold fewB
          have : l.all okA = false := by rw [List.all_eq_false]; exact ⟨x, hm', by rw [ho]; simp⟩
          rw [this]; simp)
        by_cases h2 : 100 < x.f.d.length
        · have E := Lib.hid (NO.out (by unfold okA; rw [decide_eq_false (show ¬ x.f.d.length ≤ 100 by omega)]))
          go_wp2_with fail
          go_ret
          exact ⟨ret_bool E.out.symm, rfl⟩
        · have Y := Lib.hid (show okA x = true by unfold okA; rw [decide_eq_true (by omega)])
          go_wp2_with fail
          go_round
          case rel => exact ⟨j + 1, by go_num, by omega, Lib.hid (fun i hi => by
            rcases Nat.lt_or_ge i j with h | h
            · exact HA.out i h
            · obtain rfl : i = j := by omega
              rw [← HX.out]; exact Y.out)⟩
          case measure => simp [intOf]; omega
      · obtain rfl : j = n := by omega
        have E := Lib.hid (show fewB l most = true by
          unfold fewB
          rw [decide_eq_true (by rw [HL.out]; omega), Bool.true_and, List.all_eq_true]
          intro x hx
          obtain ⟨i, hi, rfl⟩ := List.getElem_of_mem hx
          have := HA.out i (by rw [← HL.out]; exact hi)
          simpa [List.getD, List.getElem?_eq_getElem hi] using this)
        go_wp2_with fail
        go_ret
        exact ⟨ret_bool E.out.symm, rfl⟩
theorem made_no (id lost ret desc late every d : Int) (w : World) (h : Plt.newE id lost ret desc late every d ≠ 0) :
    Calls Try.prog 19 #[.int .i64 id, .agg #[.int .i64 lost, .int .i64 ret, .int .i64 desc, .int .i64 late, .int .i64 every], .int .i64 d] w fun e w' => e = .returned (.tuple #[.pointer none, .agg (rag rzero).toArray, .bool true]) ∧ Below w.heap.size w w' := by
  have N1 := Lib.hid (fun W : World => pnew_no id lost ret desc late every d W h)
  have N2 := Lib.hid (fun W : World => rpnew_no id lost ret desc late every d W h)
  clear h
  go_enter Try.func19, Try.ntmps19; go_upto_region 1 with fail; generalize hV : World.alloc _ _ = V; have kr : V.heap[w.heap.size]? = some (.cells #[.int .i64 lost, .int .i64 ret, .int .i64 desc, .int .i64 late, .int .i64 every] 23 (0, 0)) := (by rw [← hV]; exact blk_alloc (heap_new _ _) _); have k2 : RB V (w.heap.size + 1) rzero := (by rw [← hV]; exact heap_new' _ _ _ (by simp)); have HB := Lib.hid (show Below w.heap.size w V from by rw [← hV]; exact (by repeat (first | (with_reducible exact Below.refl _ _) | (with_reducible refine Below.drew ?_) | (with_reducible refine below_drewN ?_ _) | ((with_reducible refine Below.alloc ?_ ?_ _); rotate_left; (first | omega | (simp <;> omega)); rotate_right) | ((with_reducible refine Below.setCell ?_ ?_ _); rotate_left; (first | omega | (simp <;> omega)); rotate_right) | (with_reducible assumption) | (refine Below.trans ?_ (Below.mono (by assumption) ?_); rotate_left; (first | omega | (simp <;> omega)); rotate_right)))); clear hV; (have cf_0 := blk_cell kr 0 rfl; have ff_0 := blk_free kr 0; have cf_1 := blk_cell kr 1 rfl; have ff_1 := blk_free kr 1; have cf_2 := blk_cell kr 2 rfl; have ff_2 := blk_free kr 2; have cf_3 := blk_cell kr 3 rfl; have ff_3 := blk_free kr 3; have cf_4 := blk_cell kr 4 rfl; have ff_4 := blk_free kr 4; have lf := lt_of_block kr); have KR := Lib.hid kr; clear kr; go_wp2_with fail
  refine (N1.out _).mono ?_
  rintro e W1 ⟨rfl, hb1⟩
  have jr := blk_below KR.out hb1 (lt_of_block KR.out); have i2 := blk_below k2 hb1 (lt_of_block k2); have HB1 := Lib.hid (HB.out.trans (hb1.mono HB.out.size)); (clear cf_0 ff_0 cf_1 ff_1 cf_2 ff_2 cf_3 ff_3 cf_4 ff_4); clear KR k2 HB; have KR := Lib.hid jr; have k2 := i2; have HB := HB1; clear i2 HB1
  clear hb1
  have cf_0 := blk_cell jr 0 rfl; have ff_0 := blk_free jr 0; have cf_1 := blk_cell jr 1 rfl; have ff_1 := blk_free jr 1; have cf_2 := blk_cell jr 2 rfl; have ff_2 := blk_free jr 2; have cf_3 := blk_cell jr 3 rfl; have ff_3 := blk_free jr 3; have cf_4 := blk_cell jr 4 rfl; have ff_4 := blk_free jr 4; have lf := lt_of_block jr
  clear jr
  go_wp2_with fail
  refine (N2.out _).mono ?_
  rintro e W2 ⟨rfl, hb1⟩
  have jr := blk_below KR.out hb1 (lt_of_block KR.out); have i2 := blk_below k2 hb1 (lt_of_block k2); have HB1 := Lib.hid (HB.out.trans (hb1.mono HB.out.size)); (clear cf_0 ff_0 cf_1 ff_1 cf_2 ff_2 cf_3 ff_3 cf_4 ff_4); clear KR k2 HB; have KR := Lib.hid jr; have k2 := i2; have HB := HB1; clear i2 HB1
  clear jr
  have hz2 : w.heap.size + 1 < W2.heap.size := lt_of_block k2
  have i2 := blk_alloc k2 (.cells (rag rzero).toArray 54 (0, 0))
  have j2 := heap_new W2 (.cells (rag rzero).toArray 54 (0, 0))
  have HB3 := Lib.hid (HB.out.alloc HB.out.size (.cells (rag rzero).toArray 54 (0, 0)))
  clear hb1 k2 HB
  (go_upto_region 3 with (refine wpList_store_row rfl 54 _ _ rfl _ _ rfl rfl 54 _ j2 (by kernel_rfl) rfl (rag_one rzero) ?_))
  generalize hW : World.setRow _ _ _ = W3
  have g0 : RB W3 W2.heap.size rzero := by rw [← hW]; exact setRow_heap _ _ _ _ _ _ j2
  have g2 : RB W3 (w.heap.size + 1) rzero := by rw [← hW]; exact (setRow_other _ _ _ _ (by omega)).trans i2
  have HB4 := Lib.hid (show Below w.heap.size w W3 by rw [← hW]; exact below_setRow HB3.out (by omega) _)
  clear hW i2 j2 HB3
  obtain ⟨R, hR⟩ : ∃ R, R = W2.heap.size := ⟨_, rfl⟩
  rw [← hR] at g0 hz2 ⊢
  clear hR
  refine wp_region_held_drew (S := fun w' => RB w' R rzero ∧ True) (by kernel_rfl) ?_ (fun h0 => ?_)
  · exact ⟨g0, trivial⟩
  refine wpAnyH_take (i := 0) (v := ?_) rfl (by kernel_rfl) (by kernel_rfl) (by kernel_rfl) (fun _ _ _ h => h) (Or.inl ⟨by rfl, ?_⟩) h0 ?_
  rotate_left
  focus (intro w' hSw; skip; go_simp; (try with_reducible rfl))
  (try simp only [List.getElem_toArray, List.getElem_cons_succ, List.getElem_cons_zero, Act.put, List.setIfInBounds_toArray, List.set_cons_zero, List.set_cons_succ])
  refine wpAnyH_take (i := 1) (v := .agg (rag rzero).toArray) rfl (by kernel_rfl) (by kernel_rfl) (by kernel_rfl) (fun _ _ _ h => h) (yields_load_row (by rfl) 54 _ rfl R rfl 54 _ (0, 0) _ (fun w' h => h.1) Try.underlying54 rfl (by kernel_rfl)) h0 ?_
  (try simp only [List.getElem_toArray, List.getElem_cons_succ, List.getElem_cons_zero, Act.put, List.setIfInBounds_toArray, List.set_cons_zero, List.set_cons_succ])
  refine wpAnyH_take (i := 2) (v := ?_) rfl (by kernel_rfl) (by kernel_rfl) (by kernel_rfl) (fun _ _ _ h => h) (Or.inl ⟨by rfl, ?_⟩) h0 ?_
  rotate_left
  focus (intro w' hSw; skip; go_simp; (try with_reducible rfl))
  (try simp only [List.getElem_toArray, List.getElem_cons_succ, List.getElem_cons_zero, Act.put, List.setIfInBounds_toArray, List.set_cons_zero, List.set_cons_succ])
  refine wpAnyH_take (i := 3) (v := ?_) rfl (by kernel_rfl) (by kernel_rfl) (by kernel_rfl) (fun _ _ _ h => h) (Or.inl ⟨by rfl, ?_⟩) h0 ?_
  rotate_left
  focus (intro w' hSw; skip; go_simp; (try with_reducible rfl))
  (try simp only [List.getElem_toArray, List.getElem_cons_succ, List.getElem_cons_zero, Act.put, List.setIfInBounds_toArray, List.set_cons_zero, List.set_cons_succ])
  refine wpAnyH_take (i := 4) (v := ?_) rfl (by kernel_rfl) (by kernel_rfl) (by kernel_rfl) (fun _ _ _ h => h) (Or.inl ⟨by rfl, ?_⟩) h0 ?_
  rotate_left
  focus (intro w' hSw; skip; go_simp; (try with_reducible rfl))
  (try simp only [List.getElem_toArray, List.getElem_cons_succ, List.getElem_cons_zero, Act.put, List.setIfInBounds_toArray, List.set_cons_zero, List.set_cons_succ])
  refine wpAnyH_take (i := 5) (v := ?_) rfl (by kernel_rfl) (by kernel_rfl) (by kernel_rfl) (fun _ _ _ h => h) (Or.inl ⟨by rfl, ?_⟩) h0 ?_
  rotate_left
  focus (intro w' hSw; skip; go_simp; (try with_reducible rfl))
  (try simp only [List.getElem_toArray, List.getElem_cons_succ, List.getElem_cons_zero, Act.put, List.setIfInBounds_toArray, List.set_cons_zero, List.set_cons_succ])
  refine wpAnyH_take (i := 6) (v := ?_) rfl (by kernel_rfl) (by kernel_rfl) (by kernel_rfl) (fun _ _ _ h => h) (Or.inl ⟨by rfl, ?_⟩) h0 ?_
  rotate_left
  focus (intro w' hSw; skip; go_simp; (try with_reducible rfl))
  (try simp only [List.getElem_toArray, List.getElem_cons_succ, List.getElem_cons_zero, Act.put, List.setIfInBounds_toArray, List.set_cons_zero, List.set_cons_succ])
  refine wpAnyH_take (i := 7) (v := ?_) rfl (by kernel_rfl) (by kernel_rfl) (by kernel_rfl) (fun _ _ _ h => h) (Or.inl ⟨by rfl, ?_⟩) h0 ?_
  rotate_left
  focus (intro w' hSw; skip; go_simp; (try with_reducible rfl))
  (try simp only [List.getElem_toArray, List.getElem_cons_succ, List.getElem_cons_zero, Act.put, List.setIfInBounds_toArray, List.set_cons_zero, List.set_cons_succ])
  refine wpAnyH_take (i := 8) (v := ?_) rfl (by kernel_rfl) (by kernel_rfl) (by kernel_rfl) (fun _ _ _ h => h) (Or.inl ⟨by rfl, ?_⟩) h0 ?_
  rotate_left
  focus (intro w' hSw; skip; go_simp; (try with_reducible rfl))
  (try simp only [List.getElem_toArray, List.getElem_cons_succ, List.getElem_cons_zero, Act.put, List.setIfInBounds_toArray, List.set_cons_zero, List.set_cons_succ])
  refine wpAnyH_take (i := 9) (v := ?_) rfl (by kernel_rfl) (by kernel_rfl) (by kernel_rfl) (fun _ _ _ h => h) (Or.inl ⟨by rfl, ?_⟩) h0 ?_
  rotate_left
  focus (intro w' hSw; skip; go_simp; (try with_reducible rfl))
  (try simp only [List.getElem_toArray, List.getElem_cons_succ, List.getElem_cons_zero, Act.put, List.setIfInBounds_toArray, List.set_cons_zero, List.set_cons_succ])
  refine wpAnyH_take (i := 10) (v := ?_) rfl (by kernel_rfl) (by kernel_rfl) (by kernel_rfl) (fun _ _ _ h => h) (Or.inl ⟨by rfl, ?_⟩) h0 ?_
  rotate_left
  focus (intro w' hSw; skip; go_simp; (try with_reducible rfl))
  (try simp only [List.getElem_toArray, List.getElem_cons_succ, List.getElem_cons_zero, Act.put, List.setIfInBounds_toArray, List.set_cons_zero, List.set_cons_succ])
  refine wpAnyH_take (i := 11) (v := ?_) rfl (by kernel_rfl) (by kernel_rfl) (by kernel_rfl) (fun _ _ _ h => h) (Or.inl ⟨by rfl, ?_⟩) h0 ?_
  rotate_left
  focus (intro w' hSw; skip; go_simp; (try with_reducible rfl))
  (try simp only [List.getElem_toArray, List.getElem_cons_succ, List.getElem_cons_zero, Act.put, List.setIfInBounds_toArray, List.set_cons_zero, List.set_cons_succ])
  refine wpAnyH_take (i := 12) (v := ?_) rfl (by kernel_rfl) (by kernel_rfl) (by kernel_rfl) (fun _ _ _ h => h) (Or.inl ⟨by rfl, ?_⟩) h0 ?_
  rotate_left
  focus (intro w' hSw; skip; go_simp; (try with_reducible rfl))
  (try simp only [List.getElem_toArray, List.getElem_cons_succ, List.getElem_cons_zero, Act.put, List.setIfInBounds_toArray, List.set_cons_zero, List.set_cons_succ])
  refine wpAnyH_take (i := 13) (v := ?_) rfl (by kernel_rfl) (by kernel_rfl) (by kernel_rfl) (fun _ _ _ h => h) (Or.inl ⟨by rfl, ?_⟩) h0 ?_
  rotate_left
  focus (intro w' hSw; skip; go_simp; (try with_reducible rfl))
  (try simp only [List.getElem_toArray, List.getElem_cons_succ, List.getElem_cons_zero, Act.put, List.setIfInBounds_toArray, List.set_cons_zero, List.set_cons_succ])
  refine wpAnyH_take (i := 14) (v := ?_) rfl (by kernel_rfl) (by kernel_rfl) (by kernel_rfl) (fun _ _ _ h => h) (Or.inl ⟨by rfl, ?_⟩) h0 ?_
  rotate_left
  focus (intro w' hSw; skip; go_simp; (try with_reducible rfl))
  (try simp only [List.getElem_toArray, List.getElem_cons_succ, List.getElem_cons_zero, Act.put, List.setIfInBounds_toArray, List.set_cons_zero, List.set_cons_succ])
  refine wpAnyH_take (i := 15) (v := ?_) rfl (by kernel_rfl) (by kernel_rfl) (by kernel_rfl) (fun _ _ _ h => h) (Or.inl ⟨by rfl, ?_⟩) h0 ?_
  rotate_left
  focus (intro w' hSw; skip; go_simp; (try with_reducible rfl))
  (try simp only [List.getElem_toArray, List.getElem_cons_succ, List.getElem_cons_zero, Act.put, List.setIfInBounds_toArray, List.set_cons_zero, List.set_cons_succ])
  refine wpAnyH_take (i := 16) (v := undef) rfl (by kernel_rfl) (by kernel_rfl) (by kernel_rfl) (fun _ _ _ h => h) (Or.inr ⟨by rfl, rfl⟩) h0 ?_
  (try simp only [List.getElem_toArray, List.getElem_cons_succ, List.getElem_cons_zero, Act.put, List.setIfInBounds_toArray, List.set_cons_zero, List.set_cons_succ])
  refine wpAnyH_take (i := 17) (v := undef) rfl (by kernel_rfl) (by kernel_rfl) (by kernel_rfl) (fun _ _ _ h => h) (Or.inr ⟨by rfl, rfl⟩) h0 ?_
  (try simp only [List.getElem_toArray, List.getElem_cons_succ, List.getElem_cons_zero, Act.put, List.setIfInBounds_toArray, List.set_cons_zero, List.set_cons_succ])
  refine wpAnyH_take (i := 18) (v := undef) rfl (by kernel_rfl) (by kernel_rfl) (by kernel_rfl) (fun _ _ _ h => h) (Or.inr ⟨by rfl, rfl⟩) h0 ?_
  (try simp only [List.getElem_toArray, List.getElem_cons_succ, List.getElem_cons_zero, Act.put, List.setIfInBounds_toArray, List.set_cons_zero, List.set_cons_succ])
  refine wpAnyH_take (i := 19) (v := ?_) rfl (by kernel_rfl) (by kernel_rfl) (by kernel_rfl) (fun _ _ _ h => h) (Or.inl ⟨by rfl, ?_⟩) h0 ?_
  rotate_left
  focus (intro w' hSw; skip; go_simp; (try with_reducible rfl))
  (try simp only [List.getElem_toArray, List.getElem_cons_succ, List.getElem_cons_zero, Act.put, List.setIfInBounds_toArray, List.set_cons_zero, List.set_cons_succ])
  refine wpAnyH_take (i := 20) (v := ?_) rfl (by kernel_rfl) (by kernel_rfl) (by kernel_rfl) (fun _ _ _ h => h) (Or.inl ⟨by rfl, ?_⟩) h0 ?_
  rotate_left
  focus (intro w' hSw; skip; go_simp; (try with_reducible rfl))
  (try simp only [List.getElem_toArray, List.getElem_cons_succ, List.getElem_cons_zero, Act.put, List.setIfInBounds_toArray, List.set_cons_zero, List.set_cons_succ])
  refine wpAnyH_take (i := 21) (v := ?_) rfl (by kernel_rfl) (by kernel_rfl) (by kernel_rfl) (fun _ _ _ h => h) (Or.inl ⟨by rfl, ?_⟩) h0 ?_
  rotate_left
  focus (intro w' hSw; skip; go_simp; (try with_reducible rfl))
  (try simp only [List.getElem_toArray, List.getElem_cons_succ, List.getElem_cons_zero, Act.put, List.setIfInBounds_toArray, List.set_cons_zero, List.set_cons_succ])
  refine wpAnyH_ready (rs := [22]) (by kernel_rfl) (by simp) ?_
  refine AllReadyH.cons rfl (fun K hK => ?_) AllReadyH.nil
  refine wp_store_row 54 _ _ rfl _ _ rfl rfl 54 _ (g2) (by kernel_rfl) rfl (rag_one _) ?_
  refine hK.out _ _ ?_ (fun h1 => ?_)
  · exact ⟨(setRow_other _ _ _ _ (by omega)).trans h0.1, trivial⟩
  clear hK K
  (try simp only [List.getElem_toArray, List.getElem_cons_succ, List.getElem_cons_zero, Act.put, List.setIfInBounds_toArray, List.set_cons_zero, List.set_cons_succ])
  refine wpAnyH_take (i := 23) (v := ?_) rfl (by kernel_rfl) (by kernel_rfl) (by kernel_rfl) (fun _ _ _ h => h) (Or.inl ⟨by rfl, ?_⟩) h1 ?_
  rotate_left
  focus (intro w' hSw; skip; go_simp; (try with_reducible rfl))
  (try simp only [List.getElem_toArray, List.getElem_cons_succ, List.getElem_cons_zero, Act.put, List.setIfInBounds_toArray, List.set_cons_zero, List.set_cons_succ])
  refine wpAnyH_done (by kernel_rfl) ?_ _
  go_wp2_with fail
  exact bodyPost_ret (results_tct rfl _ _ _ _ _ (0, 0) _ rfl (setRow_heap _ _ _ _ _ _ g2) Try.underlying54 rfl (by kernel_rfl)) rfl ⟨rfl, below_setRow HB4.out.drew (by omega) _⟩
def MadePost (s : Plt.St) (w : World) (e : Ending) (w' : World) : Prop := ∃ b c, e = .returned (.tuple #[.pointer (some ⟨b, 0, none⟩), .agg (rag s).toArray, .bool true]) ∧ IsP w' w.heap.size b c s ∧ Below w.heap.size w w'
theorem made_yes (id lost ret desc late every d : Int) (w : World) (h : Plt.newE id lost ret desc late every d = 0) :
    Calls Try.prog 19 #[.int .i64 id, .agg #[.int .i64 lost, .int .i64 ret, .int .i64 desc, .int .i64 late, .int .i64 every], .int .i64 d] w (MadePost (Plt.new id lost ret desc late every d) w) := by
  have N1 := Lib.hid (fun W : World => pnew_yes id lost ret desc late every d W h)
  have N2 := Lib.hid (fun W : World => rpnew_yes id lost ret desc late every d W h)
  have hs0 := Plt.new_inv h
  obtain ⟨s, hs⟩ : ∃ s, s = Plt.new id lost ret desc late every d := ⟨_, rfl⟩
  rw [← hs] at N1 N2 hs0 ⊢
  clear h hs
  go_enter Try.func19, Try.ntmps19; go_upto_region 1 with fail; generalize hV : World.alloc _ _ = V; have kr : V.heap[w.heap.size]? = some (.cells #[.int .i64 lost, .int .i64 ret, .int .i64 desc, .int .i64 late, .int .i64 every] 23 (0, 0)) := (by rw [← hV]; exact blk_alloc (heap_new _ _) _); have k2 : RB V (w.heap.size + 1) rzero := (by rw [← hV]; exact heap_new' _ _ _ (by simp)); have HB := Lib.hid (show Below w.heap.size w V from by rw [← hV]; exact (by repeat (first | (with_reducible exact Below.refl _ _) | (with_reducible refine Below.drew ?_) | (with_reducible refine below_drewN ?_ _) | ((with_reducible refine Below.alloc ?_ ?_ _); rotate_left; (first | omega | (simp <;> omega)); rotate_right) | ((with_reducible refine Below.setCell ?_ ?_ _); rotate_left; (first | omega | (simp <;> omega)); rotate_right) | (with_reducible assumption) | (refine Below.trans ?_ (Below.mono (by assumption) ?_); rotate_left; (first | omega | (simp <;> omega)); rotate_right)))); clear hV; (have cf_0 := blk_cell kr 0 rfl; have ff_0 := blk_free kr 0; have cf_1 := blk_cell kr 1 rfl; have ff_1 := blk_free kr 1; have cf_2 := blk_cell kr 2 rfl; have ff_2 := blk_free kr 2; have cf_3 := blk_cell kr 3 rfl; have ff_3 := blk_free kr 3; have cf_4 := blk_cell kr 4 rfl; have ff_4 := blk_free kr 4; have lf := lt_of_block kr); have KR := Lib.hid kr; clear kr; go_wp2_with fail
  refine (N1.out _).mono ?_
  rintro e W1 ⟨b, c, rfl, hp1, hb1⟩
  have HP1 := Lib.hid hp1
  have hzV := HB.out.size
  clear hp1
  have jr := blk_below KR.out hb1 (lt_of_block KR.out); have i2 := blk_below k2 hb1 (lt_of_block k2); have HB1 := Lib.hid (HB.out.trans (hb1.mono HB.out.size)); (clear cf_0 ff_0 cf_1 ff_1 cf_2 ff_2 cf_3 ff_3 cf_4 ff_4); clear KR k2 HB; have KR := Lib.hid jr; have k2 := i2; have HB := HB1; clear i2 HB1
  clear hb1
  have cf_0 := blk_cell jr 0 rfl; have ff_0 := blk_free jr 0; have cf_1 := blk_cell jr 1 rfl; have ff_1 := blk_free jr 1; have cf_2 := blk_cell jr 2 rfl; have ff_2 := blk_free jr 2; have cf_3 := blk_cell jr 3 rfl; have ff_3 := blk_free jr 3; have cf_4 := blk_cell jr 4 rfl; have ff_4 := blk_free jr 4; have lf := lt_of_block jr
  clear jr
  go_wp2_with fail
  refine (N2.out _).mono ?_
  rintro e W2 ⟨rfl, hb1⟩
  have HP2 := Lib.hid (HP1.out.below hb1 (Nat.le_refl _))
  clear HP1
  have jr := blk_below KR.out hb1 (lt_of_block KR.out); have i2 := blk_below k2 hb1 (lt_of_block k2); have HB1 := Lib.hid (HB.out.trans (hb1.mono HB.out.size)); (clear cf_0 ff_0 cf_1 ff_1 cf_2 ff_2 cf_3 ff_3 cf_4 ff_4); clear KR k2 HB; have KR := Lib.hid jr; have k2 := i2; have HB := HB1; clear i2 HB1
  clear jr
  have hz2 : w.heap.size + 1 < W2.heap.size := lt_of_block k2
  have i2 := blk_alloc k2 (.cells (rag rzero).toArray 54 (0, 0))
  have j2 := heap_new W2 (.cells (rag rzero).toArray 54 (0, 0))
  have HB3 := Lib.hid (HB.out.alloc HB.out.size (.cells (rag rzero).toArray 54 (0, 0)))
  have HP3 := Lib.hid (HP2.out.alloc (.cells (rag rzero).toArray 54 (0, 0)))
  have hbl := HP2.out.lt
  clear hb1 k2 HB HP2
  (go_upto_region 3 with (refine wpList_store_row rfl 54 _ _ rfl _ _ rfl rfl 54 _ j2 (by kernel_rfl) rfl (rag_one _) ?_))
  generalize hW : World.setRow _ _ _ = W3
  have g0 : RB W3 W2.heap.size s := by rw [← hW]; exact setRow_heap _ _ _ _ _ _ j2
  have g2 : RB W3 (w.heap.size + 1) rzero := by rw [← hW]; exact (setRow_other _ _ _ _ (by omega)).trans i2
  have HB4 := Lib.hid (show Below w.heap.size w W3 by rw [← hW]; exact below_setRow HB3.out (by omega) _)
  have HP4 := Lib.hid (show IsP W3 w.heap.size b c s by rw [← hW]; exact ⟨(setRow_other _ _ _ _ (by omega)).trans HP3.out.blk, (setRow_other _ _ _ _ (by omega)).trans HP3.out.clk, by have := HP3.out.ge; omega⟩)
  clear hW i2 j2 HB3 HP3 hbl
  have hne : b ≠ w.heap.size + 1 ∧ c ≠ w.heap.size + 1 := ⟨Ty.ne ⟨_, HP4.out.blk⟩ ⟨_, g2⟩ (by decide), Ty.ne ⟨_, HP4.out.clk⟩ ⟨_, g2⟩ (by decide)⟩
  have SH := Lib.hid (fun (W : World) (hW : IsP W w.heap.size b c s) => shows_yes hW hs0)
  obtain ⟨R, hR⟩ : ∃ R, R = W2.heap.size := ⟨_, rfl⟩
  rw [← hR] at g0 hz2 ⊢
  clear hR hs0
  refine wp_region_held_drew (S := fun w' => RB w' R s ∧ True) (by kernel_rfl) ?_ (fun h0 => ?_)
  · exact ⟨g0, trivial⟩
  refine wpAnyH_take (i := 0) (v := ?_) rfl (by kernel_rfl) (by kernel_rfl) (by kernel_rfl) (fun _ _ _ h => h) (Or.inl ⟨by rfl, ?_⟩) h0 ?_
  rotate_left
  focus (intro w' hSw; skip; go_simp; (try with_reducible rfl))
  (try simp only [List.getElem_toArray, List.getElem_cons_succ, List.getElem_cons_zero, Act.put, List.setIfInBounds_toArray, List.set_cons_zero, List.set_cons_succ])
  refine wpAnyH_take (i := 1) (v := .agg (rag s).toArray) rfl (by kernel_rfl) (by kernel_rfl) (by kernel_rfl) (fun _ _ _ h => h) (yields_load_row (by rfl) 54 _ rfl R rfl 54 _ (0, 0) _ (fun w' h => h.1) Try.underlying54 rfl (by kernel_rfl)) h0 ?_
  (try simp only [List.getElem_toArray, List.getElem_cons_succ, List.getElem_cons_zero, Act.put, List.setIfInBounds_toArray, List.set_cons_zero, List.set_cons_succ])
  refine wpAnyH_take (i := 2) (v := ?_) rfl (by kernel_rfl) (by kernel_rfl) (by kernel_rfl) (fun _ _ _ h => h) (Or.inl ⟨by rfl, ?_⟩) h0 ?_
  rotate_left
  focus (intro w' hSw; skip; go_simp; (try with_reducible rfl))
  (try simp only [List.getElem_toArray, List.getElem_cons_succ, List.getElem_cons_zero, Act.put, List.setIfInBounds_toArray, List.set_cons_zero, List.set_cons_succ])
  refine wpAnyH_take (i := 3) (v := ?_) rfl (by kernel_rfl) (by kernel_rfl) (by kernel_rfl) (fun _ _ _ h => h) (Or.inl ⟨by rfl, ?_⟩) h0 ?_
  rotate_left
  focus (intro w' hSw; skip; go_simp; (try with_reducible rfl))
  (try simp only [List.getElem_toArray, List.getElem_cons_succ, List.getElem_cons_zero, Act.put, List.setIfInBounds_toArray, List.set_cons_zero, List.set_cons_succ])
  refine wpAnyH_take (i := 4) (v := ?_) rfl (by kernel_rfl) (by kernel_rfl) (by kernel_rfl) (fun _ _ _ h => h) (Or.inl ⟨by rfl, ?_⟩) h0 ?_
  rotate_left
  focus (intro w' hSw; skip; go_simp; (try with_reducible rfl))
  (try simp only [List.getElem_toArray, List.getElem_cons_succ, List.getElem_cons_zero, Act.put, List.setIfInBounds_toArray, List.set_cons_zero, List.set_cons_succ])
  refine wpAnyH_take (i := 5) (v := ?_) rfl (by kernel_rfl) (by kernel_rfl) (by kernel_rfl) (fun _ _ _ h => h) (Or.inl ⟨by rfl, ?_⟩) h0 ?_
  rotate_left
  focus (intro w' hSw; skip; go_simp; (try with_reducible rfl))
  (try simp only [List.getElem_toArray, List.getElem_cons_succ, List.getElem_cons_zero, Act.put, List.setIfInBounds_toArray, List.set_cons_zero, List.set_cons_succ])
  refine wpAnyH_take (i := 6) (v := ?_) rfl (by kernel_rfl) (by kernel_rfl) (by kernel_rfl) (fun _ _ _ h => h) (Or.inl ⟨by rfl, ?_⟩) h0 ?_
  rotate_left
  focus (intro w' hSw; skip; go_simp; (try with_reducible rfl))
  (try simp only [List.getElem_toArray, List.getElem_cons_succ, List.getElem_cons_zero, Act.put, List.setIfInBounds_toArray, List.set_cons_zero, List.set_cons_succ])
  refine wpAnyH_take (i := 7) (v := ?_) rfl (by kernel_rfl) (by kernel_rfl) (by kernel_rfl) (fun _ _ _ h => h) (Or.inl ⟨by rfl, ?_⟩) h0 ?_
  rotate_left
  focus (intro w' hSw; skip; go_simp; (try with_reducible rfl))
  (try simp only [List.getElem_toArray, List.getElem_cons_succ, List.getElem_cons_zero, Act.put, List.setIfInBounds_toArray, List.set_cons_zero, List.set_cons_succ])
  refine wpAnyH_take (i := 8) (v := ?_) rfl (by kernel_rfl) (by kernel_rfl) (by kernel_rfl) (fun _ _ _ h => h) (Or.inl ⟨by rfl, ?_⟩) h0 ?_
  rotate_left
  focus (intro w' hSw; skip; go_simp; (try with_reducible rfl))
  (try simp only [List.getElem_toArray, List.getElem_cons_succ, List.getElem_cons_zero, Act.put, List.setIfInBounds_toArray, List.set_cons_zero, List.set_cons_succ])
  refine wpAnyH_take (i := 9) (v := ?_) rfl (by kernel_rfl) (by kernel_rfl) (by kernel_rfl) (fun _ _ _ h => h) (Or.inl ⟨by rfl, ?_⟩) h0 ?_
  rotate_left
  focus (intro w' hSw; skip; go_simp; (try with_reducible rfl))
  (try simp only [List.getElem_toArray, List.getElem_cons_succ, List.getElem_cons_zero, Act.put, List.setIfInBounds_toArray, List.set_cons_zero, List.set_cons_succ])
  refine wpAnyH_take (i := 10) (v := ?_) rfl (by kernel_rfl) (by kernel_rfl) (by kernel_rfl) (fun _ _ _ h => h) (Or.inl ⟨by rfl, ?_⟩) h0 ?_
  rotate_left
  focus (intro w' hSw; skip; go_simp; (try with_reducible rfl))
  (try simp only [List.getElem_toArray, List.getElem_cons_succ, List.getElem_cons_zero, Act.put, List.setIfInBounds_toArray, List.set_cons_zero, List.set_cons_succ])
  refine wpAnyH_take (i := 11) (v := ?_) rfl (by kernel_rfl) (by kernel_rfl) (by kernel_rfl) (fun _ _ _ h => h) (Or.inl ⟨by rfl, ?_⟩) h0 ?_
  rotate_left
  focus (intro w' hSw; skip; go_simp; (try with_reducible rfl))
  (try simp only [List.getElem_toArray, List.getElem_cons_succ, List.getElem_cons_zero, Act.put, List.setIfInBounds_toArray, List.set_cons_zero, List.set_cons_succ])
  refine wpAnyH_take (i := 12) (v := ?_) rfl (by kernel_rfl) (by kernel_rfl) (by kernel_rfl) (fun _ _ _ h => h) (Or.inl ⟨by rfl, ?_⟩) h0 ?_
  rotate_left
  focus (intro w' hSw; skip; go_simp; (try with_reducible rfl))
  (try simp only [List.getElem_toArray, List.getElem_cons_succ, List.getElem_cons_zero, Act.put, List.setIfInBounds_toArray, List.set_cons_zero, List.set_cons_succ])
  refine wpAnyH_take (i := 13) (v := ?_) rfl (by kernel_rfl) (by kernel_rfl) (by kernel_rfl) (fun _ _ _ h => h) (Or.inl ⟨by rfl, ?_⟩) h0 ?_
  rotate_left
  focus (intro w' hSw; skip; go_simp; (try with_reducible rfl))
  (try simp only [List.getElem_toArray, List.getElem_cons_succ, List.getElem_cons_zero, Act.put, List.setIfInBounds_toArray, List.set_cons_zero, List.set_cons_succ])
  refine wpAnyH_take (i := 14) (v := ?_) rfl (by kernel_rfl) (by kernel_rfl) (by kernel_rfl) (fun _ _ _ h => h) (Or.inl ⟨by rfl, ?_⟩) h0 ?_
  rotate_left
  focus (intro w' hSw; skip; go_simp; (try with_reducible rfl))
  (try simp only [List.getElem_toArray, List.getElem_cons_succ, List.getElem_cons_zero, Act.put, List.setIfInBounds_toArray, List.set_cons_zero, List.set_cons_succ])
  refine wpAnyH_take (i := 15) (v := ?_) rfl (by kernel_rfl) (by kernel_rfl) (by kernel_rfl) (fun _ _ _ h => h) (Or.inl ⟨by rfl, ?_⟩) h0 ?_
  rotate_left
  focus (intro w' hSw; skip; go_simp; (try with_reducible rfl))
  (try simp only [List.getElem_toArray, List.getElem_cons_succ, List.getElem_cons_zero, Act.put, List.setIfInBounds_toArray, List.set_cons_zero, List.set_cons_succ])
  refine wpAnyH_take (i := 16) (v := ?_) rfl (by kernel_rfl) (by kernel_rfl) (by kernel_rfl) (fun _ _ _ h => h) (Or.inl ⟨by rfl, ?_⟩) h0 ?_
  rotate_left
  focus (intro w' hSw; skip; go_simp; (try with_reducible rfl))
  (try simp only [List.getElem_toArray, List.getElem_cons_succ, List.getElem_cons_zero, Act.put, List.setIfInBounds_toArray, List.set_cons_zero, List.set_cons_succ])
  refine wpAnyH_take (i := 17) (v := .agg (rag s).toArray) rfl (by kernel_rfl) (by kernel_rfl) (by kernel_rfl) (fun _ _ _ h => h) (yields_load_row (by rfl) 54 _ rfl R rfl 54 _ (0, 0) _ (fun w' h => h.1) Try.underlying54 rfl (by kernel_rfl)) h0 ?_
  (try simp only [List.getElem_toArray, List.getElem_cons_succ, List.getElem_cons_zero, Act.put, List.setIfInBounds_toArray, List.set_cons_zero, List.set_cons_succ])
  refine wpAnyH_ready (rs := [18]) (by kernel_rfl) (by simp) ?_
  refine AllReadyH.cons rfl (fun K hK => ?_) AllReadyH.nil
  go_simp
  refine (SH.out _ HP4.out.drew).mono ?_
  rintro e W5 ⟨rfl, hb5⟩
  go_wp2_with fail
  have hb6 : Below W3.heap.size W3 W5 := (Below.refl W3.heap.size W3).drew.trans hb5
  have hlR := lt_of_block g0
  refine hK.out _ _ ?_ (fun h1 => ?_)
  · exact ⟨blk_below g0 hb6 hlR, trivial⟩
  clear hK K
  (try simp only [List.getElem_toArray, List.getElem_cons_succ, List.getElem_cons_zero, Act.put, List.setIfInBounds_toArray, List.set_cons_zero, List.set_cons_succ])
  have x2 := blk_below g2 hb6 (lt_of_block g2)
  have HP5 := Lib.hid (HP4.out.below hb6 (Nat.le_refl _))
  have HB5 := Lib.hid (HB4.out.trans (hb6.mono HB4.out.size))
  refine wpAnyH_take (i := 19) (v := ?_) rfl (by kernel_rfl) (by kernel_rfl) (by kernel_rfl) (fun _ _ _ h => h) (Or.inl ⟨by rfl, ?_⟩) h1 ?_
  rotate_left
  focus (intro w' hSw; skip; go_simp; (try with_reducible rfl))
  (try simp only [List.getElem_toArray, List.getElem_cons_succ, List.getElem_cons_zero, Act.put, List.setIfInBounds_toArray, List.set_cons_zero, List.set_cons_succ])
  refine wpAnyH_take (i := 20) (v := ?_) rfl (by kernel_rfl) (by kernel_rfl) (by kernel_rfl) (fun _ _ _ h => h) (Or.inl ⟨by rfl, ?_⟩) h1 ?_
  rotate_left
  focus (intro w' hSw; skip; go_simp; (try with_reducible rfl))
  (try simp only [List.getElem_toArray, List.getElem_cons_succ, List.getElem_cons_zero, Act.put, List.setIfInBounds_toArray, List.set_cons_zero, List.set_cons_succ])
  refine wpAnyH_take (i := 21) (v := ?_) rfl (by kernel_rfl) (by kernel_rfl) (by kernel_rfl) (fun _ _ _ h => h) (Or.inl ⟨by rfl, ?_⟩) h1 ?_
  rotate_left
  focus (intro w' hSw; skip; go_simp; (try with_reducible rfl))
  (try simp only [List.getElem_toArray, List.getElem_cons_succ, List.getElem_cons_zero, Act.put, List.setIfInBounds_toArray, List.set_cons_zero, List.set_cons_succ])
  refine wpAnyH_ready (rs := [22]) (by kernel_rfl) (by simp) ?_
  refine AllReadyH.cons rfl (fun K hK => ?_) AllReadyH.nil
  refine wp_store_row 54 _ _ rfl _ _ rfl rfl 54 _ (x2) (by kernel_rfl) rfl (rag_one _) ?_
  refine hK.out _ _ ?_ (fun h2 => ?_)
  · exact ⟨(setRow_other _ _ _ _ (by omega)).trans h1.1, trivial⟩
  clear hK K
  (try simp only [List.getElem_toArray, List.getElem_cons_succ, List.getElem_cons_zero, Act.put, List.setIfInBounds_toArray, List.set_cons_zero, List.set_cons_succ])
  refine wpAnyH_take (i := 23) (v := ?_) rfl (by kernel_rfl) (by kernel_rfl) (by kernel_rfl) (fun _ _ _ h => h) (Or.inl ⟨by rfl, ?_⟩) h2 ?_
  rotate_left
  focus (intro w' hSw; skip; go_simp; (try with_reducible rfl))
  (try simp only [List.getElem_toArray, List.getElem_cons_succ, List.getElem_cons_zero, Act.put, List.setIfInBounds_toArray, List.set_cons_zero, List.set_cons_succ])
  refine wpAnyH_done (by kernel_rfl) ?_ _
  go_wp2_with fail
  exact bodyPost_ret (results_tct rfl _ _ _ _ _ (0, 0) _ rfl (setRow_heap _ _ _ _ _ _ x2) Try.underlying54 rfl (by kernel_rfl)) rfl ⟨b, c, rfl, ⟨(setRow_other _ _ _ _ hne.1).trans HP5.out.blk, (setRow_other _ _ _ _ hne.2).trans HP5.out.clk, HP5.out.ge⟩, below_setRow HB5.out (by omega) _⟩
end Go.Proofs.Ytjidchaejicjaaa

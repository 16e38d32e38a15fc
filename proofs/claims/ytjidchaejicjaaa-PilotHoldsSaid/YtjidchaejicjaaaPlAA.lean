/- act: Tick by both. -/
import Derived.Test.YtjidchaejicjaaaPlZ
import Derived.Test.YtjidchaejicjaaaPlV
namespace Go.Proofs.Ytjidchaejicjaaa
open Go.RowKit
set_option maxHeartbeats 4000000
set_option maxRecDepth 100000
set_option linter.unusedSimpArgs false
set_option linter.unusedVariables false
attribute [local go_sem ↓] Go.wp_at_zero Go.wp_at_succ
/-- behind act -/
def ActPost (base b c : Nat) (R : Plt.St) (w : World) (e : Ending) (w' : World) : Prop := e = .returned (.tuple #[.agg (rag R).toArray, .bool true]) ∧ IsP w' base b c R ∧ Keeps (fun i => i = b ∨ i = c) w w'
theorem own_setRow {w : World} {base size n : Nat} {e t : TypeId} {v : Value} {xs : List Value} (h : w.ownsRow base e size v n xs) {q : Nat} (cs : Array Value) (hq : Ty w q t) (hne : e ≠ t) : (w.setRow q cs).ownsRow base e size v n xs := by
  refine ⟨h.1, ?_⟩
  rcases h.2 with h0 | ⟨g, c, cur, e1, hb, hh, r⟩
  · exact .inl h0
  · have hg := Ty.ne ⟨_, hh⟩ hq hne
    exact .inr ⟨g, c, cur, e1, hb, (setRow_other _ _ _ _ (by first | exact hg | exact hg.symm)).trans hh, r⟩
theorem Rof.setRow {w : World} {base : Nat} {v : Value} {l : List Fr} (h : Rof w base v l) {q : Nat} (cs : Array Value) (hq : Ty w q 54) : Rof (w.setRow q cs) base v l := by
  obtain ⟨vs, h1, h2, h3⟩ := h
  exact ⟨vs, h1, own_setRow h2 cs hq (by decide), fun y hy => ⟨own_setRow (h3 y hy).1 cs hq (by decide), (h3 y hy).2⟩⟩
theorem IsP.setRow {w : World} {base b c : Nat} {s : Plt.St} (h : IsP w base b c s) {q : Nat} (cs : Array Value) (hq : Ty w q 54) : IsP (w.setRow q cs) base b c s := by
  have h1 := Ty.ne ⟨_, h.blk⟩ hq (by decide)
  have h2 := Ty.ne ⟨_, h.clk⟩ hq (by decide)
  exact ⟨(setRow_other _ _ _ _ (by first | exact h1 | exact h1.symm)).trans h.blk, (setRow_other _ _ _ _ (by first | exact h2 | exact h2.symm)).trans h.clk, h.ge⟩
theorem Keeps.setRow {S : Nat → Prop} {w w' : World} (h : Keeps S w w') {q : Nat} (cs : Array Value) (hq : w.heap.size ≤ q) : Keeps S w (w'.setRow q cs) :=
  ⟨h.os, h.tape, h.output, by have := h.size; simp [World.setRow]; omega, fun i hi hn => (setRow_other _ _ _ _ (by omega)).trans (h.block i hi hn)⟩
theorem same_true {A C : Option Addr} {n cap caq : Nat} {l : List Fr} {W : World} (hn : n ≤ 140737488355328) (h : Rf W W.heap.size A n l) (g : Rf W W.heap.size C n l) :
    Calls Try.prog 43 #[.slice A n cap, .slice C n caq] W fun e w' => e = .returned (.bool true) ∧ Below W.heap.size W w' :=
  (samef_any A C n n cap caq l l W hn hn h g).mono fun e w' ⟨h1, h2⟩ => ⟨by rw [h1, frsEq_iff.2 rfl], h2⟩
theorem tickF_len (s : Plt.St) (l : Int) : (Plt.tickF s l).length ≤ 1 := by unfold Plt.tickF; split <;> simp
theorem rcvF_len (s : Plt.St) (l : Int) (x : Fr) : (Plt.rcvF s l x).length ≤ 1 := by unfold Plt.rcvF; split <;> simp
section
variable {w : World} {base b c : Nat} {s : Plt.St}
theorem act_tick (h : IsP w base b c s) (hs : Plt.Inv s) (hrep : s.reports < 1000000000) (x : LAct) (hk : x.f.k = 0) (FD : Option Addr) (fc : Nat) :
    Calls Try.prog 21 #[.pointer (some ⟨b, 0, none⟩), .agg (rag s).toArray, .agg #[.int .i64 x.now, .int .i64 x.f.k, .int .i64 x.f.f, .int .i64 x.f.t, .int .i64 x.f.s, .slice FD x.f.d.length fc]] w (ActPost base b c (Plt.tickS s x.now) w) := by
  have HH := Lib.hid h
  have hlt := h.lt
  have PT := Lib.hid (fun (W : World) (hW : IsP W base b c s) => ptick_any hW hs hrep x.now)
  have RT := Lib.hid (fun W : World => rtick_any s hs hrep x.now W)
  have hfl := tickF_len s x.now
  obtain ⟨s', hs'⟩ : ∃ s', s' = Plt.tickS s x.now := ⟨_, rfl⟩
  obtain ⟨fr, hfr⟩ : ∃ fr, fr = Plt.tickF s x.now := ⟨_, rfl⟩
  obtain ⟨er, her⟩ : ∃ er, er = Plt.timE s x.now := ⟨_, rfl⟩
  rw [← hs', ← hfr, ← her] at PT RT
  rw [← hfr] at hfl
  rw [← hs']
  have y0 : (x.f.k == 0) = true := by rw [hk]; rfl
  have y9 : (er == er) = true := by simp
  clear h hs hrep hk hs' hfr her
  go_enter Try.func21, Try.ntmps21
  go_upto_region 1 with fail
  generalize hV : World.alloc _ _ = V
  have k0 : RB V w.heap.size s := by rw [← hV]; exact blk_alloc (blk_alloc (heap_new _ _) _) _
  have ka : V.heap[w.heap.size + 1]? = some (.cells #[.int .i64 x.now, .int .i64 x.f.k, .int .i64 x.f.f, .int .i64 x.f.t, .int .i64 x.f.s, .slice FD x.f.d.length fc] 37 (0, 0)) := by rw [← hV]; exact blk_alloc (heap_new' _ _ _ (by simp)) _
  have k2 : RB V (w.heap.size + 2) rzero := by rw [← hV]; exact heap_new' _ _ _ (by simp)
  have HB := Lib.hid (show Below w.heap.size w V from by rw [← hV]; exact (by repeat (first | (with_reducible exact Below.refl _ _) | (with_reducible refine Below.drew ?_) | (with_reducible refine below_drewN ?_ _) | ((with_reducible refine Below.alloc ?_ ?_ _); rotate_left; (first | omega | (simp <;> omega)); rotate_right) | ((with_reducible refine Below.setCell ?_ ?_ _); rotate_left; (first | omega | (simp <;> omega)); rotate_right) | (with_reducible assumption) | (refine Below.trans ?_ (Below.mono (by assumption) ?_); rotate_left; (first | omega | (simp <;> omega)); rotate_right))))
  have HP := Lib.hid (HH.out.below HB.out (Nat.le_refl _))
  clear hV
  have cf_0 := blk_cell ka 0 rfl; have ff_0 := blk_free ka 0; have cf_1 := blk_cell ka 1 rfl; have ff_1 := blk_free ka 1; have cf_2 := blk_cell ka 2 rfl; have ff_2 := blk_free ka 2; have cf_3 := blk_cell ka 3 rfl; have ff_3 := blk_free ka 3; have cf_4 := blk_cell ka 4 rfl; have ff_4 := blk_free ka 4; have cf_5 := blk_cell ka 5 rfl; have ff_5 := blk_free ka 5; have lf := lt_of_block ka
  go_wp2_with fail
  refine (PT.out _ HP.out).mono ?_
  rintro e W1 ⟨v1, rfl, hv1, hp1, hk1⟩
  obtain ⟨A1, c1, rfl⟩ := hv1.form
  have i0 := blk_keep k0 hk1 (by omega)
  have i2 := blk_keep k2 hk1 (by omega)
  have ja := blk_keep ka hk1 (by omega)
  have HK1 := Lib.hid ((Keeps.of_below HB.out).trans hk1 (fun _ _ h => h) : Keeps (fun i => i = b ∨ i = c) w W1)
  have HP1 := Lib.hid hp1
  have HV1 := Lib.hid hv1
  clear cf_0 ff_0 cf_1 ff_1 cf_2 ff_2 cf_3 ff_3 cf_4 ff_4 cf_5 ff_5
  clear k0 k2 ka HB HP hk1 hp1 hv1 lf PT
  have k0 := i0
  clear i0
  have cg_0 := blk_cell ja 0 rfl; have fg_0 := blk_free ja 0; have cg_1 := blk_cell ja 1 rfl; have fg_1 := blk_free ja 1; have cg_2 := blk_cell ja 2 rfl; have fg_2 := blk_free ja 2; have cg_3 := blk_cell ja 3 rfl; have fg_3 := blk_free ja 3; have cg_4 := blk_cell ja 4 rfl; have fg_4 := blk_free ja 4; have cg_5 := blk_cell ja 5 rfl; have fg_5 := blk_free ja 5; have lg := lt_of_block ja
  (go_wp2_with (first | (refine wpList_load_row rfl 54 _ rfl _ rfl 54 _ (0, 0) _ k0 Try.underlying54 rfl (by kernel_rfl) ?_)))
  refine (RT.out _).mono ?_
  rintro e W2 ⟨v2, rfl, hv2, hb2⟩
  obtain ⟨A2, c2, rfl⟩ := hv2.form
  have j2 := blk_below i2 hb2 (lt_of_block i2)
  have HK2 := Lib.hid ((HK1.out.trans (Keeps.of_below hb2) (fun _ _ h => h)) : Keeps (fun i => i = b ∨ i = c) w W2)
  have HP2 := Lib.hid (HP1.out.below hb2 (Nat.le_refl _))
  have HV2 := Lib.hid (HV1.out.below hb2 (Nat.le_refl _))
  have HU2 := Lib.hid hv2
  have hz2 : w.heap.size + 2 < W2.heap.size := lt_of_block j2
  clear cg_0 fg_0 cg_1 fg_1 cg_2 fg_2 cg_3 fg_3 cg_4 fg_4 cg_5 fg_5
  clear k0 i2 hb2 HK1 HP1 HV1 hv2 ja lg RT
  have z2 := heap_new W2 (.cells (rag rzero).toArray 54 (0, 0))
  (go_upto_region 4 with (refine wpList_store_row rfl 54 _ _ rfl _ _ rfl rfl 54 _ z2 (by kernel_rfl) rfl (rag_one _) ?_))
  generalize hW : World.setRow _ _ _ = W3
  have g0 : RB W3 W2.heap.size s' := by rw [← hW]; exact setRow_heap _ _ _ _ _ _ z2
  have hb3 : Below W2.heap.size W2 W3 := by rw [← hW]; exact below_setRow ((Below.refl _ _).alloc (Nat.le_refl _) _) (Nat.le_refl _) _
  clear hW z2
  have g2 := blk_below j2 hb3 (lt_of_block j2)
  have HK3 := Lib.hid ((HK2.out.trans (Keeps.of_below hb3) (fun _ _ h => h)) : Keeps (fun i => i = b ∨ i = c) w W3)
  have HP3 := Lib.hid (HP2.out.below hb3 (Nat.le_refl _))
  have HV3 := Lib.hid (HV2.out.below hb3 (Nat.le_refl _))
  have HU3 := Lib.hid (HU2.out.below hb3 (Nat.le_refl _))
  clear j2 HK2 HP2 HV2 HU2 hb3
  obtain ⟨R, hR⟩ : ∃ R, R = W2.heap.size := ⟨_, rfl⟩
  rw [← hR] at g0 hz2 ⊢
  clear hR
  have hT2 : Ty W3 (w.heap.size + 2) 54 := ⟨_, g2⟩
  have HL := Lib.hid hfl
  clear hfl
  refine wp_region_held_drew (S := fun w' => RB w' R s' ∧ True) (by kernel_rfl) ?_ (fun h0 => ?_)
  · exact ⟨g0, trivial⟩
  refine wpAnyH_take (i := 0) (v := .agg (rag s').toArray) rfl (by kernel_rfl) (by kernel_rfl) (by kernel_rfl) (fun _ _ _ h => h) (yields_load_row (by rfl) 54 _ rfl R rfl 54 _ (0, 0) _ (fun w' h => h.1) Try.underlying54 rfl (by kernel_rfl)) h0 ?_
  (try simp only [List.getElem_toArray, List.getElem_cons_succ, List.getElem_cons_zero, Act.put, List.setIfInBounds_toArray, List.set_cons_zero, List.set_cons_succ])
  refine wpAnyH_take (i := 1) (v := ?_) rfl (by kernel_rfl) (by kernel_rfl) (by kernel_rfl) (fun _ _ _ h => h) (Or.inl ⟨by rfl, ?_⟩) h0 ?_
  rotate_left
  focus (intro w' hSw; skip; go_simp; (try with_reducible rfl))
  (try simp only [List.getElem_toArray, List.getElem_cons_succ, List.getElem_cons_zero, Act.put, List.setIfInBounds_toArray, List.set_cons_zero, List.set_cons_succ])
  refine wpAnyH_take (i := 2) (v := ?_) rfl (by kernel_rfl) (by kernel_rfl) (by kernel_rfl) (fun _ _ _ h => h) (Or.inl ⟨by rfl, ?_⟩) h0 ?_
  rotate_left
  focus (intro w' hSw; skip; go_simp; (try with_reducible rfl))
  (try simp only [List.getElem_toArray, List.getElem_cons_succ, List.getElem_cons_zero, Act.put, List.setIfInBounds_toArray, List.set_cons_zero, List.set_cons_succ])
  refine wpAnyH_take (i := 3) (v := ?_) rfl (by kernel_rfl) (by kernel_rfl) (by kernel_rfl) (fun _ _ _ h => h) (Or.inl ⟨by rfl, ?_⟩) h0 ?_
  rotate_left
  focus (intro w' hSw; skip; go_simp; (try with_reducible rfl))
  (try simp only [List.getElem_toArray, List.getElem_cons_succ, List.getElem_cons_zero, Act.put, List.setIfInBounds_toArray, List.set_cons_zero, List.set_cons_succ])
  refine wpAnyH_take (i := 4) (v := ?_) rfl (by kernel_rfl) (by kernel_rfl) (by kernel_rfl) (fun _ _ _ h => h) (Or.inl ⟨by rfl, ?_⟩) h0 ?_
  rotate_left
  focus (intro w' hSw; skip; go_simp; (try with_reducible rfl))
  (try simp only [List.getElem_toArray, List.getElem_cons_succ, List.getElem_cons_zero, Act.put, List.setIfInBounds_toArray, List.set_cons_zero, List.set_cons_succ])
  refine wpAnyH_take (i := 5) (v := ?_) rfl (by kernel_rfl) (by kernel_rfl) (by kernel_rfl) (fun _ _ _ h => h) (Or.inl ⟨by rfl, ?_⟩) h0 ?_
  rotate_left
  focus (intro w' hSw; skip; go_simp; (try with_reducible rfl))
  (try simp only [List.getElem_toArray, List.getElem_cons_succ, List.getElem_cons_zero, Act.put, List.setIfInBounds_toArray, List.set_cons_zero, List.set_cons_succ])
  refine wpAnyH_take (i := 6) (v := ?_) rfl (by kernel_rfl) (by kernel_rfl) (by kernel_rfl) (fun _ _ _ h => h) (Or.inl ⟨by rfl, ?_⟩) h0 ?_
  rotate_left
  focus (intro w' hSw; skip; go_simp; (try with_reducible rfl))
  (try simp only [List.getElem_toArray, List.getElem_cons_succ, List.getElem_cons_zero, Act.put, List.setIfInBounds_toArray, List.set_cons_zero, List.set_cons_succ])
  refine wpAnyH_ready (rs := [7]) (by kernel_rfl) (by simp) ?_
  refine AllReadyH.cons rfl (fun K hK => ?_) AllReadyH.nil
  go_simp
  refine (same_true (by have := HL.out; omega) (Rof.rf (HV3.out.drew)) (Rof.rf (HU3.out.drew))).mono ?_
  rintro e W5 ⟨rfl, hb5⟩
  go_wp2_with fail
  have hb6 : Below W3.heap.size W3 W5 := (Below.refl W3.heap.size W3).drew.trans hb5
  have hlR := lt_of_block g0
  refine hK.out _ _ ?_ (fun h1 => ?_)
  · exact ⟨blk_below g0 hb6 hlR, trivial⟩
  clear hK K
  (try simp only [List.getElem_toArray, List.getElem_cons_succ, List.getElem_cons_zero, Act.put, List.setIfInBounds_toArray, List.set_cons_zero, List.set_cons_succ])
  have x2 := blk_below g2 hb6 (lt_of_block g2)
  have HP5 := Lib.hid (HP3.out.below hb6 (Nat.le_refl _))
  have HK5 := Lib.hid ((HK3.out.trans (Keeps.of_below hb6) (fun _ _ h => h)) : Keeps (fun i => i = b ∨ i = c) w W5)
  refine wpAnyH_take (i := 8) (v := ?_) rfl (by kernel_rfl) (by kernel_rfl) (by kernel_rfl) (fun _ _ _ h => h) (Or.inl ⟨by rfl, ?_⟩) h1 ?_
  rotate_left
  focus (intro w' hSw; skip; go_simp; (try with_reducible rfl))
  (try simp only [List.getElem_toArray, List.getElem_cons_succ, List.getElem_cons_zero, Act.put, List.setIfInBounds_toArray, List.set_cons_zero, List.set_cons_succ])
  refine wpAnyH_ready (rs := [9]) (by kernel_rfl) (by simp) ?_
  refine AllReadyH.cons rfl (fun K hK => ?_) AllReadyH.nil
  refine wp_store_row 54 _ _ rfl _ _ rfl rfl 54 _ (x2) (by kernel_rfl) rfl (rag_one _) ?_
  refine hK.out _ _ ?_ (fun h2 => ?_)
  · exact ⟨(setRow_other _ _ _ _ (by omega)).trans h1.1, trivial⟩
  clear hK K
  (try simp only [List.getElem_toArray, List.getElem_cons_succ, List.getElem_cons_zero, Act.put, List.setIfInBounds_toArray, List.set_cons_zero, List.set_cons_succ])
  refine wpAnyH_take (i := 10) (v := ?_) rfl (by kernel_rfl) (by kernel_rfl) (by kernel_rfl) (fun _ _ _ h => h) (Or.inl ⟨by rfl, ?_⟩) h2 ?_
  rotate_left
  focus (intro w' hSw; skip; go_simp; (try with_reducible rfl))
  (try simp only [List.getElem_toArray, List.getElem_cons_succ, List.getElem_cons_zero, Act.put, List.setIfInBounds_toArray, List.set_cons_zero, List.set_cons_succ])
  refine wpAnyH_done (by kernel_rfl) ?_ _
  go_wp2_with fail
  exact bodyPost_ret (results_ct rfl _ _ _ _ _ (0, 0) _ rfl (setRow_heap _ _ _ _ _ _ x2) Try.underlying54 rfl (by kernel_rfl)) rfl ⟨rfl, HP5.out.setRow _ ⟨_, x2⟩, HK5.out.setRow _ (by omega)⟩
end
end Go.Proofs.Ytjidchaejicjaaa

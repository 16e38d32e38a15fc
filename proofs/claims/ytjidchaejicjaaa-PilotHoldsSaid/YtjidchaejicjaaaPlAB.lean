/- act: Receive by both; act whole. -/
import Derived.Test.YtjidchaejicjaaaPlAA
namespace Go.Proofs.Ytjidchaejicjaaa
open Go.RowKit
set_option maxHeartbeats 6000000
set_option maxRecDepth 100000
set_option linter.unusedSimpArgs false
set_option linter.unusedVariables false
attribute [local go_sem ↓] Go.wp_at_zero Go.wp_at_succ
theorem same_refl (x : Fr) (A C : Option Addr) (n m cap caq : Nat) (w : World) (h : Rd w w.heap.size A n x.d) (g : Rd w w.heap.size C m x.d) :
    Calls Try.prog 45 #[.agg #[.int .i64 x.k, .int .i64 x.f, .int .i64 x.t, .int .i64 x.s, .slice A n cap], .agg #[.int .i64 x.k, .int .i64 x.f, .int .i64 x.t, .int .i64 x.s, .slice C m caq]] w fun e w' => e = .returned (.bool true) ∧ Below w.heap.size w w' :=
  (same_any x.k x.f x.t x.s x.k x.f x.t x.s A C n m cap caq x.d x.d w h g).mono fun e w' ⟨h1, h2⟩ => ⟨by rw [h1]; congr 2; exact frEq_iff.2 rfl, h2⟩
section
variable {w : World} {base b c : Nat} {s : Plt.St}
theorem act_recv (h : IsP w base b c s) (hs : Plt.Inv s) (hrep : s.reports < 1000000000) (x : LAct) (hk : x.f.k ≠ 0) (FD : Option Addr) (fc : Nat) (hn : x.f.d.length ≤ 140737488355328) (hbase : base ≤ w.heap.size) (hd : Rd w base FD x.f.d.length x.f.d) :
    Calls Try.prog 21 #[.pointer (some ⟨b, 0, none⟩), .agg (rag s).toArray, .agg #[.int .i64 x.now, .int .i64 x.f.k, .int .i64 x.f.f, .int .i64 x.f.t, .int .i64 x.f.s, .slice FD x.f.d.length fc]] w (ActPost base b c (Plt.rcvS s x.now x.f) w) := by
  have HH := Lib.hid h
  have hlt := h.lt
  have hge := h.ge
  have PT := Lib.hid (fun (W : World) (O : Option Addr) (co : Nat) (hW : IsP W base b c s) (hco : x.f.d.length ≤ co ∧ co ≤ 9223372036854775807) (hO : Rd W W.heap.size O x.f.d.length x.f.d) (hA : ∀ a, O = some a → a.block ≠ b ∧ a.block ≠ c) => precv_any hW hs x.f.k x.f.f x.f.t x.f.s O x.f.d.length co x.f.d rfl (by omega) hco.1 hco.2 hO hA hrep x.now)
  have RT := Lib.hid (fun (W : World) (hF : Rd W W.heap.size FD x.f.d.length x.f.d) => rrecv_any s hs x.f.k x.f.f x.f.t x.f.s FD x.f.d.length fc x.f.d rfl (by omega) W hF x.now)
  have hfl := rcvF_len s x.now x.f
  have HD := Lib.hid hd
  obtain ⟨s', hs'⟩ : ∃ s', s' = Plt.rcvS s x.now x.f := ⟨_, rfl⟩
  obtain ⟨fr, hfr⟩ : ∃ fr, fr = Plt.rcvF s x.now x.f := ⟨_, rfl⟩
  obtain ⟨er, her⟩ : ∃ er, er = Plt.rcvE s x.now x.f := ⟨_, rfl⟩
  have PT := Lib.hid (fun (W : World) (O : Option Addr) (co : Nat) (hW : IsP W base b c s) (hco : x.f.d.length ≤ co ∧ co ≤ 9223372036854775807) (hO : Rd W W.heap.size O x.f.d.length x.f.d) (hA : ∀ a, O = some a → a.block ≠ b ∧ a.block ≠ c) => show Calls Try.prog 16 #[.pointer (some ⟨b, 0, none⟩), .int .i64 x.now, .agg #[.int .i64 x.f.k, .int .i64 x.f.f, .int .i64 x.f.t, .int .i64 x.f.s, .slice O x.f.d.length co]] W (PRPost base b c s' fr er W) from by rw [hs', hfr, her]; exact PT.out W O co hW hco hO hA)
  have RT := Lib.hid (fun (W : World) (hF : Rd W W.heap.size FD x.f.d.length x.f.d) => show Calls Try.prog 44 #[.agg (rag s).toArray, .int .i64 x.now, .agg #[.int .i64 x.f.k, .int .i64 x.f.f, .int .i64 x.f.t, .int .i64 x.f.s, .slice FD x.f.d.length fc]] W (RRPost s' fr er W) from by rw [hs', hfr, her]; exact RT.out W hF)
  rw [← hfr] at hfl
  rw [← hs']
  have y0 : (x.f.k == 0) = false := by rw [beq_eq_false_iff_ne]; exact hk
  have y9 : (er == er) = true := by simp
  obtain ⟨j0, hjA, hyA, hyB, hyC⟩ := info_parts info_u8
  have HL := Lib.hid hfl
  have HN := Lib.hid hn
  clear h hs hrep hk hs' hfr her hd hfl
  go_enter Try.func21, Try.ntmps21
  go_upto_region 6 with fail
  generalize hV : World.alloc _ _ = V
  have k0 : RB V w.heap.size s := by rw [← hV]; exact blk_alloc (blk_alloc (blk_alloc (heap_new _ _) _) _) _
  have k1 : V.heap[w.heap.size + 1]? = some (.cells #[.int .i64 x.now, .int .i64 x.f.k, .int .i64 x.f.f, .int .i64 x.f.t, .int .i64 x.f.s, .slice FD x.f.d.length fc] 37 (0, 0)) := by rw [← hV]; exact blk_alloc (blk_alloc (heap_new' _ _ _ (by simp)) _) _
  have k2 : RB V (w.heap.size + 2) rzero := by rw [← hV]; exact blk_alloc (heap_new' _ _ _ (by simp)) _
  have k3 : V.heap[w.heap.size + 3]? = some (.cells #[.int .i64 x.f.k, .int .i64 x.f.f, .int .i64 x.f.t, .int .i64 x.f.s, .slice FD x.f.d.length fc] 35 (0, 0)) := by rw [← hV]; exact heap_new' _ _ _ (by simp)
  have HB := Lib.hid (show Below w.heap.size w V from by rw [← hV]; exact (by repeat (first | (with_reducible exact Below.refl _ _) | (with_reducible refine Below.drew ?_) | (with_reducible refine below_drewN ?_ _) | ((with_reducible refine Below.alloc ?_ ?_ _); rotate_left; (first | omega | (simp <;> omega)); rotate_right) | ((with_reducible refine Below.setCell ?_ ?_ _); rotate_left; (first | omega | (simp <;> omega)); rotate_right) | (with_reducible assumption) | (refine Below.trans ?_ (Below.mono (by assumption) ?_); rotate_left; (first | omega | (simp <;> omega)); rotate_right))))
  have hzV : V.heap.size = w.heap.size + 4 := by rw [← hV]; simp
  clear hV
  have HDV := Lib.hid ((HD.out.below HB.out hbase).more (show base ≤ V.heap.size by omega))
  have cb_0 := blk_cell k1 0 rfl; have fb_0 := blk_free k1 0; have cb_1 := blk_cell k1 1 rfl; have fb_1 := blk_free k1 1; have cb_2 := blk_cell k1 2 rfl; have fb_2 := blk_free k1 2; have cb_3 := blk_cell k1 3 rfl; have fb_3 := blk_free k1 3; have cb_4 := blk_cell k1 4 rfl; have fb_4 := blk_free k1 4; have cb_5 := blk_cell k1 5 rfl; have fb_5 := blk_free k1 5; have lb := lt_of_block k1
  have cd_0 := blk_cell k3 0 rfl; have fd_0 := blk_free k3 0; have cd_1 := blk_cell k3 1 rfl; have fd_1 := blk_free k3 1; have cd_2 := blk_cell k3 2 rfl; have fd_2 := blk_free k3 2; have cd_3 := blk_cell k3 3 rfl; have fd_3 := blk_free k3 3; have cd_4 := blk_cell k3 4 rfl; have fd_4 := blk_free k3 4; have ld := lt_of_block k3
  have hnn := HN.out
  go_wp2_with (at_builtin; refine wpList_append_any _ rfl (.const (.slice none 0 0)) (.tmp 51) _ rfl V.heap.size 5 j0 _ 1 1 Try.underlying33 hjA hyA hyB hyC rfl (by omega) (.slice none 0 0) 0 [] rfl (World.ownsRow_nil _ _ _ _) V.heap.size FD x.f.d.length fc (bv x.f.d) rfl HDV.out.reads (bv_one _) (by unfold maxLen; omega) (by omega) (Nat.le_refl _) ?_; intro v1 wo hown1 hg1 hat1; simp only [Nat.zero_add, List.nil_append] at hown1; obtain ⟨O, co, rfl⟩ := own_formS hown1; have hzo := hg1.size; have HO := Lib.hid (show Ow wo V.heap.size O x.f.d.length co x.f.d from ⟨hown1, HDV.out.2.1⟩); have HBO := Lib.hid (show Below V.heap.size V wo from ⟨hg1.os, hg1.tape, hg1.output, hg1.size, fun i hi => hg1.block i hi (by simp [Value.ownBlock])⟩); have d0 := blk_below k0 HBO.out (by omega); have d1 := blk_below k1 HBO.out (by omega); have d2 := blk_below k2 HBO.out (by omega); have d3 := blk_below k3 HBO.out (by omega); clear hown1 hg1 hat1; (clear cb_0 fb_0 cb_1 fb_1 cb_2 fb_2 cb_3 fb_3 cb_4 fb_4 cb_5 fb_5); (clear cd_0 fd_0 cd_1 fd_1 cd_2 fd_2 cd_3 fd_3 cd_4 fd_4); clear lb ld k0 k1 k2 k3; (have cb_0 := blk_cell d1 0 rfl; have fb_0 := blk_free d1 0; have cb_1 := blk_cell d1 1 rfl; have fb_1 := blk_free d1 1; have cb_2 := blk_cell d1 2 rfl; have fb_2 := blk_free d1 2; have cb_3 := blk_cell d1 3 rfl; have fb_3 := blk_free d1 3; have cb_4 := blk_cell d1 4 rfl; have fb_4 := blk_free d1 4; have cb_5 := blk_cell d1 5 rfl; have fb_5 := blk_free d1 5; have lb := lt_of_block d1); (have cd_0 := blk_cell d3 0 rfl; have fd_0 := blk_free d3 0; have cd_1 := blk_cell d3 1 rfl; have fd_1 := blk_free d3 1; have cd_2 := blk_cell d3 2 rfl; have fd_2 := blk_free d3 2; have cd_3 := blk_cell d3 3 rfl; have fd_3 := blk_free d3 3; have cd_4 := blk_cell d3 4 rfl; have fd_4 := blk_free d3 4; have ld := lt_of_block d3))
  generalize hV5 : World.setCell _ _ _ = V5
  have k0 : RB V5 w.heap.size s := by rw [← hV5]; exact blk_far d0 (by simp; omega) _
  have q1 : V5.heap[w.heap.size + 1]? = some (.cells #[.int .i64 x.now, .int .i64 x.f.k, .int .i64 x.f.f, .int .i64 x.f.t, .int .i64 x.f.s, .slice FD x.f.d.length fc] 37 (0, 0)) := by rw [← hV5]; exact (by repeat (first | (with_reducible assumption) | ((with_reducible apply blk_far); rotate_left; (first | omega | (simp <;> omega)); rotate_right) | (with_reducible apply blk_drew) | (with_reducible apply blk_drewN) | (with_reducible exact heap_new _ _) | ((with_reducible apply heap_new'); (first | rfl | (simp <;> fail))) | (with_reducible apply blk_alloc)))
  have q2 : RB V5 (w.heap.size + 2) rzero := by rw [← hV5]; exact blk_far d2 (by first | (simp; done) | (simp; omega)) _
  have q3 : V5.heap[w.heap.size + 3]? = some (.cells #[.int .i64 x.f.k, .int .i64 x.f.f, .int .i64 x.f.t, .int .i64 x.f.s, .slice O x.f.d.length co] 35 (0, 0)) := by rw [← hV5]; exact (by apply Eq.trans; (repeat (first | (with_reducible assumption) | (with_reducible apply blk_set) | ((with_reducible apply blk_far); rotate_left; (first | omega | (simp <;> omega)); rotate_right) | (with_reducible apply blk_drew) | (with_reducible apply blk_drewN) | ((with_reducible apply heap_new'); (first | rfl | (simp <;> fail))) | (with_reducible apply blk_alloc))); (first | with_reducible rfl | (simp <;> fail) | rfl))
  have hK5 : Keeps (fun i => i = w.heap.size + 3) wo V5 := by rw [← hV5]; (repeat (first | with_reducible exact Keeps.refl _ _ | (with_reducible refine Keeps.set1 ?_ _ _) | (with_reducible refine Keeps.drew ?_) | (with_reducible refine Keeps.drewN ?_ _) | (with_reducible refine Keeps.alloc ?_ _)))
  have HB5 := Lib.hid (show Below w.heap.size w V5 from (HB.out.trans (HBO.out.mono (by omega))).trans (hK5.below (fun i _ hi => by omega) (by omega)))
  have hz5 : wo.heap.size ≤ V5.heap.size := hK5.size
  have HOv := Lib.hid (show Ow V5 V.heap.size O x.f.d.length co x.f.d from HO.out.grown (row := some (w.heap.size + 3)) ⟨hK5.os, hK5.tape, hK5.output, hK5.size, fun i hi hne => hK5.block i hi (fun e => hne (by rw [e]))⟩ (fun g hg e => by
    rcases HO.out.form with ⟨h1, _⟩ | ⟨g2, h1, h2, _⟩
    · rw [h1] at hg; cases hg
    · rw [h1] at hg; injection hg with hg; injection hg with hg; injection e with e; omega))
  have hOb : ∀ a, O = some a → a.block ≠ b ∧ a.block ≠ c := fun a ha => by
    rcases HOv.out.form with ⟨h1, _⟩ | ⟨g2, h1, h2, _⟩
    · rw [h1] at ha; cases ha
    · rw [h1] at ha; injection ha with ha; rw [← ha]; show g2 ≠ b ∧ g2 ≠ c; omega
  have hco : x.f.d.length ≤ co ∧ co ≤ 9223372036854775807 := by
    rcases HOv.out.form with ⟨_, h2, h3⟩ | ⟨g2, _, _, _, h4, h5⟩
    · omega
    · unfold maxLen at h5; omega
  have HOB := Lib.hid hOb
  have HCO := Lib.hid hco
  clear cb_0 fb_0 cb_1 fb_1 cb_2 fb_2 cb_3 fb_3 cb_4 fb_4 cb_5 fb_5
  clear cd_0 fd_0 cd_1 fd_1 cd_2 fd_2 cd_3 fd_3 cd_4 fd_4
  clear lb ld hV5 d0 d1 d2 d3 hOb hco
  have cb_0 := blk_cell q1 0 rfl; have fb_0 := blk_free q1 0; have cb_1 := blk_cell q1 1 rfl; have fb_1 := blk_free q1 1; have cb_2 := blk_cell q1 2 rfl; have fb_2 := blk_free q1 2; have cb_3 := blk_cell q1 3 rfl; have fb_3 := blk_free q1 3; have cb_4 := blk_cell q1 4 rfl; have fb_4 := blk_free q1 4; have cb_5 := blk_cell q1 5 rfl; have fb_5 := blk_free q1 5; have lb := lt_of_block q1
  have cd_0 := blk_cell q3 0 rfl; have fd_0 := blk_free q3 0; have cd_1 := blk_cell q3 1 rfl; have fd_1 := blk_free q3 1; have cd_2 := blk_cell q3 2 rfl; have fd_2 := blk_free q3 2; have cd_3 := blk_cell q3 3 rfl; have fd_3 := blk_free q3 3; have cd_4 := blk_cell q3 4 rfl; have fd_4 := blk_free q3 4; have ld := lt_of_block q3
  go_wp2_with fail
  refine (PT.out V5 O co (HH.out.below HB5.out (Nat.le_refl _)) HCO.out HOv.out.rd HOB.out).mono ?_
  rintro e W1 ⟨v1, rfl, hv1, hp1, hk1⟩
  obtain ⟨A1, c1, rfl⟩ := hv1.form
  have i0 := blk_keep k0 hk1 (by omega)
  have i1 := blk_keep q1 hk1 (by omega)
  have i2 := blk_keep q2 hk1 (by omega)
  have i3 := blk_keep q3 hk1 (by omega)
  have HK1 := Lib.hid ((Keeps.of_below HB5.out).trans hk1 (fun _ _ h => h) : Keeps (fun i => i = b ∨ i = c) w W1)
  have HP1 := Lib.hid hp1
  have HV1 := Lib.hid hv1
  have HF1 := Lib.hid (show Rd W1 base FD x.f.d.length x.f.d from hk1.rd (HD.out.below HB5.out hbase) (by omega) (fun i hi hh => by omega))
  have HO1 := Lib.hid (show Rd W1 V5.heap.size O x.f.d.length x.f.d from prd_kept HOv.out.rd hk1 (Nat.le_refl _) (fun a ha hh => by have := HOB.out a ha; omega))
  have hz1 := hk1.size
  clear cb_0 fb_0 cb_1 fb_1 cb_2 fb_2 cb_3 fb_3 cb_4 fb_4 cb_5 fb_5
  clear cd_0 fd_0 cd_1 fd_1 cd_2 fd_2 cd_3 fd_3 cd_4 fd_4
  clear k0 q1 q2 q3 HB hp1 hv1 PT lb ld hk1
  have k0 := i0
  clear i0
  have cg_0 := blk_cell i1 0 rfl; have fg_0 := blk_free i1 0; have cg_1 := blk_cell i1 1 rfl; have fg_1 := blk_free i1 1; have cg_2 := blk_cell i1 2 rfl; have fg_2 := blk_free i1 2; have cg_3 := blk_cell i1 3 rfl; have fg_3 := blk_free i1 3; have cg_4 := blk_cell i1 4 rfl; have fg_4 := blk_free i1 4; have cg_5 := blk_cell i1 5 rfl; have fg_5 := blk_free i1 5; have lg := lt_of_block i1
  (go_wp2_with (first | (refine wpList_load_row rfl 54 _ rfl _ rfl 54 _ (0, 0) _ k0 Try.underlying54 rfl (by kernel_rfl) ?_)))
  refine (RT.out _ (HF1.out.more (by omega))).mono ?_
  rintro e W2 ⟨v2, rfl, hv2, hb2⟩
  obtain ⟨A2, c2, rfl⟩ := hv2.form
  have j1 := blk_below i1 hb2 (lt_of_block i1)
  have j2 := blk_below i2 hb2 (lt_of_block i2)
  have j3 := blk_below i3 hb2 (lt_of_block i3)
  have HK2 := Lib.hid ((HK1.out.trans (Keeps.of_below hb2) (fun _ _ h => h)) : Keeps (fun i => i = b ∨ i = c) w W2)
  have HP2 := Lib.hid (HP1.out.below hb2 (Nat.le_refl _))
  have HV2 := Lib.hid (HV1.out.below hb2 (Nat.le_refl _))
  have HU2 := Lib.hid hv2
  have HF2 := Lib.hid (HF1.out.below hb2 (by omega))
  have HO2 := Lib.hid (HO1.out.below hb2 (by omega))
  have hz2 : w.heap.size + 3 < W2.heap.size := lt_of_block j3
  have hz12 := hb2.size
  clear cg_0 fg_0 cg_1 fg_1 cg_2 fg_2 cg_3 fg_3 cg_4 fg_4 cg_5 fg_5
  clear k0 i1 i2 i3 hb2 HK1 HP1 HV1 hv2 lg RT HF1 HO1
  have z2 := heap_new W2 (.cells (rag rzero).toArray 54 (0, 0))
  (go_upto_region 9 with (refine wpList_store_row rfl 54 _ _ rfl _ _ rfl rfl 54 _ z2 (by kernel_rfl) rfl (rag_one _) ?_))
  generalize hW : World.setRow _ _ _ = W3
  have g0 : RB W3 W2.heap.size s' := by rw [← hW]; exact setRow_heap _ _ _ _ _ _ z2
  have hb3 : Below W2.heap.size W2 W3 := by rw [← hW]; exact below_setRow ((Below.refl _ _).alloc (Nat.le_refl _) _) (Nat.le_refl _) _
  clear hW z2
  have g1 := blk_below j1 hb3 (lt_of_block j1)
  have g2 := blk_below j2 hb3 (lt_of_block j2)
  have g3 := blk_below j3 hb3 (lt_of_block j3)
  have HK3 := Lib.hid ((HK2.out.trans (Keeps.of_below hb3) (fun _ _ h => h)) : Keeps (fun i => i = b ∨ i = c) w W3)
  have HP3 := Lib.hid (HP2.out.below hb3 (Nat.le_refl _))
  have HV3 := Lib.hid (HV2.out.below hb3 (Nat.le_refl _))
  have HU3 := Lib.hid (HU2.out.below hb3 (Nat.le_refl _))
  have HF3 := Lib.hid (HF2.out.below hb3 (by omega))
  have HO3 := Lib.hid (HO2.out.below hb3 (by omega))
  have hz3 := hb3.size
  clear j1 j2 j3 HK2 HP2 HV2 HU2 HF2 HO2 hb3
  obtain ⟨R, hR⟩ : ∃ R, R = W2.heap.size := ⟨_, rfl⟩
  rw [← hR] at g0 hz2 ⊢
  have hRR : R ≤ W3.heap.size := by omega
  have hb5' : base ≤ W3.heap.size := by omega
  have ho5' : V5.heap.size ≤ W3.heap.size := by omega
  clear hR
  refine wp_region_held_drew (S := fun w' => RB w' R s' ∧ w'.heap[w.heap.size + 1]? = some (.cells #[.int .i64 x.now, .int .i64 x.f.k, .int .i64 x.f.f, .int .i64 x.f.t, .int .i64 x.f.s, .slice FD x.f.d.length fc] 37 (0, 0)) ∧ w'.heap[w.heap.size + 3]? = some (.cells #[.int .i64 x.f.k, .int .i64 x.f.f, .int .i64 x.f.t, .int .i64 x.f.s, .slice O x.f.d.length co] 35 (0, 0))) (by kernel_rfl) ?_ (fun h0 => ?_)
  · exact ⟨g0, g1, g3⟩
  refine wpAnyH_take (i := 0) (v := .agg (rag s').toArray) rfl (by kernel_rfl) (by kernel_rfl) (by kernel_rfl) (fun _ _ _ h => h) (yields_load_row (by rfl) 54 _ rfl R rfl 54 _ (0, 0) _ (fun w' h => h.1) Try.underlying54 rfl (by kernel_rfl)) h0 ?_
  (try simp only [List.getElem_toArray, List.getElem_cons_succ, List.getElem_cons_zero, Act.put, List.setIfInBounds_toArray, List.set_cons_zero, List.set_cons_succ])
  refine wpAnyH_take (i := 1) (v := ?_) rfl (by kernel_rfl) (by kernel_rfl) (by kernel_rfl) (fun _ _ _ h => h) (Or.inl ⟨by rfl, ?_⟩) h0 ?_
  rotate_left
  focus (intro w' hSw; skip; go_simp; (try with_reducible rfl))
  (try simp only [List.getElem_toArray, List.getElem_cons_succ, List.getElem_cons_zero, Act.put, List.setIfInBounds_toArray, List.set_cons_zero, List.set_cons_succ])
  refine wpAnyH_take (i := 2) (v := ?_) rfl (by kernel_rfl) (by kernel_rfl) (by kernel_rfl) (fun _ _ _ h => h) (Or.inl ⟨by rfl, ?_⟩) h0 ?_
  rotate_left
  focus (intro w' hSw; skip; go_simp; (try with_reducible rfl))
  (try simp only [List.getElem_toArray, List.getElem_cons_succ, List.getElem_cons_zero, Act.put, List.setIfInBounds_toArray, List.set_cons_zero, List.set_cons_succ])
  refine wpAnyH_take (i := 3) (v := ?_) rfl (by kernel_rfl) (by kernel_rfl) (by kernel_rfl) (fun _ _ _ h => h) (Or.inl ⟨by rfl, ?_⟩) h0 ?_
  rotate_left
  focus (intro w' hSw; skip; go_simp; (try with_reducible rfl))
  (try simp only [List.getElem_toArray, List.getElem_cons_succ, List.getElem_cons_zero, Act.put, List.setIfInBounds_toArray, List.set_cons_zero, List.set_cons_succ])
  refine wpAnyH_take (i := 4) (v := ?_) rfl (by kernel_rfl) (by kernel_rfl) (by kernel_rfl) (fun _ _ _ h => h) (Or.inl ⟨by rfl, ?_⟩) h0 ?_
  rotate_left
  focus (intro w' hSw; skip; go_simp; (try with_reducible rfl))
  (try simp only [List.getElem_toArray, List.getElem_cons_succ, List.getElem_cons_zero, Act.put, List.setIfInBounds_toArray, List.set_cons_zero, List.set_cons_succ])
  refine wpAnyH_take (i := 5) (v := ?_) rfl (by kernel_rfl) (by kernel_rfl) (by kernel_rfl) (fun _ _ _ h => h) (Or.inl ⟨by rfl, ?_⟩) h0 ?_
  rotate_left
  focus (intro w' hSw; skip; go_simp; (try with_reducible rfl))
  (try simp only [List.getElem_toArray, List.getElem_cons_succ, List.getElem_cons_zero, Act.put, List.setIfInBounds_toArray, List.set_cons_zero, List.set_cons_succ])
  refine wpAnyH_take (i := 6) (v := ?_) rfl (by kernel_rfl) (by kernel_rfl) (by kernel_rfl) (fun _ _ _ h => h) (Or.inl ⟨by rfl, ?_⟩) h0 ?_
  rotate_left
  focus (intro w' hSw; skip; go_simp; (try with_reducible rfl))
  (try simp only [List.getElem_toArray, List.getElem_cons_succ, List.getElem_cons_zero, Act.put, List.setIfInBounds_toArray, List.set_cons_zero, List.set_cons_succ])
  refine wpAnyH_ready (rs := [7]) (by kernel_rfl) (by simp) ?_
  refine AllReadyH.cons rfl (fun K hK => ?_) AllReadyH.nil
  go_simp
  refine (same_true (by have := HL.out; omega) (Rof.rf (HV3.out.drew)) (Rof.rf (HU3.out.drew))).mono ?_
  rintro e W5 ⟨rfl, hb5⟩
  go_wp2_with fail
  have hb6 : Below W3.heap.size W3 W5 := (Below.refl W3.heap.size W3).drew.trans hb5
  refine hK.out _ _ ?_ (fun h1 => ?_)
  · exact ⟨blk_below g0 hb6 (lt_of_block g0), blk_below g1 hb6 (lt_of_block g1), blk_below g3 hb6 (lt_of_block g3)⟩
  clear hK K
  (try simp only [List.getElem_toArray, List.getElem_cons_succ, List.getElem_cons_zero, Act.put, List.setIfInBounds_toArray, List.set_cons_zero, List.set_cons_succ])
  refine wpAnyH_take (i := 8) (v := ?_) rfl (by kernel_rfl) (by kernel_rfl) (by kernel_rfl) (fun _ _ _ h => h) (Or.inl ⟨by rfl, ?_⟩) h1 ?_
  rotate_left
  focus (intro w' hSw; skip; go_simp; (try with_reducible rfl))
  (try simp only [List.getElem_toArray, List.getElem_cons_succ, List.getElem_cons_zero, Act.put, List.setIfInBounds_toArray, List.set_cons_zero, List.set_cons_succ])
  refine wpAnyH_take (i := 9) (v := ?_) rfl (by kernel_rfl) (by kernel_rfl) (by kernel_rfl) (fun _ _ _ h => h) (Or.inl ⟨by rfl, ?_⟩) h1 ?_
  rotate_left
  focus (intro w' hSw; skip; go_simp; (try with_reducible rfl))
  (try simp only [List.getElem_toArray, List.getElem_cons_succ, List.getElem_cons_zero, Act.put, List.setIfInBounds_toArray, List.set_cons_zero, List.set_cons_succ])
  refine wpAnyH_take (i := 10) (v := ?_) rfl (by kernel_rfl) (by kernel_rfl) (by kernel_rfl) (fun _ _ _ h => h) (Or.inl ⟨by rfl, ?_⟩) h1 ?_
  rotate_left
  focus (intro w' hSw; have a1 := blk_cell hSw.2.1 1 rfl; have a2 := blk_cell hSw.2.1 2 rfl; have a3 := blk_cell hSw.2.1 3 rfl; have a4 := blk_cell hSw.2.1 4 rfl; have a5 := blk_cell hSw.2.1 5 rfl; have o0 := blk_cell hSw.2.2 0 rfl; have o1 := blk_cell hSw.2.2 1 rfl; have o2 := blk_cell hSw.2.2 2 rfl; have o3 := blk_cell hSw.2.2 3 rfl; have o4 := blk_cell hSw.2.2 4 rfl; go_simp; (try with_reducible rfl))
  (try simp only [List.getElem_toArray, List.getElem_cons_succ, List.getElem_cons_zero, Act.put, List.setIfInBounds_toArray, List.set_cons_zero, List.set_cons_succ])
  refine wpAnyH_take (i := 11) (v := ?_) rfl (by kernel_rfl) (by kernel_rfl) (by kernel_rfl) (fun _ _ _ h => h) (Or.inl ⟨by rfl, ?_⟩) h1 ?_
  rotate_left
  focus (intro w' hSw; skip; go_simp; (try with_reducible rfl))
  (try simp only [List.getElem_toArray, List.getElem_cons_succ, List.getElem_cons_zero, Act.put, List.setIfInBounds_toArray, List.set_cons_zero, List.set_cons_succ])
  refine wpAnyH_take (i := 12) (v := ?_) rfl (by kernel_rfl) (by kernel_rfl) (by kernel_rfl) (fun _ _ _ h => h) (Or.inl ⟨by rfl, ?_⟩) h1 ?_
  rotate_left
  focus (intro w' hSw; have a1 := blk_cell hSw.2.1 1 rfl; have a2 := blk_cell hSw.2.1 2 rfl; have a3 := blk_cell hSw.2.1 3 rfl; have a4 := blk_cell hSw.2.1 4 rfl; have a5 := blk_cell hSw.2.1 5 rfl; have o0 := blk_cell hSw.2.2 0 rfl; have o1 := blk_cell hSw.2.2 1 rfl; have o2 := blk_cell hSw.2.2 2 rfl; have o3 := blk_cell hSw.2.2 3 rfl; have o4 := blk_cell hSw.2.2 4 rfl; go_simp; (try with_reducible rfl))
  (try simp only [List.getElem_toArray, List.getElem_cons_succ, List.getElem_cons_zero, Act.put, List.setIfInBounds_toArray, List.set_cons_zero, List.set_cons_succ])
  refine wpAnyH_ready (rs := [13]) (by kernel_rfl) (by simp) ?_
  refine AllReadyH.cons rfl (fun K hK => ?_) AllReadyH.nil
  go_simp
  refine (same_refl x.f O FD x.f.d.length x.f.d.length co fc W5 ((HO3.out.below hb6 ho5').more (by have := hb6.size; omega)) ((HF3.out.below hb6 hb5').more (by have := hb6.size; omega))).mono ?_
  rintro e W6 ⟨rfl, hb7⟩
  go_wp2_with fail
  have hb8 : Below W3.heap.size W3 W6 := hb6.trans (hb7.mono hb6.size)
  refine hK.out _ _ ?_ (fun h2 => ?_)
  · exact ⟨blk_below g0 hb8 (lt_of_block g0), blk_below g1 hb8 (lt_of_block g1), blk_below g3 hb8 (lt_of_block g3)⟩
  clear hK K
  (try simp only [List.getElem_toArray, List.getElem_cons_succ, List.getElem_cons_zero, Act.put, List.setIfInBounds_toArray, List.set_cons_zero, List.set_cons_succ])
  have x2 := blk_below g2 hb8 (lt_of_block g2)
  have HP5 := Lib.hid (HP3.out.below hb8 (Nat.le_refl _))
  have HK6 := Lib.hid ((HK3.out.trans (Keeps.of_below hb8) (fun _ _ h => h)) : Keeps (fun i => i = b ∨ i = c) w W6)
  refine wpAnyH_take (i := 14) (v := ?_) rfl (by kernel_rfl) (by kernel_rfl) (by kernel_rfl) (fun _ _ _ h => h) (Or.inl ⟨by rfl, ?_⟩) h2 ?_
  rotate_left
  focus (intro w' hSw; skip; go_simp; (try with_reducible rfl))
  (try simp only [List.getElem_toArray, List.getElem_cons_succ, List.getElem_cons_zero, Act.put, List.setIfInBounds_toArray, List.set_cons_zero, List.set_cons_succ])
  refine wpAnyH_ready (rs := [15]) (by kernel_rfl) (by simp) ?_
  refine AllReadyH.cons rfl (fun K hK => ?_) AllReadyH.nil
  refine wp_store_row 54 _ _ rfl _ _ rfl rfl 54 _ (x2) (by kernel_rfl) rfl (rag_one _) ?_
  refine hK.out _ _ ?_ (fun h3 => ?_)
  · exact ⟨(setRow_other _ _ _ _ (by omega)).trans h2.1, (setRow_other _ _ _ _ (by omega)).trans h2.2.1, (setRow_other _ _ _ _ (by omega)).trans h2.2.2⟩
  clear hK K
  (try simp only [List.getElem_toArray, List.getElem_cons_succ, List.getElem_cons_zero, Act.put, List.setIfInBounds_toArray, List.set_cons_zero, List.set_cons_succ])
  refine wpAnyH_take (i := 16) (v := ?_) rfl (by kernel_rfl) (by kernel_rfl) (by kernel_rfl) (fun _ _ _ h => h) (Or.inl ⟨by rfl, ?_⟩) h3 ?_
  rotate_left
  focus (intro w' hSw; skip; go_simp; (try with_reducible rfl))
  (try simp only [List.getElem_toArray, List.getElem_cons_succ, List.getElem_cons_zero, Act.put, List.setIfInBounds_toArray, List.set_cons_zero, List.set_cons_succ])
  refine wpAnyH_done (by kernel_rfl) ?_ _
  go_wp2_with fail
  exact bodyPost_ret (results_ct rfl _ _ _ _ _ (0, 0) _ rfl (setRow_heap _ _ _ _ _ _ x2) Try.underlying54 rfl (by kernel_rfl)) rfl ⟨rfl, HP5.out.setRow _ ⟨_, x2⟩, HK6.out.setRow _ (by omega)⟩
theorem act_any (h : IsP w base b c s) (hs : Plt.Inv s) (hrep : s.reports < 1000000000) (x : LAct) (FD : Option Addr) (fc : Nat) (hn : x.f.d.length ≤ 140737488355328) (hbase : base ≤ w.heap.size) (hd : Rd w base FD x.f.d.length x.f.d) :
    Calls Try.prog 21 #[.pointer (some ⟨b, 0, none⟩), .agg (rag s).toArray, .agg #[.int .i64 x.now, .int .i64 x.f.k, .int .i64 x.f.f, .int .i64 x.f.t, .int .i64 x.f.s, .slice FD x.f.d.length fc]] w (ActPost base b c (Plt.actS s x) w) := by
  unfold Plt.actS
  split
  · rename_i hk; exact act_tick h hs hrep x hk FD fc
  · rename_i hk; exact act_recv h hs hrep x hk FD fc hn hbase hd
end
end Go.Proofs.Ytjidchaejicjaaa

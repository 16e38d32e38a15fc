/- The theorem of stage 37 holds: 'skylanternlaw37.PilotHolds' returns true at every input. No conditions. -/
import Derived.Test.YtjidchaejicjaaaPlHo
import Derived.Test.YtjidchaejicjaaaPlJx
import Derived.Test.YtjidchaejicjaaaPlAE
import Derived.Test.YtjidchaejicjaaaFrC
import Derived.Deep.CutRange
namespace Go.Proofs.Ytjidchaejicjaaa.lawPilotHolds
open Go.ChangeShapes Go.WideShapes Go.ChangeAt Go.RowKit Go.Joins
set_option linter.unusedVariables false
set_option linter.unusedSimpArgs false
attribute [local go_sem ↓] Go.wp_at_zero Go.wp_at_succ
set_option maxHeartbeats 60000000
set_option maxRecDepth 100000
/-- what a round keeps -/
structure HS (B b c : Nat) (L R D La E : Int) (s : Plt.St) (i : Nat) (w wr : World) : Prop where
  p : IsP wr B b c s
  inv : Plt.Inv s
  e : Plt.Ho.E s
  rep : s.reports ≤ i
  rul : Plt.Ho.rul s = (L, R, D, La, E)
  box : wr.heap[B]? = some (.cells #[.int .i64 L, .int .i64 R, .int .i64 D, .int .i64 La, .int .i64 E] 23 (0, 0))
  bel : Below B w wr
/-- behind a call: its error, the pilot -/
def Aft (B b c N : Nat) (AC : Array Value) (L R D La E : Int) (s : Plt.St) (k l : Int) (i : Nat) (w : World) (v : Value) (wx : World) : Prop :=
  ∃ (er : Int) (s' : Plt.St), v = .int .i64 er ∧ HS B b c L R D La E s' (i + 1) w wx ∧ wx.heap[N]? = some (.cells AC 37 (0, 0)) ∧ (er ≠ 0 → s' = s) ∧ (er = 0 → Plt.Ho.Post s s' k l)
theorem bne_no {a b : Int} (h : a = b) : (a != b) = false := by rw [bne_eq_false_iff_eq]; exact h
theorem bne_yes {a b : Int} (h : ¬ a = b) : (a != b) = true := by rw [bne_iff_ne]; exact h
theorem beq_no {a b : Int} (h : a ≠ b) : (a == b) = false := by rw [beq_eq_false_iff_ne]; exact h
theorem beq_yes {a b : Int} (h : a = b) : (a == b) = true := by rw [beq_iff_eq]; exact h
theorem rul_ok {s : Plt.St} {L R D La E : Int} (h : Plt.Ho.rul s = (L, R, D, La, E)) : s.lost = L ∧ s.ret = R ∧ s.desc = D ∧ s.late = La ∧ s.every = E := by
  unfold Plt.Ho.rul at h
  injection h with h1 h
  injection h with h2 h
  injection h with h3 h
  injection h with h4 h5
  exact ⟨h1, h2, h3, h4, h5⟩
theorem aft_tick {B b c N : Nat} {AC : Array Value} {L R D La E : Int} {s : Plt.St} {l : Int} {i : Nat} {w W W1 : World} {e : Ending} (h : HS B b c L R D La E s i w W) (hi : i < 1000) {k0 : Int} (hk0 : k0 = 0) (k : W.heap[N]? = some (.cells AC 37 (0, 0)))
    (hp : PRPost B b c (Plt.tickS s l) (Plt.tickF s l) (Plt.timE s l) W e W1) : ∃ A n cp, e = .returned (.tuple #[.slice A n cp, .int .i64 (Plt.timE s l)]) ∧ Aft B b c N AC L R D La E s k0 l i w (.int .i64 (Plt.timE s l)) W1 := by
  subst hk0
  obtain ⟨v, rfl, hv, hp1, hk⟩ := hp
  obtain ⟨A, cp, rfl⟩ := hv.form
  have hn := h.p.away ⟨_, k⟩ (by decide) (by decide)
  have hr := h.p.away ⟨_, h.box⟩ (by decide) (by decide)
  have hre : (Plt.tickS s l).reports ≤ s.reports + 1 := (Plt.actS_reports s ⟨l, ⟨0, 0, 0, 0, []⟩⟩).1
  have hrr := h.rep
  have hru : Plt.Ho.rul (Plt.tickS s l) = Plt.Ho.rul s ∧ Plt.Ho.E (Plt.tickS s l) := by
    unfold Plt.tickS
    split
    · rename_i ht; have := Plt.Ho.tick_post h.inv h.e ht; exact ⟨this.rul, this.e⟩
    · exact ⟨rfl, h.e⟩
  refine ⟨A, _, cp, rfl, _, Plt.tickS s l, rfl, ⟨hp1, Plt.tickS_inv h.inv l, hru.2, by omega, hru.1.trans h.rul, blk_keep h.box hk (fun e => by omega), act_below h.bel (by have := lt_of_block h.box; omega) h.p hk⟩, blk_keep k hk (fun e => by omega), fun he => ?_, fun he => ?_⟩
  · unfold Plt.tickS; rw [if_neg he]
  · unfold Plt.tickS; rw [if_pos he]; exact Plt.Ho.tick_post h.inv h.e he
theorem aft_recv {B b c N : Nat} {AC : Array Value} {L R D La E : Int} {s : Plt.St} {l k f t q : Int} {d : List Int} {i : Nat} {w W W1 : World} {e : Ending} (h : HS B b c L R D La E s i w W) (hi : i < 1000) (hk0 : k ≠ 0) (hd : ∀ z ∈ d, 0 ≤ z ∧ z < 256) (kk : W.heap[N]? = some (.cells AC 37 (0, 0)))
    (hp : PRPost B b c (Plt.rcvS s l ⟨k, f, t, q, d⟩) (Plt.rcvF s l ⟨k, f, t, q, d⟩) (Plt.rcvE s l ⟨k, f, t, q, d⟩) W e W1) : ∃ A n cp, e = .returned (.tuple #[.slice A n cp, .int .i64 (Plt.rcvE s l ⟨k, f, t, q, d⟩)]) ∧ Aft B b c N AC L R D La E s k l i w (.int .i64 (Plt.rcvE s l ⟨k, f, t, q, d⟩)) W1 := by
  obtain ⟨v, rfl, hv, hp1, hk⟩ := hp
  obtain ⟨A, cp, rfl⟩ := hv.form
  have hn := h.p.away ⟨_, kk⟩ (by decide) (by decide)
  have hr := h.p.away ⟨_, h.box⟩ (by decide) (by decide)
  have ea : Plt.actS s ⟨l, ⟨k, f, t, q, d⟩⟩ = Plt.rcvS s l ⟨k, f, t, q, d⟩ := by unfold Plt.actS; rw [if_neg hk0]
  have hre : (Plt.rcvS s l ⟨k, f, t, q, d⟩).reports ≤ s.reports + 1 := by have := (Plt.actS_reports s ⟨l, ⟨k, f, t, q, d⟩⟩).1; rwa [ea] at this
  have hrr := h.rep
  have post : Plt.rcvE s l ⟨k, f, t, q, d⟩ = 0 → Plt.Ho.Post s (Plt.recv s l (Plt.fmOf ⟨k, f, t, q, d⟩)) k l := fun he =>
    Plt.Ho.recv_post (x := Plt.fmOf ⟨k, f, t, q, d⟩) h.inv h.e (Plt.rcvE_ok he).1 (Plt.fmOf_n hd) hk0
  have hru : Plt.Ho.rul (Plt.rcvS s l ⟨k, f, t, q, d⟩) = Plt.Ho.rul s ∧ Plt.Ho.E (Plt.rcvS s l ⟨k, f, t, q, d⟩) := by
    unfold Plt.rcvS
    split
    · rename_i ht; have := post ht; exact ⟨this.rul, this.e⟩
    · exact ⟨rfl, h.e⟩
  refine ⟨A, _, cp, rfl, _, Plt.rcvS s l ⟨k, f, t, q, d⟩, rfl, ⟨hp1, Plt.rcvS_inv h.inv l hd, hru.2, by omega, hru.1.trans h.rul, blk_keep h.box hk (fun e => by omega), act_below h.bel (by have := lt_of_block h.box; omega) h.p hk⟩, blk_keep kk hk (fun e => by omega), fun he => ?_, fun he => ?_⟩
  · unfold Plt.rcvS; rw [if_neg he]
  · unfold Plt.rcvS; rw [if_pos he]; exact post he
theorem HS.below {B b c : Nat} {L R D La E : Int} {s : Plt.St} {i : Nat} {w W W' : World} (h : HS B b c L R D La E s i w W) (k : Below W.heap.size W W') : HS B b c L R D La E s i w W' :=
  ⟨h.p.below k (Nat.le_refl _), h.inv, h.e, h.rep, h.rul, blk_below h.box k (lt_of_block h.box), h.bel.trans (k.mono (by have := lt_of_block h.box; omega))⟩
theorem HS.more {B b c : Nat} {L R D La E : Int} {s : Plt.St} {i : Nat} {w W : World} (h : HS B b c L R D La E s i w W) : HS B b c L R D La E s (i + 1) w W :=
  ⟨h.p, h.inv, h.e, by have := h.rep; omega, h.rul, h.box, h.bel⟩
theorem walk_no (a00 a01 a02 a03 a04 : Int) (a1 : Int) (a2 : Option Addr) (len2 cap2 : Nat) (l2 : List LAct) (w : World) (w00 : (Lit.int .i64 a00).wf = true) (w01 : (Lit.int .i64 a01).wf = true) (w02 : (Lit.int .i64 a02).wf = true) (w03 : (Lit.int .i64 a03).wf = true) (w04 : (Lit.int .i64 a04).wf = true) (w1 : (Lit.int .i64 a1).wf = true) (w2 : LRf w w.heap.size a2 len2 l2) (r2 : Room a2 len2 cap2) (f2 : ∀ y ∈ l2, LaOk y) (hno : fewB l2 60 = false ∨ fewB l2 60 = true ∧ (Plt.ruOk a00 a01 a02 a03 a04 = false ∨ Plt.ruOk a00 a01 a02 a03 a04 = true ∧ (a1 < 0 ∨ 0 ≤ a1 ∧ 100000 < a1))) :
    Calls Try.prog 3 #[.agg #[.int .i64 a00, .int .i64 a01, .int .i64 a02, .int .i64 a03, .int .i64 a04], .int .i64 a1, .slice a2 len2 cap2] w fun e w' => e = .returned (.bool true) ∧ Below w.heap.size w w' := by
  have FW := Lib.hid (fun (W : World) (hW : LRf W w.heap.size a2 len2 l2) => few_any a2 len2 cap2 60 w.heap.size l2 W hW (by have h1 := r2.1; have h2 := r2.2.1; unfold maxLen at h2; omega) (by omega))
  have RV := Lib.hid (fun W : World => rpvalid_any a00 a01 a02 a03 a04 W)
  have HW := Lib.hid w2
  clear w00 w01 w02 w03 w04 w1 w2 r2 f2
  rcases hno with h1 | ⟨h1, h2 | ⟨h2, h3 | ⟨h3, h4⟩⟩⟩
  · rw [h1] at FW
    clear h1
    go_enter Try.func3, Try.ntmps3
    go_upto_region 1 with fail; generalize hV : World.alloc _ _ = V0; have k0 : V0.heap[w.heap.size]? = some (.cells #[.int .i64 a00, .int .i64 a01, .int .i64 a02, .int .i64 a03, .int .i64 a04] 23 (0, 0)) := (by rw [← hV]; exact heap_new _ _); have HB := Lib.hid (show Below w.heap.size w V0 by rw [← hV]; exact (Below.refl _ _).alloc (Nat.le_refl _) _); clear hV; (have cf_0 := blk_cell k0 0 rfl; have ff_0 := blk_free k0 0; have cf_1 := blk_cell k0 1 rfl; have ff_1 := blk_free k0 1; have cf_2 := blk_cell k0 2 rfl; have ff_2 := blk_free k0 2; have cf_3 := blk_cell k0 3 rfl; have ff_3 := blk_free k0 3; have cf_4 := blk_cell k0 4 rfl; have ff_4 := blk_free k0 4; have lf := lt_of_block k0); go_wp2_with fail; refine (FW.out _ (HW.out.below HB.out (Nat.le_refl _))).mono ?_; rintro e w' ⟨rfl, rfl⟩
    go_wp2_with fail; refine (known_true _).mono ?_; rintro e W9 ⟨rfl, hb9⟩; have HB9 := Lib.hid (HB.out.trans (hb9.mono HB.out.size)); clear hb9; go_wp2_with fail; go_ret; exact ⟨rfl, HB9.out⟩
  all_goals
    rw [h1] at FW
    rw [h2] at RV
    clear h1 h2
    go_enter Try.func3, Try.ntmps3
    go_upto_region 1 with fail; generalize hV : World.alloc _ _ = V0; have k0 : V0.heap[w.heap.size]? = some (.cells #[.int .i64 a00, .int .i64 a01, .int .i64 a02, .int .i64 a03, .int .i64 a04] 23 (0, 0)) := (by rw [← hV]; exact heap_new _ _); have HB := Lib.hid (show Below w.heap.size w V0 by rw [← hV]; exact (Below.refl _ _).alloc (Nat.le_refl _) _); clear hV; (have cf_0 := blk_cell k0 0 rfl; have ff_0 := blk_free k0 0; have cf_1 := blk_cell k0 1 rfl; have ff_1 := blk_free k0 1; have cf_2 := blk_cell k0 2 rfl; have ff_2 := blk_free k0 2; have cf_3 := blk_cell k0 3 rfl; have ff_3 := blk_free k0 3; have cf_4 := blk_cell k0 4 rfl; have ff_4 := blk_free k0 4; have lf := lt_of_block k0); go_wp2_with fail; refine (FW.out _ (HW.out.below HB.out (Nat.le_refl _))).mono ?_; rintro e w' ⟨rfl, rfl⟩
    go_wp2_with fail; refine (RV.out _).mono ?_; rintro e V1 ⟨rfl, hb1⟩; have k1 := blk_below k0 hb1 (lt_of_block k0); have HB1 := Lib.hid (HB.out.trans (hb1.mono HB.out.size)); clear hb1 HB; have HB := HB1; clear cf_0 ff_0 cf_1 ff_1 cf_2 ff_2 cf_3 ff_3 cf_4 ff_4; clear k0 HB1
    go_wp2_with fail; refine (known_true _).mono ?_; rintro e W9 ⟨rfl, hb9⟩; have HB9 := Lib.hid (HB.out.trans (hb9.mono HB.out.size)); clear hb9; go_wp2_with fail; go_ret; exact ⟨rfl, HB9.out⟩
theorem walk_yes (a00 a01 a02 a03 a04 : Int) (a1 : Int) (a2 : Option Addr) (len2 cap2 : Nat) (l2 : List LAct) (w : World) (w00 : (Lit.int .i64 a00).wf = true) (w01 : (Lit.int .i64 a01).wf = true) (w02 : (Lit.int .i64 a02).wf = true) (w03 : (Lit.int .i64 a03).wf = true) (w04 : (Lit.int .i64 a04).wf = true) (w1 : (Lit.int .i64 a1).wf = true) (w2 : LRf w w.heap.size a2 len2 l2) (r2 : Room a2 len2 cap2) (f2 : ∀ y ∈ l2, LaOk y) (h1 : fewB l2 60 = true) (h2 : Plt.ruOk a00 a01 a02 a03 a04 = true) (h3 : 0 ≤ a1 ∧ a1 ≤ 100000) :
    Calls Try.prog 3 #[.agg #[.int .i64 a00, .int .i64 a01, .int .i64 a02, .int .i64 a03, .int .i64 a04], .int .i64 a1, .slice a2 len2 cap2] w fun e w' => e = .returned (.bool true) ∧ Below w.heap.size w w' := by
  have FW := Lib.hid (fun (W : World) (hW : LRf W w.heap.size a2 len2 l2) => few_any a2 len2 cap2 60 w.heap.size l2 W hW (by have h1 := r2.1; have h2 := r2.2.1; unfold maxLen at h2; omega) (by omega))
  have RV := Lib.hid (fun W : World => rpvalid_any a00 a01 a02 a03 a04 W)
  have HW := Lib.hid w2
  have hlen : l2.length ≤ 60 ∧ ∀ y ∈ l2, okA y = true := by
    have h := h1
    unfold fewB at h
    simp only [Bool.and_eq_true, decide_eq_true_eq, List.all_eq_true] at h
    exact h
  have hl60 : len2 ≤ 60 := by rw [← HW.out.1]; exact hlen.1
  have AL := Lib.hid hlen.2
  have RUL := Lib.hid (Plt.ruOk_iff.1 h2)
  have hne : Plt.newE 3 a00 a01 a02 a03 a04 a1 = 0 := by unfold Plt.newE; rw [if_pos ⟨by decide, h2, h3⟩]
  have NW := Lib.hid (fun W : World => pnew_yes 3 a00 a01 a02 a03 a04 a1 W hne)
  have HI := Lib.hid (Plt.new_inv hne)
  have HE := Lib.hid (Plt.Ho.new_E (id := 3) (lost := a00) (ret := a01) (desc := a02) (late := a03) (every := a04) (d := a1))
  obtain ⟨s0, hs0⟩ : ∃ s0, s0 = Plt.new 3 a00 a01 a02 a03 a04 a1 := ⟨_, rfl⟩
  have hr0 : s0.reports = 0 ∧ s0.heard = 0 ∧ s0.begun = false ∧ Plt.Ho.rul s0 = (a00, a01, a02, a03, a04) := by rw [hs0]; exact ⟨rfl, rfl, rfl, rfl⟩
  rw [← hs0] at NW HI HE
  have HR0 := Lib.hid hr0
  rw [h1] at FW
  rw [h2] at RV
  clear hs0 hr0 hne h1 h2 hlen w00 w01 w02 w03 w04 w1 w2 r2 f2
  go_enter Try.func3, Try.ntmps3
  go_upto_region 1 with fail; generalize hV : World.alloc _ _ = V0; have k0 : V0.heap[w.heap.size]? = some (.cells #[.int .i64 a00, .int .i64 a01, .int .i64 a02, .int .i64 a03, .int .i64 a04] 23 (0, 0)) := (by rw [← hV]; exact heap_new _ _); have HB := Lib.hid (show Below w.heap.size w V0 by rw [← hV]; exact (Below.refl _ _).alloc (Nat.le_refl _) _); clear hV; (have cf_0 := blk_cell k0 0 rfl; have ff_0 := blk_free k0 0; have cf_1 := blk_cell k0 1 rfl; have ff_1 := blk_free k0 1; have cf_2 := blk_cell k0 2 rfl; have ff_2 := blk_free k0 2; have cf_3 := blk_cell k0 3 rfl; have ff_3 := blk_free k0 3; have cf_4 := blk_cell k0 4 rfl; have ff_4 := blk_free k0 4; have lf := lt_of_block k0); go_wp2_with fail; refine (FW.out _ (HW.out.below HB.out (Nat.le_refl _))).mono ?_; rintro e w' ⟨rfl, rfl⟩
  go_wp2_with fail; refine (RV.out _).mono ?_; rintro e V1 ⟨rfl, hb1⟩; have k1 := blk_below k0 hb1 (lt_of_block k0); have HB1 := Lib.hid (HB.out.trans (hb1.mono HB.out.size)); clear hb1 HB; have HB := HB1; clear cf_0 ff_0 cf_1 ff_1 cf_2 ff_2 cf_3 ff_3 cf_4 ff_4; clear k0 HB1
  have cg_0 := blk_cell k1 0 rfl; have fg_0 := blk_free k1 0; have cg_1 := blk_cell k1 1 rfl; have fg_1 := blk_free k1 1; have cg_2 := blk_cell k1 2 rfl; have fg_2 := blk_free k1 2; have cg_3 := blk_cell k1 3 rfl; have fg_3 := blk_free k1 3; have cg_4 := blk_cell k1 4 rfl; have fg_4 := blk_free k1 4; have lg := lt_of_block k1
  go_wp2_with fail
  refine (NW.out _).mono ?_
  rintro e W2 ⟨b, c, rfl, hp2, hb2⟩
  have HQ0 := Lib.hid (show HS w.heap.size b c a00 a01 a02 a03 a04 s0 0 w W2 from ⟨hp2.lower HB.out.size, HI.out, HE.out, by rw [HR0.out.1]; exact Int.le_refl _, HR0.out.2.2.2, blk_below k1 hb2 (lt_of_block k1), HB.out.trans (hb2.mono HB.out.size)⟩)
  clear cg_0 fg_0 cg_1 fg_1 cg_2 fg_2 cg_3 fg_3 cg_4 fg_4
  clear hp2 hb2 k1 HB NW HI HE lf lg FW RV
  go_wp2_with fail
  go_loopw [9, 10, 11] (fun v9 v10 v11 wr => ∃ (i : Nat) (s : Plt.St), v9 = .int .i64 s.heard ∧ v10 = .bool s.begun ∧ v11 = .int .i64 i ∧ i ≤ len2 ∧ Hid (HS w.heap.size b c a00 a01 a02 a03 a04 s i w wr)) (fun _ _ sl _ => len2 - (intOf sl).toNat)
  case atStart => exact ⟨0, s0, by rw [HR0.out.2.1], by rw [HR0.out.2.2.1], by go_num, by omega, HQ0⟩
  case round =>
    obtain ⟨i, s, rfl, rfl, rfl, hi, HQ⟩ := hrel
    clear HQ0 HR0
    by_cases hlt : i < len2
    case neg =>
      obtain rfl : i = len2 := by omega
      have HB := Lib.hid HQ.out.bel
      go_wp2_with fail; refine (known_true _).mono ?_; rintro e W9 ⟨rfl, hb9⟩; have HB9 := Lib.hid (HB.out.trans (hb9.mono HB.out.size)); clear hb9; go_wp2_with fail; go_ret; exact ⟨rfl, HB9.out⟩
    case pos =>
    obtain ⟨bb, oo, rfl, hbb, hcc⟩ := (HW.out.below HQ.out.bel (Nat.le_refl _)).2 (by omega)
    obtain ⟨FD, fc, c0, c1, c2, c3, c4, c5, hrd, hrm⟩ := hcc i hlt
    obtain ⟨x, hx⟩ : ∃ x, x = l2.getD i la0 := ⟨_, rfl⟩
    rw [← hx] at c0 c1 c2 c3 c4 c5 hrd hrm
    have hok : okA x = true := AL.out x (by rw [hx]; simp [List.getD, List.getElem?_eq_getElem (show i < l2.length by rw [HW.out.1]; exact hlt)])
    unfold okA at hok
    simp only [decide_eq_true_eq] at hok
    have hzr := HQ.out.bel.size
    have HRD := Lib.hid hrd
    have HRM := Lib.hid hrm
    have hin : (i : Int) < (len2 : Int) := by omega
    have hbw : bb < wr.heap.size := by omega
    have hbN : bb ≠ wr.heap.size := by omega
    have ST := Lib.hid (fun (W : World) (hW : IsP W w.heap.size b c s) => pstate_any hW HQ.out.inv)
    have SA := Lib.hid (fun (W : World) (hW : IsP W w.heap.size b c s) => pstart_any hW HQ.out.inv)
    obtain ⟨bst, hbst⟩ : ∃ y, y = hasV s.start s.given := ⟨_, rfl⟩
    obtain ⟨bse, hbse⟩ : ∃ y, y = hasE s.given := ⟨_, rfl⟩
    rw [← hbst, ← hbse] at SA
    have HBST := Lib.hid hbst
    obtain ⟨B0, hB0⟩ : ∃ y, y = s.st := ⟨_, rfl⟩
    obtain ⟨hd0, hhd0⟩ : ∃ y, y = s.heard ∧ True := ⟨_, rfl, trivial⟩
    obtain ⟨bg0, hbg0⟩ : ∃ y, y = s.begun ∧ True := ⟨_, rfl, trivial⟩
    rw [← hB0] at ST
    rw [← hhd0.1, ← hbg0.1]
    have HX0 := Lib.hid (show B0 = s.st ∧ hd0 = s.heard ∧ bg0 = s.begun from ⟨hB0, hhd0.1, hbg0.1⟩)
    clear hcc hx hrd hrm hbst hbse hB0 hhd0 hbg0
    go_wp2_with fail
    generalize hV : World.alloc _ _ = V
    have kA : V.heap[wr.heap.size]? = some (.cells #[.int .i64 x.now, .int .i64 x.f.k, .int .i64 x.f.f, .int .i64 x.f.t, .int .i64 x.f.s, .slice FD x.f.d.length fc] 37 (0, 0)) := by rw [← hV]; exact heap_new _ _
    have hBV : Below wr.heap.size wr V := by rw [← hV]; exact (Below.refl _ _).alloc (Nat.le_refl _) _
    have HV := Lib.hid (HQ.out.below hBV)
    have HRV := Lib.hid (HRD.out.below hBV hzr)
    obtain ⟨NA, hNA⟩ : ∃ NA, NA = wr.heap.size := ⟨_, rfl⟩
    rw [← hNA] at kA ⊢
    clear hNA hV c0 c1 c2 c3 c4 c5 hBV hbN hbw
    as_aux_lemma =>
    refine (ST.out _ HV.out.p).mono ?_
    rintro e w' ⟨rfl, rfl⟩
    go_wp2_with fail
    refine (SA.out _ HV.out.p).mono ?_
    rintro e W3 ⟨rfl, hb3⟩
    have kA3 := blk_below kA hb3 (lt_of_block kA)
    have H3 := Lib.hid (HV.out.below hb3)
    have HR3 := Lib.hid (HRV.out.below hb3 HV.out.bel.size)
    clear kA hb3 HV HRV SA HRD HQ
    have KA3 := Lib.hid kA3
    have ca_0 := blk_cell kA3 0 rfl; have fa_0 := blk_free kA3 0; have ca_1 := blk_cell kA3 1 rfl; have fa_1 := blk_free kA3 1; have ca_2 := blk_cell kA3 2 rfl; have fa_2 := blk_free kA3 2; have ca_3 := blk_cell kA3 3 rfl; have fa_3 := blk_free kA3 3; have ca_4 := blk_cell kA3 4 rfl; have fa_4 := blk_free kA3 4; have ca_5 := blk_cell kA3 5 rfl; have fa_5 := blk_free kA3 5; have la := lt_of_block kA3
    go_upto_if 73 with fail
    have hr3 : s.reports < 1000000000 := by have := H3.out.rep; omega
    go_cut [16] from 53 to 260 (fun v wx => Aft w.heap.size b c NA #[.int .i64 x.now, .int .i64 x.f.k, .int .i64 x.f.f, .int .i64 x.f.t, .int .i64 x.f.s, .slice FD x.f.d.length fc] a00 a01 a02 a03 a04 s x.f.k x.now i w v wx)
    case first => as_aux_lemma =>
      by_cases hk0 : x.f.k = 0
      · have TK := Lib.hid (ptick_any H3.out.p H3.out.inv hr3 x.now)
        have hkb := beq_yes hk0
        go_wp2_with fail
        refine TK.out.mono ?_
        rintro e W4 hp
        obtain ⟨A, n, cp, rfl, hq⟩ := aft_tick H3.out (by omega) hk0 KA3.out hp
        have HQ4 := Lib.hid hq
        clear hp hq
        go_wp2_with fail
        go_meet
        exact HQ4.out
      · have RC := Lib.hid (precv_ext H3.out.p H3.out.inv x.f.k x.f.f x.f.t x.f.s FD x.f.d.length fc x.f.d rfl (by omega) HRM.out.1 (by have := HRM.out.2.1; unfold maxLen at this; omega) (HR3.out.more H3.out.bel.size) (fun h0 a ha => by obtain ⟨q, o, e, hq, _⟩ := HR3.out.2.2 h0; rw [ha] at e; injection e with e; subst e; have := H3.out.p.ge; simp only; omega) hr3 x.now)
        have hkb := beq_no hk0
        go_wp2_with fail
        refine RC.out.mono ?_
        rintro e W4 hp
        obtain ⟨A, n, cp, rfl, hq⟩ := aft_recv H3.out (by omega) hk0 HR3.out.2.1 KA3.out hp
        have HQ4 := Lib.hid hq
        clear hp hq
        go_wp2_with fail
        go_meet
        exact HQ4.out
    case rest => as_aux_lemma =>
    obtain ⟨er, s', rfl, h4, kA4, he0, he1⟩ := hcut
    clear ca_0 fa_0 ca_1 fa_1 ca_2 fa_2 ca_3 fa_3 ca_4 fa_4 ca_5 fa_5
    have H4 := Lib.hid h4
    have HE3 := Lib.hid H3.out.e
    clear kA3 KA3 H3 HR3 HRM h4 hr3
    have hzc := H4.out.bel.size
    by_cases her : er = 0
    case neg => as_aux_lemma =>
      have hss := he0 her
      subst hss
      have heb := beq_no her
      clear he0 he1 kA4
      go_wp2_with fail
      refine (ST.out _ H4.out.p).mono ?_
      rintro e w' ⟨rfl, rfl⟩
      go_wp2_with fail
      go_roundw
      case rel => exact ⟨i + 1, s', by rw [HX0.out.2.1], by rw [HX0.out.2.2], by go_num, by omega, H4⟩
      case measure => simp [intOf]; omega
    case pos => as_aux_lemma =>
    subst her
    have PO := Lib.hid (he1 rfl)
    have KA4 := Lib.hid kA4
    clear he0 he1 ST
    have rk := blk_cell kA4 1 rfl
    have rn := blk_cell kA4 0 rfl
    obtain ⟨N0, hN0⟩ : ∃ y, y = s'.st ∧ True := ⟨_, rfl, trivial⟩
    obtain ⟨hd1, hhd1⟩ : ∃ y, y = s'.heard ∧ True := ⟨_, rfl, trivial⟩
    have HN := Lib.hid (show N0 = s'.st ∧ hd1 = s'.heard from ⟨hN0.1, hhd1.1⟩)
    clear hN0 hhd1
    have hh : hd1 = if x.f.k ≠ 0 ∨ bg0 = false then x.now else hd0 := by rw [HN.out.2, HX0.out.2.1, HX0.out.2.2]; exact PO.out.heard
    go_upto_region 20 with fail
    go_cut [103] from 53 to 260 (fun v wx => v = .bool (decide (x.f.k ≠ 0 ∨ bg0 = false)) ∧ wx = wc)
    case first => as_aux_lemma =>
      by_cases hk0 : x.f.k = 0
      · have hkb : (x.f.k != 0) = false := by simp [hk0]
        cases bg0
        · go_wp2_with fail
          go_meet
          exact ⟨by simp [hk0], rfl⟩
        · go_wp2_with fail
          go_meet
          exact ⟨by simp [hk0], rfl⟩
      · have hkb : (x.f.k != 0) = true := by simp [hk0]
        go_wp2_with fail
        go_meet
        exact ⟨by simp [hk0], rfl⟩
    case rest => as_aux_lemma =>
    obtain ⟨rfl, rfl⟩ := hcut
    go_upto_if 103 with fail
    go_cut [9, 10] from 53 to 260 (fun v9 v10 wx => v9 = .int .i64 hd1 ∧ v10 = .bool true ∧ wx = wc)
    case first => as_aux_lemma =>
      by_cases hc : x.f.k ≠ 0 ∨ bg0 = false
      · rw [if_pos hc] at hh
        rw [decide_eq_true hc]
        clear hc
        go_wp2_with fail
        go_meet
        exact ⟨by rw [hh], rfl, rfl⟩
      · rw [if_neg hc] at hh
        rw [decide_eq_false hc]
        have hb : bg0 = true := by cases hbb2 : bg0
                                   · exact absurd (Or.inr hbb2) hc
                                   · rfl
        clear hc
        go_wp2_with fail
        go_meet
        exact ⟨by rw [hh], by rw [hb], rfl⟩
    case rest => as_aux_lemma =>
    obtain ⟨rfl, rfl, rfl⟩ := hcut
    clear hh
    have ST := Lib.hid (show Calls Try.prog 13 #[.pointer (some ⟨b, 0, none⟩)] wc fun e w' => e = .returned (.int .i64 N0) ∧ wc = w' by rw [HN.out.1]; exact pstate_any H4.out.p H4.out.inv)
    go_wp2_with fail
    refine ST.out.mono ?_
    rintro e w' ⟨rfl, rfl⟩
    have PP := Lib.hid (show (N0 = 3 → B0 = 2 ∨ B0 = 3) ∧ (N0 = 4 → B0 = 4 ∨ B0 = 5 ∨ B0 = 3 ∨ (B0 = 2 ∧ x.f.k = 3)) ∧ (((N0 = 2 ∨ N0 = 3 ∨ N0 = 4) → x.now - hd1 < a00) ∧ (N0 = 5 → x.now - hd1 < a01)) ∧ (B0 = 6 → N0 ≠ 6 → N0 ≠ 7 → x.f.k = 1) from by
      rw [HN.out.1, HN.out.2, HX0.out.1, ← (rul_ok H4.out.rul).1, ← (rul_ok H4.out.rul).2.1]; exact ⟨PO.out.wait, PO.out.fly, PO.out.near, PO.out.down⟩)
    have hb1 : (-1073741824 ≤ x.now ∧ x.now ≤ 1073741824) ∧ (-1073741824 ≤ hd1 ∧ hd1 ≤ 1073741824) := by rw [HN.out.2]; have := H4.out.inv.now; rw [PO.out.now] at this; exact ⟨this, H4.out.inv.heard⟩
    have ws : IntKind.i64.wrap (x.now - hd1) = x.now - hd1 := IntWalk.i64_in _ (by omega)
    have kb := H4.out.box
    have r0 := blk_cell kb 0 rfl
    have r1 := blk_cell kb 1 rfl
    have r3 := blk_cell kb 3 rfl
    clear kb hb1
    go_upto_region 23 with fail
    go_cut [117] from 53 to 260 (fun v wx => v = .bool false ∧ wx = wc)
    case first => as_aux_lemma =>
      by_cases h1 : N0 = 3
      · by_cases h2 : B0 = 2
        · have zz0 : (N0 == 3) = true := beq_yes h1
          have zz1 : (B0 != 2) = false := bne_no h2
          clear h1 h2
          go_wp2_with fail
          go_meet
          exact ⟨rfl, rfl⟩
        · have q := (PP.out.1 h1).resolve_left h2
          have zz0 : (N0 == 3) = true := beq_yes h1
          have zz1 : (B0 != 2) = true := bne_yes h2
          have zz2 : (B0 != 3) = false := bne_no q
          clear h1 h2 q
          go_wp2_with fail
          go_meet
          exact ⟨rfl, rfl⟩
      · have zz0 : (N0 == 3) = false := beq_no h1
        clear h1
        go_wp2_with fail
        go_meet
        exact ⟨rfl, rfl⟩
    case rest => as_aux_lemma =>
    obtain ⟨rfl, rfl⟩ := hcut
    go_upto_region 25 with fail
    go_cut [142] from 53 to 260 (fun v wx => v = .bool false ∧ wx = wc)
    case first => as_aux_lemma =>
      by_cases h1 : N0 = 4
      · by_cases h2 : B0 = 4
        · have zz0 : (N0 == 4) = true := beq_yes h1
          have zz1 : (B0 != 4) = false := bne_no h2
          clear h1 h2
          go_wp2_with fail
          go_meet
          exact ⟨rfl, rfl⟩
        · by_cases h3 : B0 = 5
          · have zz0 : (N0 == 4) = true := beq_yes h1
            have zz1 : (B0 != 4) = true := bne_yes h2
            have zz2 : (B0 != 5) = false := bne_no h3
            clear h1 h2 h3
            go_wp2_with fail
            go_meet
            exact ⟨rfl, rfl⟩
          · by_cases h4 : B0 = 3
            · have zz0 : (N0 == 4) = true := beq_yes h1
              have zz1 : (B0 != 4) = true := bne_yes h2
              have zz2 : (B0 != 5) = true := bne_yes h3
              have zz3 : (B0 != 3) = false := bne_no h4
              clear h1 h2 h3 h4
              go_wp2_with fail
              go_meet
              exact ⟨rfl, rfl⟩
            · have q := (((PP.out.2.1 h1).resolve_left h2).resolve_left h3).resolve_left h4
              have zz0 : (N0 == 4) = true := beq_yes h1
              have zz1 : (B0 != 4) = true := bne_yes h2
              have zz2 : (B0 != 5) = true := bne_yes h3
              have zz3 : (B0 != 3) = true := bne_yes h4
              have zz4 : (B0 == 2) = true := beq_yes q.1
              have zz5 : (x.f.k == 3) = true := beq_yes q.2
              clear h1 h2 h3 h4 q
              go_wp2_with fail
              go_meet
              exact ⟨rfl, rfl⟩
      · have zz0 : (N0 == 4) = false := beq_no h1
        clear h1
        go_wp2_with fail
        go_meet
        exact ⟨rfl, rfl⟩
    case rest => as_aux_lemma =>
    obtain ⟨rfl, rfl⟩ := hcut
    go_upto_region 27 with fail
    go_cut [174] from 53 to 260 (fun v wx => v = .bool false ∧ wx = wc)
    case first => as_aux_lemma =>
      by_cases h1 : N0 = 2
      · have zz0 : (N0 == 2) = true := beq_yes h1
        have zz1 : (N0 == 5) = false := beq_no (by rw [h1]; decide)
        have zz2 : decide (a00 ≤ x.now - hd1) = false := decide_eq_false (by have q9 := PP.out.2.2.1.1 (.inl h1); omega)
        clear h1
        go_wp2_with fail
        go_meet
        exact ⟨rfl, rfl⟩
      · by_cases h2 : N0 = 3
        · have zz0 : (N0 == 2) = false := beq_no h1
          have zz1 : (N0 == 3) = true := beq_yes h2
          have zz2 : (N0 == 5) = false := beq_no (by rw [h2]; decide)
          have zz3 : decide (a00 ≤ x.now - hd1) = false := decide_eq_false (by have q9 := PP.out.2.2.1.1 (.inr (.inl h2)); omega)
          clear h1 h2
          go_wp2_with fail
          go_meet
          exact ⟨rfl, rfl⟩
        · by_cases h3 : N0 = 4
          · have zz0 : (N0 == 2) = false := beq_no h1
            have zz1 : (N0 == 3) = false := beq_no h2
            have zz2 : (N0 == 4) = true := beq_yes h3
            have zz3 : (N0 == 5) = false := beq_no (by rw [h3]; decide)
            have zz4 : decide (a00 ≤ x.now - hd1) = false := decide_eq_false (by have q9 := PP.out.2.2.1.1 (.inr (.inr h3)); omega)
            clear h1 h2 h3
            go_wp2_with fail
            go_meet
            exact ⟨rfl, rfl⟩
          · by_cases h4 : N0 = 5
            · have zz0 : (N0 == 2) = false := beq_no h1
              have zz1 : (N0 == 3) = false := beq_no h2
              have zz2 : (N0 == 4) = false := beq_no h3
              have zz3 : (N0 == 5) = true := beq_yes h4
              have zz4 : decide (a01 ≤ x.now - hd1) = false := decide_eq_false (by have q9 := PP.out.2.2.1.2 h4; omega)
              clear h1 h2 h3 h4
              go_wp2_with fail
              go_meet
              exact ⟨rfl, rfl⟩
            · have zz0 : (N0 == 2) = false := beq_no h1
              have zz1 : (N0 == 3) = false := beq_no h2
              have zz2 : (N0 == 4) = false := beq_no h3
              have zz3 : (N0 == 5) = false := beq_no h4
              clear h1 h2 h3 h4
              go_wp2_with fail
              go_meet
              exact ⟨rfl, rfl⟩
    case rest => as_aux_lemma =>
    obtain ⟨rfl, rfl⟩ := hcut
    go_upto_region 29 with fail
    go_cut [190] from 53 to 260 (fun v wx => v = .bool false ∧ wx = wc)
    case first => as_aux_lemma =>
      by_cases h1 : B0 = 6
      · by_cases h2 : N0 = 6
        · have zz0 : (B0 == 6) = true := beq_yes h1
          have zz1 : (N0 != 6) = false := bne_no h2
          clear h1 h2
          go_wp2_with fail
          go_meet
          exact ⟨rfl, rfl⟩
        · by_cases h3 : N0 = 7
          · have zz0 : (B0 == 6) = true := beq_yes h1
            have zz1 : (N0 != 6) = true := bne_yes h2
            have zz2 : (N0 != 7) = false := bne_no h3
            clear h1 h2 h3
            go_wp2_with fail
            go_meet
            exact ⟨rfl, rfl⟩
          · have q := PP.out.2.2.2 h1 h2 h3
            have zz0 : (B0 == 6) = true := beq_yes h1
            have zz1 : (N0 != 6) = true := bne_yes h2
            have zz2 : (N0 != 7) = true := bne_yes h3
            have zz3 : (x.f.k != 1) = false := bne_no q
            clear h1 h2 h3 q
            go_wp2_with fail
            go_meet
            exact ⟨rfl, rfl⟩
      · have zz0 : (B0 == 6) = false := beq_no h1
        clear h1
        go_wp2_with fail
        go_meet
        exact ⟨rfl, rfl⟩
    case rest => as_aux_lemma =>
    obtain ⟨rfl, rfl⟩ := hcut
    go_upto_region 31 with fail
    go_cut [212] from 53 to 260 (fun v wx => v = .bool (decide (N0 = 4 ∧ (B0 = 3 ∨ B0 = 2) ∧ (x.f.k = 0 ∨ x.f.k = 3))) ∧ wx = wc)
    case first => as_aux_lemma =>
      by_cases h1 : N0 = 4
      · by_cases h2 : B0 = 3
        · by_cases h4 : x.f.k = 0
          · have ZD := Lib.hid (decide_eq_true (show (N0 = 4 ∧ (B0 = 3 ∨ B0 = 2) ∧ (x.f.k = 0 ∨ x.f.k = 3)) from ⟨h1, .inl h2, .inl h4⟩))
            have zz0 : (N0 == 4) = true := beq_yes h1
            have zz1 : (B0 == 3) = true := beq_yes h2
            have zz2 : (x.f.k == 0) = true := beq_yes h4
            clear h1 h2 h4
            go_wp2_with fail
            go_meet
            exact ⟨by rw [ZD.out], rfl⟩
          · by_cases h5 : x.f.k = 3
            · have ZD := Lib.hid (decide_eq_true (show (N0 = 4 ∧ (B0 = 3 ∨ B0 = 2) ∧ (x.f.k = 0 ∨ x.f.k = 3)) from ⟨h1, .inl h2, .inr h5⟩))
              have zz0 : (N0 == 4) = true := beq_yes h1
              have zz1 : (B0 == 3) = true := beq_yes h2
              have zz2 : (x.f.k == 0) = false := beq_no h4
              have zz3 : (x.f.k == 3) = true := beq_yes h5
              clear h1 h2 h4 h5
              go_wp2_with fail
              go_meet
              exact ⟨by rw [ZD.out], rfl⟩
            · have ZD := Lib.hid (decide_eq_false (show ¬ (N0 = 4 ∧ (B0 = 3 ∨ B0 = 2) ∧ (x.f.k = 0 ∨ x.f.k = 3)) from fun hh => hh.2.2.elim h4 h5))
              have zz0 : (N0 == 4) = true := beq_yes h1
              have zz1 : (B0 == 3) = true := beq_yes h2
              have zz2 : (x.f.k == 0) = false := beq_no h4
              have zz3 : (x.f.k == 3) = false := beq_no h5
              clear h1 h2 h4 h5
              go_wp2_with fail
              go_meet
              exact ⟨by rw [ZD.out], rfl⟩
        · by_cases h3 : B0 = 2
          · by_cases h4 : x.f.k = 0
            · have ZD := Lib.hid (decide_eq_true (show (N0 = 4 ∧ (B0 = 3 ∨ B0 = 2) ∧ (x.f.k = 0 ∨ x.f.k = 3)) from ⟨h1, .inr h3, .inl h4⟩))
              have zz0 : (N0 == 4) = true := beq_yes h1
              have zz1 : (B0 == 3) = false := beq_no h2
              have zz2 : (B0 == 2) = true := beq_yes h3
              have zz3 : (x.f.k == 0) = true := beq_yes h4
              clear h1 h2 h3 h4
              go_wp2_with fail
              go_meet
              exact ⟨by rw [ZD.out], rfl⟩
            · by_cases h5 : x.f.k = 3
              · have ZD := Lib.hid (decide_eq_true (show (N0 = 4 ∧ (B0 = 3 ∨ B0 = 2) ∧ (x.f.k = 0 ∨ x.f.k = 3)) from ⟨h1, .inr h3, .inr h5⟩))
                have zz0 : (N0 == 4) = true := beq_yes h1
                have zz1 : (B0 == 3) = false := beq_no h2
                have zz2 : (B0 == 2) = true := beq_yes h3
                have zz3 : (x.f.k == 0) = false := beq_no h4
                have zz4 : (x.f.k == 3) = true := beq_yes h5
                clear h1 h2 h3 h4 h5
                go_wp2_with fail
                go_meet
                exact ⟨by rw [ZD.out], rfl⟩
              · have ZD := Lib.hid (decide_eq_false (show ¬ (N0 = 4 ∧ (B0 = 3 ∨ B0 = 2) ∧ (x.f.k = 0 ∨ x.f.k = 3)) from fun hh => hh.2.2.elim h4 h5))
                have zz0 : (N0 == 4) = true := beq_yes h1
                have zz1 : (B0 == 3) = false := beq_no h2
                have zz2 : (B0 == 2) = true := beq_yes h3
                have zz3 : (x.f.k == 0) = false := beq_no h4
                have zz4 : (x.f.k == 3) = false := beq_no h5
                clear h1 h2 h3 h4 h5
                go_wp2_with fail
                go_meet
                exact ⟨by rw [ZD.out], rfl⟩
          · have ZD := Lib.hid (decide_eq_false (show ¬ (N0 = 4 ∧ (B0 = 3 ∨ B0 = 2) ∧ (x.f.k = 0 ∨ x.f.k = 3)) from fun hh => hh.2.1.elim h2 h3))
            have zz0 : (N0 == 4) = true := beq_yes h1
            have zz1 : (B0 == 3) = false := beq_no h2
            have zz2 : (B0 == 2) = false := beq_no h3
            clear h1 h2 h3
            go_wp2_with fail
            go_meet
            exact ⟨by rw [ZD.out], rfl⟩
      · have ZD := Lib.hid (decide_eq_false (show ¬ (N0 = 4 ∧ (B0 = 3 ∨ B0 = 2) ∧ (x.f.k = 0 ∨ x.f.k = 3)) from fun hh => h1 hh.1))
        have zz0 : (N0 == 4) = false := beq_no h1
        clear h1
        go_wp2_with fail
        go_meet
        exact ⟨by rw [ZD.out], rfl⟩
    case rest => as_aux_lemma =>
    obtain ⟨rfl, rfl⟩ := hcut
    cases hP5 : decide (N0 = 4 ∧ (B0 = 3 ∨ B0 = 2) ∧ (x.f.k = 0 ∨ x.f.k = 3))
    · have HQ9 := Lib.hid H4.out
      go_wp2_with fail
      go_roundw
      case rel => exact ⟨i + 1, s', by rw [HN.out.2], by rw [PO.out.begun], by go_num, by omega, H4⟩
      case measure => simp [intOf]; omega
    · as_aux_lemma =>
      rw [decide_eq_true_eq] at hP5
      have hN4 := hP5.1
      have GD := Lib.hid (PO.out.good (by rw [← HN.out.1]; exact hN4) (by rw [← HX0.out.1]; exact hP5.2.1) hP5.2.2)
      have hgv : s'.given = true := H4.out.e.giv (by rw [← HN.out.1, hN4]; decide) (by rw [← HN.out.1, hN4]; decide)
      have SA := Lib.hid (fun (W : World) (hW : IsP W w.heap.size b c s') => pstart_any hW H4.out.inv)
      rw [hgv] at SA
      have SI := Lib.hid (fun (W : World) (hW : IsP W w.heap.size b c s') => psince_any hW H4.out.inv)
      rw [PO.out.begun] at SI
      have BD := Lib.hid (fun (W : World) (hW : IsP W w.heap.size b c s') => pbounds_any hW H4.out.inv s'.since)
      have e1 : ∀ n, hasV n true = n := fun n => rfl
      have e2 : hasE true = 0 := rfl
      simp only [e1, e2] at SA SI
      have hbs : B0 = 3 → s'.start = bst := fun h => by
        have h3 : s.st = 3 := by rw [← HX0.out.1]; exact h
        rw [HBST.out, HE3.out.giv (by rw [h3]; decide) (by rw [h3]; decide), GD.out.1 h3, e1]
      have hfo := GD.out.2
      unfold Plt.Ho.Fok at hfo
      rw [(rul_ok H4.out.rul).2.2.2.1] at hfo
      have hsb := H4.out.inv.start
      obtain ⟨st1, hst1⟩ : ∃ y, y = s'.start := ⟨_, rfl⟩
      obtain ⟨si1, hsi1⟩ : ∃ y, y = s'.since := ⟨_, rfl⟩
      rw [← hst1] at SA hbs hfo hsb
      rw [← hsi1] at SI BD hfo
      obtain ⟨lo1, hlo1⟩ : ∃ y, y = Ck.aLo s'.d s'.r s'.cs s'.lo s'.hi si1 := ⟨_, rfl⟩
      obtain ⟨hi1, hhi1⟩ : ∃ y, y = Ck.aHi s'.d s'.r s'.cs s'.hi si1 := ⟨_, rfl⟩
      obtain ⟨er1, her1⟩ : ∃ y, y = Ck.aE s'.d s'.r s'.cs s'.hi si1 := ⟨_, rfl⟩
      rw [← hlo1, ← hhi1, ← her1] at BD hfo
      have HF := Lib.hid hfo
      have HBS := Lib.hid hbs
      clear e1 e2 hgv hst1 hsi1 hlo1 hhi1 her1 hfo hbs GD PP hP5 hN4 rk rn
      go_wp2_with fail
      refine (SA.out _ H4.out.p).mono ?_
      rintro e W5 ⟨rfl, hb5⟩
      have H5 := Lib.hid (H4.out.below hb5)
      clear hb5 r0 r1 r3
      go_wp2_with fail
      refine (SI.out _ H5.out.p).mono ?_
      rintro e W6 ⟨rfl, hb6⟩
      have H6 := Lib.hid (H5.out.below hb6)
      clear hb6 SA SI H5
      go_upto_region 34 with fail
      go_cut [237] from 53 to 260 (fun v wx => v = .bool false ∧ wx = W6)
      case first => as_aux_lemma =>
        by_cases h1 : B0 = 3
        · have hbs := HBS.out h1
          have zz0 : (B0 == 3) = true := beq_yes h1
          have zz1 : (st1 != bst) = false := by rw [bne_eq_false_iff_eq]; exact hbs
          clear h1 hbs
          go_wp2_with fail
          go_meet
          exact ⟨rfl, rfl⟩
        · have zz0 : (B0 == 3) = false := beq_no h1
          clear h1
          go_wp2_with fail
          go_meet
          exact ⟨rfl, rfl⟩
      case rest => as_aux_lemma =>
      obtain ⟨rfl, rfl⟩ := hcut
      go_upto_region 36 with fail
      have hzz := H6.out.bel.size
      go_cut [22, 23] from 53 to 260 (fun v22 v23 wx => ∃ g, v22 = .pointer (some ⟨g, 0, none⟩) ∧ v23 = .int .i64 er1 ∧ wx.heap[g]? = some (.cells #[.int .i64 lo1, .int .i64 hi1] 47 (0, 0)) ∧ HS w.heap.size b c a00 a01 a02 a03 a04 s' (i + 1) w wx)
      case first => as_aux_lemma =>
        go_wp2_with fail
        refine (BD.out _ H6.out.p).mono ?_
        rintro e W7 ⟨rfl, hb7⟩
        go_wp2_with fail
        generalize hWx : World.alloc _ _ = Wx
        have kN : Wx.heap[W7.heap.size]? = some (.cells #[.int .i64 lo1, .int .i64 hi1] 47 (0, 0)) := by rw [← hWx]; exact heap_new _ _
        have hBx : Below wc.heap.size wc Wx := by rw [← hWx]; exact hb7.alloc hb7.size _
        clear hWx
        go_meet
        exact ⟨W7.heap.size, rfl, rfl, kN, H6.out.below hBx⟩
      case rest => as_aux_lemma =>
      obtain ⟨g, rfl, rfl, kg, h7⟩ := hcut
      have H7 := Lib.hid h7
      have kb := h7.box
      have r3 := blk_cell kb 3 rfl
      have g0 := blk_cell kg 0 rfl
      have g1 := blk_cell kg 1 rfl
      have ws3 : IntKind.i64.wrap (st1 + a03) = st1 + a03 := IntWalk.i64_in _ (by have := RUL.out; omega)
      clear h7 kb kg
      go_upto_region 37 with fail
      go_cut [260] from 53 to 260 (fun v wx => v = .bool false ∧ wx = wc)
      case first => as_aux_lemma =>
        by_cases h1 : er1 = 0
        · have hf := HF.out h1
          have zz0 : (er1 == 0) = true := beq_yes h1
          have zz1 : decide (lo1 < st1) = false := decide_eq_false (by omega)
          have zz2 : decide (st1 + a03 < hi1) = false := decide_eq_false (by omega)
          clear h1
          go_wp2_with fail
          go_meet
          exact ⟨rfl, rfl⟩
        · have zz0 : (er1 == 0) = false := beq_no h1
          clear h1
          go_wp2_with fail
          go_meet
          exact ⟨rfl, rfl⟩
      case rest => as_aux_lemma =>
      obtain ⟨rfl, rfl⟩ := hcut
      go_wp2_with fail
      go_roundw
      case rel => exact ⟨i + 1, s', by rw [HN.out.2], by rw [PO.out.begun], by go_num, by omega, H7⟩
      case measure => simp [intOf]; omega
theorem walk (a00 a01 a02 a03 a04 : Int) (a1 : Int) (a2 : Option Addr) (len2 cap2 : Nat) (l2 : List LAct) (w : World) (w00 : (Lit.int .i64 a00).wf = true) (w01 : (Lit.int .i64 a01).wf = true) (w02 : (Lit.int .i64 a02).wf = true) (w03 : (Lit.int .i64 a03).wf = true) (w04 : (Lit.int .i64 a04).wf = true) (w1 : (Lit.int .i64 a1).wf = true) (w2 : LRf w w.heap.size a2 len2 l2) (r2 : Room a2 len2 cap2) (f2 : ∀ y ∈ l2, LaOk y) :
    Calls Try.prog 3 #[.agg #[.int .i64 a00, .int .i64 a01, .int .i64 a02, .int .i64 a03, .int .i64 a04], .int .i64 a1, .slice a2 len2 cap2] w fun e w' => e = .returned (.bool true) ∧ Below w.heap.size w w' := by
  by_cases h1 : fewB l2 60 = true
  · by_cases h2 : Plt.ruOk a00 a01 a02 a03 a04 = true
    · by_cases h3 : 0 ≤ a1 ∧ a1 ≤ 100000
      · exact walk_yes a00 a01 a02 a03 a04 a1 a2 len2 cap2 l2 w w00 w01 w02 w03 w04 w1 w2 r2 f2 h1 h2 h3
      · exact walk_no a00 a01 a02 a03 a04 a1 a2 len2 cap2 l2 w w00 w01 w02 w03 w04 w1 w2 r2 f2 (.inr ⟨h1, .inr ⟨h2, by omega⟩⟩)
    · exact walk_no a00 a01 a02 a03 a04 a1 a2 len2 cap2 l2 w w00 w01 w02 w03 w04 w1 w2 r2 f2 (.inr ⟨h1, .inl (by simpa using h2)⟩)
  · exact walk_no a00 a01 a02 a03 a04 a1 a2 len2 cap2 l2 w w00 w01 w02 w03 w04 w1 w2 r2 f2 (.inl (by simpa using h1))
theorem own : ownKnob Try.prog.godebug = none := by kernel_rfl
theorem laidOut : laidOutB Try.prog = true := by kernel_rfl
theorem cells23 : Try.prog.cellsOf 23 = 5 := by kernel_rfl
set_option maxRecDepth 100000 in
theorem lifted (os : Os) (started : os.Started) (H : Type) (enc : TypeId × Value → H) :
    ReturnsInHanded {} Try.checked os 3 .any (Rows.pilotHoldsSpec.pre6 enc Try.prog Try.f3 Rows.pilotHoldsRow.domain false) (Rows.pilotHoldsSpec.post enc Try.prog Try.f3 false true false false) := by
  refine returnsInHanded_of_change (C := Try.checked) own started (by kernel_rfl) Try.func3
    (ChangeSpec.witness6 (enc := enc) (C := Try.checked) false ⟨#[], #[.agg #[.int .i64 0, .int .i64 0, .int .i64 0, .int .i64 0, .int .i64 0], .int .i64 0, .slice none 0 0], []⟩ 8 (by kernel_rfl) (by kernel_rfl) (by kernel_rfl) (by kernel_rfl)) ?_
  intro W base args ds gs before hval0 hW hcnd _
  have hval : ∀ (j : Nat) t v, Try.f3.params[j]? = some t → args[j]? = some v → Value.okWide Try.prog W .any base t v := hval0
  have hW' := hW
  obtain ⟨p, q, hA0, hV, rfl, hfz, hnd⟩ := hW
  have hA : DataW.TrodAll enc Try.prog W 0 (fun _ => true) true Try.f3.params.toList args.toList ds p := hA0
  rw [Try.params3] at hA hval
  obtain ⟨v0, vs0, d0, ds0, p0, q0, hargs, rfl, rfl, h0, r0⟩ := trodAll_cons hA
  obtain ⟨v1, vs1, d1, ds1, p1, q1, rfl, rfl, rfl, h1, r1⟩ := trodAll_cons r0
  obtain ⟨v2, vs2, d2, ds2, p2, q2, rfl, rfl, rfl, h2, r2⟩ := trodAll_cons r1
  obtain ⟨rfl, rfl, rfl⟩ := trodAll_nil r2
  obtain rfl : args = #[v0, v1, v2] := by cases args; simp_all
  obtain ⟨rfl, rfl⟩ := trodVars_none hV
  have k0 := h0
  have lt0 : ∀ x ∈ p0, x.block < W.heap.size := by obtain ⟨m, hm⟩ := k0; exact DataW.trod_lt m _ _ _ hm
  obtain ⟨c00, c01, c02, c03, c04, y00, y01, y02, y03, y04, m0, rfl, _, _, hy00, hy01, hy02, hy03, hy04⟩ := open_agg5 Try.underlying23 (by kernel_rfl) cells23 (hval 0 23 v0 rfl rfl) h0
  obtain ⟨a00, e00, _, w00⟩ := DataW.trod_int Try.underlying3 hy00; simp at e00; subst e00
  obtain ⟨a01, e01, _, w01⟩ := DataW.trod_int Try.underlying3 hy01; simp at e01; subst e01
  obtain ⟨a02, e02, _, w02⟩ := DataW.trod_int Try.underlying3 hy02; simp at e02; subst e02
  obtain ⟨a03, e03, _, w03⟩ := DataW.trod_int Try.underlying3 hy03; simp at e03; subst e03
  obtain ⟨a04, e04, _, w04⟩ := DataW.trod_int Try.underlying3 hy04; simp at e04; subst e04
  have k1 := h1
  have lt1 : ∀ x ∈ p1, x.block < W.heap.size := by obtain ⟨m, hm⟩ := k1; exact DataW.trod_lt m _ _ _ hm
  obtain ⟨a1, rfl, _, _, w1⟩ := open_int Try.underlying3 (hval 1 3 v1 rfl rfl) h1
  have k2 := h2
  have lt2 : ∀ x ∈ p2, x.block < W.heap.size := by obtain ⟨m, hm⟩ := k2; exact DataW.trod_lt m _ _ _ hm
  obtain ⟨a2, len2, cap2, rfl⟩ := okWide_slice Try.underlying24 (hval 2 24 v2 rfl rfl)
  obtain ⟨fuel2, hf2⟩ := h2
  obtain ⟨xa2, xlen2, xcap2, l2, xe2, ro2, wo2, fo2⟩ := lacts_of hf2
  obtain ⟨rfl, rfl, rfl⟩ : a2 = xa2 ∧ len2 = xlen2 ∧ cap2 = xcap2 := by injection xe2 with e1 e2 e3; exact ⟨e1, e2, e3⟩
  clear hA0 hval0
  refine (walk a00 a01 a02 a03 a04 a1 a2 len2 cap2 l2 W w00 w01 w02 w03 w04 w1 wo2 ro2 fo2).mono fun e W' ⟨he, bel⟩ => ?_
  subst he
  exact ⟨_, rfl, _, _, _, [], _, [], hW', trodAll_mk1 (shut_bool Try.underlying4 _), (trodAll_cons_mk (Below.trod laidOut (by kernel_rfl) (of_decide_eq_true (by kernel_rfl)) k0 bel lt0) (trodAll_cons_mk (Below.trod laidOut (by kernel_rfl) (of_decide_eq_true (by kernel_rfl)) k1 bel lt1) (trodAll_cons_mk (Below.trod laidOut (by kernel_rfl) (of_decide_eq_true (by kernel_rfl)) k2 bel lt2) trodAll_mk0))), rfl, bel.frame _, fun h => by cases h⟩
theorem over : Rows.pilotHoldsRow.holds Try.pinned (OpenSpec.ofChange Rows.pilotHoldsSpec) :=
  OpenClaim.holds_of_wide 3 Try.f3 rfl rfl rfl rfl rfl rfl rfl ⟨rfl, rfl, rfl, rfl, rfl⟩ rfl rfl rfl rfl rfl (by kernel_rfl) Try.func3 (by kernel_rfl)
    (of_decide_eq_true (by kernel_rfl)) (by unfold Func.isWrapper; first | (rw [if_pos (by decide +kernel)]; kernel_rfl) | (rw [if_neg (by decide +kernel)]; exact ⟨rfl, rfl⟩))
    (fun os started H enc _ => lifted os started H enc)
theorem proved : Rows.PilotHoldsSaid := over
end Go.Proofs.Ytjidchaejicjaaa.lawPilotHolds

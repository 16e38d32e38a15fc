/- The law of the pilots that hear nothing holds: 'skylanternlaw37.PilotLosts' returns true at every input. No conditions. -/
import Derived.Test.YtjidchaejicjaaaPlLo
import Derived.Test.YtjidchaejicjaaaPlAE
import Derived.Test.YtjidchaejicjaaaFrC
import Derived.Deep.CutRange
namespace Go.Proofs.Ytjidchaejicjaaa.lawPilotLosts
open Go.ChangeShapes Go.WideShapes Go.ChangeAt Go.RowKit Go.Joins
set_option linter.unusedVariables false
set_option linter.unusedSimpArgs false
attribute [local go_sem ↓] Go.wp_at_zero Go.wp_at_succ
set_option maxHeartbeats 8000000
set_option maxRecDepth 100000
/-- a guard fails -/
theorem walk_no (a00 a01 a02 a03 a04 : Int) (a1 : Int) (w : World) (w00 : (Lit.int .i64 a00).wf = true) (w01 : (Lit.int .i64 a01).wf = true) (w02 : (Lit.int .i64 a02).wf = true) (w03 : (Lit.int .i64 a03).wf = true) (w04 : (Lit.int .i64 a04).wf = true) (w1 : (Lit.int .i64 a1).wf = true) (hno : Plt.ruOk a00 a01 a02 a03 a04 = false ∨ Plt.ruOk a00 a01 a02 a03 a04 = true ∧ (a1 < 0 ∨ 0 ≤ a1 ∧ 100000 < a1)) :
    Calls Try.prog 8 #[.agg #[.int .i64 a00, .int .i64 a01, .int .i64 a02, .int .i64 a03, .int .i64 a04], .int .i64 a1] w fun e w' => e = .returned (.bool true) ∧ Below w.heap.size w w' := by
  have RV := Lib.hid (fun W : World => rpvalid_any a00 a01 a02 a03 a04 W)
  rcases hno with h1 | ⟨h1, h2 | ⟨h2, h3⟩⟩
  all_goals
    rw [h1] at RV
    clear h1
    go_enter Try.func8, Try.ntmps8
    go_wp2_with fail
    refine (RV.out _).mono ?_
    rintro e w3 ⟨rfl, hb3⟩
    have hz3 := hb3.size
    (try simp at hz3)
    go_wp2_with fail
    refine (known_true _).mono ?_
    rintro e w4 ⟨rfl, hb4⟩
    have hz4 := hb4.size
    (try simp at hz4)
    go_wp2_with fail
    go_ret
    exact ⟨rfl, (by repeat (first | (with_reducible exact Below.refl _ _) | (with_reducible refine Below.drew ?_) | (with_reducible refine below_drewN ?_ _) | ((with_reducible refine Below.alloc ?_ ?_ _); rotate_left; (first | omega | (simp <;> omega)); rotate_right) | ((with_reducible refine Below.setCell ?_ ?_ _); rotate_left; (first | omega | (simp <;> omega)); rotate_right) | (with_reducible assumption) | (refine Below.trans ?_ (Below.mono (by assumption) ?_); rotate_left; (first | omega | (simp <;> omega)); rotate_right)))⟩
/-- the times at which the state changes -/
def tms (L R D : Int) (i : Nat) : Int := if i = 0 then 0 else if i = 1 then L else if i = 2 then R else if i = 3 then R + D else 2000000
theorem tms_le {L R D : Int} (h1 : 1 ≤ L ∧ L ≤ 600000) (h2 : L ≤ R ∧ R ≤ 600000) (h3 : 1 ≤ D ∧ D ≤ 600000) {i : Nat} (hi : i < 4) : tms L R D i ≤ tms L R D (i + 1) ∧ 0 ≤ tms L R D i ∧ tms L R D (i + 1) ≤ 2000000 := by
  have : i = 0 ∨ i = 1 ∨ i = 2 ∨ i = 3 := by omega
  rcases this with rfl | rfl | rfl | rfl <;> simp [tms] <;> omega
theorem tms_at {L R D : Int} (h1 : 1 ≤ L ∧ L ≤ 600000) (h2 : L ≤ R ∧ R ≤ 600000) (h3 : 1 ≤ D ∧ D ≤ 600000) {i : Nat} (hi : i < 4) {t : Int} (ha : tms L R D i ≤ t) (hb : t < tms L R D (i + 1)) : Plt.Lo.at' L R D t = 4 + (i : Int) := by
  have : i = 0 ∨ i = 1 ∨ i = 2 ∨ i = 3 := by omega
  unfold Plt.Lo.at'
  rcases this with rfl | rfl | rfl | rfl <;> simp [tms] at ha hb
  · rw [if_pos (by omega)]; rfl
  · rw [if_neg (by omega), if_pos (by omega)]; rfl
  · rw [if_neg (by omega), if_neg (by omega), if_pos (by omega)]; rfl
  · rw [if_neg (by omega), if_neg (by omega), if_neg (by omega)]; rfl
/-- the loop's state: how far the flight has come, and the two arrays -/
structure LP (B b c g h : Nat) (L R D stop : Int) (i : Nat) (s : Plt.St) (w wr : World) : Prop where
  p : IsP wr B b c s
  inv : Plt.Inv s
  fl : Plt.Lo.Fl L R D s s.now
  un : s.st = Plt.Lo.at' L R D s.now
  ge : stop ≤ s.now
  le : s.now = stop ∨ s.now < tms L R D i
  fin : i = 4 → s.now = 1999999
  rep : s.reports ≤ 10 + (i : Int)
  ats : wr.heap[g]? = some (.cells #[.int .i64 0, .int .i64 L, .int .i64 R, .int .i64 (R + D), .int .i64 2000000] 3 (0, 0))
  iss : wr.heap[h]? = some (.cells #[.int .i64 4, .int .i64 5, .int .i64 6, .int .i64 7] 38 (0, 0))
  bel : Below B w wr
theorem LP.next {B b c g h : Nat} {L R D stop l : Int} {i : Nat} {s s' : Plt.St} {w W W' : World} (hq : LP B b c g h L R D stop i s w W) (hs : Plt.timE s l = 0 ∧ Plt.Lo.Fl L R D s' l ∧ s'.st = Plt.Lo.at' L R D l ∧ s'.now = l ∧ s'.reports ≤ s.reports + 1)
    (hp : IsP W' B b c s') (hi : Plt.Inv s') (hk : Keeps (fun i => i = b ∨ i = c) W W') (h1 : stop ≤ l) (h2 : l < tms L R D (i + 1)) (h3 : i + 1 = 4 → l = 1999999) : LP B b c g h L R D stop (i + 1) s' w W' := by
  have ag := hq.p.away ⟨_, hq.ats⟩ (by decide) (by decide)
  have ah := hq.p.away ⟨_, hq.iss⟩ (by decide) (by decide)
  have hr := hq.rep
  exact ⟨hp, hi, by rw [hs.2.2.2.1]; exact hs.2.1, by rw [hs.2.2.2.1]; exact hs.2.2.1, by rw [hs.2.2.2.1]; exact h1, .inr (by rw [hs.2.2.2.1]; exact h2), fun e => by rw [hs.2.2.2.1]; exact h3 e, by omega, blk_keep hq.ats hk (fun e => by omega), blk_keep hq.iss hk (fun e => by omega), act_below hq.bel (by have := hq.p.ge; have := hq.p.lt; omega) hq.p hk⟩
theorem LP.drewN {B b c g h : Nat} {L R D stop : Int} {i : Nat} {s : Plt.St} {w wr : World} (hq : LP B b c g h L R D stop i s w wr) (q : Nat) : LP B b c g h L R D stop i s w (wr.drewN q) :=
  ⟨hq.p.drewN _, hq.inv, hq.fl, hq.un, hq.ge, hq.le, hq.fin, hq.rep, hq.ats, hq.iss, below_drewN hq.bel _⟩
theorem lo_tick {W : World} {base b c : Nat} {s s' : Plt.St} (h : IsP W base b c s) (hs : Plt.Inv s) (hrep : s.reports < 1000000000) (now : Int) (hk : Plt.tickS s now = s' ∧ Plt.timE s now = 0) :
    Calls Try.prog 15 #[.pointer (some ⟨b, 0, none⟩), .int .i64 now] W (PRPost base b c s' (Plt.tickF s now) 0 W) := by
  have := ptick_any h hs hrep now
  rw [hk.1, hk.2] at this
  exact this
theorem walk_yes (a00 a01 a02 a03 a04 : Int) (a1 : Int) (w : World) (w00 : (Lit.int .i64 a00).wf = true) (w01 : (Lit.int .i64 a01).wf = true) (w02 : (Lit.int .i64 a02).wf = true) (w03 : (Lit.int .i64 a03).wf = true) (w04 : (Lit.int .i64 a04).wf = true) (w1 : (Lit.int .i64 a1).wf = true) (hv : Plt.ruOk a00 a01 a02 a03 a04 = true) (hs : 0 ≤ a1 ∧ a1 ≤ 100000) :
    Calls Try.prog 8 #[.agg #[.int .i64 a00, .int .i64 a01, .int .i64 a02, .int .i64 a03, .int .i64 a04], .int .i64 a1] w fun e w' => e = .returned (.bool true) ∧ Below w.heap.size w w' := by
  have RV := Lib.hid (fun W : World => rpvalid_any a00 a01 a02 a03 a04 W)
  rw [hv] at RV
  have hne : Plt.newE 3 a00 a01 a02 a03 a04 0 = 0 := by unfold Plt.newE; rw [if_pos ⟨by decide, hv, by omega⟩]
  have M := Lib.hid (fun W : World => made_yes 3 a00 a01 a02 a03 a04 0 W hne)
  have i0 : Plt.Inv (Plt.Lo.L0 a00 a01 a02 a03 a04) := Plt.new_inv hne
  have i1 : Plt.Inv (Plt.Lo.L1 a00 a01 a02 a03 a04) := by rw [← Plt.Lo.s1.1]; exact Plt.tickS_inv i0 0
  have RUL := Lib.hid (Plt.ruOk_iff.1 hv)
  have hL := RUL.out.1.1
  have i2 : Plt.Inv (Plt.Lo.L2 a00 a01 a02 a03 a04) := by rw [← Plt.Lo.s2.1]; exact Plt.rcvS_inv i1 0 (by decide +kernel)
  have i3 : Plt.Inv (Plt.Lo.L3 a00 a01 a02 a03 a04) := by rw [← Plt.Lo.s3.1]; exact Plt.rcvS_inv i2 0 (by decide +kernel)
  have i4 : Plt.Inv (Plt.Lo.L4 a00 a01 a02 a03 a04) := by rw [← (Plt.Lo.s4 hL).1]; exact Plt.rcvS_inv i3 0 (by decide +kernel)
  have i5 : Plt.Inv (if 2 ≤ a03 then Plt.Lo.L5 a00 a01 a02 a03 a04 else Plt.Lo.L6 a00 a01 a02 a03 a04) := by rw [← (Plt.Lo.s5 hL).1]; exact Plt.rcvS_inv i4 0 (by decide +kernel)
  have hrpi : ∀ s : Plt.St, s.reports = 1 → s.reports < 1000000000 := fun s h => by omega
  have T1 := Lib.hid (fun (W : World) (B b c : Nat) (hW : IsP W B b c (Plt.Lo.L0 a00 a01 a02 a03 a04)) => lo_tick hW i0 (by show (0 : Int) < 1000000000; decide) 0 Plt.Lo.s1)
  have RK2 := Lib.hid (Plt.Lo.s2 (L := a00) (R := a01) (D := a02) (La := a03) (E := a04))
  have RK3 := Lib.hid (Plt.Lo.s3 (L := a00) (R := a01) (D := a02) (La := a03) (E := a04))
  have RK4 := Lib.hid (Plt.Lo.s4 (L := a00) (R := a01) (D := a02) (La := a03) (E := a04) hL)
  have RK5 := Lib.hid (Plt.Lo.s5 (L := a00) (R := a01) (D := a02) (La := a03) (E := a04) hL)
  have I1 := Lib.hid i1
  have I2 := Lib.hid i2
  have I3 := Lib.hid i3
  have I4 := Lib.hid i4
  have RR1 := Lib.hid (show (Plt.Lo.L1 a00 a01 a02 a03 a04).reports < 1000000000 from by show (1 : Int) < 1000000000; decide)
  have RR2 := Lib.hid (show (Plt.Lo.L2 a00 a01 a02 a03 a04).reports < 1000000000 from by show (1 : Int) < 1000000000; decide)
  have RR3 := Lib.hid (show (Plt.Lo.L3 a00 a01 a02 a03 a04).reports < 1000000000 from by show (1 : Int) < 1000000000; decide)
  have RR4 := Lib.hid (show (Plt.Lo.L4 a00 a01 a02 a03 a04).reports < 1000000000 from by show (1 : Int) < 1000000000; decide)
  have I5 := Lib.hid i5
  have hs5 : (if 2 ≤ a03 then Plt.Lo.L5 a00 a01 a02 a03 a04 else Plt.Lo.L6 a00 a01 a02 a03 a04).st = if 2 ≤ a03 then 4 else 1 := by split <;> rfl
  obtain ⟨s5, h5⟩ : ∃ s5, s5 = (if 2 ≤ a03 then Plt.Lo.L5 a00 a01 a02 a03 a04 else Plt.Lo.L6 a00 a01 a02 a03 a04) := ⟨_, rfl⟩
  rw [← h5] at RK5 I5 hs5
  obtain ⟨s0, h0⟩ : ∃ s0, s0 = Plt.Lo.L0 a00 a01 a02 a03 a04 := ⟨_, rfl⟩
  have M : Hid (∀ W : World, Calls Try.prog 19 #[.int .i64 3, .agg #[.int .i64 a00, .int .i64 a01, .int .i64 a02, .int .i64 a03, .int .i64 a04], .int .i64 0] W (MadePost s0 W)) := Lib.hid (by rw [h0]; exact M.out)
  rw [← h0] at T1
  obtain ⟨s1, h1⟩ : ∃ s1, s1 = Plt.Lo.L1 a00 a01 a02 a03 a04 := ⟨_, rfl⟩
  rw [← h1] at T1 RK2 I1 RR1
  obtain ⟨s2, h2⟩ : ∃ s2, s2 = Plt.Lo.L2 a00 a01 a02 a03 a04 := ⟨_, rfl⟩
  rw [← h2] at RK2 RK3 I2 RR2
  obtain ⟨s3, h3⟩ : ∃ s3, s3 = Plt.Lo.L3 a00 a01 a02 a03 a04 := ⟨_, rfl⟩
  rw [← h3] at RK3 RK4 I3 RR3
  obtain ⟨s4, h4⟩ : ∃ s4, s4 = Plt.Lo.L4 a00 a01 a02 a03 a04 := ⟨_, rfl⟩
  rw [← h4] at RK4 RK5 I4 RR4
  have H5 := Lib.hid (And.intro h5 hs5)
  clear i0 i1 i2 i3 i4 i5 h0 h1 h2 h3 h4 h5 hs5 hv hne w00 w01 w02 w03 w04 w1 hrpi hL
  go_enter Try.func8, Try.ntmps8
  go_wp2_with fail
  refine (RV.out _).mono ?_
  rintro e w3 ⟨rfl, hb3⟩
  have hz3 := hb3.size
  (try simp at hz3)
  have k3 := blk_below (q := w.heap.size) (heap_new _ _) hb3 (by first | omega | (simp; done) | (simp; omega))
  have HBw := Lib.hid (show Below w.heap.size w w3 from (by repeat (first | (with_reducible exact Below.refl _ _) | (with_reducible refine Below.drew ?_) | (with_reducible refine below_drewN ?_ _) | ((with_reducible refine Below.alloc ?_ ?_ _); rotate_left; (first | omega | (simp <;> omega)); rotate_right) | ((with_reducible refine Below.setCell ?_ ?_ _); rotate_left; (first | omega | (simp <;> omega)); rotate_right) | (with_reducible assumption) | (refine Below.trans ?_ (Below.mono (by assumption) ?_); rotate_left; (first | omega | (simp <;> omega)); rotate_right))))
  clear hb3
  have cf_0 := blk_cell k3 0 rfl; have ff_0 := blk_free k3 0; have cf_1 := blk_cell k3 1 rfl; have ff_1 := blk_free k3 1; have cf_2 := blk_cell k3 2 rfl; have ff_2 := blk_free k3 2; have cf_3 := blk_cell k3 3 rfl; have ff_3 := blk_free k3 3; have cf_4 := blk_cell k3 4 rfl; have ff_4 := blk_free k3 4; have lf := lt_of_block k3
  go_wp2_with fail
  refine (M.out _).mono ?_
  rintro e W1 ⟨b, c, rfl, hp, hb⟩
  have z1 := heap_new W1 (.cells (rag rzero).toArray 54 (0, 0))
  have hz1 : w3.heap.size ≤ W1.heap.size := hb.size
  have HB1 := Lib.hid (hb.alloc hz1 (.cells (rag rzero).toArray 54 (0, 0)))
  have HP1 := Lib.hid (hp.alloc (.cells (rag rzero).toArray 54 (0, 0)))
  have K3 := Lib.hid k3
  clear cf_0 ff_0 cf_1 ff_1 cf_2 ff_2 cf_3 ff_3 cf_4 ff_4
  clear k3 hb hp M RV
  (go_upto_region 4 with (refine wpList_store_row rfl 54 _ _ rfl _ _ rfl rfl 54 _ z1 (by kernel_rfl) rfl (rag_one _) ?_))
  generalize hW : World.setRow _ _ _ = W2
  have HP := Lib.hid (show IsP W2 w3.heap.size b c s0 by rw [← hW]; exact HP1.out.setRow _ ⟨_, z1⟩)
  have HB := Lib.hid (show Below w3.heap.size w3 W2 by rw [← hW]; exact below_setRow HB1.out (by omega) _)
  clear hW z1 HB1 HP1 hz1
  go_wp2_with fail
  refine (T1.out _ _ _ _ HP.out).mono ?_
  rintro e U1 ⟨v1, rfl, hv, hp, hk⟩
  obtain ⟨A1, c1, rfl⟩ := hv.form
  have HB2 := Lib.hid (kn_below HB.out HP.out hk)
  clear HP HB
  have HP := Lib.hid hp
  have HB := HB2
  clear HB2
  clear hv hp hk
  clear T1
  obtain ⟨x2, hx⟩ : ∃ x, x = Kn.beat 0 1000 1000 := ⟨_, rfl⟩
  have OR := Lib.hid (fun W : World => kn_order 7 0 [1000, 1000] x2 (by rw [hx]; rfl) W (by decide) (by decide) (by decide +kernel) (by intro z hz; simp at hz; omega))
  have RK : Plt.rcvS s1 0 x2 = s2 ∧ Plt.rcvE s1 0 x2 = 0 := by rw [hx]; exact RK2.out
  have RK := Lib.hid RK
  have hl := Lib.hid (show x2.d.length ≤ 100 by rw [hx]; decide)
  clear hx
  go_wp2_with fail
  refine (OR.out _).mono ?_
  rintro e V2 ⟨O, co, rfl, ho, hb⟩
  have hb1 := ((Below.refl _ _).alloc (Nat.le_refl _) _).trans (Below.mono hb (by simp))
  have hbc : b < _ ∧ c < _ := HP.out.lt
  have HO := Lib.hid ho
  have HP2 := Lib.hid (HP.out.below hb1 (Nat.le_refl _))
  have HB2 := Lib.hid (HB.out.trans (Below.mono hb1 HB.out.size))
  clear HP HB
  have HP := HP2
  have HB := HB2
  clear HP2 HB2
  have HBC := Lib.hid hbc
  clear hb hb1 ho OR hbc
  go_wp2_with fail
  refine (kn_rcv HP.out I1.out RR1.out x2 O co _ HO.out hl.out (by have := HBC.out; simp; omega) 0 ⟨RK.out.1, rfl, RK.out.2⟩).mono ?_
  rintro e U2 ⟨v2, rfl, hv, hp, hk⟩
  obtain ⟨A2, c2, rfl⟩ := hv.form
  have HB2 := Lib.hid (kn_below HB.out HP.out hk)
  clear HP HB
  have HP := Lib.hid hp
  have HB := HB2
  clear HB2
  clear hv hp hk HO RK HBC hl RK2 I1 RR1
  obtain ⟨x3, hx⟩ : ∃ x, x = Kn.ord 1 1 9 := ⟨_, rfl⟩
  have OR := Lib.hid (fun W : World => kn_order 1 1 [9] x3 (by rw [hx]; rfl) W (by decide) (by decide) (by decide +kernel) (by intro z hz; simp at hz; omega))
  have RK : Plt.rcvS s2 0 x3 = s3 ∧ Plt.rcvE s2 0 x3 = 0 := by rw [hx]; exact RK3.out
  have RK := Lib.hid RK
  have hl := Lib.hid (show x3.d.length ≤ 100 by rw [hx]; decide)
  clear hx
  go_wp2_with fail
  refine (OR.out _).mono ?_
  rintro e V3 ⟨O, co, rfl, ho, hb⟩
  have hb1 := ((Below.refl _ _).alloc (Nat.le_refl _) _).trans (Below.mono hb (by simp))
  have hbc : b < _ ∧ c < _ := HP.out.lt
  have HO := Lib.hid ho
  have HP2 := Lib.hid (HP.out.below hb1 (Nat.le_refl _))
  have HB2 := Lib.hid (HB.out.trans (Below.mono hb1 HB.out.size))
  clear HP HB
  have HP := HP2
  have HB := HB2
  clear HP2 HB2
  have HBC := Lib.hid hbc
  clear hb hb1 ho OR hbc
  go_wp2_with fail
  refine (kn_rcv HP.out I2.out RR2.out x3 O co _ HO.out hl.out (by have := HBC.out; simp; omega) 0 ⟨RK.out.1, rfl, RK.out.2⟩).mono ?_
  rintro e U3 ⟨v3, rfl, hv, hp, hk⟩
  obtain ⟨A3, c3, rfl⟩ := hv.form
  have HB2 := Lib.hid (kn_below HB.out HP.out hk)
  clear HP HB
  have HP := Lib.hid hp
  have HB := HB2
  clear HB2
  clear hv hp hk HO RK HBC hl RK3 I2 RR2
  obtain ⟨x4, hx⟩ : ∃ x, x = Kn.ord 2 2 9 := ⟨_, rfl⟩
  have OR := Lib.hid (fun W : World => kn_order 2 2 [9] x4 (by rw [hx]; rfl) W (by decide) (by decide) (by decide +kernel) (by intro z hz; simp at hz; omega))
  have RK : Plt.rcvS s3 0 x4 = s4 ∧ Plt.rcvE s3 0 x4 = 0 := by rw [hx]; exact RK4.out
  have RK := Lib.hid RK
  have hl := Lib.hid (show x4.d.length ≤ 100 by rw [hx]; decide)
  clear hx
  go_wp2_with fail
  refine (OR.out _).mono ?_
  rintro e V4 ⟨O, co, rfl, ho, hb⟩
  have hb1 := ((Below.refl _ _).alloc (Nat.le_refl _) _).trans (Below.mono hb (by simp))
  have hbc : b < _ ∧ c < _ := HP.out.lt
  have HO := Lib.hid ho
  have HP2 := Lib.hid (HP.out.below hb1 (Nat.le_refl _))
  have HB2 := Lib.hid (HB.out.trans (Below.mono hb1 HB.out.size))
  clear HP HB
  have HP := HP2
  have HB := HB2
  clear HP2 HB2
  have HBC := Lib.hid hbc
  clear hb hb1 ho OR hbc
  go_wp2_with fail
  refine (kn_rcv HP.out I3.out RR3.out x4 O co _ HO.out hl.out (by have := HBC.out; simp; omega) 0 ⟨RK.out.1, rfl, RK.out.2⟩).mono ?_
  rintro e U4 ⟨v4, rfl, hv, hp, hk⟩
  obtain ⟨A4, c4, rfl⟩ := hv.form
  have HB2 := Lib.hid (kn_below HB.out HP.out hk)
  clear HP HB
  have HP := Lib.hid hp
  have HB := HB2
  clear HB2
  clear hv hp hk HO RK HBC hl RK4 I3 RR3
  obtain ⟨x5, hx⟩ : ∃ x, x = Kn.ord 3 3 1000 := ⟨_, rfl⟩
  have OR := Lib.hid (fun W : World => kn_order 3 3 [1000] x5 (by rw [hx]; rfl) W (by decide) (by decide) (by decide +kernel) (by intro z hz; simp at hz; omega))
  have RK : Plt.rcvS s4 0 x5 = s5 ∧ Plt.rcvE s4 0 x5 = 0 := by rw [hx]; exact RK5.out
  have RK := Lib.hid RK
  have hl := Lib.hid (show x5.d.length ≤ 100 by rw [hx]; decide)
  clear hx
  go_wp2_with fail
  refine (OR.out _).mono ?_
  rintro e V5 ⟨O, co, rfl, ho, hb⟩
  have hb1 := ((Below.refl _ _).alloc (Nat.le_refl _) _).trans (Below.mono hb (by simp))
  have hbc : b < _ ∧ c < _ := HP.out.lt
  have HO := Lib.hid ho
  have HP2 := Lib.hid (HP.out.below hb1 (Nat.le_refl _))
  have HB2 := Lib.hid (HB.out.trans (Below.mono hb1 HB.out.size))
  clear HP HB
  have HP := HP2
  have HB := HB2
  clear HP2 HB2
  have HBC := Lib.hid hbc
  clear hb hb1 ho OR hbc
  go_wp2_with fail
  refine (kn_rcv HP.out I4.out RR4.out x5 O co _ HO.out hl.out (by have := HBC.out; simp; omega) 0 ⟨RK.out.1, rfl, RK.out.2⟩).mono ?_
  rintro e W5 ⟨v5, rfl, hv, hp, hk⟩
  obtain ⟨A5, c5, rfl⟩ := hv.form
  have HB2 := Lib.hid (kn_below HB.out HP.out hk)
  clear HP HB
  have HP := Lib.hid hp
  have HB := HB2
  clear HB2
  clear hv hp hk HO RK HBC hl RK5 I4 RR4
  have kq : W5.heap[w.heap.size]? = some (.cells #[.int .i64 a00, .int .i64 a01, .int .i64 a02, .int .i64 a03, .int .i64 a04] 23 (0, 0)) := blk_below K3.out HB.out (by omega)
  have cf_0 := blk_cell kq 0 rfl; have ff_0 := blk_free kq 0; have cf_1 := blk_cell kq 1 rfl; have ff_1 := blk_free kq 1; have cf_2 := blk_cell kq 2 rfl; have ff_2 := blk_free kq 2; have cf_3 := blk_cell kq 3 rfl; have ff_3 := blk_free kq 3; have cf_4 := blk_cell kq 4 rfl; have ff_4 := blk_free kq 4; have lf := lt_of_block kq
  clear kq
  have ST := Lib.hid (fun (W : World) (hW : IsP W w3.heap.size b c s5) => pstate_any hW I5.out)
  have hst := H5.out.2
  by_cases hla : 2 ≤ a03
  case neg =>
    rw [if_neg hla] at hst
    rw [hst] at ST
    clear hst
    go_upto_region 11 with fail
    go_quiet ((go_at_call 13; exact Calls.quiet_of_same ((ST.out _ (HP.out.drewN _)).mono fun e w' h => ⟨h.1, h.2.symm⟩)))
    generalize hD : World.drewN _ _ = WD
    have HPd := Lib.hid (show IsP WD w3.heap.size b c s5 by rw [← hD]; exact HP.out.drewN _)
    have HBd := Lib.hid (show Below w3.heap.size w3 WD by rw [← hD]; exact below_drewN HB.out _)
    clear hD HP HB
    have HB := HBd
    go_wp2_with fail
    refine (ST.out _ HPd.out).mono ?_
    rintro e w' ⟨rfl, rfl⟩
    go_wp2_with fail
    refine (ST.out _ HPd.out).mono ?_
    rintro e w' ⟨rfl, rfl⟩
    go_wp2_with fail; refine (known_true _).mono ?_; rintro e W9 ⟨rfl, hb9⟩; have HB9 := Lib.hid (HBw.out.trans ((HB.out.trans (hb9.mono HB.out.size)).mono HBw.out.size)); clear hb9; go_wp2_with fail; go_ret; exact ⟨rfl, HB9.out⟩
  case pos =>
  rw [if_pos hla] at hst
  rw [hst] at ST
  have E5 := Lib.hid (show s5 = Plt.Lo.L5 a00 a01 a02 a03 a04 by have := H5.out.1; rw [if_pos hla] at this; exact this)
  clear hst
  go_upto_region 11 with fail
  go_quiet ((go_at_call 13; exact Calls.quiet_of_same ((ST.out _ (HP.out.drewN _)).mono fun e w' h => ⟨h.1, h.2.symm⟩)))
  generalize hD : World.drewN _ _ = WD
  have HPd := Lib.hid (show IsP WD w3.heap.size b c s5 by rw [← hD]; exact HP.out.drewN _)
  have HBd := Lib.hid (show Below w3.heap.size w3 WD by rw [← hD]; exact below_drewN HB.out _)
  clear hD HP HB
  clear cf_0 ff_0 cf_1 ff_1 cf_2 ff_2 cf_3 ff_3 cf_4 ff_4
  have kd : WD.heap[w.heap.size]? = some (.cells #[.int .i64 a00, .int .i64 a01, .int .i64 a02, .int .i64 a03, .int .i64 a04] 23 (0, 0)) := blk_below K3.out HBd.out (by omega)
  have cf_0 := blk_cell kd 0 rfl; have ff_0 := blk_free kd 0; have cf_1 := blk_cell kd 1 rfl; have ff_1 := blk_free kd 1; have cf_2 := blk_cell kd 2 rfl; have ff_2 := blk_free kd 2; have cf_3 := blk_cell kd 3 rfl; have ff_3 := blk_free kd 3; have cf_4 := blk_cell kd 4 rfl; have ff_4 := blk_free kd 4; have lf := lt_of_block kd
  clear kd
  have wa : IntKind.i64.wrap (a01 + a02) = a01 + a02 := IntWalk.i64_in _ (by have := RUL.out; omega)
  go_wp2_with fail
  refine (ST.out _ HPd.out).mono ?_
  rintro e w' ⟨rfl, rfl⟩
  go_upto_region 17 with fail
  generalize hV : World.alloc _ _ = V
  have kA : V.heap[WD.heap.size]? = some (.cells #[.int .i64 0, .int .i64 a00, .int .i64 a01, .int .i64 (a01 + a02), .int .i64 2000000] 3 (0, 0)) := by rw [← hV]; exact blk_alloc (heap_new _ _) _
  have kI : V.heap[WD.heap.size + 1]? = some (.cells #[.int .i64 4, .int .i64 5, .int .i64 6, .int .i64 7] 38 (0, 0)) := by rw [← hV]; have := heap_new (WD.alloc (.cells #[.int .i64 0, .int .i64 a00, .int .i64 a01, .int .i64 (a01 + a02), .int .i64 2000000] 3 (0, 0))) (.cells #[.int .i64 4, .int .i64 5, .int .i64 6, .int .i64 7] 38 (0, 0)); simpa using this
  have HPv := Lib.hid (show IsP V w3.heap.size b c s5 by rw [← hV]; exact (HPd.out.alloc _).alloc _)
  have HBv := Lib.hid (show Below w3.heap.size w3 V by rw [← hV]; exact (HBd.out.alloc HBd.out.size _).alloc (by have := HBd.out.size; simp; omega) _)
  clear hV HPd HBd ST
  clear cf_0 ff_0 cf_1 ff_1 cf_2 ff_2 cf_3 ff_3 cf_4 ff_4
  obtain ⟨g, hg⟩ : ∃ g, g = WD.heap.size := ⟨_, rfl⟩
  obtain ⟨h, hh⟩ : ∃ h, h = WD.heap.size + 1 := ⟨_, rfl⟩
  rw [← hh] at kI ⊢
  rw [← hg] at kA ⊢
  clear hg hh
  have FT := Lib.hid (Plt.Lo.Fl.tick (L := a00) (R := a01) (D := a02) (s := s5) (t := 0) (l := a1) (by rw [E5.out]; exact ⟨rfl, rfl, rfl, rfl, rfl, .inl ⟨rfl, rfl⟩, Int.le_refl _⟩) RUL.out.2.1.1 (by have := RUL.out; omega) (by rw [E5.out]; exact hs.1) hs.1 (by omega))
  have hr5 : s5.reports = 1 := by rw [E5.out]; rfl
  have T5 := Lib.hid (lo_tick HPv.out I5.out (by omega) a1 ⟨rfl, FT.out.1⟩)
  have I6 := Lib.hid (Plt.tickS_inv I5.out a1)
  have hr6 : (Plt.tickS s5 a1).reports ≤ 10 := by have := FT.out.2.2.2.2; omega
  obtain ⟨s6, h6⟩ : ∃ s6, s6 = Plt.tickS s5 a1 := ⟨_, rfl⟩
  rw [← h6] at FT T5 I6 hr6
  have KA := Lib.hid kA
  have KI := Lib.hid kI
  clear h6 kA kI hr5 E5 H5 I5
  go_wp2_with fail
  refine T5.out.mono ?_
  rintro e W6 ⟨v, rfl, hvv, hp, hk⟩
  obtain ⟨A6, c6, rfl⟩ := hvv.form
  have HLP := Lib.hid (show LP w3.heap.size b c g h a00 a01 a02 a1 0 s6 w3 W6 from ⟨hp, I6.out, by rw [FT.out.2.2.2.1]; exact FT.out.2.1, by rw [FT.out.2.2.2.1]; exact FT.out.2.2.1, by rw [FT.out.2.2.2.1]; exact Int.le_refl _, .inl FT.out.2.2.2.1, fun e => (by cases e), by omega,
    blk_keep KA.out hk (fun e => by have := HPv.out.away ⟨_, KA.out⟩ (by decide) (by decide); omega), blk_keep KI.out hk (fun e => by have := HPv.out.away ⟨_, KI.out⟩ (by decide) (by decide); omega), act_below HBv.out HBv.out.size HPv.out hk⟩)
  clear hvv hp hk T5 FT I6 hr6 HPv HBv KA KI
  go_wp2_with fail
  go_loopw [10] (fun sl wr => ∃ (i : Nat) (s : Plt.St), sl = .int .i64 i ∧ i ≤ 4 ∧ Hid (LP w3.heap.size b c g h a00 a01 a02 a1 i s w3 wr)) (fun sl _ => 4 - (intOf sl).toNat)
  case atStart => exact ⟨0, s6, by go_num, by omega, HLP⟩
  case round =>
    obtain ⟨i, s, rfl, hi, HQ⟩ := hrel
    clear HLP
    by_cases hlt : i < 4
    case neg =>
      obtain rfl : i = 4 := by omega
      have hb7 : s.st = 7 := by rw [HQ.out.un, HQ.out.fin rfl]; unfold Plt.Lo.at'; have := RUL.out; rw [if_neg (by omega), if_neg (by omega), if_neg (by omega)]
      have hph : s.since = a01 + a02 ∧ s.given = false := by
        rcases HQ.out.fl.ph with ⟨h1, _⟩ | ⟨h1, _⟩ | ⟨h1, _⟩ | ⟨_, h2, h3⟩
        · omega
        · omega
        · omega
        · exact ⟨h2, h3⟩
      have SI := Lib.hid (fun (W : World) (hW : IsP W w3.heap.size b c s) => psince_any hW HQ.out.inv)
      rw [HQ.out.fl.begun, hph.1] at SI
      have SA := Lib.hid (fun (W : World) (hW : IsP W w3.heap.size b c s) => pstart_any hW HQ.out.inv)
      rw [hph.2] at SA
      have ee : hasV (a01 + a02) true = a01 + a02 := rfl
      have e0 : hasE true = 0 := rfl
      have e9 : hasE false = 9 := rfl
      rw [ee, e0] at SI
      rw [e9] at SA
      clear ee e0 e9 hph hb7 hi hlt
      go_wp2_with fail
      refine (SI.out _ HQ.out.p).mono ?_
      rintro e W7 ⟨rfl, hb7⟩
      have HP7 := Lib.hid (HQ.out.p.below hb7 (Nat.le_refl _))
      have HB7 := Lib.hid (HQ.out.bel.trans (hb7.mono HQ.out.bel.size))
      have k7 := Lib.hid (blk_below HQ.out.ats hb7 (lt_of_block HQ.out.ats))
      clear hb7 SI
      go_wp2_with fail
      refine (SA.out _ HP7.out).mono ?_
      rintro e W8 ⟨rfl, hb8⟩
      have HB := Lib.hid (HB7.out.trans (hb8.mono HB7.out.size))
      have k8 := blk_below k7.out hb8 (lt_of_block k7.out)
      have q3 : W8.cell? ⟨g, 3, none⟩ = some (.int .i64 (a01 + a02)) := blk_cell k8 3 rfl
      have hl8 := lt_of_block k8
      clear hb8 SA HP7 HB7 k7 k8
      go_wp2_with fail; refine (known_true _).mono ?_; rintro e W9 ⟨rfl, hb9⟩; have HB9 := Lib.hid (HBw.out.trans ((HB.out.trans (hb9.mono HB.out.size)).mono HBw.out.size)); clear hb9; go_wp2_with fail; go_ret; exact ⟨rfl, HB9.out⟩
    case pos =>
    have wn : IntKind.i64.wrap ((i : Int) + 1) = (i : Int) + 1 := IntWalk.i64_in _ (by omega)
    have tn : ((i : Int) + 1).toNat = i + 1 := by omega
    have TL := Lib.hid (tms_le RUL.out.1 RUL.out.2.1 RUL.out.2.2.1 hlt)
    have TA := Lib.hid (fun (t : Int) => tms_at (t := t) RUL.out.1 RUL.out.2.1 RUL.out.2.2.1 hlt)
    have HC := Lib.hid (show ∀ W : World, W.heap[g]? = some (.cells #[.int .i64 0, .int .i64 a00, .int .i64 a01, .int .i64 (a01 + a02), .int .i64 2000000] 3 (0, 0)) → W.heap[h]? = some (.cells #[.int .i64 4, .int .i64 5, .int .i64 6, .int .i64 7] 38 (0, 0)) → W.cell? ⟨g, i, none⟩ = some (.int .i64 (tms a00 a01 a02 i)) ∧ W.cell? ⟨g, i + 1, none⟩ = some (.int .i64 (tms a00 a01 a02 (i + 1))) ∧ W.cell? ⟨h, i, none⟩ = some (.int .i64 (4 + (i : Int))) from by
      intro W k1 k2
      have : i = 0 ∨ i = 1 ∨ i = 2 ∨ i = 3 := by omega
      rcases this with rfl | rfl | rfl | rfl
      · exact ⟨blk_cell k1 0 rfl, blk_cell k1 1 rfl, blk_cell k2 0 rfl⟩
      · exact ⟨blk_cell k1 1 rfl, blk_cell k1 2 rfl, blk_cell k2 1 rfl⟩
      · exact ⟨blk_cell k1 2 rfl, blk_cell k1 3 rfl, blk_cell k2 2 rfl⟩
      · exact ⟨blk_cell k1 3 rfl, blk_cell k1 4 rfl, blk_cell k2 3 rfl⟩)
    have FN := Lib.hid (show i = 3 → tms a00 a01 a02 (i + 1) = 2000000 from fun e => by rw [e]; rfl)
    have FN0 := Lib.hid (show i = 3 → tms a00 a01 a02 i = a01 + a02 from fun e => by rw [e]; rfl)
    obtain ⟨lo, hlo⟩ : ∃ x, x = tms a00 a01 a02 i := ⟨_, rfl⟩
    obtain ⟨hi', hhi⟩ : ∃ x, x = tms a00 a01 a02 (i + 1) := ⟨_, rfl⟩
    have HLE := Lib.hid HQ.out.le
    rw [← hlo] at TL TA HC HLE FN0
    rw [← hhi] at TL TA HC FN
    have HHI := Lib.hid hhi
    have HGE := Lib.hid HQ.out.ge
    have hil := TL.out
    have wh : IntKind.i64.wrap (hi' - 1) = hi' - 1 := IntWalk.i64_in _ (by omega)
    have iin : (i : Int) < 5 := by omega
    have iin1 : (i : Int) + 1 < 5 := by omega
    have iin4 : (i : Int) < 4 := by omega
    clear hlo hhi
    have cc := HC.out wr HQ.out.ats HQ.out.iss
    obtain ⟨cg, cg1, ch⟩ := cc
    have FN2 := Lib.hid (show i = 3 → lo = a01 + a02 from FN0.out)
    have TK := Lib.hid (fun (hlt : lo < hi') (hge : a1 < hi') => Plt.Lo.Fl.tick HQ.out.fl RUL.out.2.1.1 (by have := RUL.out; omega) (l := hi' - 1) (by have := HLE.out; omega) (by have := HLE.out; omega) (by omega))
    have NXT := Lib.hid (show (¬ a1 < hi' ∨ hi' = lo) → ∀ W, LP w3.heap.size b c g h a00 a01 a02 a1 i s w3 W → LP w3.heap.size b c g h a00 a01 a02 a1 (i + 1) s w3 W from fun hc W hW => ⟨hW.p, hW.inv, hW.fl, hW.un, hW.ge, by rw [← HHI.out]; have := HLE.out; have := HGE.out; omega, fun e => absurd (show i = 3 by omega) (fun h3 => by have := FN.out h3; have := FN2.out h3; have := RUL.out; omega), by have := hW.rep; omega, hW.ats, hW.iss, hW.bel⟩)
    have EQS := Lib.hid (show lo ≤ a1 → a1 < hi' → s.st = 4 + (i : Int) from fun h1 h2 => by
      have hn : s.now = a1 := by have := HLE.out; have := HGE.out; omega
      rw [HQ.out.un, hn]; exact TA.out a1 h1 h2)
    have HIL := Lib.hid hil
    clear hil
    by_cases hsh : a1 < hi'
    case neg =>
      have z0 : decide (lo ≤ a1) = true := decide_eq_true (by have := HIL.out; omega)
      have z1 : decide (a1 < hi') = false := decide_eq_false hsh
      have NX := Lib.hid (NXT.out (.inl hsh))
      clear hsh
      go_upto_region 21 with fail
      go_quiet (fail)
      generalize hD : World.drewN _ _ = WD
      have HD := Lib.hid (show LP w3.heap.size b c g h a00 a01 a02 a1 i s w3 WD from by rw [← hD]; exact HQ.out.drewN _)
      clear hD
      obtain ⟨cg, cg1, ch⟩ := HC.out WD HD.out.ats HD.out.iss
      go_upto_region 23 with fail
      go_quiet (fail)
      generalize hD : World.drewN _ _ = WE
      have HE := Lib.hid (show LP w3.heap.size b c g h a00 a01 a02 a1 (i + 1) s w3 WE from by rw [← hD]; exact NX.out _ (HD.out.drewN _))
      clear hD
      go_wp2_with fail
      go_roundw
      case rel => exact ⟨i + 1, s, by go_num, by omega, HE⟩
      case measure => simp [intOf]; omega
    case pos =>
    have z4 : decide (a1 < hi') = true := decide_eq_true hsh
    by_cases hE : lo < hi'
    case neg =>
      have z0 : decide (lo ≤ a1) = false := decide_eq_false (by omega)
      have z6 : decide (lo < hi') = false := decide_eq_false hE
      have NX := Lib.hid (NXT.out (.inr (by have := HIL.out; omega)))
      clear hsh hE
      go_upto_region 21 with fail
      go_quiet (fail)
      generalize hD : World.drewN _ _ = WD
      have HD := Lib.hid (show LP w3.heap.size b c g h a00 a01 a02 a1 i s w3 WD from by rw [← hD]; exact HQ.out.drewN _)
      clear hD
      obtain ⟨cg, cg1, ch⟩ := HC.out WD HD.out.ats HD.out.iss
      go_upto_region 23 with fail
      go_quiet (fail)
      generalize hD : World.drewN _ _ = WE
      have HE := Lib.hid (show LP w3.heap.size b c g h a00 a01 a02 a1 (i + 1) s w3 WE from by rw [← hD]; exact NX.out _ (HD.out.drewN _))
      clear hD
      go_wp2_with fail
      go_roundw
      case rel => exact ⟨i + 1, s, by go_num, by omega, HE⟩
      case measure => simp [intOf]; omega
    case pos =>
    have z6 : decide (lo < hi') = true := decide_eq_true hE
    have z7 : decide (a1 ≤ hi' - 1) = true := decide_eq_true (by omega)
    have TKS := Lib.hid (TK.out hE hsh)
    have XX := Lib.hid (TA.out (hi' - 1) (by omega) (by omega))
    have HSH := Lib.hid hsh
    have hrs : s.reports < 1000000000 := by have := HQ.out.rep; omega
    obtain ⟨s', hs'⟩ : ∃ s', s' = Plt.tickS s (hi' - 1) := ⟨_, rfl⟩
    have HI' := Lib.hid (show Plt.Inv s' by rw [hs']; exact Plt.tickS_inv HQ.out.inv _)
    rw [← hs'] at TKS
    have SY := Lib.hid (fun (W : World) (hW : IsP W w3.heap.size b c s) => state_yes hW HQ.out.inv hrs (hi' - 1) (4 + (i : Int)) ⟨hs'.symm, TKS.out.1⟩ HI'.out (by rw [TKS.out.2.2.1]; exact XX.out))
    clear hs' hrs TK NXT
    go_upto_region 21 with fail
    go_cut [114] from 87 to 156 (fun v wx => v = .bool false ∧ LP w3.heap.size b c g h a00 a01 a02 a1 i s w3 wx)
    case first =>
      by_cases hL : lo ≤ a1
      · have z0 : decide (lo ≤ a1) = true := decide_eq_true hL
        have ST := Lib.hid (fun (W : World) (hW : IsP W w3.heap.size b c s) => pstate_any hW HQ.out.inv)
        rw [EQS.out hL hsh] at ST
        have z8 : ((4 + (i : Int)) != (4 + (i : Int))) = false := by simp
        clear hL hsh hE
        go_quiet ((go_at_call 13; exact Calls.quiet_of_same ((ST.out _ (HQ.out.p.drewN _)).mono fun e w' h => ⟨h.1, h.2.symm⟩)))
        go_wp2_with fail
        go_meet
        exact ⟨rfl, HQ.out.drewN _⟩
      · have z0 : decide (lo ≤ a1) = false := decide_eq_false hL
        clear hL hsh hE
        go_quiet (fail)
        go_wp2_with fail
        go_meet
        exact ⟨rfl, HQ.out.drewN _⟩
    case rest =>
    obtain ⟨rfl, hcq⟩ := hcut
    have HC1 := Lib.hid hcq
    obtain ⟨cg, cg1, ch⟩ := HC.out wc HC1.out.ats HC1.out.iss
    clear hcq hsh hE
    go_upto_region 23 with fail
    go_quiet (fail)
    generalize hD : World.drewN _ _ = WE
    have HE := Lib.hid (show LP w3.heap.size b c g h a00 a01 a02 a1 i s w3 WE from by rw [← hD]; exact HC1.out.drewN _)
    clear hD
    obtain ⟨cg, cg1, ch⟩ := HC.out WE HE.out.ats HE.out.iss
    have inn : (0 : Int) ≤ (i : Int) + 1 := by omega
    have inn5 : (i : Int) + 1 < ((5 : Nat) : Int) := by omega
    have inn0 : (0 : Int) ≤ (i : Int) := by omega
    have inn4 : (i : Int) < ((4 : Nat) : Int) := by omega
    go_upto_region 24 with fail
    go_cut [156] from 87 to 156 (fun v wx => v = .bool false ∧ LP w3.heap.size b c g h a00 a01 a02 a1 (i + 1) s' w3 wx)
    case first =>
      (first | (go_region_held3 (fun w' => w'.cell? ⟨g, i + 1, none⟩ = some (.int .i64 hi') ∧ w'.cell? ⟨h, i, none⟩ = some (.int .i64 (4 + (i : Int)))) (first | (refine ⟨?_, ?_⟩ <;> simp [go_sem, *]; done) | go_keep) (first | (go_at_call 26; refine (SY.out _ (by first | exact HE.out.p | exact HE.out.p.drewN _ | exact HE.out.p.drew)).mono ?_; rintro e W5 ⟨rfl, hp5, hk5⟩; have hk5' : Keeps (fun i => i = b ∨ i = c) WE W5 := (by first | exact hk5 | exact ⟨hk5.os, hk5.tape, hk5.output, hk5.size, hk5.block⟩); have H5 := Lib.hid (HE.out.next TKS.out hp5 HI'.out hk5' (by have := HSH.out; omega) (by rw [← HHI.out]; omega) (fun e => by have := FN.out (by omega); omega)); have hcc5 := HC.out W5 H5.out.ats H5.out.iss; (obtain ⟨cg5, cg15, ch5⟩ := hcc5); clear hk5 hk5' hp5))) | fail)
      go_wp2_with fail
      go_meet
      exact ⟨rfl, by first | exact H5.out | exact H5.out.drewN _⟩
    case rest =>
    obtain ⟨rfl, hcq⟩ := hcut
    have H5 := Lib.hid hcq
    clear hcq
    go_wp2_with fail
    go_roundw
    case rel => exact ⟨i + 1, s', by go_num, by omega, H5⟩
    case measure => simp [intOf]; omega
theorem walk (a00 a01 a02 a03 a04 : Int) (a1 : Int) (w : World) (w00 : (Lit.int .i64 a00).wf = true) (w01 : (Lit.int .i64 a01).wf = true) (w02 : (Lit.int .i64 a02).wf = true) (w03 : (Lit.int .i64 a03).wf = true) (w04 : (Lit.int .i64 a04).wf = true) (w1 : (Lit.int .i64 a1).wf = true) :
    Calls Try.prog 8 #[.agg #[.int .i64 a00, .int .i64 a01, .int .i64 a02, .int .i64 a03, .int .i64 a04], .int .i64 a1] w fun e w' => e = .returned (.bool true) ∧ Below w.heap.size w w' := by
  by_cases h1 : Plt.ruOk a00 a01 a02 a03 a04 = true
  · by_cases h2 : 0 ≤ a1 ∧ a1 ≤ 100000
    · apply walk_yes <;> assumption
    · apply walk_no <;> first | assumption | exact .inr ⟨h1, by omega⟩
  · apply walk_no <;> first | assumption | exact .inl (by simpa using h1)
theorem own : ownKnob Try.prog.godebug = none := by kernel_rfl
theorem laidOut : laidOutB Try.prog = true := by kernel_rfl
theorem cells23 : Try.prog.cellsOf 23 = 5 := by kernel_rfl
set_option maxRecDepth 100000 in
theorem lifted (os : Os) (started : os.Started) (H : Type) (enc : TypeId × Value → H) :
    ReturnsInHanded {} Try.checked os 8 .any (Rows.pilotLostsSpec.pre6 enc Try.prog Try.f8 Rows.pilotLostsRow.domain false) (Rows.pilotLostsSpec.post enc Try.prog Try.f8 false true false false) := by
  refine returnsInHanded_of_change (C := Try.checked) own started (by kernel_rfl) Try.func8
    (ChangeSpec.witness6 (enc := enc) (C := Try.checked) false ⟨#[], #[.agg #[.int .i64 0, .int .i64 0, .int .i64 0, .int .i64 0, .int .i64 0], .int .i64 0], []⟩ 8 (by kernel_rfl) (by kernel_rfl) (by kernel_rfl) (by kernel_rfl)) ?_
  intro W base args ds gs before hval0 hW hcnd _
  have hval : ∀ (j : Nat) t v, Try.f8.params[j]? = some t → args[j]? = some v → Value.okWide Try.prog W .any base t v := hval0
  have hW' := hW
  obtain ⟨p, q, hA0, hV, rfl, hfz, hnd⟩ := hW
  have hA : DataW.TrodAll enc Try.prog W 0 (fun _ => true) true Try.f8.params.toList args.toList ds p := hA0
  rw [Try.params8] at hA hval
  obtain ⟨v0, vs0, d0, ds0, p0, q0, hargs, rfl, rfl, h0, r0⟩ := trodAll_cons hA
  obtain ⟨v1, vs1, d1, ds1, p1, q1, rfl, rfl, rfl, h1, r1⟩ := trodAll_cons r0
  obtain ⟨rfl, rfl, rfl⟩ := trodAll_nil r1
  obtain rfl : args = #[v0, v1] := by cases args; simp_all
  obtain ⟨rfl, rfl⟩ := trodVars_none hV
  have k0 := h0
  have lt0 : ∀ x ∈ p0, x.block < W.heap.size := by obtain ⟨m, hm⟩ := k0; exact DataW.trod_lt m _ _ _ hm
  obtain ⟨c00, c01, c02, c03, c04, y00, y01, y02, y03, y04, m0, rfl, _, _, hy00, hy01, hy02, hy03, hy04⟩ := open_agg5 Try.underlying23 (by kernel_rfl) cells23 (hval 0 23 v0 rfl rfl) h0
  obtain ⟨a00, e00, _, w00⟩ := DataW.trod_int Try.underlying3 hy00; simp at e00; subst e00
  obtain ⟨a01, e01, _, w01⟩ := DataW.trod_int Try.underlying3 hy01; simp at e01; subst e01
  obtain ⟨a02, e02, _, w02⟩ := DataW.trod_int Try.underlying3 hy02; simp at e02; subst e02
  obtain ⟨a03, e03, _, w03⟩ := DataW.trod_int Try.underlying3 hy03; simp at e03; subst e03
  obtain ⟨a04, e04, _, w04⟩ := DataW.trod_int Try.underlying3 hy04; simp at e04; subst e04
  have k1 := h1
  have lt1 : ∀ x ∈ p1, x.block < W.heap.size := by obtain ⟨m, hm⟩ := k1; exact DataW.trod_lt m _ _ _ hm
  obtain ⟨a1, rfl, _, _, w1⟩ := open_int Try.underlying3 (hval 1 3 v1 rfl rfl) h1
  clear hA0 hval0
  refine (walk a00 a01 a02 a03 a04 a1 W w00 w01 w02 w03 w04 w1).mono fun e W' ⟨he, bel⟩ => ?_
  subst he
  exact ⟨_, rfl, _, _, _, [], _, [], hW', trodAll_mk1 (shut_bool Try.underlying4 _), (trodAll_cons_mk (Below.trod laidOut (by kernel_rfl) (of_decide_eq_true (by kernel_rfl)) k0 bel lt0) (trodAll_cons_mk (Below.trod laidOut (by kernel_rfl) (of_decide_eq_true (by kernel_rfl)) k1 bel lt1) trodAll_mk0)), rfl, bel.frame _, fun h => by cases h⟩
theorem over : Rows.pilotLostsRow.holds Try.pinned (OpenSpec.ofChange Rows.pilotLostsSpec) :=
  OpenClaim.holds_of_wide 8 Try.f8 rfl rfl rfl rfl rfl rfl rfl ⟨rfl, rfl, rfl, rfl, rfl⟩ rfl rfl rfl rfl rfl (by kernel_rfl) Try.func8 (by kernel_rfl)
    (of_decide_eq_true (by kernel_rfl)) (by unfold Func.isWrapper; first | (rw [if_pos (by decide +kernel)]; kernel_rfl) | (rw [if_neg (by decide +kernel)]; exact ⟨rfl, rfl⟩))
    (fun os started H enc _ => lifted os started H enc)
theorem proved : Rows.PilotLostsSaid := over
end Go.Proofs.Ytjidchaejicjaaa.lawPilotLosts

/- The law of the stations' calls holds: 'skylanternlaw36.StationActs' returns true at every input. No conditions. -/
import Derived.Test.YtiidkmnagfhgiaaTc
import Derived.Test.YtiidkmnagfhgiaaTd
namespace Go.Proofs.Ytiidkmnagfhgiaa.lawStationActs
open Go.ChangeShapes Go.WideShapes Go.ChangeAt Go.RowKit Go.Joins
set_option linter.unusedVariables false
set_option linter.unusedSimpArgs false
attribute [local go_sem ↓] Go.wp_at_zero Go.wp_at_succ
set_option maxHeartbeats 8000000
set_option maxRecDepth 100000
theorem walk (a0 : Int) (a1 : Int) (a2 : Option Addr) (len2 cap2 : Nat) (l2 : List LAct) (w : World) (w0 : (Lit.int .i64 a0).wf = true) (w1 : (Lit.int .i64 a1).wf = true) (w2 : LRf w w.heap.size a2 len2 l2) (r2 : Room a2 len2 cap2) (f2 : ∀ y ∈ l2, LaOk y) :
    Calls Try.prog 4 #[.int .i64 a0, .int .i64 a1, .slice a2 len2 cap2] w fun e w' => e = .returned (.bool true) ∧ Below w.heap.size w w' := by
  have hlen := r2.2.1
  have hlc := r2.1
  have hll := w2.1
  have FW := Lib.hid (show ∀ W : World, LRf W w.heap.size a2 len2 l2 → Calls Try.prog 10 #[.slice a2 len2 cap2, .int .i64 40] W fun e w' => e = .returned (.bool (fewB l2 40)) ∧ W = w' from fun W hW => by
    rcases Nat.lt_or_ge 40 len2 with h | h
    · exact few_big a2 len2 cap2 40 l2 W hll (by unfold maxLen at *; omega) h
    · exact few_any a2 len2 cap2 40 w.heap.size l2 W hW (by omega) (by omega))
  clear hll
  have HW2 := Lib.hid w2
  clear w0 w1 w2 r2 f2
  cases hfew : fewB l2 40
  · rw [hfew] at FW
    clear hlen hlc
    go_enter Try.func4, Try.ntmps4
    go_wp2_with fail
    refine (FW.out _ (HW2.out.below (B' := w.heap.size) (by repeat (first | (with_reducible exact Below.refl _ _) | (with_reducible refine Below.drew ?_) | (with_reducible refine below_drewN ?_ _) | ((with_reducible refine Below.alloc ?_ ?_ _); rotate_left; (first | omega | (simp <;> omega)); rotate_right) | ((with_reducible refine Below.setCell ?_ ?_ _); rotate_left; (first | omega | (simp <;> omega)); rotate_right) | (with_reducible assumption) | (refine Below.trans ?_ (Below.mono (by assumption) ?_); rotate_left; (first | omega | (simp <;> omega)); rotate_right))) (Nat.le_refl _))).mono ?_
    rintro e w2 ⟨rfl, rfl⟩
    go_wp2_with fail
    refine (known_true _).mono ?_
    rintro e w3 ⟨rfl, hb3⟩
    have hz3 := hb3.size; try simp at hz3
    go_wp2_with fail
    go_ret
    exact ⟨rfl, (by repeat (first | (with_reducible exact Below.refl _ _) | (with_reducible refine Below.drew ?_) | (with_reducible refine below_drewN ?_ _) | ((with_reducible refine Below.alloc ?_ ?_ _); rotate_left; (first | omega | (simp <;> omega)); rotate_right) | ((with_reducible refine Below.setCell ?_ ?_ _); rotate_left; (first | omega | (simp <;> omega)); rotate_right) | (with_reducible assumption) | (refine Below.trans ?_ (Below.mono (by assumption) ?_); rotate_left; (first | omega | (simp <;> omega)); rotate_right)))⟩
  · rw [hfew] at FW
    have hl40 : len2 ≤ 40 := by
      have h := hfew
      unfold fewB at h
      simp only [Bool.and_eq_true, decide_eq_true_eq] at h
      rw [← HW2.out.1]; exact h.1
    have HAL := Lib.hid (show ∀ y ∈ l2, okA y = true from by
      have h := hfew
      unfold fewB at h
      simp only [Bool.and_eq_true, List.all_eq_true] at h
      exact h.2)
    clear hlen hlc hfew
    by_cases hv : Stn.newE a0 a1 = 0
    case neg =>
      have M := Lib.hid (fun W : World => made_no a0 a1 W hv)
      clear hv
      go_enter Try.func4, Try.ntmps4
      go_wp2_with fail
      refine (FW.out _ (HW2.out.below (B' := w.heap.size) (by repeat (first | (with_reducible exact Below.refl _ _) | (with_reducible refine Below.drew ?_) | (with_reducible refine below_drewN ?_ _) | ((with_reducible refine Below.alloc ?_ ?_ _); rotate_left; (first | omega | (simp <;> omega)); rotate_right) | ((with_reducible refine Below.setCell ?_ ?_ _); rotate_left; (first | omega | (simp <;> omega)); rotate_right) | (with_reducible assumption) | (refine Below.trans ?_ (Below.mono (by assumption) ?_); rotate_left; (first | omega | (simp <;> omega)); rotate_right))) (Nat.le_refl _))).mono ?_
      rintro e w2 ⟨rfl, rfl⟩
      go_wp2_with fail
      refine (M.out _).mono ?_
      rintro e w4 ⟨rfl, hb4⟩
      have hz4 := hb4.size; try simp at hz4
      go_wp2_with fail
      refine (known_true _).mono ?_
      rintro e w3 ⟨rfl, hb3⟩
      have hz3 := hb3.size; try simp at hz3
      go_wp2_with fail
      go_ret
      exact ⟨rfl, (by repeat (first | (with_reducible exact Below.refl _ _) | (with_reducible refine Below.drew ?_) | (with_reducible refine below_drewN ?_ _) | ((with_reducible refine Below.alloc ?_ ?_ _); rotate_left; (first | omega | (simp <;> omega)); rotate_right) | ((with_reducible refine Below.setCell ?_ ?_ _); rotate_left; (first | omega | (simp <;> omega)); rotate_right) | (with_reducible assumption) | (refine Below.trans ?_ (Below.mono (by assumption) ?_); rotate_left; (first | omega | (simp <;> omega)); rotate_right)))⟩
    case pos =>
      obtain ⟨n, rfl⟩ : ∃ n : Nat, a0 = n := by
        refine ⟨a0.toNat, ?_⟩
        unfold Stn.newE at hv
        split at hv
        · omega
        · omega
      have M := Lib.hid (fun W : World => made_yes n a1 W hv)
      have HI0 := Lib.hid (Stn.inv_new hv)
      clear hv
      go_enter Try.func4, Try.ntmps4
      go_wp2_with fail
      refine (FW.out _ (HW2.out.below (B' := w.heap.size) (by repeat (first | (with_reducible exact Below.refl _ _) | (with_reducible refine Below.drew ?_) | (with_reducible refine below_drewN ?_ _) | ((with_reducible refine Below.alloc ?_ ?_ _); rotate_left; (first | omega | (simp <;> omega)); rotate_right) | ((with_reducible refine Below.setCell ?_ ?_ _); rotate_left; (first | omega | (simp <;> omega)); rotate_right) | (with_reducible assumption) | (refine Below.trans ?_ (Below.mono (by assumption) ?_); rotate_left; (first | omega | (simp <;> omega)); rotate_right))) (Nat.le_refl _))).mono ?_
      rintro e w2 ⟨rfl, rfl⟩
      go_wp2_with fail
      refine (M.out _).mono ?_
      rintro e w4 ⟨b, RA, NA, NS, rfl, hs4, hr4, hb4⟩
      have hz4 := hb4.size; try simp at hz4
      have HS4 := Lib.hid (show SB w.heap.size b (Stn.new n a1) none 0 (some ⟨NA, 0, none⟩) n (some ⟨NS, 0, none⟩) n w w4 from ⟨⟨_, _, _, _, hs4.lower (by simp)⟩, HI0.out, fit_new _ _, hr4, (by repeat (first | (with_reducible exact Below.refl _ _) | (with_reducible refine Below.drew ?_) | (with_reducible refine below_drewN ?_ _) | ((with_reducible refine Below.alloc ?_ ?_ _); rotate_left; (first | omega | (simp <;> omega)); rotate_right) | ((with_reducible refine Below.setCell ?_ ?_ _); rotate_left; (first | omega | (simp <;> omega)); rotate_right) | (with_reducible assumption) | (refine Below.trans ?_ (Below.mono (by assumption) ?_); rotate_left; (first | omega | (simp <;> omega)); rotate_right)))⟩)
      clear hb4 hs4 hr4 M FW HI0
      go_wp2_with fail
      generalize hV : World.alloc _ _ = V
      have k0 : V.heap[w4.heap.size]? = some (.cells (rsl (Stn.new n a1) none 0 (some ⟨NA, 0, none⟩) n (some ⟨NS, 0, none⟩) n).toArray 29 (0, 0)) := by rw [← hV]; exact heap_new _ _
      have HV := Lib.hid (show SB w.heap.size b (Stn.new n a1) none 0 (some ⟨NA, 0, none⟩) n (some ⟨NS, 0, none⟩) n w V from HS4.out.below (by rw [← hV]; exact (Below.refl _ _).alloc (Nat.le_refl _) _) (by omega))
      have hR : w.heap.size ≤ w4.heap.size := by omega
      obtain ⟨R, hReq⟩ : ∃ R, R = w4.heap.size := ⟨_, rfl⟩
      rw [← hReq] at k0 hR ⊢
      have K0 := Lib.hid k0
      clear hV k0 hReq HS4 hz4
      go_loopw [10] (fun sl wr => ∃ (i : Nat) (s : Stn.St) (D : Option Addr) (dc : Nat) (A : Option Addr) (ac : Nat) (S : Option Addr) (sc : Nat), sl = .int .i64 i ∧ i ≤ len2 ∧ Hid (SB w.heap.size b s D dc A ac S sc w wr) ∧ Hid (wr.heap[R]? = some (.cells (rsl s D dc A ac S sc).toArray 29 (0, 0)))) (fun sl _ => len2 - (intOf sl).toNat)
      case atStart => exact ⟨0, _, _, _, _, _, _, _, by go_num, by omega, HV, K0⟩
      case round =>
        obtain ⟨i, s, D, dc, A, ac, S, sc, rfl, hi, HS, HK⟩ := hrel
        clear HV K0
        have hzr := HS.out.lt.size
        by_cases hlt : i < len2
        · obtain ⟨bb, oo, rfl, hbb, hcc⟩ := (HW2.out.below HS.out.lt (Nat.le_refl _)).2 (by omega)
          obtain ⟨FD, ce, c0, c1, c2, c3, c4, c5, c6, c7, hrd, hrm⟩ := hcc i hlt
          obtain ⟨x, hx⟩ : ∃ x, x = l2.getD i la0 := ⟨_, rfl⟩
          rw [← hx] at c0 c1 c2 c3 c4 c5 c6 c7 hrd hrm
          have hok : okA x = true := HAL.out x (by rw [hx]; simp [List.getD, List.getElem?_eq_getElem (show i < l2.length by rw [HW2.out.1]; exact hlt)])
          unfold okA at hok
          simp only [decide_eq_true_eq] at hok
          obtain ⟨s', hs'⟩ : ∃ s', s' = actS s x := ⟨_, rfl⟩
          obtain ⟨fr, hfr⟩ : ∃ fr, fr = actF s x := ⟨_, rfl⟩
          have AC := Lib.hid (show ∀ W : World, Below wr.heap.size wr W → Calls Try.prog 11 #[.pointer (some ⟨b, 0, none⟩), .agg #[.int .i64 s.again, .int .i64 s.st, .int .i64 s.now, .int .i64 s.seq, .bool s.some, .int .i64 s.prog, .int .i64 s.cmd, .slice D (Stn.data s).length dc, .int .i64 s.sent, .slice A s.n ac, .slice S s.n sc], .agg #[.int .i64 x.kind, .int .i64 x.now, .int .i64 x.n, .int .i64 x.f.k, .int .i64 x.f.f, .int .i64 x.f.t, .int .i64 x.f.s, .slice FD x.f.d.length ce]] W (SAPost w.heap.size b s' fr w W) from fun W hW => by
            have hz := hW.size
            rw [hs', hfr]
            exact sa_any (HS.out.below hW hzr) x FD ce (by omega) (by omega) (hrd.below hW (by omega)))
          have hk := HK.out
          have hRlt := lt_of_block hk
          simp only [rsl] at hk
          have hfl := Lib.hid (show fr.length ≤ 64 by rw [hfr]; exact actF_len HS.out.inv x)
          clear hs' hx hrd hrm hok hcc hfr HS HK
          have ca_0 := blk_cell hk 0 rfl; have fa_0 := blk_free hk 0; have ca_1 := blk_cell hk 1 rfl; have fa_1 := blk_free hk 1; have ca_2 := blk_cell hk 2 rfl; have fa_2 := blk_free hk 2; have ca_3 := blk_cell hk 3 rfl; have fa_3 := blk_free hk 3; have ca_4 := blk_cell hk 4 rfl; have fa_4 := blk_free hk 4; have ca_5 := blk_cell hk 5 rfl; have fa_5 := blk_free hk 5; have ca_6 := blk_cell hk 6 rfl; have fa_6 := blk_free hk 6; have ca_7 := blk_cell hk 7 rfl; have fa_7 := blk_free hk 7; have ca_8 := blk_cell hk 8 rfl; have fa_8 := blk_free hk 8; have ca_9 := blk_cell hk 9 rfl; have fa_9 := blk_free hk 9; have ca_10 := blk_cell hk 10 rfl; have fa_10 := blk_free hk 10; have la := lt_of_block hk
          have hin : (i : Int) < (len2 : Int) := by omega
          have hbw : bb < wr.heap.size := by omega
          have hbN : bb ≠ wr.heap.size := by omega
          have hRN : R ≠ wr.heap.size := by omega
          have hNR : wr.heap.size ≠ R := by omega
          go_upto_region 11 with fail
          go_cut [11, 12, 13] from 32 to 81 (fun v1 v2 v3 wx => SCut w.heap.size b R s' fr #[.int .i64 s.again, .int .i64 s.st, .int .i64 s.now, .int .i64 s.seq, .bool s.some, .int .i64 s.prog, .int .i64 s.cmd, .slice D (Stn.data s).length dc, .int .i64 s.sent, .slice A s.n ac, .slice S s.n sc] w v1 v2 v3 wx)
          case first =>
            go_region_with (first | (go_at_call 11; refine (AC.out _ (by repeat (first | (with_reducible exact Below.refl _ _) | (with_reducible refine Below.drew ?_) | (with_reducible refine below_drewN ?_ _) | ((with_reducible refine Below.alloc ?_ ?_ _); rotate_left; (first | omega | (simp <;> omega)); rotate_right) | ((with_reducible refine Below.setCell ?_ ?_ _); rotate_left; (first | omega | (simp <;> omega)); rotate_right) | (with_reducible assumption) | (refine Below.trans ?_ (Below.mono (by assumption) ?_); rotate_left; (first | omega | (simp <;> omega)); rotate_right)))).mono ?_; rintro e w1 ⟨F, fc, D1, dc1, A1, ac1, S1, sc1, vs, H1, rfl, hB1, hv1, hm1, hd1, hk1, hb1, hr1⟩; have hz1 := hb1.size; (try simp at hz1); have k1 := hk1 R _ _ (by repeat (first | (with_reducible assumption) | ((with_reducible apply blk_far); rotate_left; (first | omega | (simp <;> omega)); rotate_right) | (with_reducible apply blk_drew) | (with_reducible apply blk_drewN) | (with_reducible exact heap_new _ _) | ((with_reducible apply heap_new'); (first | rfl | (simp <;> fail))) | (with_reducible apply blk_alloc))) oth_S; have HB1 := Lib.hid hB1; have HV1 := Lib.hid hv1; have HM1 := Lib.hid hm1; have HD1 := Lib.hid hd1; have HR1 := Lib.hid hr1; (try (have z1 : w1.heap[wr.heap.size]? = some (.cells #[.int .i64 0, .int .i64 0, .int .i64 0, .int .i64 0, .bool false, .int .i64 0, .int .i64 0, .slice none 0 0, .int .i64 0, .slice none 0 0, .slice none 0 0] 29 (0, 0)) := hk1 _ _ _ (by first | ((with_reducible apply heap_new'); (first | rfl | (simp <;> fail))) | ((with_reducible apply blk_drew); ((with_reducible apply heap_new'); (first | rfl | (simp <;> fail)))) | ((with_reducible apply blk_drewN); ((with_reducible apply heap_new'); (first | rfl | (simp <;> fail))))) oth_S; have cz_0 := blk_cell z1 0 rfl; have fz_0 := blk_free z1 0; have cz_1 := blk_cell z1 1 rfl; have fz_1 := blk_free z1 1; have cz_2 := blk_cell z1 2 rfl; have fz_2 := blk_free z1 2; have cz_3 := blk_cell z1 3 rfl; have fz_3 := blk_free z1 3; have cz_4 := blk_cell z1 4 rfl; have fz_4 := blk_free z1 4; have cz_5 := blk_cell z1 5 rfl; have fz_5 := blk_free z1 5; have cz_6 := blk_cell z1 6 rfl; have fz_6 := blk_free z1 6; have cz_7 := blk_cell z1 7 rfl; have fz_7 := blk_free z1 7; have cz_8 := blk_cell z1 8 rfl; have fz_8 := blk_free z1 8; have cz_9 := blk_cell z1 9 rfl; have fz_9 := blk_free z1 9; have cz_10 := blk_cell z1 10 rfl; have fz_10 := blk_free z1 10; have lz := lt_of_block z1)); (have cy_0 := blk_cell k1 0 rfl; have fy_0 := blk_free k1 0; have cy_1 := blk_cell k1 1 rfl; have fy_1 := blk_free k1 1; have cy_2 := blk_cell k1 2 rfl; have fy_2 := blk_free k1 2; have cy_3 := blk_cell k1 3 rfl; have fy_3 := blk_free k1 3; have cy_4 := blk_cell k1 4 rfl; have fy_4 := blk_free k1 4; have cy_5 := blk_cell k1 5 rfl; have fy_5 := blk_free k1 5; have cy_6 := blk_cell k1 6 rfl; have fy_6 := blk_free k1 6; have cy_7 := blk_cell k1 7 rfl; have fy_7 := blk_free k1 7; have cy_8 := blk_cell k1 8 rfl; have fy_8 := blk_free k1 8; have cy_9 := blk_cell k1 9 rfl; have fy_9 := blk_free k1 9; have cy_10 := blk_cell k1 10 rfl; have fy_10 := blk_free k1 10; have ly := lt_of_block k1); clear hB1 hv1 hm1 hd1 hk1 hb1 hr1; (try simp only [rsl])))
            all_goals
              first
              | (have _g := z1
                 go_wp2_with fail
                 generalize hWx : World.setCell _ _ _ = Wx
                 have kN : Wx.heap[wr.heap.size]? = some (.cells #[.int .i64 s'.again, .int .i64 s'.st, .int .i64 s'.now, .int .i64 s'.seq, .bool s'.some, .int .i64 s'.prog, .int .i64 s'.cmd, .slice D1 (Stn.data s').length dc1, .int .i64 s'.sent, .slice A1 s'.n ac1, .slice S1 s'.n sc1] 29 (0, 0)) := by rw [← hWx]; exact (by apply Eq.trans; (repeat (first | (with_reducible assumption) | (with_reducible apply blk_set) | ((with_reducible apply blk_far); rotate_left; (first | omega | (simp <;> omega)); rotate_right) | (with_reducible apply blk_drew) | (with_reducible apply blk_drewN) | ((with_reducible apply heap_new'); (first | rfl | (simp <;> fail))) | (with_reducible apply blk_alloc))); (first | with_reducible rfl | (simp <;> fail) | rfl))
                 have kR : Wx.heap[R]? = some (.cells #[.int .i64 s.again, .int .i64 s.st, .int .i64 s.now, .int .i64 s.seq, .bool s.some, .int .i64 s.prog, .int .i64 s.cmd, .slice D (Stn.data s).length dc, .int .i64 s.sent, .slice A s.n ac, .slice S s.n sc] 29 (0, 0)) := by rw [← hWx]; exact (by repeat (first | (with_reducible assumption) | ((with_reducible apply blk_far); rotate_left; (first | omega | (simp <;> omega)); rotate_right) | (with_reducible apply blk_drew) | (with_reducible apply blk_drewN) | (with_reducible exact heap_new _ _) | ((with_reducible apply heap_new'); (first | rfl | (simp <;> fail))) | (with_reducible apply blk_alloc)))
                 have hKx : Keeps (fun j => j = wr.heap.size) w1 Wx := by rw [← hWx]; (repeat (first | with_reducible exact Keeps.refl _ _ | (with_reducible refine Keeps.set1 ?_ _ _) | (with_reducible refine Keeps.drew ?_) | (with_reducible refine Keeps.drewN ?_ _) | (with_reducible refine Keeps.alloc ?_ _)))
                 clear hWx
                 go_meet
                 exact SAPost.cut HB1.out HV1.out HM1.out HD1.out HR1.out (by omega) (by first | omega | (simp; omega)) hKx (by omega) (fun _ => ⟨_, z1⟩) hNR kN kR)
              | (fail_if_success (have _g := z1)
                 go_wp2_with fail
                 generalize hWx : World.alloc _ _ = Wx
                 have kN : Wx.heap[w1.heap.size]? = some (.cells #[.int .i64 s'.again, .int .i64 s'.st, .int .i64 s'.now, .int .i64 s'.seq, .bool s'.some, .int .i64 s'.prog, .int .i64 s'.cmd, .slice D1 (Stn.data s').length dc1, .int .i64 s'.sent, .slice A1 s'.n ac1, .slice S1 s'.n sc1] 29 (0, 0)) := by rw [← hWx]; exact (heap_new _ _)
                 have kR : Wx.heap[R]? = some (.cells #[.int .i64 s.again, .int .i64 s.st, .int .i64 s.now, .int .i64 s.seq, .bool s.some, .int .i64 s.prog, .int .i64 s.cmd, .slice D (Stn.data s).length dc, .int .i64 s.sent, .slice A s.n ac, .slice S s.n sc] 29 (0, 0)) := by rw [← hWx]; exact (by repeat (first | (with_reducible assumption) | ((with_reducible apply blk_far); rotate_left; (first | omega | (simp <;> omega)); rotate_right) | (with_reducible apply blk_drew) | (with_reducible apply blk_drewN) | (with_reducible exact heap_new _ _) | ((with_reducible apply heap_new'); (first | rfl | (simp <;> fail))) | (with_reducible apply blk_alloc)))
                 have hKx : Keeps (fun j => j = w1.heap.size) w1 Wx := by rw [← hWx]; (repeat (first | with_reducible exact Keeps.refl _ _ | (with_reducible refine Keeps.set1 ?_ _ _) | (with_reducible refine Keeps.drew ?_) | (with_reducible refine Keeps.drewN ?_ _) | (with_reducible refine Keeps.alloc ?_ _)))
                 clear hWx
                 go_meet
                 exact SAPost.cut HB1.out HV1.out HM1.out HD1.out HR1.out (by omega) (by first | omega | (simp; omega)) hKx (by omega) (fun h => absurd h (by omega)) (by omega) kN kR)
          case rest =>
            obtain ⟨N, F, fc, D', dc', A', ac', S', sc', vs, H0, H1, rfl, rfl, rfl, hNR', hBN, kN, kR, hSB, hvl, hM, hH, hD, _⟩ := hcut
            have hzc := hSB.lt.size
            have hRB : w.heap.size ≤ R := hR
            obtain ⟨nf, hnf⟩ : ∃ nf, nf = fr.length := ⟨_, rfl⟩
            rw [← hnf] at hvl ⊢
            have hnl : nf ≤ 64 := by rw [hnf]; exact hfl.out
            have HSB := Lib.hid hSB
            have HMc := Lib.hid hM
            have HDc := Lib.hid hD
            have hRN' : R ≠ N := fun e => hNR' e.symm
            simp only [rsl] at kN
            clear hSB hM hD hnf hfl ca_0 fa_0 ca_1 fa_1 ca_2 fa_2 ca_3 fa_3 ca_4 fa_4 ca_5 fa_5 ca_6 fa_6 ca_7 fa_7 ca_8 fa_8 ca_9 fa_9 ca_10 fa_10 hk c0 c7 c6 c5 c4 c3 c2 c1 AC
            have cn_0 := blk_cell kN 0 rfl; have fn_0 := blk_free kN 0; have cn_1 := blk_cell kN 1 rfl; have fn_1 := blk_free kN 1; have cn_2 := blk_cell kN 2 rfl; have fn_2 := blk_free kN 2; have cn_3 := blk_cell kN 3 rfl; have fn_3 := blk_free kN 3; have cn_4 := blk_cell kN 4 rfl; have fn_4 := blk_free kN 4; have cn_5 := blk_cell kN 5 rfl; have fn_5 := blk_free kN 5; have cn_6 := blk_cell kN 6 rfl; have fn_6 := blk_free kN 6; have cn_7 := blk_cell kN 7 rfl; have fn_7 := blk_free kN 7; have cn_8 := blk_cell kN 8 rfl; have fn_8 := blk_free kN 8; have cn_9 := blk_cell kN 9 rfl; have fn_9 := blk_free kN 9; have cn_10 := blk_cell kN 10 rfl; have fn_10 := blk_free kN 10; have ln := lt_of_block kN
            have cm_0 := blk_cell kR 0 rfl; have fm_0 := blk_free kR 0; have cm_1 := blk_cell kR 1 rfl; have fm_1 := blk_free kR 1; have cm_2 := blk_cell kR 2 rfl; have fm_2 := blk_free kR 2; have cm_3 := blk_cell kR 3 rfl; have fm_3 := blk_free kR 3; have cm_4 := blk_cell kR 4 rfl; have fm_4 := blk_free kR 4; have cm_5 := blk_cell kR 5 rfl; have fm_5 := blk_free kR 5; have cm_6 := blk_cell kR 6 rfl; have fm_6 := blk_free kR 6; have cm_7 := blk_cell kR 7 rfl; have fm_7 := blk_free kR 7; have cm_8 := blk_cell kR 8 rfl; have fm_8 := blk_free kR 8; have cm_9 := blk_cell kR 9 rfl; have fm_9 := blk_free kR 9; have cm_10 := blk_cell kR 10 rfl; have fm_10 := blk_free kR 10; have lm := lt_of_block kR
            go_upto_region 13 with fail
            generalize hWy : World.setCell _ _ _ = Wy
            have kS : Wy.heap[R]? = some (.cells #[.int .i64 s'.again, .int .i64 s'.st, .int .i64 s'.now, .int .i64 s'.seq, .bool s'.some, .int .i64 s'.prog, .int .i64 s'.cmd, .slice D' (Stn.data s').length dc', .int .i64 s'.sent, .slice A' s'.n ac', .slice S' s'.n sc'] 29 (0, 0)) := by rw [← hWy]; exact (by apply Eq.trans; (repeat (first | (with_reducible assumption) | (with_reducible apply blk_set) | ((with_reducible apply blk_far); rotate_left; (first | omega | (simp <;> omega)); rotate_right) | (with_reducible apply blk_drew) | (with_reducible apply blk_drewN) | ((with_reducible apply heap_new'); (first | rfl | (simp <;> fail))) | (with_reducible apply blk_alloc))); (first | with_reducible rfl | (simp <;> fail) | rfl))
            have hKy : Keeps (fun j => j = R) wc Wy := by rw [← hWy]; (repeat (first | with_reducible exact Keeps.refl _ _ | (with_reducible refine Keeps.set1 ?_ _ _) | (with_reducible refine Keeps.drew ?_) | (with_reducible refine Keeps.drewN ?_ _) | (with_reducible refine Keeps.alloc ?_ _)))
            have HSy := Lib.hid (HSB.out.store hKy hRB (fun _ => ⟨_, kR⟩) oth_S (by omega))
            have HMy := Lib.hid (HMc.out.kept hKy (fun i hi hl => ⟨29, hi ▸ ⟨_, kR⟩, by decide, by decide⟩))
            have KS := Lib.hid kS
            have hzy : w.heap.size ≤ Wy.heap.size := HSy.out.lt.size
            clear hWy hKy kS kN kR HSB HMc cn_0 fn_0 cn_1 fn_1 cn_2 fn_2 cn_3 fn_3 cn_4 fn_4 cn_5 fn_5 cn_6 fn_6 cn_7 fn_7 cn_8 fn_8 cn_9 fn_9 cn_10 fn_10 cm_0 fm_0 cm_1 fm_1 cm_2 fm_2 cm_3 fm_3 cm_4 fm_4 cm_5 fm_5 cm_6 fm_6 cm_7 fm_7 cm_8 fm_8 cm_9 fm_9 cm_10 fm_10
            go_wp2_with fail
            go_loopw [14] (fun sl wr => ∃ (k : Nat), sl = .int .i64 k ∧ k ≤ nf ∧ Hid (Mz wr H0 H1 F fc vs) ∧ Hid (Keeps (Fb vs) Wy wr)) (fun sl _ => nf - (intOf sl).toNat)
            case atStart => exact ⟨0, by go_num, by omega, HMy, Lib.hid (Keeps.refl _ _)⟩
            case round =>
              obtain ⟨k, rfl, hk, HM, HK⟩ := hrel
              by_cases hlt2 : k < nf
              · obtain ⟨g0, rfl, hg0, hH0, c4⟩ := HM.out.at_ (k := k) (by omega)
                have hkv : k < vs.length := by omega
                have HY := Lib.hid (show ∃ y, y = vs[k] from ⟨_, rfl⟩)
                obtain ⟨y, hy⟩ := HY.out
                rw [← hy] at c4
                have hy' := Lib.hid hy
                clear hy HY
                have hkn : (k : Int) < (nf : Int) := by omega
                obtain ⟨m, hm⟩ : ∃ m, m = y.x.d.length := ⟨_, rfl⟩
                rw [← hm] at c4
                have HMm := Lib.hid (show vs[k].x.d.length = m by rw [← hy'.out, hm])
                have HYA := Lib.hid (show vs[k].A = y.A by rw [← hy'.out])
                have HYC := Lib.hid (show vs[k].cap = y.cap by rw [← hy'.out])
                have hmm : m ≤ 9223372036854775807 := by rw [← HMm.out]; exact HM.out.len hkv
                clear hm hy'
                generalize y.A = YA at *
                generalize y.cap = yc at *
                go_wp2_with fail
                have HM2 := HM
                have HK2 := HK
                go_loopw [15] (fun sl wr => ∃ (j : Nat), sl = .int .i64 j ∧ j ≤ m ∧ Hid (Mz wr H0 H1 (some ⟨g0, 0, none⟩) fc vs) ∧ Hid (Keeps (Fb vs) Wy wr)) (fun sl _ => m - (intOf sl).toNat)
                case atStart => exact ⟨0, by go_num, by omega, HM2, HK2⟩
                case round =>
                  obtain ⟨j, rfl, hj, HM3, HK3⟩ := hrel
                  have c4 := HM3.out.at' hkv
                  rw [HMm.out, HYA.out, HYC.out] at c4
                  by_cases hlt3 : j < m
                  · obtain ⟨g, u, hA, _, _, hTy, hgl, hcg, hu, hfz⟩ := HM3.out.bytes (k := k) hkv (j := j) (by rw [HMm.out]; exact hlt3)
                    rw [HYA.out] at hA
                    have HA := Lib.hid (show blkOf vs[k].A = some g by rw [HYA.out, hA]; rfl)
                    have HTy := Lib.hid hTy
                    subst hA
                    have hjm : (j : Int) < (m : Int) := by omega
                    obtain ⟨hu0, hu1⟩ := hu
                    clear hTy HM2 HK2 HM HK
                    go_wp2_with fail
                    go_roundw
                    case rel => exact ⟨j + 1, by go_num, by omega, Lib.hid (HM3.out.store HTy.out j _ (by first | omega | (rw [IntKind.wrap_u8]; omega))), Lib.hid (HK3.out.setCell (.inl ⟨vs[k], List.getElem_mem hkv, HA.out⟩) _)⟩
                    case measure => simp [intOf]; omega
                  · obtain rfl : j = m := by omega
                    go_wp2_with fail
                    go_roundw
                    case rel => exact ⟨k + 1, by go_num, by omega, HM3, HK3⟩
                    case measure => simp [intOf]; omega
              · obtain rfl : k = nf := by omega
                have HSz := Lib.hid (HSy.out.turned HK.out HMy.out HDc.out hH hzy)
                have kR := blk_keep KS.out HK.out (fun h => by
                  obtain ⟨y, hy, e⟩ := h
                  exact (HMy.out.blk hy e).2.ne ⟨_, KS.out⟩ (by decide) rfl)
                have SH := Lib.hid HSz.out.shows
                simp only [rsl] at SH
                have KR := Lib.hid kR
                have hzz := HSz.out.lt.size
                clear HMy HM HK KS HSy
                have cz_0 := blk_cell kR 0 rfl; have fz_0 := blk_free kR 0; have cz_1 := blk_cell kR 1 rfl; have fz_1 := blk_free kR 1; have cz_2 := blk_cell kR 2 rfl; have fz_2 := blk_free kR 2; have cz_3 := blk_cell kR 3 rfl; have fz_3 := blk_free kR 3; have cz_4 := blk_cell kR 4 rfl; have fz_4 := blk_free kR 4; have cz_5 := blk_cell kR 5 rfl; have fz_5 := blk_free kR 5; have cz_6 := blk_cell kR 6 rfl; have fz_6 := blk_free kR 6; have cz_7 := blk_cell kR 7 rfl; have fz_7 := blk_free kR 7; have cz_8 := blk_cell kR 8 rfl; have fz_8 := blk_free kR 8; have cz_9 := blk_cell kR 9 rfl; have fz_9 := blk_free kR 9; have cz_10 := blk_cell kR 10 rfl; have fz_10 := blk_free kR 10; have lz := lt_of_block kR
                go_wp2_with (refine SH.out.mono ?_; rintro e w5 ⟨rfl, hb5⟩)
                go_roundw
                case rel => exact ⟨i + 1, s', _, _, _, _, _, _, by go_num, by omega, Lib.hid (HSz.out.below hb5 hzz), Lib.hid (blk_below KR.out hb5 (lt_of_block KR.out))⟩
                case measure => simp [intOf]; omega
        · obtain rfl : i = len2 := by omega
          have hB' := HS.out.lt
          go_wp2_with fail
          refine (known_true _).mono ?_
          rintro e w3 ⟨rfl, hb3⟩
          go_wp2_with fail
          go_ret
          exact ⟨rfl, hB'.trans (hb3.mono hB'.size)⟩
theorem own : ownKnob Try.prog.godebug = none := by kernel_rfl
theorem laidOut : laidOutB Try.prog = true := by kernel_rfl
set_option maxRecDepth 100000 in
theorem lifted (os : Os) (started : os.Started) (H : Type) (enc : TypeId × Value → H) :
    ReturnsInHanded {} Try.checked os 4 .any (Rows.stationActsSpec.pre6 enc Try.prog Try.f4 Rows.stationActsRow.domain false) (Rows.stationActsSpec.post enc Try.prog Try.f4 false true false false) := by
  refine returnsInHanded_of_change (C := Try.checked) own started (by kernel_rfl) Try.func4
    (ChangeSpec.witness6 (enc := enc) (C := Try.checked) false ⟨#[], #[.int .i64 0, .int .i64 0, .slice none 0 0], []⟩ 8 (by kernel_rfl) (by kernel_rfl) (by kernel_rfl) (by kernel_rfl)) ?_
  intro W base args ds gs before hval0 hW hcnd _
  have hval : ∀ (j : Nat) t v, Try.f4.params[j]? = some t → args[j]? = some v → Value.okWide Try.prog W .any base t v := hval0
  have hW' := hW
  obtain ⟨p, q, hA0, hV, rfl, hfz, hnd⟩ := hW
  have hA : DataW.TrodAll enc Try.prog W 0 (fun _ => true) true Try.f4.params.toList args.toList ds p := hA0
  rw [Try.params4] at hA hval
  obtain ⟨v0, vs0, d0, ds0, p0, q0, hargs, rfl, rfl, h0, r0⟩ := trodAll_cons hA
  obtain ⟨v1, vs1, d1, ds1, p1, q1, rfl, rfl, rfl, h1, r1⟩ := trodAll_cons r0
  obtain ⟨v2, vs2, d2, ds2, p2, q2, rfl, rfl, rfl, h2, r2⟩ := trodAll_cons r1
  obtain ⟨rfl, rfl, rfl⟩ := trodAll_nil r2
  obtain rfl : args = #[v0, v1, v2] := by cases args; simp_all
  obtain ⟨rfl, rfl⟩ := trodVars_none hV
  have k0 := h0
  have lt0 : ∀ x ∈ p0, x.block < W.heap.size := by obtain ⟨m, hm⟩ := k0; exact DataW.trod_lt m _ _ _ hm
  obtain ⟨a0, rfl, _, _, w0⟩ := open_int Try.underlying3 (hval 0 3 v0 rfl rfl) h0
  have k1 := h1
  have lt1 : ∀ x ∈ p1, x.block < W.heap.size := by obtain ⟨m, hm⟩ := k1; exact DataW.trod_lt m _ _ _ hm
  obtain ⟨a1, rfl, _, _, w1⟩ := open_int Try.underlying3 (hval 1 3 v1 rfl rfl) h1
  have k2 := h2
  have lt2 : ∀ x ∈ p2, x.block < W.heap.size := by obtain ⟨m, hm⟩ := k2; exact DataW.trod_lt m _ _ _ hm
  obtain ⟨a2, len2, cap2, rfl⟩ := okWide_slice Try.underlying34 (hval 2 34 v2 rfl rfl)
  obtain ⟨fuel2, hf2⟩ := h2
  obtain ⟨xa2, xlen2, xcap2, l2, xe2, ro2, wo2, fo2⟩ := lacts_of hf2
  obtain ⟨rfl, rfl, rfl⟩ : a2 = xa2 ∧ len2 = xlen2 ∧ cap2 = xcap2 := by injection xe2 with e1 e2 e3; exact ⟨e1, e2, e3⟩
  clear hA0 hval0
  refine (walk a0 a1 a2 len2 cap2 l2 W w0 w1 wo2 ro2 fo2).mono fun e W' ⟨he, bel⟩ => ?_
  subst he
  exact ⟨_, rfl, _, _, _, [], _, [], hW', trodAll_mk1 (shut_bool Try.underlying4 _), (trodAll_cons_mk (Below.trod laidOut (by kernel_rfl) (of_decide_eq_true (by kernel_rfl)) k0 bel lt0) (trodAll_cons_mk (Below.trod laidOut (by kernel_rfl) (of_decide_eq_true (by kernel_rfl)) k1 bel lt1) (trodAll_cons_mk (Below.trod laidOut (by kernel_rfl) (of_decide_eq_true (by kernel_rfl)) k2 bel lt2) trodAll_mk0))), rfl, bel.frame _, fun h => by cases h⟩
theorem over : Rows.stationActsRow.holds Try.pinned (OpenSpec.ofChange Rows.stationActsSpec) :=
  OpenClaim.holds_of_wide 4 Try.f4 rfl rfl rfl rfl rfl rfl rfl ⟨rfl, rfl, rfl, rfl, rfl⟩ rfl rfl rfl rfl rfl (by kernel_rfl) Try.func4 (by kernel_rfl)
    (of_decide_eq_true (by kernel_rfl)) (by unfold Func.isWrapper; first | (rw [if_pos (by decide +kernel)]; kernel_rfl) | (rw [if_neg (by decide +kernel)]; exact ⟨rfl, rfl⟩))
    (fun os started H enc _ => lifted os started H enc)
theorem proved : Rows.StationActsSaid := over
end Go.Proofs.Ytiidkmnagfhgiaa.lawStationActs

/- The law of the stations' acknowledgements holds: 'skylanternlaw36.StationAcks' returns true at every input. No conditions. -/
import Derived.Test.YtiidkmnagfhgiaaTc
import Derived.Test.YtiidkmnagfhgiaaTd
import Derived.Test.YtiidkmnagfhgiaaTb
namespace Go.Proofs.Ytiidkmnagfhgiaa.lawStationAcks
open Go.ChangeShapes Go.WideShapes Go.ChangeAt Go.RowKit Go.Joins
set_option linter.unusedVariables false
set_option linter.unusedSimpArgs false
attribute [local go_sem ↓] Go.wp_at_zero Go.wp_at_succ
set_option maxHeartbeats 8000000
set_option maxRecDepth 100000
open Stn in
def AI (s : St) : Prop := s.cmd = 1 ∧ ((s.st = 1 ∧ miss s ≠ []) ∨ (s.st = 2 ∧ miss s = []))
open Stn in
theorem ai_give (n : Nat) (again p : Int) (h1 : 1 ≤ n) (hp : 0 ≤ p ∧ p ≤ 4294967295) : AI (give (new n again) 1 0 p) := by
  have he : giveE (new n again) 1 0 p = 0 := by
    unfold giveE
    rw [if_neg (by omega), if_neg (by simp [timeE, new]), if_neg (by omega), if_neg (by simp [may, new])]
  unfold give
  rw [if_pos he]
  refine ⟨rfl, .inl ⟨rfl, ?_⟩⟩
  intro hm
  unfold miss at hm
  rw [if_neg (by simp [give0])] at hm
  simp only [give0] at hm
  rw [missFrom_all] at hm
  have := congrArg List.length hm
  simp [new] at this
  omega
open Stn in
theorem ai_recv {s : St} (h : AI s) (now : Int) (y : Fr) : AI (recv s now y) := by
  unfold recv
  split
  · unfold recv1
    split
    · split
      · refine ⟨h.1, ?_⟩
        have hc : s.cmd ≠ 0 := by rw [h.1]; decide
        have e1 : miss { s with now := now } = miss s := rfl
        have e2 : miss (acked { s with now := now } y.f.toNat) = missFrom 1 (s.ack.set (y.f.toNat - 1) true) := by
          unfold miss; rw [if_neg (by simpa [acked] using hc)]; rfl
        rw [e2]
        simp only [acked]
        rw [e1]
        rcases h.2 with ⟨h1, h2⟩ | ⟨h1, h2⟩
        · by_cases hm : missFrom 1 (s.ack.set (y.f.toNat - 1) true) = []
          · right; rw [if_pos ⟨h2, hm⟩]; exact ⟨by rw [h.1]; rfl, hm⟩
          · left; rw [if_neg (fun hh => hm hh.2)]; exact ⟨h1, hm⟩
        · right
          rw [if_neg (fun hh => hh.1 h2)]
          refine ⟨h1, ?_⟩
          rw [missFrom_set]
          rw [miss_cmd s hc] at h2
          rw [h2]; rfl
      · split
        · exact h
        · exact h
    · exact h
  · exact h
theorem by1 : By [1] := by intro x hx; simp at hx; omega
/-- a byte that stands for an aircraft -/
theorem tmod_bd (u : Int) (n : Nat) (hu : 0 ≤ u ∧ u < 256) (hn : 1 ≤ n ∧ n ≤ 20) : 0 ≤ u.tmod n ∧ u.tmod n < 20 := by
  rw [Int.tmod_eq_emod_of_nonneg hu.1]
  have h1 := Int.emod_nonneg u (show (n : Int) ≠ 0 by omega)
  have h2 := Int.emod_lt_of_pos u (show (0 : Int) < n by omega)
  omega
def AkCut (b R : Nat) (s' : Stn.St) (w : World) (v8 : Value) (wx : World) : Prop :=
  ∃ D1 dc1 A1 ac1 S1 sc1, v8 = .bool true ∧ SB w.heap.size b s' D1 dc1 A1 ac1 S1 sc1 w wx ∧ wx.heap[R]? = some (.cells #[.int .i64 s'.again, .int .i64 s'.st, .int .i64 s'.now, .int .i64 s'.seq, .bool s'.some, .int .i64 s'.prog, .int .i64 s'.cmd, .slice D1 (Stn.data s').length dc1, .int .i64 s'.sent, .slice A1 s'.n ac1, .slice S1 s'.n sc1] 29 (0, 0))
theorem walk (a0 : Int) (a1 : Option Addr) (len1 cap1 : Nat) (l1 : List Int) (w : World) (w0 : (Lit.int .i64 a0).wf = true) (w1 : Rd w w.heap.size a1 len1 l1) (r1 : Room a1 len1 cap1) :
    Calls Try.prog 5 #[.int .i64 a0, .slice a1 len1 cap1] w fun e w' => e = .returned (.bool true) ∧ Below w.heap.size w w' := by
  have hlen := r1.2.1
  have hlc := r1.1
  have hlm : len1 ≤ 9223372036854775807 := by unfold maxLen at hlen; omega
  have HW1 := Lib.hid w1
  clear w0 w1 r1 hlen hlc
  by_cases hg : (1 ≤ len1 ∧ len1 ≤ 20) ∧ 0 ≤ a0 ∧ a0 ≤ 4294967295
  case neg =>
    have hg' : len1 = 0 ∨ 20 < len1 ∨ ((1 ≤ len1 ∧ len1 ≤ 20) ∧ a0 < 0) ∨ ((1 ≤ len1 ∧ len1 ≤ 20) ∧ 4294967295 < a0) := by omega
    clear hg
    rcases hg' with h | h | ⟨h, h'⟩ | ⟨h, h'⟩
    · subst h
      go_enter Try.func5, Try.ntmps5
      go_wp2_with fail
      refine (known_true _).mono ?_
      rintro e w3 ⟨rfl, hb3⟩
      go_wp2_with fail
      go_ret
      exact ⟨rfl, hb3⟩
    all_goals
      go_enter Try.func5, Try.ntmps5
      go_wp2_with fail
      refine (known_true _).mono ?_
      rintro e w3 ⟨rfl, hb3⟩
      go_wp2_with fail
      go_ret
      exact ⟨rfl, hb3⟩
  case pos =>
    obtain ⟨⟨hn1, hn2⟩, hp1, hp2⟩ := hg
    have hv : Stn.newE (len1 : Int) 50 = 0 := by unfold Stn.newE; rw [if_pos (by omega)]
    have M := Lib.hid (fun W : World => made_yes len1 50 W hv)
    have HI0 := Lib.hid (Stn.inv_new hv)
    have HA0 := Lib.hid (ai_give len1 50 a0 hn1 ⟨hp1, hp2⟩)
    have eg : actS (Stn.new len1 50) ⟨1, 0, a0, fr0⟩ = Stn.give (Stn.new len1 50) 1 0 a0 := by unfold actS; rw [if_pos (by simp)]
    obtain ⟨s1, hs1⟩ : ∃ s1, s1 = Stn.give (Stn.new len1 50) 1 0 a0 := ⟨_, rfl⟩
    rw [← hs1] at HA0 eg
    have EG := Lib.hid eg
    clear hv eg hs1
    go_enter Try.func5, Try.ntmps5
    go_wp2_with fail
    refine (M.out _).mono ?_
    rintro e w4 ⟨b, RA, NA, NS, rfl, hs4, hr4, hb4⟩
    have hz4 := hb4.size; try simp at hz4
    have HS4 := Lib.hid (show SB w.heap.size b (Stn.new len1 50) none 0 (some ⟨NA, 0, none⟩) len1 (some ⟨NS, 0, none⟩) len1 w w4 from ⟨⟨_, _, _, _, hs4.lower (by simp)⟩, HI0.out, fit_new _ _, hr4, (by repeat (first | (with_reducible exact Below.refl _ _) | (with_reducible refine Below.drew ?_) | (with_reducible refine below_drewN ?_ _) | ((with_reducible refine Below.alloc ?_ ?_ _); rotate_left; (first | omega | (simp <;> omega)); rotate_right) | ((with_reducible refine Below.setCell ?_ ?_ _); rotate_left; (first | omega | (simp <;> omega)); rotate_right) | (with_reducible assumption) | (refine Below.trans ?_ (Below.mono (by assumption) ?_); rotate_left; (first | omega | (simp <;> omega)); rotate_right)))⟩)
    clear hb4 hs4 hr4 M HI0
    go_wp2_with fail
    generalize hV : World.alloc _ _ = V
    have k0 : V.heap[w4.heap.size]? = some (.cells #[.int .i64 50, .int .i64 0, .int .i64 0, .int .i64 0, .bool false, .int .i64 0, .int .i64 0, .slice none 0 0, .int .i64 0, .slice (some ⟨NA, 0, none⟩) len1 len1, .slice (some ⟨NS, 0, none⟩) len1 len1] 29 (0, 0)) := by rw [← hV]; exact heap_new _ _
    have HV := Lib.hid (show SB w.heap.size b (Stn.new len1 50) none 0 (some ⟨NA, 0, none⟩) len1 (some ⟨NS, 0, none⟩) len1 w V from HS4.out.below (by rw [← hV]; exact (Below.refl _ _).alloc (Nat.le_refl _) _) (by omega))
    have hR : w.heap.size ≤ w4.heap.size := by omega
    obtain ⟨R, hReq⟩ : ∃ R, R = w4.heap.size := ⟨_, rfl⟩
    rw [← hReq] at k0 hR ⊢
    have hzV := HV.out.lt.size
    have hRV := lt_of_block k0
    clear hV hReq HS4 hz4
    have AC := Lib.hid (sa_any HV.out ⟨1, 0, a0, fr0⟩ none 0 hzV (by simp [fr0]) ⟨rfl, (by intro x hx; cases hx), fun h => absurd h (by simp [fr0])⟩)
    rw [EG.out] at AC
    have K0 := Lib.hid k0
    have ca_0 := blk_cell k0 0 rfl; have fa_0 := blk_free k0 0; have ca_1 := blk_cell k0 1 rfl; have fa_1 := blk_free k0 1; have ca_2 := blk_cell k0 2 rfl; have fa_2 := blk_free k0 2; have ca_3 := blk_cell k0 3 rfl; have fa_3 := blk_free k0 3; have ca_4 := blk_cell k0 4 rfl; have fa_4 := blk_free k0 4; have ca_5 := blk_cell k0 5 rfl; have fa_5 := blk_free k0 5; have ca_6 := blk_cell k0 6 rfl; have fa_6 := blk_free k0 6; have ca_7 := blk_cell k0 7 rfl; have fa_7 := blk_free k0 7; have ca_8 := blk_cell k0 8 rfl; have fa_8 := blk_free k0 8; have ca_9 := blk_cell k0 9 rfl; have fa_9 := blk_free k0 9; have ca_10 := blk_cell k0 10 rfl; have fa_10 := blk_free k0 10; have la := lt_of_block k0
    go_wp2_with fail
    refine AC.out.mono ?_
    rintro e w5 ⟨F, fc, D1, dc1, A1, ac1, S1, sc1, vs, H1, rfl, hB1, _, _, _, hk1, hb1, _⟩
    have k1 := hk1 R _ _ K0.out oth_S
    have HB1 := Lib.hid hB1
    have hz1 := hb1.size
    have hzw5 := hB1.lt.size
    clear ca_0 fa_0 ca_1 fa_1 ca_2 fa_2 ca_3 fa_3 ca_4 fa_4 ca_5 fa_5 ca_6 fa_6 ca_7 fa_7 ca_8 fa_8 ca_9 fa_9 ca_10 fa_10
    clear hB1 hk1 hb1 k0 AC
    simp only [rsl]
    have cc_0 := blk_cell k1 0 rfl; have fc_0 := blk_free k1 0; have cc_1 := blk_cell k1 1 rfl; have fc_1 := blk_free k1 1; have cc_2 := blk_cell k1 2 rfl; have fc_2 := blk_free k1 2; have cc_3 := blk_cell k1 3 rfl; have fc_3 := blk_free k1 3; have cc_4 := blk_cell k1 4 rfl; have fc_4 := blk_free k1 4; have cc_5 := blk_cell k1 5 rfl; have fc_5 := blk_free k1 5; have cc_6 := blk_cell k1 6 rfl; have fc_6 := blk_free k1 6; have cc_7 := blk_cell k1 7 rfl; have fc_7 := blk_free k1 7; have cc_8 := blk_cell k1 8 rfl; have fc_8 := blk_free k1 8; have cc_9 := blk_cell k1 9 rfl; have fc_9 := blk_free k1 9; have cc_10 := blk_cell k1 10 rfl; have fc_10 := blk_free k1 10; have lc := lt_of_block k1
    go_wp2_with fail
    generalize hWy : World.setCell _ _ _ = Wy
    have kS : Wy.heap[R]? = some (.cells #[.int .i64 s1.again, .int .i64 s1.st, .int .i64 s1.now, .int .i64 s1.seq, .bool s1.some, .int .i64 s1.prog, .int .i64 s1.cmd, .slice D1 (Stn.data s1).length dc1, .int .i64 s1.sent, .slice A1 s1.n ac1, .slice S1 s1.n sc1] 29 (0, 0)) := by rw [← hWy]; exact (by apply Eq.trans; (repeat (first | (with_reducible assumption) | (with_reducible apply blk_set) | ((with_reducible apply blk_far); rotate_left; (first | omega | (simp <;> omega)); rotate_right) | (with_reducible apply blk_drew) | (with_reducible apply blk_drewN) | ((with_reducible apply heap_new'); (first | rfl | (simp <;> fail))) | (with_reducible apply blk_alloc))); (first | with_reducible rfl | (simp <;> fail) | rfl))
    have hKy : Keeps (fun j => j = R) w5 Wy := by rw [← hWy]; (repeat (first | with_reducible exact Keeps.refl _ _ | (with_reducible refine Keeps.set1 ?_ _ _) | (with_reducible refine Keeps.drew ?_) | (with_reducible refine Keeps.drewN ?_ _) | (with_reducible refine Keeps.alloc ?_ _)))
    have HSy := Lib.hid (HB1.out.store hKy hR (fun _ => ⟨_, k1⟩) oth_S (by omega))
    have KS := Lib.hid kS
    clear cc_0 fc_0 cc_1 fc_1 cc_2 fc_2 cc_3 fc_3 cc_4 fc_4 cc_5 fc_5 cc_6 fc_6 cc_7 fc_7 cc_8 fc_8 cc_9 fc_9 cc_10 fc_10
    clear hWy hKy kS k1 HB1 HV K0 EG lc la
    go_loopw [9] (fun sl wr => ∃ (i : Nat) (s : Stn.St) (D : Option Addr) (dc : Nat) (A : Option Addr) (ac : Nat) (S : Option Addr) (sc : Nat), sl = .int .i64 i ∧ i ≤ len1 ∧ Hid (SB w.heap.size b s D dc A ac S sc w wr) ∧ Hid (AI s) ∧ Hid (wr.heap[R]? = some (.cells (rsl s D dc A ac S sc).toArray 29 (0, 0)))) (fun sl _ => len1 - (intOf sl).toNat)
    case atStart => exact ⟨0, _, _, _, _, _, _, _, by go_num, by omega, HSy, HA0, KS⟩
    case round =>
      obtain ⟨i, s, D, dc, A, ac, S, sc, rfl, hi, HS, HA, HK⟩ := hrel
      clear HSy HA0 KS
      have hzr := HS.out.lt.size
      by_cases hlt : i < len1
      · obtain ⟨bb, oo, rfl, hbb, hcc⟩ := (HW1.out.below HS.out.lt (Nat.le_refl _)).2.2 (by omega)
        have cu := hcc i hlt
        have hu := HW1.out.2.1.at_ i
        generalize l1.getD i 0 = u at cu hu
        have htm := tmod_bd u len1 hu ⟨hn1, hn2⟩
        obtain ⟨q, hq⟩ : ∃ q, q = u.tmod len1 := ⟨_, rfl⟩
        rw [← hq] at htm
        obtain ⟨s', hs'⟩ : ∃ s', s' = actS s ⟨8, i, 0, ⟨8, q + 1, 0, 1, [1]⟩⟩ := ⟨_, rfl⟩
        obtain ⟨fr, hfr⟩ : ∃ fr, fr = actF s ⟨8, i, 0, ⟨8, q + 1, 0, 1, [1]⟩⟩ := ⟨_, rfl⟩
        have AC := Lib.hid (show ∀ W : World, Below wr.heap.size wr W → W.heap[wr.heap.size]? = some (.cells #[.int .u8 1] 5 (0, 0)) → Calls Try.prog 11 #[.pointer (some ⟨b, 0, none⟩), .agg #[.int .i64 s.again, .int .i64 s.st, .int .i64 s.now, .int .i64 s.seq, .bool s.some, .int .i64 s.prog, .int .i64 s.cmd, .slice D (Stn.data s).length dc, .int .i64 s.sent, .slice A s.n ac, .slice S s.n sc], .agg #[.int .i64 8, .int .i64 i, .int .i64 0, .int .i64 8, .int .i64 (q + 1), .int .i64 0, .int .i64 1, .slice (some ⟨wr.heap.size, 0, none⟩) 1 1]] W (SAPost w.heap.size b s' fr w W) from fun W hW hb => by
          have hz := hW.size
          rw [hs', hfr]
          exact sa_ty (HS.out.below hW hzr) ⟨8, i, 0, ⟨8, q + 1, 0, 1, [1]⟩⟩ (some ⟨wr.heap.size, 0, none⟩) 1 (by omega) (by simp) (rd_block [1] by1 hb) (fun _ a ha => .inr (by injection ha with ha; rw [← ha]; exact ⟨_, hb⟩)))
        have HA' := Lib.hid (show AI s' by rw [hs']; unfold actS; rw [if_neg (by simp), if_pos rfl]; exact ai_recv HA.out _ _)
        have hk := HK.out
        have hRlt := lt_of_block hk
        simp only [rsl] at hk
        have hw1 : IntKind.i64.wrap (q + 1) = q + 1 := IntWalk.i64_in _ (by omega)
        have hw2 : IntKind.i64.wrap u = u := IntWalk.i64_in _ (by omega)
        have hw3 : ((len1 : Int) == 0) = false := by rw [beq_eq_false_iff_ne]; omega
        have hw6 : ¬ ((len1 : Int) = 0) := by omega
        have hw4 : u.tmod (len1 : Int) = q := hq.symm
        have hw5 : IntKind.i64.wrap q = q := IntWalk.i64_in _ (by omega)
        clear hs' hcc hfr HS HK hq
        have ca_0 := blk_cell hk 0 rfl; have fa_0 := blk_free hk 0; have ca_1 := blk_cell hk 1 rfl; have fa_1 := blk_free hk 1; have ca_2 := blk_cell hk 2 rfl; have fa_2 := blk_free hk 2; have ca_3 := blk_cell hk 3 rfl; have fa_3 := blk_free hk 3; have ca_4 := blk_cell hk 4 rfl; have fa_4 := blk_free hk 4; have ca_5 := blk_cell hk 5 rfl; have fa_5 := blk_free hk 5; have ca_6 := blk_cell hk 6 rfl; have fa_6 := blk_free hk 6; have ca_7 := blk_cell hk 7 rfl; have fa_7 := blk_free hk 7; have ca_8 := blk_cell hk 8 rfl; have fa_8 := blk_free hk 8; have ca_9 := blk_cell hk 9 rfl; have fa_9 := blk_free hk 9; have ca_10 := blk_cell hk 10 rfl; have fa_10 := blk_free hk 10; have la := lt_of_block hk
        have hin : (i : Int) < (len1 : Int) := by omega
        have hbw : bb < wr.heap.size := by omega
        have hbN : bb ≠ wr.heap.size := by omega
        have hRN : R ≠ wr.heap.size := by omega
        go_upto_region 13 with fail
        go_cut [8] from 50 to 91 (fun v1 wx => AkCut b R s' w v1 wx)
        case first =>
          go_region_with (first | (go_at_call 11; refine (AC.out _ (by repeat (first | (with_reducible exact Below.refl _ _) | (with_reducible refine Below.drew ?_) | (with_reducible refine below_drewN ?_ _) | ((with_reducible refine Below.alloc ?_ ?_ _); rotate_left; (first | omega | (simp <;> omega)); rotate_right) | ((with_reducible refine Below.setCell ?_ ?_ _); rotate_left; (first | omega | (simp <;> omega)); rotate_right) | (with_reducible assumption) | (refine Below.trans ?_ (Below.mono (by assumption) ?_); rotate_left; (first | omega | (simp <;> omega)); rotate_right))) (by first | ((with_reducible apply heap_new'); (first | rfl | (simp <;> fail))) | ((with_reducible apply blk_drew); ((with_reducible apply heap_new'); (first | rfl | (simp <;> fail)))) | ((with_reducible apply blk_drewN); ((with_reducible apply heap_new'); (first | rfl | (simp <;> fail)))))).mono ?_; rintro e w1 ⟨F, fc, D1, dc1, A1, ac1, S1, sc1, vs, H1, rfl, hB1, _, _, _, hk1, hb1, _⟩; have hz1 := hb1.size; (try simp at hz1); have k1 := hk1 R _ _ (by repeat (first | (with_reducible assumption) | ((with_reducible apply blk_far); rotate_left; (first | omega | (simp <;> omega)); rotate_right) | (with_reducible apply blk_drew) | (with_reducible apply blk_drewN) | (with_reducible exact heap_new _ _) | ((with_reducible apply heap_new'); (first | rfl | (simp <;> fail))) | (with_reducible apply blk_alloc))) oth_S; have HB1 := Lib.hid hB1; (have cy_0 := blk_cell k1 0 rfl; have fy_0 := blk_free k1 0; have cy_1 := blk_cell k1 1 rfl; have fy_1 := blk_free k1 1; have cy_2 := blk_cell k1 2 rfl; have fy_2 := blk_free k1 2; have cy_3 := blk_cell k1 3 rfl; have fy_3 := blk_free k1 3; have cy_4 := blk_cell k1 4 rfl; have fy_4 := blk_free k1 4; have cy_5 := blk_cell k1 5 rfl; have fy_5 := blk_free k1 5; have cy_6 := blk_cell k1 6 rfl; have fy_6 := blk_free k1 6; have cy_7 := blk_cell k1 7 rfl; have fy_7 := blk_free k1 7; have cy_8 := blk_cell k1 8 rfl; have fy_8 := blk_free k1 8; have cy_9 := blk_cell k1 9 rfl; have fy_9 := blk_free k1 9; have cy_10 := blk_cell k1 10 rfl; have fy_10 := blk_free k1 10; have ly := lt_of_block k1); clear hB1 hk1 hb1; (try simp only [rsl])))
          all_goals
            go_wp2_with fail
            generalize hWx : World.setCell _ _ _ = Wx
            have kR : Wx.heap[R]? = some (.cells #[.int .i64 s'.again, .int .i64 s'.st, .int .i64 s'.now, .int .i64 s'.seq, .bool s'.some, .int .i64 s'.prog, .int .i64 s'.cmd, .slice D1 (Stn.data s').length dc1, .int .i64 s'.sent, .slice A1 s'.n ac1, .slice S1 s'.n sc1] 29 (0, 0)) := by rw [← hWx]; exact (by apply Eq.trans; (repeat (first | (with_reducible assumption) | (with_reducible apply blk_set) | ((with_reducible apply blk_far); rotate_left; (first | omega | (simp <;> omega)); rotate_right) | (with_reducible apply blk_drew) | (with_reducible apply blk_drewN) | ((with_reducible apply heap_new'); (first | rfl | (simp <;> fail))) | (with_reducible apply blk_alloc))); (first | with_reducible rfl | (simp <;> fail) | rfl))
            have hKx : Keeps (fun j => j = R) w1 Wx := by rw [← hWx]; (repeat (first | with_reducible exact Keeps.refl _ _ | (with_reducible refine Keeps.set1 ?_ _ _) | (with_reducible refine Keeps.drew ?_) | (with_reducible refine Keeps.drewN ?_ _) | (with_reducible refine Keeps.alloc ?_ _)))
            have HSx := HB1.out.store hKx hR (fun _ => ⟨_, k1⟩) oth_S (by omega)
            clear hWx
            go_meet
            exact ⟨D1, dc1, A1, ac1, S1, sc1, rfl, HSx, kR⟩
        case rest =>
          obtain ⟨D1, dc1, A1, ac1, S1, sc1, rfl, hSB, kR⟩ := hcut
          have HSB := Lib.hid hSB
          have KR := Lib.hid kR
          have hzc := hSB.lt.size
          have SH := Lib.hid hSB.shows
          have ST := Lib.hid (fun (W : World) (hW : Below wc.heap.size wc W) => by
            obtain ⟨⟨MA, mc, RA, rc, h1⟩, h2, _⟩ := hSB.below hW hzc
            exact (state_any h1 h2 : Calls _ _ _ _ _))
          have MS := Lib.hid (show ∀ (W : World) (hW : Below wc.heap.size wc W), Calls Try.prog 14 #[.pointer (some ⟨b, 0, none⟩)] W fun e w' => ∃ A c, e = .returned (.slice A (Stn.miss s').length c) ∧ Below W.heap.size W w' from fun W hW => by
            obtain ⟨⟨MA, mc, RA, rc, h1⟩, h2, _⟩ := hSB.below hW hzc
            refine (missing_any h1 h2).mono ?_
            rintro e w' ⟨A, c, rfl, _, hb⟩
            exact ⟨A, c, rfl, hb⟩)
          simp only [rsl] at SH
          clear ca_0 fa_0 ca_1 fa_1 ca_2 fa_2 ca_3 fa_3 ca_4 fa_4 ca_5 fa_5 ca_6 fa_6 ca_7 fa_7 ca_8 fa_8 ca_9 fa_9 ca_10 fa_10 hk AC cu hSB
          have cn_0 := blk_cell kR 0 rfl; have fn_0 := blk_free kR 0; have cn_1 := blk_cell kR 1 rfl; have fn_1 := blk_free kR 1; have cn_2 := blk_cell kR 2 rfl; have fn_2 := blk_free kR 2; have cn_3 := blk_cell kR 3 rfl; have fn_3 := blk_free kR 3; have cn_4 := blk_cell kR 4 rfl; have fn_4 := blk_free kR 4; have cn_5 := blk_cell kR 5 rfl; have fn_5 := blk_free kR 5; have cn_6 := blk_cell kR 6 rfl; have fn_6 := blk_free kR 6; have cn_7 := blk_cell kR 7 rfl; have fn_7 := blk_free kR 7; have cn_8 := blk_cell kR 8 rfl; have fn_8 := blk_free kR 8; have cn_9 := blk_cell kR 9 rfl; have fn_9 := blk_free kR 9; have cn_10 := blk_cell kR 10 rfl; have fn_10 := blk_free kR 10; have ln := lt_of_block kR
          rcases HA'.out.2 with ⟨h1, h2⟩ | ⟨h1, h2⟩
          · rw [h1] at ST
            obtain ⟨nm, hnm⟩ : ∃ nm, nm = (Stn.miss s').length := ⟨_, rfl⟩
            rw [← hnm] at MS
            have hpos : ((nm : Int) == 0) = false := by
              rw [beq_eq_false_iff_ne]
              have := List.length_pos_iff.2 h2
              omega
            clear hnm h1 h2
            go_wp2_with (first | (go_at_call 12; refine SH.out.mono ?_; rintro e w5 ⟨rfl, hb5⟩; have HB5 := Lib.hid hb5; clear hb5) | (go_at_call 13; refine (ST.out _ HB5.out).mono ?_; rintro e w' ⟨rfl, rfl⟩) | (go_at_call 14; refine (MS.out _ HB5.out).mono ?_; rintro e w6 ⟨A6, c6, rfl, hb6⟩; have HB6 := Lib.hid (HB5.out.trans (hb6.mono HB5.out.size)); clear hb6))
            go_roundw
            case rel => exact ⟨i + 1, s', _, _, _, _, _, _, by go_num, by omega, Lib.hid (HSB.out.below HB6.out hzc), HA', Lib.hid (blk_below KR.out HB6.out (lt_of_block KR.out))⟩
            case measure => simp [intOf]; omega
          · rw [h1] at ST
            rw [h2] at MS
            clear h1 h2
            go_wp2_with (first | (go_at_call 12; refine SH.out.mono ?_; rintro e w5 ⟨rfl, hb5⟩; have HB5 := Lib.hid hb5; clear hb5) | (go_at_call 13; refine (ST.out _ HB5.out).mono ?_; rintro e w' ⟨rfl, rfl⟩) | (go_at_call 14; refine (MS.out _ HB5.out).mono ?_; rintro e w6 ⟨A6, c6, rfl, hb6⟩; have HB6 := Lib.hid (HB5.out.trans (hb6.mono HB5.out.size)); clear hb6))
            go_roundw
            case rel => exact ⟨i + 1, s', _, _, _, _, _, _, by go_num, by omega, Lib.hid (HSB.out.below HB6.out hzc), HA', Lib.hid (blk_below KR.out HB6.out (lt_of_block KR.out))⟩
            case measure => simp [intOf]; omega
      · obtain rfl : i = len1 := by omega
        have hB' := HS.out.lt
        go_wp2_with fail
        refine (known_true _).mono ?_
        rintro e w3 ⟨rfl, hb3⟩
        go_wp2_with fail
        go_ret
        exact ⟨rfl, hB'.trans (hb3.mono hB'.size)⟩
theorem own : ownKnob Try.prog.godebug = none := by kernel_rfl
theorem laidOut : laidOutB Try.prog = true := by kernel_rfl
set_option maxRecDepth 100000 in
theorem lifted (os : Os) (started : os.Started) (H : Type) (enc : TypeId × Value → H) :
    ReturnsInHanded {} Try.checked os 5 .any (Rows.stationAcksSpec.pre6 enc Try.prog Try.f5 Rows.stationAcksRow.domain false) (Rows.stationAcksSpec.post enc Try.prog Try.f5 false true false false) := by
  refine returnsInHanded_of_change (C := Try.checked) own started (by kernel_rfl) Try.func5
    (ChangeSpec.witness6 (enc := enc) (C := Try.checked) false ⟨#[], #[.int .i64 0, .slice none 0 0], []⟩ 8 (by kernel_rfl) (by kernel_rfl) (by kernel_rfl) (by kernel_rfl)) ?_
  intro W base args ds gs before hval0 hW hcnd _
  have hval : ∀ (j : Nat) t v, Try.f5.params[j]? = some t → args[j]? = some v → Value.okWide Try.prog W .any base t v := hval0
  have hW' := hW
  obtain ⟨p, q, hA0, hV, rfl, hfz, hnd⟩ := hW
  have hA : DataW.TrodAll enc Try.prog W 0 (fun _ => true) true Try.f5.params.toList args.toList ds p := hA0
  rw [Try.params5] at hA hval
  obtain ⟨v0, vs0, d0, ds0, p0, q0, hargs, rfl, rfl, h0, r0⟩ := trodAll_cons hA
  obtain ⟨v1, vs1, d1, ds1, p1, q1, rfl, rfl, rfl, h1, r1⟩ := trodAll_cons r0
  obtain ⟨rfl, rfl, rfl⟩ := trodAll_nil r1
  obtain rfl : args = #[v0, v1] := by cases args; simp_all
  obtain ⟨rfl, rfl⟩ := trodVars_none hV
  have k0 := h0
  have lt0 : ∀ x ∈ p0, x.block < W.heap.size := by obtain ⟨m, hm⟩ := k0; exact DataW.trod_lt m _ _ _ hm
  obtain ⟨a0, rfl, _, _, w0⟩ := open_int Try.underlying3 (hval 0 3 v0 rfl rfl) h0
  have k1 := h1
  have lt1 : ∀ x ∈ p1, x.block < W.heap.size := by obtain ⟨m, hm⟩ := k1; exact DataW.trod_lt m _ _ _ hm
  obtain ⟨a1, len1, cap1, rfl⟩ := okWide_slice Try.underlying25 (hval 1 25 v1 rfl rfl)
  obtain ⟨fuel1, hf1⟩ := h1
  obtain ⟨xa1, xlen1, xcap1, l1, xe1, ro1, wo1⟩ := bytes_of hf1
  obtain ⟨rfl, rfl, rfl⟩ : a1 = xa1 ∧ len1 = xlen1 ∧ cap1 = xcap1 := by injection xe1 with e1 e2 e3; exact ⟨e1, e2, e3⟩
  clear hA0 hval0
  refine (walk a0 a1 len1 cap1 l1 W w0 wo1 ro1).mono fun e W' ⟨he, bel⟩ => ?_
  subst he
  exact ⟨_, rfl, _, _, _, [], _, [], hW', trodAll_mk1 (shut_bool Try.underlying4 _), (trodAll_cons_mk (Below.trod laidOut (by kernel_rfl) (of_decide_eq_true (by kernel_rfl)) k0 bel lt0) (trodAll_cons_mk (Below.trod laidOut (by kernel_rfl) (of_decide_eq_true (by kernel_rfl)) k1 bel lt1) trodAll_mk0)), rfl, bel.frame _, fun h => by cases h⟩
theorem over : Rows.stationAcksRow.holds Try.pinned (OpenSpec.ofChange Rows.stationAcksSpec) :=
  OpenClaim.holds_of_wide 5 Try.f5 rfl rfl rfl rfl rfl rfl rfl ⟨rfl, rfl, rfl, rfl, rfl⟩ rfl rfl rfl rfl rfl (by kernel_rfl) Try.func5 (by kernel_rfl)
    (of_decide_eq_true (by kernel_rfl)) (by unfold Func.isWrapper; first | (rw [if_pos (by decide +kernel)]; kernel_rfl) | (rw [if_neg (by decide +kernel)]; exact ⟨rfl, rfl⟩))
    (fun os started H enc _ => lifted os started H enc)
theorem proved : Rows.StationAcksSaid := over
end Go.Proofs.Ytiidkmnagfhgiaa.lawStationAcks

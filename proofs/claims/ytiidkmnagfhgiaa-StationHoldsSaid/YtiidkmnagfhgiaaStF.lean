/- give: a command that is given. -/
import Derived.Test.YtiidkmnagfhgiaaStE
namespace Go.Proofs.Ytiidkmnagfhgiaa
open Go.RowKit
set_option maxHeartbeats 8000000
set_option maxRecDepth 100000
set_option linter.unusedSimpArgs false
set_option linter.unusedVariables false
attribute [local go_sem ↓] Go.wp_at_zero Go.wp_at_succ
section
variable {w w' : World} {base b mc rc : Nat} {MA RA : Option Addr} {s : Stn.St} {T : TypeId} {cv : Value} {k x : Int} {fk fm fs fd : FuncId}
theorem info_in : (Try.prog.info? 3).map (fun i => (i.zero, i.size, i.bytes)) = some (some (.int .i64 0), 1, 8) := by kernel_rfl
theorem and_16 (u : Int) (hu : 0 ≤ u ∧ u < 4611686018427387904) : bits .and .i64 u 65535 = u % 65536 := by
  obtain ⟨a, rfl⟩ : ∃ a : Nat, u = a := ⟨u.toNat, by omega⟩
  show IntKind.i64.wrap ((BitVec.ofInt 64 (a : Int) &&& BitVec.ofInt 64 ((65535 : Nat) : Int)).toNat : Int) = _
  rw [BitVec.toNat_and, ofInt_nat 64 a (by omega), ofInt_nat 64 65535 (by omega), show (65535 : Nat) = 2 ^ 16 - 1 by rfl, Nat.and_two_pow_sub_one_eq_mod, IntKind.wrap_i64]
  omega
theorem gvE_ok {s : Stn.St} {k now x p : Int} (h : gvE s k now x p = 0) : (0 ≤ p ∧ p ≤ 4294967295) ∧ Stn.timeE s now = 0 ∧ (k = 3 → now ≤ x ∧ x ≤ 3600000) ∧ Stn.may k s.st = true := by
  unfold gvE at h
  by_cases a : ¬ (0 ≤ p ∧ p ≤ 4294967295)
  · rw [if_pos a] at h; omega
  rw [if_neg a] at h
  by_cases c : Stn.timeE s now ≠ 0
  · rw [if_pos c] at h; omega
  rw [if_neg c] at h
  by_cases d : k = 3 ∧ ¬ (now ≤ x ∧ x ≤ 3600000)
  · rw [if_pos d] at h; omega
  rw [if_neg d] at h
  by_cases e : Stn.may k s.st = false
  · rw [if_pos e] at h; omega
  refine ⟨by omega, by omega, fun hk => by omega, by simpa using e⟩
def give1 (s : Stn.St) (k now x : Int) : Stn.St := { Stn.give0 s k now x with some := s.some }
theorem inv_give1 {s : Stn.St} {k now x : Int} (h : Stn.Inv s) (hk : 1 ≤ k ∧ k ≤ 6) (ht : Stn.timeE s now = 0) (hx : k = 3 → now ≤ x ∧ x ≤ 3600000) (hp : k = 1 → 0 ≤ x ∧ x ≤ 4294967295) : Stn.Inv (give1 s k now x) := by
  have ht := Stn.timeE_ok ht
  have hb := Stn.given_bd k
  obtain ⟨h1, h2, h3, h4, h5, h6, h7, h8, h9, h10, h11, h12⟩ := h
  refine ⟨h1, h2, ?_, ?_, ?_, ?_, ?_, ?_, ?_, by simp [give1, Stn.give0], h11, h12⟩
  · simp only [give1, Stn.give0]; omega
  · simp only [give1, Stn.give0]; omega
  · simp only [give1, Stn.give0]; omega
  · simp only [give1, Stn.give0]; split <;> omega
  · simp only [give1, Stn.give0]; omega
  · simp only [give1, Stn.give0]; split <;> omega
  · simp only [give1, Stn.give0]; omega
theorem miss_give1 (s : Stn.St) (k now x : Int) (hk : k ≠ 0) : Stn.miss (give1 s k now x) = (List.range s.n).map (1 + ·) := by
  unfold Stn.miss
  rw [if_neg (by simpa [give1, Stn.give0] using hk)]
  exact Stn.missFrom_all s.n 1
theorem give_yes (h : IsSt w base b MA mc RA rc s) (hs : Stn.Inv s) (C : Cmd T cv k x fk fm fs fd) (hk : 1 ≤ k ∧ k ≤ 6) (now p : Int) (he : gvE s k now x p = 0) (hp1 : k = 1 → p = x) (hp2 : k ≠ 1 → p = s.prog) (hbase : base ≤ w.heap.size) :
    Calls Try.prog 44 #[.pointer (some ⟨b, 0, none⟩), .int .i64 now, .iface T cv, .int .i64 p] w (StPost base b MA RA rc (give1 s k now x) (Stn.frames (give1 s k now x)) 0 w) := by
  obtain ⟨hp, ht, hx, hm⟩ := gvE_ok he
  obtain ⟨i0, hi0, hz0, hz1, hz2⟩ := info_parts info_in
  have N := Lib.hid (h.none hs)
  have CH := Lib.hid (check_any h now)
  rw [ht] at CH
  have hst := hs.st
  have hsq := hs.seq
  have hb := h.lt
  have hn := hs.n
  have CM := Lib.hid (fun W => C.cm W s.st hst.1)
  rw [hm] at CM
  have CS := Lib.hid C.cs
  have m1 := C.am.m
  have n1 := C.am.n
  have q1 := C.am.c
  have m2 := C.as_.m
  have n2 := C.as_.n
  have q2 := C.as_.c
  have ta := C.ta
  have CC := Lib.hid C
  have H := Lib.hid h
  have HS := Lib.hid hs
  have hB := h.blk
  unfold stl at hB
  have ca_0 := blk_cell hB 0 rfl; have fa_0 := blk_free hB 0; have ca_1 := blk_cell hB 1 rfl; have fa_1 := blk_free hB 1; have ca_2 := blk_cell hB 2 rfl; have fa_2 := blk_free hB 2; have ca_3 := blk_cell hB 3 rfl; have fa_3 := blk_free hB 3; have ca_4 := blk_cell hB 4 rfl; have fa_4 := blk_free hB 4; have ca_5 := blk_cell hB 5 rfl; have fa_5 := blk_free hB 5; have ca_6 := blk_cell hB 6 rfl; have fa_6 := blk_free hB 6; have ca_7 := blk_cell hB 7 rfl; have fa_7 := blk_free hB 7; have ca_8 := blk_cell hB 8 rfl; have fa_8 := blk_free hB 8; have ca_9 := blk_cell hB 9 rfl; have fa_9 := blk_free hB 9; have ca_10 := blk_cell hB 10 rfl; have fa_10 := blk_free hB 10; have la := lt_of_block hB
  have HX := Lib.hid hx
  have HT := Lib.hid ht
  have HP1 := Lib.hid hp1
  have HP2 := Lib.hid hp2
  clear h hs C he hm ht hp1 hp2 hx
  have W16 := and_16 (s.seq + 1) (by omega)
  have HKD := Lib.hid (show Stn.miss (give1 s k now x) = (List.range s.n).map (1 + ·) from miss_give1 s k now x (by omega))
  have HCUR := Lib.hid (show curV (give1 s k now x) = .iface T cv from CC.out.cur _ rfl (fun h => by simp [give1, Stn.give0, h]))
  have HINV := Lib.hid (show Stn.Inv (give1 s k now x) from inv_give1 HS.out hk HT.out HX.out (fun h => by rw [← HP1.out h]; exact hp))
  have HPR := Lib.hid (show (give1 s k now x).prog = p by
    simp only [give1, Stn.give0]
    split
    · rename_i h; exact (HP1.out h).symm
    · rename_i h; exact (HP2.out h).symm)
  have hta2 : ∃ (y : Int) (t : Bool), (∀ W : World, (Instr.typeAssert (.iface T cv) 71 111 true).run Try.prog W = .ok (.tuple #[.agg #[.int .i64 y], .bool t]) W) ∧ ((t = true ∧ now ≤ y ∧ y ≤ 3600000) ∨ t = false) := by
    by_cases h3 : k = 3
    · exact ⟨x, true, fun W => by have := ta W; rw [if_pos h3, decide_eq_true h3] at this; exact this, .inl ⟨rfl, HX.out h3⟩⟩
    · exact ⟨0, false, fun W => by have := ta W; rw [if_neg h3, decide_eq_false h3] at this; exact this, .inr rfl⟩
  clear ta
  obtain ⟨y, t, ta, ht⟩ := hta2
  rcases ht with ⟨rfl, hx1, hx2⟩ | rfl
  all_goals
    go_enter Try.func44, Try.ntmps44; go_wp2_with fail; refine N.out.mono ?_; rintro e w' ⟨rfl, rfl⟩; go_wp2_with fail
    refine CH.out.mono ?_; rintro e w' ⟨rfl, rfl⟩; go_wp2_with fail
    go_region_held3 (fun w' => w'.cell? ⟨b, 2, none⟩ = some (.int .i64 s.st)) (first | (simp [go_sem, *]; done) | go_keep) (first | (refine (CM.out _).mono ?_; rintro e w4 ⟨rfl, hb4⟩; have hz4 := hb4.size; (try simp at hz4); have k4 := blk_below (q := b) (by repeat (first | (with_reducible assumption) | ((with_reducible apply blk_far); rotate_left; (first | omega | (simp <;> omega)); rotate_right) | (with_reducible apply blk_drew) | (with_reducible apply blk_drewN) | (with_reducible exact heap_new _ _) | ((with_reducible apply heap_new'); (first | rfl | (simp <;> fail))) | (with_reducible apply blk_alloc))) hb4 (by first | omega | (simp; done) | (simp; omega)); have hB4 : Below w.heap.size w w4 := (by repeat (first | (with_reducible exact Below.refl _ _) | (with_reducible refine Below.drew ?_) | (with_reducible refine below_drewN ?_ _) | ((with_reducible refine Below.alloc ?_ ?_ _); rotate_left; (first | omega | (simp <;> omega)); rotate_right) | ((with_reducible refine Below.setCell ?_ ?_ _); rotate_left; (first | omega | (simp <;> omega)); rotate_right) | (with_reducible assumption) | (refine Below.trans ?_ (Below.mono (by assumption) ?_); rotate_left; (first | omega | (simp <;> omega)); rotate_right))); have e2 : w4.cell? ⟨b, 2, none⟩ = some (.int .i64 s.st) := blk_cell k4 2 rfl))
    have K4 := Lib.hid k4
    have cc_0 := blk_cell k4 0 rfl; have fc_0 := blk_free k4 0; have cc_1 := blk_cell k4 1 rfl; have fc_1 := blk_free k4 1; have cc_2 := blk_cell k4 2 rfl; have fc_2 := blk_free k4 2; have cc_3 := blk_cell k4 3 rfl; have fc_3 := blk_free k4 3; have cc_4 := blk_cell k4 4 rfl; have fc_4 := blk_free k4 4; have cc_5 := blk_cell k4 5 rfl; have fc_5 := blk_free k4 5; have cc_6 := blk_cell k4 6 rfl; have fc_6 := blk_free k4 6; have cc_7 := blk_cell k4 7 rfl; have fc_7 := blk_free k4 7; have cc_8 := blk_cell k4 8 rfl; have fc_8 := blk_free k4 8; have cc_9 := blk_cell k4 9 rfl; have fc_9 := blk_free k4 9; have cc_10 := blk_cell k4 10 rfl; have fc_10 := blk_free k4 10; have lc := lt_of_block k4
    clear ca_0 fa_0 ca_1 fa_1 ca_2 fa_2 ca_3 fa_3 ca_4 fa_4 ca_5 fa_5 ca_6 fa_6 ca_7 fa_7 ca_8 fa_8 ca_9 fa_9 ca_10 fa_10 hB e2
    go_wp2_with fail
    generalize hV : World.setCell _ _ _ = V
    have k5 : V.heap[b]? = some (.cells #[.int .i64 s.n, .int .i64 s.again, .int .i64 s.st, .int .i64 now, .int .i64 ((s.seq + 1) % 65536), .int .i64 now, .bool s.some, .int .i64 p, .iface T cv, .slice MA (Stn.miss s).length mc, .slice RA s.n rc] 74 (0, 0)) := by rw [← hV]; exact (by apply Eq.trans; (repeat (first | (with_reducible assumption) | (with_reducible apply blk_set) | ((with_reducible apply blk_far); rotate_left; (first | omega | (simp <;> omega)); rotate_right) | (with_reducible apply blk_drew) | (with_reducible apply blk_drewN) | ((with_reducible apply heap_new'); (first | rfl | (simp <;> fail))) | (with_reducible apply blk_alloc))); (first | with_reducible rfl | (simp <;> fail) | rfl))
    have hK5 : Keeps (fun i => i = b) w V := by
      rw [← hV]
      refine (Keeps.of_below hB4).trans (S' := fun i => i = b) ?_ (fun _ _ h => h)
      (repeat (first | with_reducible exact Keeps.refl _ _ | (with_reducible refine Keeps.set1 ?_ _ _) | (with_reducible refine Keeps.drew ?_) | (with_reducible refine Keeps.drewN ?_ _) | (with_reducible refine Keeps.alloc ?_ _)))
    clear cc_0 fc_0 cc_1 fc_1 cc_2 fc_2 cc_3 fc_3 cc_4 fc_4 cc_5 fc_5 cc_6 fc_6 cc_7 fc_7 cc_8 fc_8 cc_9 fc_9 cc_10 fc_10 hV K4 k4 hB4
    refine (CS.out _).mono ?_
    rintro e w5 ⟨rfl, hb5⟩
    have hz5 := hb5.size
    have k6 := blk_below (q := b) k5 hb5 (lt_of_block k5)
    have hK6 := hK5.trans (Keeps.of_below (S := fun i => i = b) hb5) (fun _ _ h => h)
    have hz6 := hK6.size
    have HK6 := Lib.hid hK6
    clear k5 hK5 hb5 hK6
    have cd_0 := blk_cell k6 0 rfl; have fd_0 := blk_free k6 0; have cd_1 := blk_cell k6 1 rfl; have fd_1 := blk_free k6 1; have cd_2 := blk_cell k6 2 rfl; have fd_2 := blk_free k6 2; have cd_3 := blk_cell k6 3 rfl; have fd_3 := blk_free k6 3; have cd_4 := blk_cell k6 4 rfl; have fd_4 := blk_free k6 4; have cd_5 := blk_cell k6 5 rfl; have fd_5 := blk_free k6 5; have cd_6 := blk_cell k6 6 rfl; have fd_6 := blk_free k6 6; have cd_7 := blk_cell k6 7 rfl; have fd_7 := blk_free k6 7; have cd_8 := blk_cell k6 8 rfl; have fd_8 := blk_free k6 8; have cd_9 := blk_cell k6 9 rfl; have fd_9 := blk_free k6 9; have cd_10 := blk_cell k6 10 rfl; have fd_10 := blk_free k6 10; have ld := lt_of_block k6
    go_wp2_with fail
    generalize hV : World.setCell _ _ _ = V6
    have k7 : V6.heap[b]? = some (.cells #[.int .i64 s.n, .int .i64 s.again, .int .i64 (Stn.given k), .int .i64 now, .int .i64 ((s.seq + 1) % 65536), .int .i64 now, .bool s.some, .int .i64 p, .iface T cv, .slice none 0 0, .slice RA s.n rc] 74 (0, 0)) := by rw [← hV]; exact (by apply Eq.trans; (repeat (first | (with_reducible assumption) | (with_reducible apply blk_set) | ((with_reducible apply blk_far); rotate_left; (first | omega | (simp <;> omega)); rotate_right) | (with_reducible apply blk_drew) | (with_reducible apply blk_drewN) | ((with_reducible apply heap_new'); (first | rfl | (simp <;> fail))) | (with_reducible apply blk_alloc))); (first | with_reducible rfl | (simp <;> fail) | rfl))
    have hK7 : Keeps (fun i => i = b) w V6 := by
      rw [← hV]
      refine HK6.out.trans (S' := fun i => i = b) ?_ (fun _ _ h => h)
      (repeat (first | with_reducible exact Keeps.refl _ _ | (with_reducible refine Keeps.set1 ?_ _ _) | (with_reducible refine Keeps.drew ?_) | (with_reducible refine Keeps.drewN ?_ _) | (with_reducible refine Keeps.alloc ?_ _)))
    have HK7 := Lib.hid hK7
    have K7 := Lib.hid k7
    clear cd_0 fd_0 cd_1 fd_1 cd_2 fd_2 cd_3 fd_3 cd_4 fd_4 cd_5 fd_5 cd_6 fd_6 cd_7 fd_7 cd_8 fd_8 cd_9 fd_9 cd_10 fd_10 hV k6 k7 hK7
    go_loopw [95] (fun s95 wr => ∃ (j : Nat) (A : Option Addr) (c : Nat), s95 = .int .i64 j ∧ j ≤ s.n ∧ Hid (wr.heap[b]? = some (.cells #[.int .i64 s.n, .int .i64 s.again, .int .i64 (Stn.given k), .int .i64 now, .int .i64 ((s.seq + 1) % 65536), .int .i64 now, .bool s.some, .int .i64 p, .iface T cv, .slice A j c, .slice RA s.n rc] 74 (0, 0))) ∧ Hid (wr.ownsRow w.heap.size 3 1 (.slice A j c) j (((List.range j).map (1 + ·)).map (fun (i : Nat) => .int .i64 i))) ∧ Hid (Keeps (fun i => i = b) w wr)) (fun s95 _ => s.n - (intOf s95).toNat)
    case atStart => exact ⟨0, none, 0, by go_num, by omega, K7, Lib.hid (World.ownsRow_nil _ _ _ _), HK7⟩
    case round =>
      obtain ⟨j, A, c, rfl, hj, HB, HO, HK⟩ := hrel
      have hzr := HK.out.size
      have hbr : b < wr.heap.size := by omega
      have hk := HB.out
      by_cases hlt : j < s.n
      · have ce_0 := blk_cell hk 0 rfl; have fe_0 := blk_free hk 0; have ce_1 := blk_cell hk 1 rfl; have fe_1 := blk_free hk 1; have ce_2 := blk_cell hk 2 rfl; have fe_2 := blk_free hk 2; have ce_3 := blk_cell hk 3 rfl; have fe_3 := blk_free hk 3; have ce_4 := blk_cell hk 4 rfl; have fe_4 := blk_free hk 4; have ce_5 := blk_cell hk 5 rfl; have fe_5 := blk_free hk 5; have ce_6 := blk_cell hk 6 rfl; have fe_6 := blk_free hk 6; have ce_7 := blk_cell hk 7 rfl; have fe_7 := blk_free hk 7; have ce_8 := blk_cell hk 8 rfl; have fe_8 := blk_free hk 8; have ce_9 := blk_cell hk 9 rfl; have fe_9 := blk_free hk 9; have ce_10 := blk_cell hk 10 rfl; have fe_10 := blk_free hk 10; have le := lt_of_block hk
        clear hk
        have hjn : (j : Int) < (s.n : Int) := by omega
        have HE := Lib.hid (show ((List.range (j + 1)).map (1 + ·)).map (fun (i : Nat) => Value.int .i64 (i : Int)) = ((List.range j).map (1 + ·)).map (fun (i : Nat) => Value.int .i64 (i : Int)) ++ [.int .i64 ((j : Int) + 1)] from by
          rw [List.range_succ, List.map_append, List.map_append]
          simp only [List.map_cons, List.map_nil]
          congr 3
          omega)
        go_wp2_with (at_builtin; refine wpList_append_any _ rfl (.tmp 102) (.tmp 105) _ rfl w.heap.size 3 i0 _ 1 8 Try.underlying46 hi0 hz0 hz1 hz2 rfl (by omega) _ j _ rfl (HO.out.alloc _) (wr.heap.size + 1) (some ⟨wr.heap.size, 0, none⟩) 1 1 [.int .i64 ((j : Int) + 1)] rfl (Reads.newN wr #[.int .i64 ((j : Int) + 1)] 3 1 1 rfl) (by simp [Value.oneCell']) (by simp only [maxLen]; omega) (by omega) (by simp; omega) ?_; intro v1 w7 hown1 hg1 hat1; (have hz7 := hg1.size); (try simp at hz7); obtain ⟨A', c', rfl⟩ := own_formS hown1; have k8 : w7.heap[b]? = _ := (hg1.block b (by simp; omega) (fun e => by have := (HO.out.lt _ e.symm).1; omega)).trans (blk_alloc HB.out _); have e9 : w7.cell? ⟨b, 9, none⟩ = some (.slice A j c) := blk_cell k8 9 rfl; have f9 := blk_free k8 9; have K8 := Lib.hid k8; have HG := Lib.hid hg1; have HO1 := Lib.hid hown1; clear k8 hg1 hown1 hat1)
        have HN := Lib.hid (show Keeps (fun i => i = b) w (w7.setCell ⟨b, 9, none⟩ (.slice A' (j + 1) c')) from Keeps.set1 (((HK.out.alloc _).trans (Keeps.of_grown HG.out (S := fun i => w.heap.size ≤ i) (fun g hg => (HO.out.lt g hg).1)) (fun i hi hh => by omega))) 9 _)
        have KN := Lib.hid (blk_set K8.out 9 (.slice A' (j + 1) c'))
        have ON := Lib.hid (show (w7.setCell ⟨b, 9, none⟩ (.slice A' (j + 1) c')).ownsRow w.heap.size 3 1 (.slice A' (j + 1) c') (j + 1) (((List.range (j + 1)).map (1 + ·)).map (fun (i : Nat) => .int .i64 i)) from by
          rw [HE.out]
          exact own_far HO1.out (by show b < w.heap.size; exact hb) _)
        go_roundw
        case rel => exact ⟨j + 1, A', c', by go_num, by omega, by simpa using KN, ON, HN⟩
        case measure => simp [intOf]; omega
      · obtain rfl : j = s.n := by omega
        have hml : (Stn.miss (give1 s k now x)).length = s.n := by rw [HKD.out]; simp
        have hrow := Row.of_own HO.out
        have hSt : IsSt wr base b A c RA rc (give1 s k now x) := by
          refine ⟨?_, ?_, ?_, H.out.ge⟩
          · rw [show stl (give1 s k now x) A c RA rc = [.int .i64 s.n, .int .i64 s.again, .int .i64 (Stn.given k), .int .i64 now, .int .i64 ((s.seq + 1) % 65536), .int .i64 now, .bool s.some, .int .i64 p, .iface T cv, .slice A s.n c, .slice RA s.n rc] from by unfold stl; rw [HCUR.out, HPR.out, hml]; rfl]
            exact HB.out
          · rw [hml, HKD.out]; exact hrow.more hbase
          · exact H.out.rrow.kept HK.out (fun g hg => H.out.rne hg)
        have FR := Lib.hid (frames_any hSt HINV.out (show (give1 s k now x).cmd ≠ 0 from by show k ≠ 0; omega))
        have HST := Lib.hid hSt
        obtain ⟨g, o, cur, hA, hge, _⟩ := hrow.some_ (by omega)
        have hAe := Lib.hid (show blkOf A = some g by rw [hA]; rfl)
        clear hk hml hrow hSt hA
        go_wp2_with fail
        refine FR.out.mono ?_
        rintro e w9 ⟨v, rfl, hR, hB9⟩
        have HR := Lib.hid hR
        have HB9 := Lib.hid hB9
        clear hR hB9
        go_wp2_with fail
        go_ret2
        exact ⟨v, A, c, rfl, HST.out.below HB9.out (Nat.le_refl _), (HK.out.trans (Keeps.of_below (S := fun i => i = b) HB9.out) (fun _ _ h => h)).mono (fun i _ hi => .inl hi), HR.out.more hzr, .inr ⟨g, hAe.out, hge⟩⟩
end
end Go.Proofs.Ytiidkmnagfhgiaa

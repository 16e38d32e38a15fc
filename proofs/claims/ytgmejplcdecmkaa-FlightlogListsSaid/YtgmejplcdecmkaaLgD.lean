/- Grow and Concat of bytes. -/
import Derived.Test.YtgmejplcdecmkaaLgC
import Derived.Lib.AppendZerosOnto
namespace Go.Proofs.Ytgmejplcdecmkaa
open Go.RowKit
set_option maxHeartbeats 4000000
set_option maxRecDepth 100000
set_option linter.unusedSimpArgs false
set_option linter.unusedVariables false
attribute [local go_sem ↓] Go.wp_at_zero Go.wp_at_succ
theorem grow_any (n : Nat) (w : World) (hm : n ≤ 100000) :
    Calls Try.prog 87 #[.slice none 0 0, .int .i64 n] w fun e w' => ∃ A cap, e = .returned (.slice A 0 cap) ∧ Ow w' w.heap.size A 0 cap [] ∧ Below w.heap.size w w' := by
  rcases Nat.eq_zero_or_pos n with h0 | hn
  · subst h0
    go_enter Try.func87, Try.ntmps87
    go_wp2_with fail
    go_ret
    exact ⟨none, 0, rfl, Ow.nil _ _, (by repeat (first | (with_reducible exact Below.refl _ _) | (with_reducible refine Below.drew ?_) | (with_reducible refine below_drewN ?_ _) | ((with_reducible refine Below.alloc ?_ ?_ _); rotate_left; (first | omega | (simp <;> omega)); rotate_right) | ((with_reducible refine Below.setCell ?_ ?_ _); rotate_left; (first | omega | (simp <;> omega)); rotate_right) | (with_reducible assumption) | (refine Below.trans ?_ (Below.mono (by assumption) ?_); rotate_left; (first | omega | (simp <;> omega)); rotate_right)))⟩
  · obtain ⟨i0, hi0, hz0, hz1, hz2⟩ := info_parts info_u8
    have hrun := Lib.run_append_nil_zeros (P := Try.prog) w 28 3 28 5 i0 _ .i64 .i64 Try.underlying28 Try.underlying3 hi0 hz0 n hn (by omega) (by omega) (by rw [hz2]; omega)
    obtain ⟨c, hc⟩ : ∃ c, c = grownCap w n 0 5 := ⟨_, rfl⟩
    have hcn : n ≤ c := by rw [hc]; exact grownCap_ge w n 0 _
    have hcm : c ≤ maxLen := by rw [hc]; exact grownCap_le_maxLen w n 0 _ (by unfold maxLen; omega)
    rw [← hc] at hrun
    obtain ⟨z, hz⟩ : ∃ z, z = Builtin.zeroCells (Value.int .u8 0).cells n ++ Builtin.zeroCells (Value.int .u8 0).cells (c - n) := ⟨_, rfl⟩
    have hzs : z.size = c := by rw [hz]; simp [size_zeroCells, Value.cells]; omega
    rw [← hz] at hrun
    have HR := Lib.hid hrun
    clear hrun hc hz
    have hmax := Lib.hid hcm
    have HZ := Lib.hid hzs
    unfold maxLen at hcm
    clear hzs
    go_enter Try.func87, Try.ntmps87
    go_wp2_with (at_builtin; refine Lib.wpList_append_run _ rfl (.tmp 20) (.tmp 21) _ _ rfl _ _ rfl rfl _ _ HR.out ?_)
    go_ret
    refine ⟨_, _, rfl, ⟨?_, by intro x hx; cases hx⟩, ?_⟩
    · refine ⟨rfl, .inr ⟨w.heap.size, c, z, rfl, Nat.le_refl _, heap_new w.drew _, Nat.zero_le _, hmax.out, ?_, ?_⟩⟩
      · rw [HZ.out]; omega
      · simp [bv]
    · exact (Below.drew (Below.refl w.heap.size w)).alloc (Nat.le_refl _) _
namespace Lg
def cat (l : List RB) : List Int := l.flatMap (·.d)
theorem cat_snoc (l : List RB) {j : Nat} (h : j < l.length) : cat (l.take (j + 1)) = cat (l.take j) ++ (l[j]).d := by
  unfold cat
  rw [List.take_add_one, List.getElem?_eq_getElem h, List.flatMap_append]
  simp
theorem cat_le (l : List RB) (j : Nat) : (cat (l.take j)).length ≤ (cat l).length := by
  have : cat l = cat (l.take j) ++ cat (l.drop j) := by
    unfold cat
    rw [← List.flatMap_append, List.take_append_drop]
  rw [this, List.length_append]
  omega
theorem cat_by {w : World} {lo B : Nat} {l : List RB} (h : BGood w lo B l) : By (cat l) := by
  intro x hx
  simp only [cat, List.mem_flatMap] at hx
  obtain ⟨y, hy, hx⟩ := hx
  exact (h y hy).1.2.1 x hx
end Lg
theorem concat_any (A : Option Addr) (m cap : Nat) (rl : List RB) (w : World) (hm : m ≤ 1000) (h : Rds w w.heap.size 1 A m (rbcs rl)) (hb : BGood w 0 w.heap.size rl) (hn : (Lg.cat rl).length ≤ 100000) :
    Calls Try.prog 73 #[.slice A m cap] w fun e w' => ∃ A' cap', e = .returned (.slice A' (Lg.cat rl).length cap') ∧ Ow w' w.heap.size A' (Lg.cat rl).length cap' (Lg.cat rl) ∧ Below w.heap.size w w' := by
  obtain ⟨i0, hi0, hz0, hz1, hz2⟩ := info_parts info_u8
  have H := Lib.hid h
  have HB := Lib.hid hb
  have hl : rl.length = m := by have := h.1; rw [length_rbcs] at this; omega
  have HL := Lib.hid hl
  obtain ⟨n, hcn⟩ : ∃ n, n = (Lg.cat rl).length := ⟨_, rfl⟩
  rw [← hcn] at hn ⊢
  have HN := Lib.hid hcn
  clear h hb hl hcn
  go_enter Try.func73, Try.ntmps73
  go_wp2_with fail
  go_loop [3, 11] (fun s3 s11 => ∃ j k : Nat, s11 = .int .i64 j ∧ j ≤ m ∧ s3 = .int .i64 k ∧ k ≤ 100000 ∧ Hid (k = (Lg.cat (rl.take j)).length)) (fun _ s11 => m - (intOf s11).toNat)
  case atStart => exact ⟨0, 0, by go_num, by omega, by go_num, by omega, Lib.hid rfl⟩
  case round =>
    obtain ⟨j, k, rfl, hj, rfl, hk, HK⟩ := hrel
    by_cases hlt : j < m
    · obtain ⟨b, o, rfl, hbl, hcl⟩ := H.out.2 (by omega)
      have hjr : j < rl.length := by rw [HL.out]; exact hlt
      obtain ⟨x, hx⟩ : ∃ x, rl[j] = x := ⟨_, rfl⟩
      have c1 : w.cell? ⟨b, o + j, none⟩ = some (.slice x.A x.d.length x.c) := hcl j _ (by rw [rbcs, List.getElem?_map, List.getElem?_eq_getElem hjr, hx]; rfl)
      have hk2 := Lib.hid (show k + x.d.length = (Lg.cat (rl.take (j + 1))).length by rw [Lg.cat_snoc rl hjr, List.length_append, HK.out, hx])
      have hle : k + x.d.length ≤ 100000 := by rw [hk2.out]; exact Nat.le_trans (Lg.cat_le rl (j + 1)) (by rw [← HN.out]; exact hn)
      clear hcl hx hjr HK
      go_wp2_with fail
      go_round
      case rel => exact ⟨j + 1, k + x.d.length, by go_num, by omega, by go_num, hle, hk2⟩
      case measure => simp [intOf]; omega
    · obtain rfl : j = m := by omega
      have hkn : k = n := by rw [HK.out, HN.out, List.take_of_length_le (by rw [HL.out]; exact Nat.le_refl _)]
      have GR := Lib.hid (grow_any n w hn)
      subst hkn
      clear HK
      go_wp2_with fail
      refine GR.out.mono ?_
      rintro e w1 ⟨A1, cap1, rfl, ow1, hb1⟩
      have hz1' := hb1.size
      go_wp2_with fail
      go_loopw [6, 27] (fun s6 s27 wr => ∃ i q : Nat, s27 = .int .i64 i ∧ i ≤ j ∧ q ≤ 100000 ∧ Hid (q = (Lg.cat (rl.take i)).length) ∧ wr.ownsRow w.heap.size 5 1 s6 q (bv (Lg.cat (rl.take i))) ∧ Below w.heap.size w wr) (fun _ s27 _ => j - (intOf s27).toNat)
      case atStart => exact ⟨0, 0, by go_num, by omega, by omega, Lib.hid rfl, ow1.1, hb1⟩
      case round =>
        obtain ⟨i, q, rfl, hi, hq, HQ, hown, hBr⟩ := hrel
        obtain ⟨A4, cap4, rfl⟩ := own_form hown
        have hzr := hBr.size
        clear ow1 hb1
        by_cases hlt2 : i < j
        · obtain ⟨b, o, rfl, hbl, hcl⟩ := (H.out.below hBr (Nat.le_refl _)).2 (by omega)
          have hjr : i < rl.length := by rw [HL.out]; exact hlt2
          obtain ⟨x, hx⟩ : ∃ x, rl[i] = x := ⟨_, rfl⟩
          have c1 : wr.cell? ⟨b, o + i, none⟩ = some (.slice x.A x.d.length x.c) := hcl i _ (by rw [rbcs, List.getElem?_map, List.getElem?_eq_getElem hjr, hx]; rfl)
          have hk2 := Lib.hid (show q + x.d.length = (Lg.cat (rl.take (i + 1))).length by rw [Lg.cat_snoc rl hjr, List.length_append, HQ.out, hx])
          have hle : q + x.d.length ≤ 100000 := by rw [hk2.out]; exact Nat.le_trans (Lg.cat_le rl (i + 1)) (by rw [← HN.out]; exact hn)
          have hrd := ((HB.out.below hBr (Nat.le_refl _)) x (by rw [← hx]; exact List.getElem_mem hjr)).1
          have hbv := Lib.hid (show bv (Lg.cat (rl.take (i + 1))) = bv (Lg.cat (rl.take i)) ++ bv x.d by rw [Lg.cat_snoc rl hjr, hx]; simp [bv])
          clear hcl hx hjr
          go_wp2_with (at_builtin; refine wpList_append_any _ rfl (.tmp 31) (.tmp 32) _ rfl w.heap.size 5 i0 _ 1 1 Try.underlying28 hi0 hz0 hz1 hz2 rfl (by omega) _ q _ rfl hown w.heap.size x.A x.d.length x.c (bv x.d) rfl hrd.reads (bv_one _) (by simp only [maxLen]; omega) (by omega) hzr ?_; intro v1 w2 hown1 hg1 hat1)
          go_roundw
          case rel =>
            refine ⟨i + 1, q + x.d.length, by go_num, by omega, hle, hk2, ?_, hBr.grown hg1 hzr (fun g hg => (hown.lt g hg).1)⟩
            rw [hbv.out]
            exact hown1
          case measure => simp [intOf]; omega
        · obtain rfl : i = j := by omega
          have hqn : q = k := by rw [HQ.out, HN.out, List.take_of_length_le (by rw [HL.out]; exact Nat.le_refl _)]
          have HC := Lib.hid (show Lg.cat (rl.take i) = Lg.cat rl by rw [List.take_of_length_le (by rw [HL.out]; exact Nat.le_refl _)])
          have hby := Lib.hid (Lg.cat_by HB.out)
          subst hqn
          rw [HC.out] at hown
          clear HQ
          go_wp2_with fail
          go_ret
          exact ⟨_, _, rfl, ⟨hown, hby.out⟩, hBr⟩
end Go.Proofs.Ytgmejplcdecmkaa

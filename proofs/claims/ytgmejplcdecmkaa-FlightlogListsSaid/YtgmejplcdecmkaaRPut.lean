/- The reference's PutNumbers. -/
import Derived.Test.YtgmejplcdecmkaaPut
import Derived.StillTailTactics
namespace Go.Proofs.Ytgmejplcdecmkaa
open Go.RowKit
set_option maxHeartbeats 4000000
set_option maxRecDepth 100000
set_option linter.unusedSimpArgs false
set_option linter.unusedVariables false
/-- what encoding numbers leaves -/
def PPost (w : World) (n : Nat) (l : List Int) (e : Ending) (w' : World) : Prop :=
  ((16 < n ∨ Frm.okAll l = false) ∧ e = .returned (.tuple #[.slice none 0 0, .int .i64 2]) ∧ Below w.heap.size w w') ∨
  ((n ≤ 16 ∧ Frm.okAll l = true) ∧ ∃ A' cap', e = .returned (.tuple #[.slice A' (4 * n) cap', .int .i64 0]) ∧ Ow w' w.heap.size A' (4 * n) cap' (Frm.pn l) ∧ Below w.heap.size w w')
theorem put_any (A : Option Addr) (n cap : Nat) (l : List Int) (w : World) (hn : n ≤ 140737488355328) (h : Ri w w.heap.size A n l) :
    Calls Try.prog 72 #[.slice A n cap] w fun e w' => PPost w n l e w' := by
  by_cases hx : 16 < n ∨ Frm.okAll l = false
  · exact (put_no A n cap l w hn h hx).mono fun e w' ⟨h1, h2⟩ => .inl ⟨hx, h1, h2 ▸ Below.refl _ _⟩
  · have h1 : n ≤ 16 := by omega
    have h2 : Frm.okAll l = true := by cases ho : Frm.okAll l; (· exact absurd (.inr ho) hx); (· rfl)
    exact (put_yes A n cap l w h h1 h2).mono fun e w' hh => .inr ⟨⟨h1, h2⟩, hh⟩
theorem rput_any (A : Option Addr) (n cap : Nat) (l : List Int) (w : World) (hn : n ≤ 140737488355328) (h : Ri w w.heap.size A n l) :
    Calls Try.prog 44 #[.slice A n cap] w fun e w' => PPost w n l e w' := by
  obtain ⟨i0, hi0, hz0, hz1, hz2⟩ := info_parts info_u8
  have HH := Lib.hid h
  clear h
  rcases Nat.lt_or_ge 16 n with h16 | h16
  · go_enter Try.func44, Try.ntmps44
    go_wp2_with fail
    go_ret2
    exact .inl ⟨.inl h16, rfl, (by repeat (first | (with_reducible exact Below.refl _ _) | (with_reducible refine Below.drew ?_) | (with_reducible refine below_drewN ?_ _) | ((with_reducible refine Below.alloc ?_ ?_ _); rotate_left; (first | omega | (simp <;> omega)); rotate_right) | ((with_reducible refine Below.setCell ?_ ?_ _); rotate_left; (first | omega | (simp <;> omega)); rotate_right) | (with_reducible assumption) | (refine Below.trans ?_ (Below.mono (by assumption) ?_); rotate_left; (first | omega | (simp <;> omega)); rotate_right)))⟩
  · go_enter Try.func44, Try.ntmps44
    go_wp2_with fail
    go_loopw [4, 5] (fun s4 s5 wr => ∃ j : Nat, s5 = .int .i64 j ∧ j ≤ n ∧ wr.ownsRow w.heap.size 5 1 s4 (4 * j) (bv (Frm.pn (l.take j))) ∧ Below w.heap.size w wr ∧ Hid (∀ i, i < j → Frm.okN (l.getD i 0) = true)) (fun _ s5 _ => n - (intOf s5).toNat)
    case atStart => exact ⟨0, by go_num, by omega, by simpa [Frm.pn, bv] using World.ownsRow_nil w w.heap.size _ 1, (by repeat (first | (with_reducible exact Below.refl _ _) | (with_reducible refine Below.drew ?_) | (with_reducible refine below_drewN ?_ _) | ((with_reducible refine Below.alloc ?_ ?_ _); rotate_left; (first | omega | (simp <;> omega)); rotate_right) | ((with_reducible refine Below.setCell ?_ ?_ _); rotate_left; (first | omega | (simp <;> omega)); rotate_right) | (with_reducible assumption) | (refine Below.trans ?_ (Below.mono (by assumption) ?_); rotate_left; (first | omega | (simp <;> omega)); rotate_right))), Lib.hid (fun i hi => absurd hi (by omega))⟩
    case round =>
      obtain ⟨j, rfl, hj, hown, hB, HA⟩ := hrel
      obtain ⟨A4, cap4, rfl⟩ := own_form hown
      have hzr := hB.size
      have HR := HH.out.below hB (Nat.le_refl _)
      by_cases hlt : j < n
      · obtain ⟨bl, o, rfl, hbl, hcl⟩ := HR.2.2 (by omega)
        have hck := hcl j hlt
        have HLn := Lib.hid HR.1
        have E := Lib.hid (show Frm.pn (l.take (j + 1)) = Frm.pn (l.take j) ++ Frm.num4 (l.getD j 0) by rw [take_snoc l j (by rw [HLn.out]; omega), Frm.pn_append]; simp [Frm.pn])
        obtain ⟨y, hy⟩ : ∃ y, l.getD j 0 = y := ⟨_, rfl⟩
        rw [hy] at hck E
        have HY := Lib.hid hy
        clear hcl HR hy
        have bad := Lib.hid (show Frm.okN y = false → Frm.okAll l = false from fun hf => by
          rw [Frm.okAll, List.all_eq_false]
          have hjl : j < l.length := by rw [HLn.out]; exact hlt
          refine ⟨l[j], List.getElem_mem hjl, ?_⟩
          have : l[j] = y := by rw [← HY.out]; simp [List.getD, List.getElem?_eq_getElem hjl]
          rw [this, hf]; simp)
        rcases Int.lt_or_le y 0 with g0 | g0
        · go_wp2_with fail
          go_ret2
          exact .inl ⟨.inr (bad.out (Frm.inB_no.2 (by omega))), rfl, hB⟩
        rcases Int.lt_or_le 4294967295 y with g1 | g1
        · go_wp2_with fail
          go_ret2
          exact .inl ⟨.inr (bad.out (Frm.inB_no.2 (by omega))), rfl, hB⟩
        have HA' := Lib.hid (show ∀ i, i < j + 1 → Frm.okN (l.getD i 0) = true from fun i hi => by
          rcases Nat.lt_or_ge i j with h | h
          · exact HA.out i h
          · obtain rfl : i = j := by omega
            rw [HY.out]; exact Frm.okN_iff.2 ⟨g0, g1⟩)
        clear HA
        go_wp2_with fail
        have f1 : IntKind.u8.wrap (IntKind.i64.wrap (y.tdiv 16777216)) = y / 16777216 := by rw [Int.tdiv_eq_ediv_of_nonneg g0, IntWalk.i64_in _ (by omega), IntKind.wrap_u8]; omega
        have f2 : IntKind.u8.wrap ((IntKind.i64.wrap (y.tdiv 65536)).tmod 256) = y / 65536 % 256 := by rw [Int.tdiv_eq_ediv_of_nonneg g0, IntWalk.i64_in _ (by omega), Int.tmod_eq_emod_of_nonneg (by omega), IntKind.wrap_u8]; omega
        have f3 : IntKind.u8.wrap ((IntKind.i64.wrap (y.tdiv 256)).tmod 256) = y / 256 % 256 := by rw [Int.tdiv_eq_ediv_of_nonneg g0, IntWalk.i64_in _ (by omega), Int.tmod_eq_emod_of_nonneg (by omega), IntKind.wrap_u8]; omega
        have f4 : IntKind.u8.wrap (y.tmod 256) = y % 256 := by rw [Int.tmod_eq_emod_of_nonneg (by omega), IntKind.wrap_u8]; omega
        have hbr : bl < wr.heap.size := by omega
        go_region_held3 (fun w' => w'.cell? ⟨bl, o + j, none⟩ = some (.int .i64 y)) (first | (simp [go_sem, *]; done) | go_keep) (first | (refine step_append_any _ rfl (.tmp 27) (.tmp 54) _ rfl w.heap.size 5 i0 _ 1 1 Try.underlying28 hi0 hz0 hz1 hz2 rfl (by omega) _ (4 * j) _ rfl (World.ownsRow.drew (World.ownsRow.alloc hown _)) (wr.heap.size + 1) (some ⟨wr.heap.size, 0, none⟩) 4 4 (bv (Frm.num4 y)) rfl (Reads.drew (Reads.new wr #[.int .u8 (y / 16777216), .int .u8 (y / 65536 % 256), .int .u8 (y / 256 % 256), .int .u8 (y % 256)] 5)) (bv_one _) (by simp only [maxLen]; omega) (by omega) (by simp; omega) ?_; intro v1 w2 hown1 hg1 hat1; have hk2 : w2.cell? ⟨bl, o + j, none⟩ = some (.int .i64 y) := (World.cell?_of_block (hg1.block bl (by simp; omega) (fun e => by have := (hown.lt _ e.symm).1; omega))).trans (by simp [go_sem, *])))
        clear f1 f2 f3 f4
        have ET := E.out
        go_wp2_with fail
        go_roundw
        case rel =>
          refine ⟨j + 1, by go_num, by omega, ?_, Below.grown (w := ((wr.alloc (.cells #[.int .u8 (y / 16777216), .int .u8 (y / 65536 % 256), .int .u8 (y / 256 % 256), .int .u8 (y % 256)] 5)).drew)) (by repeat (first | (with_reducible exact Below.refl _ _) | (with_reducible refine Below.drew ?_) | (with_reducible refine below_drewN ?_ _) | ((with_reducible refine Below.alloc ?_ ?_ _); rotate_left; (first | omega | (simp <;> omega)); rotate_right) | ((with_reducible refine Below.setCell ?_ ?_ _); rotate_left; (first | omega | (simp <;> omega)); rotate_right) | (with_reducible assumption) | (refine Below.trans ?_ (Below.mono (by assumption) ?_); rotate_left; (first | omega | (simp <;> omega)); rotate_right))) hg1 (by simp; omega) (fun g hg => (hown.lt g hg).1), HA'⟩
          rw [ET]
          have hx := hown1
          rw [show 4 * (j + 1) = 4 * j + 4 by omega]
          simp only [bv, List.map_append] at hx ⊢
          exact hx
        case measure => simp [intOf]; omega
      · obtain rfl : j = n := by omega
        have E := Lib.hid (show l.take j = l by rw [List.take_of_length_le (by rw [HH.out.1]; omega)])
        have hok : Frm.okAll l = true := by
          rw [Frm.okAll, List.all_eq_true]
          intro x hx
          obtain ⟨i, hi, rfl⟩ := List.getElem_of_mem hx
          have := HA.out i (by rw [← HH.out.1]; exact hi)
          simpa [List.getD, List.getElem?_eq_getElem hi] using this
        have HO := Lib.hid hok
        rw [E.out] at hown
        clear HR HA hok
        go_wp2_with fail
        go_ret2
        exact .inr ⟨⟨h16, HO.out⟩, A4, cap4, rfl, ⟨hown, Frm.pn_by HO.out⟩, hB⟩
end Go.Proofs.Ytgmejplcdecmkaa

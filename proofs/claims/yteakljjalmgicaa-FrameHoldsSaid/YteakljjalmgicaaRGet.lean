/- The reference's GetNumbers. -/
import Derived.Test.YteakljjalmgicaaGet
import Derived.Deep.DrawnRows
namespace Go.Proofs.Yteakljjalmgicaa
open Go.RowKit
set_option maxHeartbeats 8000000
set_option linter.unusedSimpArgs false
set_option linter.unusedVariables false
attribute [local go_sem ↓] Go.wp_at_zero Go.wp_at_succ
theorem rget_err (A : Option Addr) (n cap : Nat) (many : Int) (l : List Int) (w : World) (hn : n ≤ 140737488355328) (hm : -9223372036854775808 ≤ many ∧ many ≤ 9223372036854775807) (h : ¬ (n : Int) = 4 * many) :
    Calls Try.prog 27 #[.slice A n cap, .int .i64 many] w fun e w' => GPost w n many l e w' := by
  obtain ⟨hm0, hm1⟩ := hm
  rcases Int.lt_or_le many 0 with h1 | h1
  · clear h
    go_enter Try.func27, Try.ntmps27
    go_wp2_with fail
    go_ret2
    exact ⟨.inl ⟨h1, rfl⟩, (by repeat (first | (with_reducible exact Below.refl _ _) | (with_reducible refine Below.drew ?_) | (with_reducible refine below_drewN ?_ _) | ((with_reducible refine Below.alloc ?_ ?_ _); rotate_left; (first | omega | (simp <;> omega)); rotate_right) | ((with_reducible refine Below.setCell ?_ ?_ _); rotate_left; (first | omega | (simp <;> omega)); rotate_right) | (with_reducible assumption) | (refine Below.trans ?_ (Below.mono (by assumption) ?_); rotate_left; (first | omega | (simp <;> omega)); rotate_right)))⟩
  rcases Int.lt_or_le ((n : Int) / 4) many with h2 | h2
  · clear h
    go_enter Try.func27, Try.ntmps27
    go_wp2_with fail
    go_ret2
    exact ⟨.inr (.inl ⟨h1, h2, rfl⟩), (by repeat (first | (with_reducible exact Below.refl _ _) | (with_reducible refine Below.drew ?_) | (with_reducible refine below_drewN ?_ _) | ((with_reducible refine Below.alloc ?_ ?_ _); rotate_left; (first | omega | (simp <;> omega)); rotate_right) | ((with_reducible refine Below.setCell ?_ ?_ _); rotate_left; (first | omega | (simp <;> omega)); rotate_right) | (with_reducible assumption) | (refine Below.trans ?_ (Below.mono (by assumption) ?_); rotate_left; (first | omega | (simp <;> omega)); rotate_right)))⟩
  · have h3 : 4 * many < (n : Int) := by omega
    have z : ((n : Int) != 4 * many) = true := by simpa using h
    clear h
    go_enter Try.func27, Try.ntmps27
    go_wp2_with fail
    go_ret2
    exact ⟨.inr (.inr (.inl ⟨h1, h3, h2, rfl⟩)), (by repeat (first | (with_reducible exact Below.refl _ _) | (with_reducible refine Below.drew ?_) | (with_reducible refine below_drewN ?_ _) | ((with_reducible refine Below.alloc ?_ ?_ _); rotate_left; (first | omega | (simp <;> omega)); rotate_right) | ((with_reducible refine Below.setCell ?_ ?_ _); rotate_left; (first | omega | (simp <;> omega)); rotate_right) | (with_reducible assumption) | (refine Below.trans ?_ (Below.mono (by assumption) ?_); rotate_left; (first | omega | (simp <;> omega)); rotate_right)))⟩
set_option maxRecDepth 100000 in
theorem rget_ok (A : Option Addr) (m cap : Nat) (l : List Int) (w : World) (hm : 8 * m ≤ 140737488355328) (h : Rd w w.heap.size A (4 * m) l) :
    Calls Try.prog 27 #[.slice A (4 * m) cap, .int .i64 m] w fun e w' => ∃ A' cap', e = .returned (.tuple #[.slice A' m cap', .int .i64 0]) ∧ Oi w' w.heap.size A' m cap' (Frm.gn l m) ∧ Below w.heap.size w w' := by
  obtain ⟨i0, hi0, hz0, hz1, hz2⟩ := info_parts info_i64
  have HH := Lib.hid h
  clear h
  go_enter Try.func27, Try.ntmps27
  go_wp2_with fail
  go_loopw [6, 7] (fun s6 s7 wr => ∃ j : Nat, s7 = .int .i64 j ∧ j ≤ m ∧ wr.ownsRow w.heap.size 3 1 s6 j (iv (Frm.gn l j)) ∧ Below w.heap.size w wr) (fun _ s7 _ => m - (intOf s7).toNat)
  case atStart => exact ⟨0, by go_num, by omega, by simpa [Frm.gn, iv] using World.ownsRow_nil w w.heap.size _ 1, (by repeat (first | (with_reducible exact Below.refl _ _) | (with_reducible refine Below.drew ?_) | (with_reducible refine below_drewN ?_ _) | ((with_reducible refine Below.alloc ?_ ?_ _); rotate_left; (first | omega | (simp <;> omega)); rotate_right) | ((with_reducible refine Below.setCell ?_ ?_ _); rotate_left; (first | omega | (simp <;> omega)); rotate_right) | (with_reducible assumption) | (refine Below.trans ?_ (Below.mono (by assumption) ?_); rotate_left; (first | omega | (simp <;> omega)); rotate_right)))⟩
  case round =>
    obtain ⟨j, rfl, hj, hown, hB⟩ := hrel
    obtain ⟨A4, cap4, rfl⟩ := own_form hown
    have hzr := hB.size
    by_cases hlt : j < m
    · have HR := HH.out.below hB (Nat.le_refl _)
      obtain ⟨b, o, rfl, hbl, hcl⟩ := HR.2.2 (by omega)
      have c0 := hcl (4 * j) (by omega)
      have c1 := hcl (4 * j + 1) (by omega)
      have c2 := hcl (4 * j + 2) (by omega)
      have c3 := hcl (4 * j + 3) (by omega)
      have hby := HH.out.2.1
      have b0 := hby.at_ (4 * j); have b1 := hby.at_ (4 * j + 1); have b2 := hby.at_ (4 * j + 2); have b3 := hby.at_ (4 * j + 3)
      have EG := Lib.hid (show Frm.gnAt l j = ((l.getD (4 * j) 0 * 256 + l.getD (4 * j + 1) 0) * 256 + l.getD (4 * j + 2) 0) * 256 + l.getD (4 * j + 3) 0 from rfl)
      have ES := Lib.hid (Frm.gn_succ l j)
      generalize l.getD (4 * j) 0 = x0 at c0 b0 EG
      generalize l.getD (4 * j + 1) 0 = x1 at c1 b1 EG
      generalize l.getD (4 * j + 2) 0 = x2 at c2 b2 EG
      generalize l.getD (4 * j + 3) 0 = x3 at c3 b3 EG
      clear hcl HR hby
      have hbr : b < wr.heap.size := by omega
      go_upto_region 11 with fail
      have v0 : IntKind.i64.wrap x0 = x0 := IntWalk.i64_in _ (by omega)
      have v1 : IntKind.i64.wrap x1 = x1 := IntWalk.i64_in _ (by omega)
      have v2 : IntKind.i64.wrap x2 = x2 := IntWalk.i64_in _ (by omega)
      have v3 : IntKind.i64.wrap x3 = x3 := IntWalk.i64_in _ (by omega)
      have u0 : IntKind.i64.wrap (x0 * 256) = x0 * 256 := IntWalk.i64_in _ (by omega)
      have u1 : IntKind.i64.wrap (x0 * 256 + x1) = x0 * 256 + x1 := IntWalk.i64_in _ (by omega)
      have u2 : IntKind.i64.wrap ((x0 * 256 + x1) * 256) = (x0 * 256 + x1) * 256 := IntWalk.i64_in _ (by omega)
      have u3 : IntKind.i64.wrap ((x0 * 256 + x1) * 256 + x2) = (x0 * 256 + x1) * 256 + x2 := IntWalk.i64_in _ (by omega)
      have u4 : IntKind.i64.wrap (((x0 * 256 + x1) * 256 + x2) * 256) = ((x0 * 256 + x1) * 256 + x2) * 256 := IntWalk.i64_in _ (by omega)
      have u5 : IntKind.i64.wrap (((x0 * 256 + x1) * 256 + x2) * 256 + x3) = ((x0 * 256 + x1) * 256 + x2) * 256 + x3 := IntWalk.i64_in _ (by omega)
      have t0 : IntKind.i64.wrap (4 * (j : Int)) = 4 * (j : Int) := IntWalk.i64_in _ (by omega)
      have t1 : IntKind.i64.wrap (4 * (j : Int) + 1) = 4 * (j : Int) + 1 := IntWalk.i64_in _ (by omega)
      have t2 : IntKind.i64.wrap (4 * (j : Int) + 2) = 4 * (j : Int) + 2 := IntWalk.i64_in _ (by omega)
      have t3 : IntKind.i64.wrap (4 * (j : Int) + 3) = 4 * (j : Int) + 3 := IntWalk.i64_in _ (by omega)
      have n0 : 4 * (j : Int) < 4 * (m : Int) := by omega
      have n1 : 4 * (j : Int) + 1 < 4 * (m : Int) := by omega
      have n2 : 4 * (j : Int) + 2 < 4 * (m : Int) := by omega
      have n3 : 4 * (j : Int) + 3 < 4 * (m : Int) := by omega
      have p0 : 0 ≤ 4 * (j : Int) := by omega
      have p1 : 0 ≤ 4 * (j : Int) + 1 := by omega
      have p2 : 0 ≤ 4 * (j : Int) + 2 := by omega
      have p3 : 0 ≤ 4 * (j : Int) + 3 := by omega
      have q0 : (4 * (j : Int)).toNat = 4 * j := by omega
      have q1 : (4 * (j : Int) + 1).toNat = 4 * j + 1 := by omega
      have q2 : (4 * (j : Int) + 2).toNat = 4 * j + 2 := by omega
      have q3 : (4 * (j : Int) + 3).toNat = 4 * j + 3 := by omega
      go_region_held3 (fun w' => w'.cell? ⟨b, o + 4 * j, none⟩ = some (.int .u8 x0) ∧ w'.cell? ⟨b, o + (4 * j + 1), none⟩ = some (.int .u8 x1) ∧ w'.cell? ⟨b, o + (4 * j + 2), none⟩ = some (.int .u8 x2) ∧ w'.cell? ⟨b, o + (4 * j + 3), none⟩ = some (.int .u8 x3)) (refine ⟨?_, ?_, ?_, ?_⟩ <;> (repeat (first | (with_reducible assumption) | (with_reducible refine cell_drew_keep ?_) | (with_reducible refine cell_alloc_keep ?_)))) (first | (refine step_append_any _ rfl (.tmp 25) (.tmp 59) _ rfl w.heap.size 3 i0 _ 1 8 Try.underlying48 hi0 hz0 hz1 hz2 rfl (by omega) _ j _ rfl (World.ownsRow.drew (World.ownsRow.alloc hown _)) (wr.heap.size + 1) (some ⟨wr.heap.size, 0, none⟩) 1 1 [.int .i64 (((x0 * 256 + x1) * 256 + x2) * 256 + x3)] rfl (Reads.drew (Reads.new wr #[.int .i64 (((x0 * 256 + x1) * 256 + x2) * 256 + x3)] 3)) (by simp [Value.oneCell']) (by simp only [maxLen]; omega) (by omega) (by simp; omega) ?_; intro v1' w2 hown1 hg1 hat1; have hk0 : w2.cell? ⟨b, o + 4 * j, none⟩ = some (.int .u8 x0) := (World.cell?_of_block (hg1.block b (by simp; omega) (fun e => by have := (hown.lt _ e.symm).1; omega))).trans (cell_alloc_keep c0); have hk1 : w2.cell? ⟨b, o + (4 * j + 1), none⟩ = some (.int .u8 x1) := (World.cell?_of_block (hg1.block b (by simp; omega) (fun e => by have := (hown.lt _ e.symm).1; omega))).trans (cell_alloc_keep c1); have hk2 : w2.cell? ⟨b, o + (4 * j + 2), none⟩ = some (.int .u8 x2) := (World.cell?_of_block (hg1.block b (by simp; omega) (fun e => by have := (hown.lt _ e.symm).1; omega))).trans (cell_alloc_keep c2); have hk3 : w2.cell? ⟨b, o + (4 * j + 3), none⟩ = some (.int .u8 x3) := (World.cell?_of_block (hg1.block b (by simp; omega) (fun e => by have := (hown.lt _ e.symm).1; omega))).trans (cell_alloc_keep c3)))
      clear v0 v1 v2 v3 u0 u1 u2 u3 u4 u5 t0 t1 t2 t3 n0 n1 n2 n3 p0 p1 p2 p3 q0 q1 q2 q3
      go_wp2_with fail
      go_roundw
      case rel =>
        refine ⟨j + 1, by go_num, by omega, ?_, Below.grown (w := ((wr.alloc (.cells #[.int .i64 (((x0 * 256 + x1) * 256 + x2) * 256 + x3)] 3)).drew)) (by repeat (first | (with_reducible exact Below.refl _ _) | (with_reducible refine Below.drew ?_) | (with_reducible refine below_drewN ?_ _) | ((with_reducible refine Below.alloc ?_ ?_ _); rotate_left; (first | omega | (simp <;> omega)); rotate_right) | ((with_reducible refine Below.setCell ?_ ?_ _); rotate_left; (first | omega | (simp <;> omega)); rotate_right) | (with_reducible assumption) | (refine Below.trans ?_ (Below.mono (by assumption) ?_); rotate_left; (first | omega | (simp <;> omega)); rotate_right))) hg1 (by simp; omega) (fun g hg => (hown.lt g hg).1)⟩
        rw [ES.out, EG.out]
        have hx := hown1
        simp only [iv, List.map_append, List.map_cons, List.map_nil] at hx ⊢
        exact hx
      case measure => simp [intOf]; omega
    · obtain rfl : j = m := by omega
      have HO := Lib.hid (Frm.gn_i64 HH.out.2.1 j)
      go_wp2_with fail
      go_ret2
      exact ⟨A4, cap4, rfl, ⟨hown, HO.out⟩, hB⟩
theorem rget_any (A : Option Addr) (n cap : Nat) (many : Int) (l : List Int) (w : World) (hn : n ≤ 70368744177664) (hm : -9223372036854775808 ≤ many ∧ many ≤ 9223372036854775807) (h : Rd w w.heap.size A n l) :
    Calls Try.prog 27 #[.slice A n cap, .int .i64 many] w fun e w' => GPost w n many l e w' := by
  by_cases e : (n : Int) = 4 * many
  · obtain ⟨m, rfl⟩ : ∃ m : Nat, many = m := ⟨many.toNat, by omega⟩
    obtain rfl : n = 4 * m := by omega
    exact (rget_ok A m cap l w (by omega) h).mono fun e' w' ⟨A', cap', h1, h2, h3⟩ => ⟨.inr (.inr (.inr ⟨e, A', cap', h1, h2⟩)), h3⟩
  · exact rget_err A n cap many l w (by omega) hm e
end Go.Proofs.Yteakljjalmgicaa

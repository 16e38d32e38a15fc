/- A station: Program, Next. -/
import Derived.Test.YtiidkmnagfhgiaaStA
namespace Go.Proofs.Ytiidkmnagfhgiaa
open Go.RowKit
set_option maxHeartbeats 4000000
set_option maxRecDepth 100000
set_option linter.unusedSimpArgs false
set_option linter.unusedVariables false
attribute [local go_sem ↓] Go.wp_at_zero Go.wp_at_succ
section
variable {w : World} {base b mc rc : Nat} {MA RA : Option Addr} {s : Stn.St}
theorem program_any (h : IsSt w base b MA mc RA rc s) (hs : Stn.Inv s) :
    Calls Try.prog 38 #[.pointer (some ⟨b, 0, none⟩)] w fun e w' => e = .returned (.tuple #[.int .i64 (if s.some then s.prog else 0), .int .i64 (if s.some then 0 else 9)]) ∧ w = w' := by
  have N := Lib.hid (h.none hs)
  have c6 : w.cell? ⟨b, 6, none⟩ = some (.bool s.some) := blk_cell h.blk 6 rfl
  have c7 : w.cell? ⟨b, 7, none⟩ = some (.int .i64 s.prog) := blk_cell h.blk 7 rfl
  clear h hs
  cases hsm : s.some
  all_goals
    rw [hsm] at c6
    clear hsm
    go_enter Try.func38, Try.ntmps38
    go_wp2_with (refine N.out.mono ?_; rintro e w' ⟨rfl, rfl⟩)
    go_ret2
    exact ⟨rfl, rfl⟩
def nextN (s : Stn.St) : Int := if Stn.miss s = [] then 0 else s.sent + s.again
def nextE (s : Stn.St) : Int := if Stn.miss s = [] then 9 else 0
theorem snext_any (h : IsSt w base b MA mc RA rc s) (hs : Stn.Inv s) :
    Calls Try.prog 25 #[.pointer (some ⟨b, 0, none⟩)] w fun e w' => e = .returned (.tuple #[.int .i64 (nextN s), .int .i64 (nextE s)]) ∧ ∃ q, w' = w.drewN q := by
  have N := Lib.hid (h.none hs)
  have c1 : w.cell? ⟨b, 1, none⟩ = some (.int .i64 s.again) := blk_cell h.blk 1 rfl
  have c5 : w.cell? ⟨b, 5, none⟩ = some (.int .i64 s.sent) := blk_cell h.blk 5 rfl
  have c9 : w.cell? ⟨b, 9, none⟩ = some (.slice MA (Stn.miss s).length mc) := blk_cell h.blk 9 rfl
  have hb1 := hs.sent
  have hb2 := hs.again
  have hb3 := hs.now
  clear h hs
  by_cases hm : Stn.miss s = []
  · have E1 := Lib.hid (show nextN s = 0 by unfold nextN; rw [if_pos hm])
    have E2 := Lib.hid (show nextE s = 9 by unfold nextE; rw [if_pos hm])
    rw [hm] at c9
    clear hm
    go_enter Try.func25, Try.ntmps25
    go_wp2_with (refine N.out.mono ?_; rintro e w' ⟨rfl, rfl⟩)
    go_ret2
    exact ⟨ret_ii E1.out.symm E2.out.symm, 0, rfl⟩
  · have E1 := Lib.hid (show nextN s = s.sent + s.again by unfold nextN; rw [if_neg hm])
    have E2 := Lib.hid (show nextE s = 0 by unfold nextE; rw [if_neg hm])
    have hl : 0 < (Stn.miss s).length := List.length_pos_iff.2 hm
    have z : (((Stn.miss s).length : Int) == 0) = false := by rw [beq_eq_false_iff_ne]; omega
    have hr : -9223372036854775808 ≤ s.sent + s.again ∧ s.sent + s.again ≤ 9223372036854775807 := by omega
    clear hm hl
    go_enter Try.func25, Try.ntmps25
    go_wp2_with (refine N.out.mono ?_; rintro e w' ⟨rfl, rfl⟩)
    have W1 : IntKind.i64.wrap (s.sent + s.again) = s.sent + s.again := IntWalk.i64_in _ hr
    go_quiet (fail)
    go_wp2_with fail
    go_ret2
    exact ⟨ret_ii E1.out.symm E2.out.symm, _, rfl⟩
end
end Go.Proofs.Ytiidkmnagfhgiaa

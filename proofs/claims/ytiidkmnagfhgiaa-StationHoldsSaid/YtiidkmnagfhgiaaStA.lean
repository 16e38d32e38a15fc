/- A station in memory; none, last, check, State. -/
import Derived.Test.YtiidkmnagfhgiaaStnQ
import Derived.Test.YtiidkmnagfhgiaaRw
import Derived.Deep.DrawnRows
namespace Go.Proofs.Ytiidkmnagfhgiaa
open Go.RowKit
set_option maxHeartbeats 4000000
set_option maxRecDepth 100000
set_option linter.unusedSimpArgs false
set_option linter.unusedVariables false
attribute [local go_sem ↓] Go.wp_at_zero Go.wp_at_succ
/-- the command as an interface value -/
def curV (s : Stn.St) : Value :=
  if s.cmd = 0 then .nilIface else if s.cmd = 1 then .iface 94 (.agg #[]) else if s.cmd = 2 then .iface 92 (.agg #[]) else if s.cmd = 3 then .iface 111 (.agg #[.int .i64 s.at_]) else if s.cmd = 4 then .iface 113 (.agg #[]) else if s.cmd = 5 then .iface 114 (.agg #[]) else .iface 112 (.agg #[])
def repc (x : Stn.Rep) : List Value := [.bool x.1, .int .i64 x.2.1, .int .i64 x.2.2]
def repcs (l : List Stn.Rep) : List Value := l.flatMap repc
def stl (s : Stn.St) (MA : Option Addr) (mc : Nat) (RA : Option Addr) (rc : Nat) : List Value := [.int .i64 s.n, .int .i64 s.again, .int .i64 s.st, .int .i64 s.now, .int .i64 s.seq, .int .i64 s.sent, .bool s.some, .int .i64 s.prog, curV s, .slice MA (Stn.miss s).length mc, .slice RA s.n rc]
/-- block b is a station; whom it misses lies at MA, its reports at RA -/
structure IsSt (w : World) (base b : Nat) (MA : Option Addr) (mc : Nat) (RA : Option Addr) (rc : Nat) (s : Stn.St) : Prop where
  blk : w.heap[b]? = some (.cells (stl s MA mc RA rc).toArray 74 (0, 0))
  mrow : Row w base 3 1 MA (Stn.miss s).length mc ((Stn.miss s).map (fun (i : Nat) => .int .i64 i))
  rrow : Row w base 88 3 RA s.n rc (repcs s.seen)
  ge : base ≤ b
theorem snone_made (b : Nat) (cs : List Value) (n : Int) (w : World) (h : w.heap[b]? = some (.cells cs.toArray 74 (0, 0))) (h0 : cs[0]? = some (.int .i64 n)) (hn : n ≠ 0) :
    Calls Try.prog 40 #[.pointer (some ⟨b, 0, none⟩)] w fun e w' => e = .returned (.bool false) ∧ w = w' := by
  have c0 := blk_cell h 0 h0
  have z : (n == 0) = false := by rw [beq_eq_false_iff_ne]; exact hn
  clear h h0 hn
  go_enter Try.func40, Try.ntmps40
  go_wp2_with fail
  go_ret
  exact ⟨rfl, rfl⟩
theorem snone_zero (b : Nat) (cs : List Value) (w : World) (h : w.heap[b]? = some (.cells cs.toArray 74 (0, 0))) (h0 : cs[0]? = some (.int .i64 0)) :
    Calls Try.prog 40 #[.pointer (some ⟨b, 0, none⟩)] w fun e w' => e = .returned (.bool true) ∧ w = w' := by
  have c0 := blk_cell h 0 h0
  clear h h0
  go_enter Try.func40, Try.ntmps40
  go_wp2_with fail
  go_ret
  exact ⟨rfl, rfl⟩
theorem snone_nil (w : World) : Calls Try.prog 40 #[.pointer none] w fun e w' => e = .returned (.bool true) ∧ w = w' := by
  go_enter Try.func40, Try.ntmps40
  go_wp2_with fail
  go_ret
  exact ⟨rfl, rfl⟩
section
variable {w : World} {base b mc rc : Nat} {MA RA : Option Addr} {s : Stn.St}
theorem IsSt.none (h : IsSt w base b MA mc RA rc s) (hs : Stn.Inv s) : Calls Try.prog 40 #[.pointer (some ⟨b, 0, none⟩)] w fun e w' => e = .returned (.bool false) ∧ w = w' :=
  snone_made b _ s.n w h.blk rfl (by have := hs.n; omega)
theorem last_any (h : IsSt w base b MA mc RA rc s) (hs : Stn.Inv s) :
    Calls Try.prog 45 #[.pointer (some ⟨b, 0, none⟩)] w fun e w' => e = .returned (.int .i64 s.prog) ∧ w = w' := by
  have N := Lib.hid (h.none hs)
  have c7 : w.cell? ⟨b, 7, none⟩ = some (.int .i64 s.prog) := blk_cell h.blk 7 rfl
  clear h hs
  go_enter Try.func45, Try.ntmps45
  go_wp2_with (refine N.out.mono ?_; rintro e w' ⟨rfl, rfl⟩)
  go_ret
  exact ⟨rfl, rfl⟩
theorem state_any (h : IsSt w base b MA mc RA rc s) (hs : Stn.Inv s) :
    Calls Try.prog 13 #[.pointer (some ⟨b, 0, none⟩)] w fun e w' => e = .returned (.int .i64 s.st) ∧ w = w' := by
  have N := Lib.hid (h.none hs)
  have c2 : w.cell? ⟨b, 2, none⟩ = some (.int .i64 s.st) := blk_cell h.blk 2 rfl
  clear h hs
  go_enter Try.func13, Try.ntmps13
  go_wp2_with (refine N.out.mono ?_; rintro e w' ⟨rfl, rfl⟩)
  go_ret
  exact ⟨rfl, rfl⟩
theorem check_any (h : IsSt w base b MA mc RA rc s) (now : Int) :
    Calls Try.prog 47 #[.pointer (some ⟨b, 0, none⟩), .int .i64 now] w fun e w' => e = .returned (.int .i64 (Stn.timeE s now)) ∧ w = w' := by
  have c3 : w.cell? ⟨b, 3, none⟩ = some (.int .i64 s.now) := blk_cell h.blk 3 rfl
  clear h
  by_cases h1 : now < s.now
  · have E := Lib.hid (show Stn.timeE s now = 3 by unfold Stn.timeE; rw [if_neg (by omega)])
    go_enter Try.func47, Try.ntmps47
    go_wp2_with fail
    go_ret
    exact ⟨ret_int E.out.symm, rfl⟩
  · by_cases h2 : 3600000 < now
    · have E := Lib.hid (show Stn.timeE s now = 3 by unfold Stn.timeE; rw [if_neg (by omega)])
      go_enter Try.func47, Try.ntmps47
      go_wp2_with fail
      go_ret
      exact ⟨ret_int E.out.symm, rfl⟩
    · have E := Lib.hid (show Stn.timeE s now = 0 by unfold Stn.timeE; rw [if_pos (by omega)])
      go_enter Try.func47, Try.ntmps47
      go_wp2_with fail
      go_ret
      exact ⟨ret_int E.out.symm, rfl⟩
end
end Go.Proofs.Ytiidkmnagfhgiaa

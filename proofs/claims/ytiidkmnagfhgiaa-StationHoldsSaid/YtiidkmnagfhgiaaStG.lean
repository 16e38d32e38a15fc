/- The six commands. -/
import Derived.Test.YtiidkmnagfhgiaaStF
namespace Go.Proofs.Ytiidkmnagfhgiaa
open Go.RowKit
set_option maxHeartbeats 8000000
set_option maxRecDepth 100000
set_option linter.unusedSimpArgs false
set_option linter.unusedVariables false
attribute [local go_sem ↓] Go.wp_at_zero Go.wp_at_succ
section
variable {w w' : World} {base b mc rc : Nat} {MA RA : Option Addr} {s : Stn.St} {T : TypeId} {cv : Value} {k x : Int} {fk fm fs fd : FuncId}
theorem StPost.same (h : IsSt w base b MA mc RA rc s) (hB : Below w.heap.size w w') (err : Int) : StPost base b MA RA rc s [] err w (.returned (.tuple #[.slice none 0 0, .int .i64 err])) w' :=
  ⟨_, MA, mc, rfl, h.below hB (Nat.le_refl _), Keeps.of_below hB, Rof.nil _ _, .inl rfl⟩
theorem gvE_load (s : Stn.St) (now x : Int) : gvE s 1 now x x = Stn.giveE s 1 now x := by
  unfold gvE Stn.giveE
  simp
theorem gvE_other (s : Stn.St) (hs : Stn.Inv s) (k now x : Int) (hk : k ≠ 1) : gvE s k now x s.prog = Stn.giveE s k now x := by
  unfold gvE Stn.giveE
  rw [if_neg (by have := hs.prog; omega), if_neg (show ¬ (k = 1 ∧ _) from fun h => hk h.1)]
theorem give1_other (s : Stn.St) (k now x : Int) (hk : k ≠ 1) : give1 s k now x = Stn.give0 s k now x := by
  unfold give1 Stn.give0
  simp [hk]
theorem frames_some (s : Stn.St) (b : Bool) : Stn.frames { s with some := b } = Stn.frames s := rfl
/-- a command other than load -/
theorem give_other (h : IsSt w base b MA mc RA rc s) (hs : Stn.Inv s) (C : Cmd T cv k x fk fm fs fd) (hk : 1 ≤ k ∧ k ≤ 6) (hk1 : k ≠ 1) (now : Int) (hbase : base ≤ w.heap.size) :
    Calls Try.prog 44 #[.pointer (some ⟨b, 0, none⟩), .int .i64 now, .iface T cv, .int .i64 s.prog] w (StPost base b MA RA rc (Stn.give s k now x) (Stn.giveF s k now x) (Stn.giveE s k now x) w) := by
  by_cases he : Stn.giveE s k now x = 0
  · rw [he]
    have e1 : Stn.give s k now x = give1 s k now x := by rw [give1_other _ _ _ _ hk1]; unfold Stn.give; rw [if_pos he]
    have e2 : Stn.giveF s k now x = Stn.frames (give1 s k now x) := by rw [give1_other _ _ _ _ hk1]; unfold Stn.giveF; rw [if_pos he]
    rw [e1, e2]
    exact give_yes h hs C hk now s.prog (by rw [gvE_other s hs k now x hk1]; exact he) (fun e => absurd e hk1) (fun _ => rfl) hbase
  · have e1 : Stn.give s k now x = s := by unfold Stn.give; rw [if_neg he]
    have e2 : Stn.giveF s k now x = [] := by unfold Stn.giveF; rw [if_neg he]
    rw [e1, e2]
    refine (give_no h hs C now s.prog (by rw [gvE_other s hs k now x hk1]; exact he)).mono ?_
    rintro e w' ⟨rfl, hB⟩
    rw [gvE_other s hs k now x hk1]
    exact StPost.same h hB _
theorem sarm_any (h : IsSt w base b MA mc RA rc s) (hs : Stn.Inv s) (now : Int) (hbase : base ≤ w.heap.size) :
    Calls Try.prog 20 #[.pointer (some ⟨b, 0, none⟩), .int .i64 now] w (StPost base b MA RA rc (Stn.give s 2 now 0) (Stn.giveF s 2 now 0) (Stn.giveE s 2 now 0) w) := by
  have L := Lib.hid (last_any h hs)
  have G := Lib.hid (give_other h hs (cmd_arm) (by omega) (by omega) now hbase)
  clear h hs
  go_enter Try.func20, Try.ntmps20
  go_wp2_with fail
  refine L.out.mono ?_
  rintro e w' ⟨rfl, rfl⟩
  go_wp2_with fail
  refine G.out.mono ?_
  rintro e w' ⟨v, MA', mc', rfl, hP⟩
  have HP := Lib.hid hP
  clear hP
  go_wp2_with fail
  go_ret2
  exact ⟨v, MA', mc', rfl, HP.out⟩
theorem shold_any (h : IsSt w base b MA mc RA rc s) (hs : Stn.Inv s) (now : Int) (hbase : base ≤ w.heap.size) :
    Calls Try.prog 30 #[.pointer (some ⟨b, 0, none⟩), .int .i64 now] w (StPost base b MA RA rc (Stn.give s 4 now 0) (Stn.giveF s 4 now 0) (Stn.giveE s 4 now 0) w) := by
  have L := Lib.hid (last_any h hs)
  have G := Lib.hid (give_other h hs (cmd_hold) (by omega) (by omega) now hbase)
  clear h hs
  go_enter Try.func30, Try.ntmps30
  go_wp2_with fail
  refine L.out.mono ?_
  rintro e w' ⟨rfl, rfl⟩
  go_wp2_with fail
  refine G.out.mono ?_
  rintro e w' ⟨v, MA', mc', rfl, hP⟩
  have HP := Lib.hid hP
  clear hP
  go_wp2_with fail
  go_ret2
  exact ⟨v, MA', mc', rfl, HP.out⟩
theorem sresume_any (h : IsSt w base b MA mc RA rc s) (hs : Stn.Inv s) (now : Int) (hbase : base ≤ w.heap.size) :
    Calls Try.prog 31 #[.pointer (some ⟨b, 0, none⟩), .int .i64 now] w (StPost base b MA RA rc (Stn.give s 5 now 0) (Stn.giveF s 5 now 0) (Stn.giveE s 5 now 0) w) := by
  have L := Lib.hid (last_any h hs)
  have G := Lib.hid (give_other h hs (cmd_resume) (by omega) (by omega) now hbase)
  clear h hs
  go_enter Try.func31, Try.ntmps31
  go_wp2_with fail
  refine L.out.mono ?_
  rintro e w' ⟨rfl, rfl⟩
  go_wp2_with fail
  refine G.out.mono ?_
  rintro e w' ⟨v, MA', mc', rfl, hP⟩
  have HP := Lib.hid hP
  clear hP
  go_wp2_with fail
  go_ret2
  exact ⟨v, MA', mc', rfl, HP.out⟩
theorem sabort_any (h : IsSt w base b MA mc RA rc s) (hs : Stn.Inv s) (now : Int) (hbase : base ≤ w.heap.size) :
    Calls Try.prog 29 #[.pointer (some ⟨b, 0, none⟩), .int .i64 now] w (StPost base b MA RA rc (Stn.give s 6 now 0) (Stn.giveF s 6 now 0) (Stn.giveE s 6 now 0) w) := by
  have L := Lib.hid (last_any h hs)
  have G := Lib.hid (give_other h hs (cmd_abort) (by omega) (by omega) now hbase)
  clear h hs
  go_enter Try.func29, Try.ntmps29
  go_wp2_with fail
  refine L.out.mono ?_
  rintro e w' ⟨rfl, rfl⟩
  go_wp2_with fail
  refine G.out.mono ?_
  rintro e w' ⟨v, MA', mc', rfl, hP⟩
  have HP := Lib.hid hP
  clear hP
  go_wp2_with fail
  go_ret2
  exact ⟨v, MA', mc', rfl, HP.out⟩
theorem sstart_any (h : IsSt w base b MA mc RA rc s) (hs : Stn.Inv s) (now : Int) (at_ : Int) (hbase : base ≤ w.heap.size) :
    Calls Try.prog 28 #[.pointer (some ⟨b, 0, none⟩), .int .i64 now, .int .i64 at_] w (StPost base b MA RA rc (Stn.give s 3 now at_) (Stn.giveF s 3 now at_) (Stn.giveE s 3 now at_) w) := by
  have L := Lib.hid (last_any h hs)
  have G := Lib.hid (give_other h hs (cmd_start at_) (by omega) (by omega) now hbase)
  clear h hs
  go_enter Try.func28, Try.ntmps28
  go_wp2_with fail
  refine L.out.mono ?_
  rintro e w' ⟨rfl, rfl⟩
  go_wp2_with fail
  refine G.out.mono ?_
  rintro e w' ⟨v, MA', mc', rfl, hP⟩
  have HP := Lib.hid hP
  clear hP
  go_wp2_with fail
  go_ret2
  exact ⟨v, MA', mc', rfl, HP.out⟩
theorem sload_any (h : IsSt w base b MA mc RA rc s) (hs : Stn.Inv s) (now x : Int) (hbase : base ≤ w.heap.size) :
    Calls Try.prog 21 #[.pointer (some ⟨b, 0, none⟩), .int .i64 now, .int .i64 x] w (StPost base b MA RA rc (Stn.give s 1 now x) (Stn.giveF s 1 now x) (Stn.giveE s 1 now x) w) := by
  by_cases he : Stn.giveE s 1 now x = 0
  · rw [he]
    have e1 : Stn.give s 1 now x = { give1 s 1 now x with some := true } := by unfold Stn.give; rw [if_pos he]; simp [give1, Stn.give0]
    have e2 : Stn.giveF s 1 now x = Stn.frames (give1 s 1 now x) := by unfold Stn.giveF; rw [if_pos he]; rfl
    rw [e1, e2]
    have G := Lib.hid (give_yes h hs (cmd_at cmd_load x (by decide)) (by omega) now x (by rw [gvE_load]; exact he) (fun _ => rfl) (fun e => absurd rfl e) hbase)
    clear h hs he e1 e2
    go_enter Try.func21, Try.ntmps21
    go_wp2_with fail
    refine G.out.mono ?_
    rintro e w' ⟨v, MA', mc', rfl, hP⟩
    obtain ⟨hS, hK, hR, hA⟩ := hP
    have f6 := blk_free hS.blk 6
    have c6 : w'.cell? ⟨b, 6, none⟩ = some (.bool (give1 s 1 now x).some) := blk_cell hS.blk 6 rfl
    have HS := Lib.hid hS
    have HK := Lib.hid hK
    have HR := Lib.hid hR
    have HA := Lib.hid hA
    clear hS hK hR hA
    go_wp2_with fail
    go_ret2
    refine ⟨v, MA', mc', rfl, ⟨?_, ?_, ?_, HS.out.ge⟩, HK.out.setCell (.inl (.inl rfl)) _, ?_, HA.out⟩
    · have := blk_set HS.out.blk 6 (.bool true)
      rw [List.setIfInBounds_toArray] at this
      exact this
    · exact HS.out.mrow.far (fun g hg => HS.out.mne hg) _
    · exact HS.out.rrow.far (fun g hg => HS.out.rne hg) _
    · exact HR.out.far' HS.out.blk (by decide) (by decide) _ _
  · have e1 : Stn.give s 1 now x = s := by unfold Stn.give; rw [if_neg he]
    have e2 : Stn.giveF s 1 now x = [] := by unfold Stn.giveF; rw [if_neg he]
    rw [e1, e2]
    have G := Lib.hid (give_no h hs (cmd_at cmd_load x (by decide)) now x (by rw [gvE_load]; exact he))
    rw [gvE_load] at G
    have H := Lib.hid h
    have z : (Stn.giveE s 1 now x == 0) = false := by rw [beq_eq_false_iff_ne]; exact he
    obtain ⟨er, her⟩ : ∃ er, er = Stn.giveE s 1 now x := ⟨_, rfl⟩
    rw [← her] at G z ⊢
    clear h hs he e1 e2 her
    go_enter Try.func21, Try.ntmps21
    go_wp2_with fail
    refine G.out.mono ?_
    rintro e w' ⟨rfl, hB⟩
    have HB := Lib.hid hB
    clear hB
    go_wp2_with fail
    go_ret2
    exact StPost.same H.out HB.out _
end
end Go.Proofs.Ytiidkmnagfhgiaa

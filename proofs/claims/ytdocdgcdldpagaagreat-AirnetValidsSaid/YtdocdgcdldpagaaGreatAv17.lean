import Derived.Test.YtdocdgcdldpagaaGreatAp
import Derived.Test.YtdocdgcdldpagaaGreatAv16
namespace Go.Proofs.YtdocdgcdldpagaaGreat
open Go.RowKit
set_option maxHeartbeats 8000000
set_option maxRecDepth 100000
set_option linter.unusedSimpArgs false
set_option linter.unusedVariables false
attribute [local go_sem ↓] Go.wp_at_zero Go.wp_at_succ
section
variable {w w' : World} {base b mc rc : Nat} {MA RA : Option Addr} {s : Stn.St} {T : TypeId} {cv : Value} {k x : Int} {fk fm fs fd : FuncId}
theorem StPost.same (h : IsSt w base b MA mc RA rc s) (hB : Below w.heap.size w w') (err : Int) : StPost base b MA RA rc s [] err w (.returned (.tuple #[.slice none 0 0, .int .i64 err])) w' :=
  ⟨_, MA, mc, rfl, h.below hB (Nat.le_refl _), Keeps.of_below hB, Rof.nil _ _, .inl rfl⟩
theorem gvE_load (s : Stn.St) (now x : Int) : gvE s 1 now x x = Stn.giveE s 1 now x := by
  unfold gvE Stn.giveE
  simp
theorem gvE_other (s : Stn.St) (hs : Stn.Inv s) (k now x : Int) (hk : k ≠ 1) : gvE s k now x s.prog = Stn.giveE s k now x := by
  unfold gvE Stn.giveE
  rw [if_neg (by have := hs.prog; omega), if_neg (show ¬ (k = 1 ∧ _) from fun h => hk h.1)]
theorem give1_other (s : Stn.St) (k now x : Int) (hk : k ≠ 1) : give1 s k now x = Stn.give0 s k now x := by
  unfold give1 Stn.give0
  simp [hk]
theorem give_other (h : IsSt w base b MA mc RA rc s) (hs : Stn.Inv s) (C : Cmd T cv k x fk fm fs fd) (hk : 1 ≤ k ∧ k ≤ 6) (hk1 : k ≠ 1) (now : Int) (hbase : base ≤ w.heap.size) :
    Calls Tryz.prog 107 #[.pointer (some ⟨b, 0, none⟩), .int .i64 now, .iface T cv, .int .i64 s.prog] w (StPost base b MA RA rc (Stn.give s k now x) (Stn.giveF s k now x) (Stn.giveE s k now x) w) := by
  by_cases he : Stn.giveE s k now x = 0
  · rw [he]
    have e1 : Stn.give s k now x = give1 s k now x := by rw [give1_other _ _ _ _ hk1]; unfold Stn.give; rw [if_pos he]
    have e2 : Stn.giveF s k now x = Stn.frames (give1 s k now x) := by rw [give1_other _ _ _ _ hk1]; unfold Stn.giveF; rw [if_pos he]
    rw [e1, e2]
    exact give_yes h hs C hk now s.prog (by rw [gvE_other s hs k now x hk1]; exact he) (fun e => absurd e hk1) (fun _ => rfl) hbase
  · have e1 : Stn.give s k now x = s := by unfold Stn.give; rw [if_neg he]
    have e2 : Stn.giveF s k now x = [] := by unfold Stn.giveF; rw [if_neg he]
    rw [e1, e2]
    refine (give_no h hs C now s.prog (by rw [gvE_other s hs k now x hk1]; exact he)).mono ?_
    rintro e w' ⟨rfl, hB⟩
    rw [gvE_other s hs k now x hk1]
    exact StPost.same h hB _
theorem D5 {p : Prop} (h : p := by
  go_wp2_with fail
  refine L.out.mono ?_
  rintro e w' ⟨rfl, rfl⟩
  go_wp2_with fail
  refine G.out.mono ?_
  rintro e w' ⟨v, MA', mc', rfl, hP⟩
  have HP := Lib.hid hP
  clear hP
  go_wp2_with fail
  go_ret2
  exact ⟨v, MA', mc', rfl, HP.out⟩
 ) : p := h
theorem sarm_any (h : IsSt w base b MA mc RA rc s) (hs : Stn.Inv s) (now : Int) (hbase : base ≤ w.heap.size) :
    Calls Tryz.prog 67 #[.pointer (some ⟨b, 0, none⟩), .int .i64 now] w (StPost base b MA RA rc (Stn.give s 2 now 0) (Stn.giveF s 2 now 0) (Stn.giveE s 2 now 0) w) := by
  have L := Lib.hid (last_any h hs)
  have G := Lib.hid (give_other h hs (cmd_arm) Cb Cb now hbase)
  clear h hs
  go_enter Tryz.func67, Tryz.ntmps67
  exact D5
theorem shold_any (h : IsSt w base b MA mc RA rc s) (hs : Stn.Inv s) (now : Int) (hbase : base ≤ w.heap.size) :
    Calls Tryz.prog 69 #[.pointer (some ⟨b, 0, none⟩), .int .i64 now] w (StPost base b MA RA rc (Stn.give s 4 now 0) (Stn.giveF s 4 now 0) (Stn.giveE s 4 now 0) w) := by
  have L := Lib.hid (last_any h hs)
  have G := Lib.hid (give_other h hs (cmd_hold) Cb Cb now hbase)
  clear h hs
  go_enter Tryz.func69, Tryz.ntmps69
  exact D5
theorem sresume_any (h : IsSt w base b MA mc RA rc s) (hs : Stn.Inv s) (now : Int) (hbase : base ≤ w.heap.size) :
    Calls Tryz.prog 70 #[.pointer (some ⟨b, 0, none⟩), .int .i64 now] w (StPost base b MA RA rc (Stn.give s 5 now 0) (Stn.giveF s 5 now 0) (Stn.giveE s 5 now 0) w) := by
  have L := Lib.hid (last_any h hs)
  have G := Lib.hid (give_other h hs (cmd_resume) Cb Cb now hbase)
  clear h hs
  go_enter Tryz.func70, Tryz.ntmps70
  exact D5
theorem sabort_any (h : IsSt w base b MA mc RA rc s) (hs : Stn.Inv s) (now : Int) (hbase : base ≤ w.heap.size) :
    Calls Tryz.prog 71 #[.pointer (some ⟨b, 0, none⟩), .int .i64 now] w (StPost base b MA RA rc (Stn.give s 6 now 0) (Stn.giveF s 6 now 0) (Stn.giveE s 6 now 0) w) := by
  have L := Lib.hid (last_any h hs)
  have G := Lib.hid (give_other h hs (cmd_abort) Cb Cb now hbase)
  clear h hs
  go_enter Tryz.func71, Tryz.ntmps71
  exact D5
theorem sstart_any (h : IsSt w base b MA mc RA rc s) (hs : Stn.Inv s) (now : Int) (at_ : Int) (hbase : base ≤ w.heap.size) :
    Calls Tryz.prog 68 #[.pointer (some ⟨b, 0, none⟩), .int .i64 now, .int .i64 at_] w (StPost base b MA RA rc (Stn.give s 3 now at_) (Stn.giveF s 3 now at_) (Stn.giveE s 3 now at_) w) := by
  have L := Lib.hid (last_any h hs)
  have G := Lib.hid (give_other h hs (cmd_start at_) Cb Cb now hbase)
  clear h hs
  go_enter Tryz.func68, Tryz.ntmps68
  exact D5
theorem sload_any (h : IsSt w base b MA mc RA rc s) (hs : Stn.Inv s) (now x : Int) (hbase : base ≤ w.heap.size) :
    Calls Tryz.prog 66 #[.pointer (some ⟨b, 0, none⟩), .int .i64 now, .int .i64 x] w (StPost base b MA RA rc (Stn.give s 1 now x) (Stn.giveF s 1 now x) (Stn.giveE s 1 now x) w) := by
  by_cases he : Stn.giveE s 1 now x = 0
  · rw [he]
    have e1 : Stn.give s 1 now x = { give1 s 1 now x with some := true } := by unfold Stn.give; rw [if_pos he]; simp [give1, Stn.give0]
    have e2 : Stn.giveF s 1 now x = Stn.frames (give1 s 1 now x) := by unfold Stn.giveF; rw [if_pos he]; rfl
    rw [e1, e2]
    have G := Lib.hid (give_yes h hs (cmd_at cmd_load x C8) Cb now x (by rw [gvE_load]; exact he) (fun _ => rfl) (fun e => absurd rfl e) hbase)
    clear h hs he e1 e2
    go_enter Tryz.func66, Tryz.ntmps66
    go_wp2_with fail
    refine G.out.mono ?_
    rintro e w' ⟨v, MA', mc', rfl, hP⟩
    obtain ⟨hS, hK, hR, hA⟩ := hP
    have f6 := blk_free hS.blk 6
    have c6 : w'.cell? ⟨b, 6, none⟩ = some (.bool (give1 s 1 now x).some) := blk_cell hS.blk 6 rfl
    have HS := Lib.hid hS
    have HK := Lib.hid hK
    have HR := Lib.hid hR
    have HA := Lib.hid hA
    clear hS hK hR hA
    go_wp2_with fail
    go_ret2
    refine ⟨v, MA', mc', rfl, ⟨?_, ?_, ?_, HS.out.ge⟩, HK.out.setCell (.inl (.inl rfl)) _, ?_, HA.out⟩
    · have := blk_set HS.out.blk 6 (.bool true)
      rw [List.setIfInBounds_toArray] at this
      exact this
    · exact HS.out.mrow.far (fun g hg => HS.out.mne hg) _
    · exact HS.out.rrow.far (fun g hg => HS.out.rne hg) _
    · exact HR.out.far' HS.out.blk C8 C8 _ _
  · have e1 : Stn.give s 1 now x = s := by unfold Stn.give; rw [if_neg he]
    have e2 : Stn.giveF s 1 now x = [] := by unfold Stn.giveF; rw [if_neg he]
    rw [e1, e2]
    have G := Lib.hid (give_no h hs (cmd_at cmd_load x C8) now x (by rw [gvE_load]; exact he))
    rw [gvE_load] at G
    have H := Lib.hid h
    have z : (Stn.giveE s 1 now x == 0) = false := by rw [beq_eq_false_iff_ne]; exact he
    obtain ⟨er, her⟩ : ∃ er, er = Stn.giveE s 1 now x := ⟨_, rfl⟩
    rw [← her] at G z ⊢
    clear h hs he e1 e2 her
    go_enter Tryz.func66, Tryz.ntmps66
    go_wp2_with fail
    refine G.out.mono ?_
    rintro e w' ⟨rfl, hB⟩
    have HB := Lib.hid hB
    clear hB
    go_wp2_with fail
    go_ret2
    exact StPost.same H.out HB.out _
end
end Go.Proofs.YtdocdgcdldpagaaGreat
namespace Go.Proofs.YtdocdgcdldpagaaGreat
open Go.RowKit
set_option maxHeartbeats 8000000
set_option maxRecDepth 100000
set_option linter.unusedSimpArgs false
set_option linter.unusedVariables false
attribute [local go_sem ↓] Go.wp_at_zero Go.wp_at_succ
def ClPost (t : TypeId) (size n : Nat) (xs : List Value) (w : World) (e : Ending) (w' : World) : Prop := ∃ A' c', e = .returned (.slice A' n c') ∧ Row w' w.heap.size t size A' n c' xs ∧ Below w.heap.size w w'
theorem clonei_any (A : Option Addr) (n c base : Nat) (xs : List Value) (w : World) (hn : n ≤ 1000000) (h : Row w base 3 1 A n c xs) (h1 : ∀ v ∈ xs, v.oneCell' = true) :
    Calls Tryz.prog 62 #[.slice A n c] w (ClPost 3 1 n xs w) := by
  obtain ⟨i0, hi0, hz0, hz1, hz2⟩ := info_parts info_in
  have hr := h.reads
  cases A with
  | none =>
    rcases h.2 with ⟨_, h0, h00⟩ | ⟨g, o, cur, he, _⟩
    · subst h0; subst h00
      have hx : xs = [] := List.eq_nil_of_length_eq_zero (by simpa using h.1)
      subst hx
      have kn := fun (W : World) => Lib.run_eql_slice_nil (P := Tryz.prog) W 26 3 none 0 0 0 0 Tryz.underlying26
      simp only [Option.isNone] at kn
      clear h hr
      go_enter Tryz.func62, Tryz.ntmps62
      go_wp2_with fail
      go_ret
      exact ⟨none, 0, rfl, Row.nil _ _ _ _, A9⟩
    · cases he
  | some a =>
    have kn := fun (W : World) => Lib.run_eql_slice_nil (P := Tryz.prog) W 26 3 (some a) n c 0 0 Tryz.underlying26
    simp only [Option.isNone] at kn
    clear h
    go_enter Tryz.func62, Tryz.ntmps62
    go_wp2_with (at_builtin; refine wpList_append_any _ rfl (.tmp 5) (.tmp 6) _ rfl w.heap.size 3 i0 _ 1 8 Tryz.underlying26 hi0 hz0 hz1 hz2 rfl Cb (.slice (some ⟨w.heap.size, 0, none⟩) 0 0) 0 [] rfl (World.ownsRow_lit w #[] 0 (Nat.le_refl _) Bv rfl) w.heap.size (some a) n c xs rfl (hr.alloc (Nat.le_refl _) _) h1 Bn Cb C9 ?_; intro v1 w1 hown1 hg1 hat1)
    go_ret
    simp only [Nat.zero_add, List.nil_append] at hown1
    obtain ⟨A', cap', rfl⟩ := own_formS hown1
    exact ⟨A', cap', rfl, Row.of_own hown1, ((Below.refl _ _).alloc (Nat.le_refl _) _).grown hg1 C9 (fun k hk => by simp [Value.ownBlock] at hk; omega)⟩
theorem info_rep : (Tryz.prog.info? 165).map (fun i => (i.zero, i.size, i.bytes)) = some (some (.agg #[.bool false, .int .i64 0, .int .i64 0]), 3, 24) := by kernel_rfl
theorem ints_one (l : List Nat) : ∀ v ∈ l.map (fun (i : Nat) => Value.int .i64 i), v.oneCell' = true := by
  intro v hv
  simp only [List.mem_map] at hv
  obtain ⟨x, _, rfl⟩ := hv
  rfl
theorem repcs_at : ∀ (l : List Stn.Rep) (i j : Nat) (h : i < l.length), j < 3 → (repcs l)[i * 3 + j]? = (repc l[i])[j]?
  | [], i, j, h, _ => by simp at h
  | v :: vs, 0, j, h, hj => by
    rw [repcs, List.flatMap_cons, List.getElem?_append_left (by simp [repc]; omega)]
    simp
  | v :: vs, i + 1, j, h, hj => by
    rw [repcs, List.flatMap_cons, List.getElem?_append_right (by simp [repc]; omega)]
    rw [show (i + 1) * 3 + j - (repc v).length = i * 3 + j by simp [repc]; omega]
    exact repcs_at vs i j C4 hj
theorem length_repcs (l : List Stn.Rep) : (repcs l).length = l.length * 3 := by
  induction l with
  | nil => rfl
  | cons a l ih => rw [repcs, List.flatMap_cons, List.length_append, show l.flatMap repc = repcs l from rfl, ih]; simp [repc]; omega
section
variable {w w' : World} {base b mc rc : Nat} {MA RA : Option Addr} {s : Stn.St}
theorem missing_any (h : IsSt w base b MA mc RA rc s) (hs : Stn.Inv s) :
    Calls Tryz.prog 72 #[.pointer (some ⟨b, 0, none⟩)] w (ClPost 3 1 (Stn.miss s).length ((Stn.miss s).map (fun (i : Nat) => .int .i64 i)) w) := by
  have N := Lib.hid (h.none hs)
  have c9 : w.cell? ⟨b, 9, none⟩ = some (.slice MA (Stn.miss s).length mc) := blk_cell h.blk 9 rfl
  have CL := Lib.hid (clonei_any MA _ mc base _ w (by have := (miss_bd s hs).1; omega) h.mrow (ints_one _))
  obtain ⟨n, hn⟩ : ∃ n, n = (Stn.miss s).length := ⟨_, rfl⟩
  rw [← hn] at c9 CL ⊢
  clear h hs hn
  go_enter Tryz.func72, Tryz.ntmps72
  go_wp2_with fail
  refine N.out.mono ?_
  rintro e w' ⟨rfl, rfl⟩
  go_wp2_with fail
  refine CL.out.mono ?_
  rintro e w' ⟨A', c', rfl, hP⟩
  have HP := Lib.hid hP
  clear hP
  go_wp2_with fail
  go_ret
  exact ⟨A', c', rfl, HP.out⟩
end
end Go.Proofs.YtdocdgcdldpagaaGreat
namespace Go.Proofs.YtdocdgcdldpagaaGreat
open Go.RowKit
set_option maxHeartbeats 8000000
set_option maxRecDepth 100000
set_option linter.unusedSimpArgs false
set_option linter.unusedVariables false
attribute [local go_sem ↓] Go.wp_at_zero Go.wp_at_succ
section
variable {w w' : World} {base b mc rc : Nat} {MA RA : Option Addr} {s : Stn.St}
theorem IsSt.set (h : IsSt w base b MA mc RA rc s) (o : Nat) (u : Value) (s' : Stn.St) (hl : (stl s MA mc RA rc).set o u = stl s' MA mc RA rc) (hm : Stn.miss s' = Stn.miss s) (hn : s'.n = s.n) (hr : s'.seen = s.seen) : IsSt (w.setCell ⟨b, o, Option.none⟩ u) base b MA mc RA rc s' := by
  refine ⟨?_, ?_, ?_, h.ge⟩
  · have := blk_set h.blk o u
    rw [List.setIfInBounds_toArray, hl] at this
    exact this
  · rw [hm]; exact h.mrow.far (fun g hg => h.mne hg) _
  · rw [hn, hr]; exact h.rrow.far (fun g hg => h.rne hg) _
theorem tick_no (h : IsSt w base b MA mc RA rc s) (hs : Stn.Inv s) (now : Int) (ht : Stn.timeE s now ≠ 0) :
    Calls Tryz.prog 57 #[.pointer (some ⟨b, 0, none⟩), .int .i64 now] w (StPost base b MA RA rc s [] 3 w) := by
  have N := Lib.hid (h.none hs)
  have CH := Lib.hid (stcheck_any h now)
  rw [(timeE_cases s now).resolve_left ht] at CH
  have H := Lib.hid h
  clear h hs ht
  go_enter Tryz.func57, Tryz.ntmps57
  go_wp2_with fail
  refine N.out.mono ?_
  rintro e w' ⟨rfl, rfl⟩
  go_wp2_with fail
  refine CH.out.mono ?_
  rintro e w' ⟨rfl, rfl⟩
  go_wp2_with fail
  go_ret2
  exact StPost.same H.out (Below.refl _ _) _
theorem D6 {p : Prop} (h : p := by
  go_enter Tryz.func57, Tryz.ntmps57
  go_wp2_with fail
  refine N.out.mono ?_
  rintro e w' ⟨rfl, rfl⟩
  go_wp2_with fail
  refine CH.out.mono ?_
  rintro e w' ⟨rfl, rfl⟩
  go_wp2_with fail
  go_quiet (fail)
  go_wp2_with fail
  go_ret2
  rw [E2.out, E3.out]
  exact ⟨_, MA, mc, rfl, H3.out.drewN _, HK3.out.drewN _, Rof.nil _ _, .inl rfl⟩
 ) : p := h
theorem tick_any (h : IsSt w base b MA mc RA rc s) (hs : Stn.Inv s) (now : Int) (hbase : base ≤ w.heap.size) :
    Calls Tryz.prog 57 #[.pointer (some ⟨b, 0, none⟩), .int .i64 now] w (StPost base b MA RA rc (Stn.tick s now) (Stn.tickF s now) (Stn.timeE s now) w) := by
  by_cases ht : Stn.timeE s now = 0
  · have N := Lib.hid (h.none hs)
    have CH := Lib.hid (stcheck_any h now)
    rw [ht] at CH
    obtain ⟨hn1, hn2⟩ := Stn.timeE_ok ht
    have hb1 := hs.sent
    have hb2 := hs.again
    have hb3 := hs.now
    have h3 : IsSt (w.setCell ⟨b, 3, none⟩ (.int .i64 now)) base b MA mc RA rc { s with now := now } := h.set 3 _ _ rfl rfl rfl rfl
    have hi3 := Stn.inv_now hs ht
    have f3 := blk_free h.blk 3
    have c3 : w.cell? ⟨b, 3, none⟩ = some (.int .i64 s.now) := blk_cell h.blk 3 rfl
    have c1 : w.cell? ⟨b, 1, none⟩ = some (.int .i64 s.again) := blk_cell h.blk 1 rfl
    have c5 : w.cell? ⟨b, 5, none⟩ = some (.int .i64 s.sent) := blk_cell h.blk 5 rfl
    have f5 := blk_free h.blk 5
    have c9 : w.cell? ⟨b, 9, none⟩ = some (.slice MA (Stn.miss s).length mc) := blk_cell h.blk 9 rfl
    have hb := h.lt
    have HI3 := Lib.hid hi3
    have H3 := Lib.hid h3
    have hk3 : Keeps (Three b MA RA) w (w.setCell ⟨b, 3, none⟩ (.int .i64 now)) := (Keeps.refl _ _).setCell (.inl (.inl rfl)) _
    have HK3 := Lib.hid hk3
    rw [ht]
    by_cases hm : Stn.miss s = []
    · have E1 : Stn.tickYes s now = false := by unfold Stn.tickYes; rw [decide_eq_false (by simp [hm])]; rfl
      have E2 := Lib.hid (show Stn.tick s now = { s with now := now } by unfold Stn.tick; rw [if_pos ht, E1]; rfl)
      have E3 := Lib.hid (show Stn.tickF s now = [] by unfold Stn.tickF; rw [E1]; simp)
      rw [hm] at c9
      clear h hs ht h3 hi3 hm E1 hk3
      exact D6
    · have hl : 0 < (Stn.miss s).length := List.length_pos_iff.2 hm
      have z : (((Stn.miss s).length : Int) == 0) = false := by rw [beq_eq_false_iff_ne]; omega
      have W1 : IntKind.i64.wrap (now - s.sent) = now - s.sent := IntWalk.i64_in _ Cb
      by_cases ha : s.sent + s.again ≤ now
      · have E1 : Stn.tickYes s now = true := by unfold Stn.tickYes; rw [decide_eq_true hm, decide_eq_true ha]; rfl
        have E2 := Lib.hid (show Stn.tick s now = { s with now := now, sent := now } by unfold Stn.tick; rw [if_pos ht, E1]; rfl)
        have E3 := Lib.hid (show Stn.tickF s now = Stn.frames { s with now := now, sent := now } by unfold Stn.tickF; rw [if_pos ⟨ht, E1⟩, E2.out])
        have hc0 : s.cmd ≠ 0 := fun e => hm (by unfold Stn.miss; rw [if_pos e])
        have h5 : IsSt ((w.setCell ⟨b, 3, none⟩ (.int .i64 now)).setCell ⟨b, 5, none⟩ (.int .i64 now)) base b MA mc RA rc { s with now := now, sent := now } := h3.set 5 _ _ rfl rfl rfl rfl
        have hi5 : Stn.Inv { s with now := now, sent := now } := by
          have := Stn.inv_tick (now := now) hs
          rw [E2.out] at this
          exact this
        have H5 := Lib.hid h5
        have FR := Lib.hid (fun q => frames_any (h5.drewN q) hi5 hc0)
        have hk5 : Keeps (Three b MA RA) w ((w.setCell ⟨b, 3, none⟩ (.int .i64 now)).setCell ⟨b, 5, none⟩ (.int .i64 now)) := hk3.setCell (.inl (.inl rfl)) _
        have HK5 := Lib.hid hk5
        have zz : decide (now - s.sent < s.again) = false := by rw [decide_eq_false_iff_not]; omega
        clear h hs ht h3 hi3 hm E1 hk3 hk5 h5 hi5 ha hc0 hl
        go_enter Tryz.func57, Tryz.ntmps57
        go_wp2_with fail
        refine N.out.mono ?_
        rintro e w' ⟨rfl, rfl⟩
        go_wp2_with fail
        refine CH.out.mono ?_
        rintro e w' ⟨rfl, rfl⟩
        go_wp2_with fail
        go_quiet (fail)
        go_wp2_with fail
        refine (FR.out _).mono ?_
        rintro e w6 ⟨v, rfl, hR, hB6⟩
        have HR := Lib.hid hR
        have HB6 := Lib.hid hB6
        clear hR hB6
        go_wp2_with fail
        go_ret2
        rw [E2.out, E3.out]
        exact ⟨v, MA, mc, rfl, (H5.out.drewN _).below HB6.out (Nat.le_refl _), (HK5.out.drewN _).trans (Keeps.of_below (S := fun _ => False) HB6.out) (fun _ _ h => h.elim), HR.out.more (by simp [World.setCell]), .inl rfl⟩
      · have E1 : Stn.tickYes s now = false := by unfold Stn.tickYes; rw [decide_eq_false ha]; simp
        have E2 := Lib.hid (show Stn.tick s now = { s with now := now } by unfold Stn.tick; rw [if_pos ht, E1]; rfl)
        have E3 := Lib.hid (show Stn.tickF s now = [] by unfold Stn.tickF; rw [E1]; simp)
        have zz : decide (now - s.sent < s.again) = true := by rw [decide_eq_true_iff]; omega
        clear h hs ht h3 hi3 hm E1 hk3 ha hl
        exact D6
  · have E2 : Stn.tick s now = s := by unfold Stn.tick; rw [if_neg ht]
    have E3 : Stn.tickF s now = [] := by unfold Stn.tickF; rw [if_neg (fun h => ht h.1)]
    rw [E2, E3, (timeE_cases s now).resolve_left ht]
    exact tick_no h hs now ht
end
theorem made_reps (n : Nat) : (madeCells #[.bool false, .int .i64 0, .int .i64 0] (n * 3)).toList = repcs (List.replicate n (false, 0, 0)) := by
  apply List.ext_getElem?
  intro i
  by_cases hi : i < n * 3
  · have e := repcs_at (List.replicate n (false, 0, 0)) (i / 3) (i % 3) (by rw [List.length_replicate]; omega) Cb
    rw [show i / 3 * 3 + i % 3 = i by omega] at e
    rw [e]
    have h3 : i % 3 = 0 ∨ i % 3 = 1 ∨ i % 3 = 2 := by omega
    simp only [madeCells, Array.toList_map, Array.toList_range, List.getElem?_map, List.getElem?_range hi, Option.map_some, List.getElem_replicate]
    rcases h3 with h | h | h <;> rw [show (#[Value.bool false, Value.int .i64 0, Value.int .i64 0] : Array Value).size = 3 from rfl, h] <;> rfl
  · rw [List.getElem?_eq_none, List.getElem?_eq_none]
    · rw [length_repcs, List.length_replicate]; omega
    · rw [Array.length_toList, size_madeCells]; omega
theorem snew_yes (n : Nat) (again : Int) (w : World) (h : Stn.newE n again = 0) : Calls Tryz.prog 63 #[.int .i64 n, .int .i64 again] w fun e w' => ∃ b RA, e = .returned (.tuple #[.pointer (some ⟨b, 0, none⟩), .int .i64 0]) ∧ IsSt w' w.heap.size b none 0 RA n (Stn.new n again) ∧ Below w.heap.size w w' := by
  obtain ⟨i0, hi0, hz0, hz1, hz2⟩ := info_parts info_rep
  have hh : 1 ≤ (n : Int) ∧ (n : Int) ≤ 64 ∧ 1 ≤ again ∧ again ≤ 60000 := by
    unfold Stn.newE at h
    split at h
    · assumption
    · omega
  obtain ⟨h1, h2, h3, h4⟩ := hh
  have hmk : ∀ W : World, (Instr.makeSlice 160 (.int .i64 (n : Int)) (.int .i64 (n : Int))).run Tryz.prog W = .ok (.slice (some ⟨W.heap.size, 0, none⟩) n n) (W.alloc (.cells (madeCells #[.bool false, .int .i64 0, .int .i64 0] (n * 3)) 165)) := fun W => by
    have := run_make (P := Tryz.prog) W 160 165 i0 _ Tryz.underlying160 hi0 hz0 .i64 .i64 n n Cb (Int.le_refl _) (by rw [hz2]; omega) Cb
    rw [hz1, Int.toNat_natCast] at this
    exact this
  clear h
  go_enter Tryz.func63, Tryz.ntmps63
  go_wp2_with fail
  go_ret2
  refine ⟨w.heap.size + 1, some ⟨w.heap.size, 0, none⟩, rfl, ⟨?_, ?_, ?_, ?_⟩, A9⟩
  · exact heap_new' _ _ _ C9
  · exact Row.nil _ _ _ _
  · refine Row.of_block (blk_alloc (heap_new _ _) _) (Nat.le_refl _) (Nat.le_refl _) Bv Bo ?_
    rw [List.drop_zero, made_reps, List.take_of_length_le (by rw [length_repcs, List.length_replicate]; exact Nat.le_refl _)]
    rfl
  · simp
end Go.Proofs.YtdocdgcdldpagaaGreat
namespace Go.Proofs.YtdocdgcdldpagaaGreat
open Go.RowKit
set_option maxHeartbeats 8000000
set_option maxRecDepth 100000
set_option linter.unusedSimpArgs false
set_option linter.unusedVariables false
attribute [local go_sem ↓] Go.wp_at_zero Go.wp_at_succ
theorem nan1_any (x : Int) (w : World) : Calls Tryz.prog 173 #[.int .i64 x] w fun e w' => e = .returned (.bool false) ∧ w = w' := by
  go_enter Tryz.func173, Tryz.ntmps173
  go_wp2_with fail
  go_ret
  exact ⟨ret_bool C9, rfl⟩
theorem nan2_any (x : Int) (w : World) : Calls Tryz.prog 157 #[.int .i64 x] w fun e w' => e = .returned (.bool false) ∧ w = w' := by
  go_enter Tryz.func157, Tryz.ntmps157
  go_wp2_with fail
  go_ret
  exact ⟨ret_bool C9, rfl⟩
theorem less_any (x y : Int) (w : World) : Calls Tryz.prog 156 #[.int .i64 x, .int .i64 y] w fun e w' => e = .returned (.bool (decide (x < y))) ∧ w = w' := by
  have N := Lib.hid (fun W : World => nan1_any x W)
  go_enter Tryz.func156, Tryz.ntmps156
  go_wp2_with fail
  refine (N.out _).mono ?_
  rintro e w1 ⟨rfl, rfl⟩
  go_wp2_with fail
  go_ret
  exact ⟨ret_bool C9, rfl⟩
theorem sorted_lt {l : List Nat} (h : l.Pairwise (· < ·)) {i j x y : Nat} (hij : i ≤ j) (hi : l[i]? = some x) (hj : l[j]? = some y) : x ≤ y := by
  rcases Nat.lt_or_ge i j with h1 | h1
  · obtain ⟨a1, rfl⟩ := List.getElem?_eq_some_iff.1 hi
    obtain ⟨a2, rfl⟩ := List.getElem?_eq_some_iff.1 hj
    exact Nat.le_of_lt (List.pairwise_iff_getElem.1 h _ _ a1 a2 h1)
  · obtain rfl : i = j := by omega
    rw [hi] at hj; injection hj with hj; omega
theorem D7 {p : Prop} (h : p := by
  go_wp2_with fail
  go_ret2
  exact ⟨⟨i, hj, by rw [E.out]; rfl, HA.out, HB.out⟩, rfl⟩
 ) : p := h
theorem search_any (A : Option Addr) (n c base : Nat) (l : List Nat) (x : Int) (w : World) (hn : n ≤ 1000000) (h : Row w base 3 1 A n c (l.map (fun (i : Nat) => .int .i64 i))) (hs : l.Pairwise (· < ·)) :
    Calls Tryz.prog 135 #[.slice A n c, .int .i64 x] w fun e w' => (∃ i : Nat, i ≤ n ∧ e = .returned (.tuple #[.int .i64 i, .bool (decide (∃ y, l[i]? = some y ∧ (y : Int) = x))]) ∧ (∀ t y, t < i → l[t]? = some y → (y : Int) < x) ∧ (∀ t y, i ≤ t → l[t]? = some y → x ≤ (y : Int))) ∧ w = w' := by
  have hl : l.length = n := by have := h.1; simpa using this
  have HR := Lib.hid h
  have HS := Lib.hid hs
  have HL := Lib.hid hl
  clear h hs hl
  go_enter Tryz.func135, Tryz.ntmps135
  go_wp2_with fail
  go_loop [7, 8] (fun s7 s8 => ∃ (i j : Nat), s7 = .int .i64 i ∧ s8 = .int .i64 j ∧ i ≤ j ∧ j ≤ n ∧ Hid (∀ t y, t < i → l[t]? = some y → (y : Int) < x) ∧ Hid (∀ t y, j ≤ t → l[t]? = some y → x ≤ (y : Int))) (fun s7 s8 => (intOf s8).toNat - (intOf s7).toNat)
  case atStart => exact ⟨0, n, by go_num, rfl, by omega, by omega, Lib.hid (fun t y ht => absurd ht Cb), Lib.hid (fun t y ht hy => by rw [List.getElem?_eq_none (by rw [HL.out]; exact ht)] at hy; cases hy)⟩
  case round =>
    obtain ⟨i, j, rfl, rfl, hij, hj, HA, HB⟩ := hrel
    by_cases hlt : i < j
    · obtain ⟨m, hm⟩ : ∃ m : Nat, m = (i + j) / 2 := ⟨_, rfl⟩
      have hmi : i ≤ m ∧ m < j := by omega
      have em : ((i : Int) + (j : Int)) / 2 = (m : Int) := by omega
      obtain ⟨g, o, cur, rfl, _, _, _, _, _, _, _, hcell, _⟩ := HR.out.some_ Cb
      obtain ⟨y, hy⟩ : ∃ y, l[m]? = some y := ⟨_, List.getElem?_eq_getElem (by rw [HL.out]; omega)⟩
      have k0 := hcell m (.int .i64 y) (by rw [List.getElem?_map, hy]; rfl)
      have HY := Lib.hid hy
      have LS := Lib.hid (fun W => less_any y x W)
      have hmn : (m : Int) < (n : Int) := by omega
      clear hcell hy hm
      by_cases hyx : (y : Int) < x
      · rw [decide_eq_true hyx] at LS
        have HA2 := Lib.hid (show ∀ t z, t < m + 1 → l[t]? = some z → (z : Int) < x from fun t z ht hz => by have := sorted_lt HS.out (by omega : t ≤ m) hz HY.out; omega)
        clear hyx
        go_wp2_with fail
        refine (LS.out _).mono ?_
        rintro e w1 ⟨rfl, rfl⟩
        go_wp2_with fail
        go_round
        case rel => exact ⟨m + 1, j, by go_num, rfl, by omega, by omega, HA2, HB⟩
        case measure => simp [intOf]; omega
      · rw [decide_eq_false hyx] at LS
        have HB2 := Lib.hid (show ∀ t z, m ≤ t → l[t]? = some z → x ≤ (z : Int) from fun t z ht hz => by have := sorted_lt HS.out ht HY.out hz; omega)
        clear hyx
        go_wp2_with fail
        refine (LS.out _).mono ?_
        rintro e w1 ⟨rfl, rfl⟩
        go_wp2_with fail
        go_round
        case rel => exact ⟨i, m, rfl, by go_num, by omega, by omega, HA, HB2⟩
        case measure => simp [intOf]; omega
    · obtain rfl : i = j := by omega
      by_cases hin : i < n
      · obtain ⟨g, o, cur, rfl, _, _, _, _, _, _, _, hcell, _⟩ := HR.out.some_ Cb
        obtain ⟨y, hy⟩ : ∃ y, l[i]? = some y := ⟨_, List.getElem?_eq_getElem (by rw [HL.out]; omega)⟩
        have k0 := hcell i (.int .i64 y) (by rw [List.getElem?_map, hy]; rfl)
        have HY := Lib.hid hy
        have hmn : (i : Int) < (n : Int) := by omega
        have NA := Lib.hid (fun W => nan2_any y W)
        clear hcell hy
        by_cases hyx : (y : Int) = x
        · have E := Lib.hid (show decide (∃ y, l[i]? = some y ∧ (y : Int) = x) = true from decide_eq_true ⟨y, HY.out, hyx⟩)
          have z : ((y : Int) == x) = true := by simpa using hyx
          clear hyx
          exact D7
        · have E := Lib.hid (show decide (∃ y, l[i]? = some y ∧ (y : Int) = x) = false from decide_eq_false (fun ⟨z, h1, h2⟩ => hyx (by rw [HY.out] at h1; injection h1 with h1; rw [h1]; exact h2)))
          have z : ((y : Int) == x) = false := by rw [beq_eq_false_iff_ne]; exact hyx
          clear hyx
          go_wp2_with fail
          refine (NA.out _).mono ?_
          rintro e w1 ⟨rfl, rfl⟩
          exact D7
      · have E := Lib.hid (show decide (∃ y, l[i]? = some y ∧ (y : Int) = x) = false from decide_eq_false (fun ⟨z, h1, h2⟩ => by rw [List.getElem?_eq_none (by rw [HL.out]; omega)] at h1; cases h1))
        exact D7
end Go.Proofs.YtdocdgcdldpagaaGreat

/- The reference's link: Receive. -/
import Derived.Test.YtgdpoiapkaahfaaRLkD
import Derived.Test.YtgdpoiapkaahfaaLkD
namespace Go.Proofs.Ytgdpoiapkaahfaa
open Go.RowKit
set_option maxHeartbeats 16000000
set_option maxRecDepth 100000
set_option linter.unusedSimpArgs false
set_option linter.unusedVariables false
attribute [local go_sem ↓] Go.wp_at_zero Go.wp_at_succ
theorem rrecv_no (r : Lnk.Ru) (s : Lnk.St) (A : Option Addr) (n c : Nat) (now : Int) (w : World) (he : Lnk.recvE s now ≠ 0) :
    Calls Try.prog 35 #[rlv r s A n c, .int .i64 now] w fun e w' => e = .returned (.tuple #[rlv r s A n c, .slice none 0 0, .int .i64 3]) ∧ Below w.heap.size w w' := by
  have cases : now < s.now ∨ (s.now ≤ now ∧ 1073741824 < now) := by
    unfold Lnk.recvE at he
    by_cases h1 : s.now ≤ now ∧ now ≤ 1073741824
    · rw [if_pos h1] at he; exact absurd rfl he
    · omega
  clear he
  simp only [rlv, rll] at *
  rcases cases with h1 | ⟨h1, h2⟩
  all_goals
    go_enter Try.func35, Try.ntmps35
    go_wp2_with fail
    refine bodyPost_ret (v := .tuple #[.agg #[.int .i64 r.loss, .int .i64 r.twice, .int .i64 r.least, .int .i64 r.most, .int .i64 r.seed, .int .u64 s.x, .int .i64 s.now, .slice A n c, .int .i64 s.sent, .int .i64 s.lost, .int .i64 s.dbl], .slice none 0 0, .int .i64 3]) ?_ rfl ⟨rfl, (by repeat (first | (with_reducible exact Below.refl _ _) | (with_reducible refine Below.drew ?_) | (with_reducible refine below_drewN ?_ _) | ((with_reducible refine Below.alloc ?_ ?_ _); rotate_left; (first | omega | (simp <;> omega)); rotate_right) | ((with_reducible refine Below.setCell ?_ ?_ _); rotate_left; (first | omega | (simp <;> omega)); rotate_right) | (with_reducible assumption) | (refine Below.trans ?_ (Below.mono (by assumption) ?_); rotate_left; (first | omega | (simp <;> omega)); rotate_right)))⟩
    simp [results, Try.results35, go_sem]
/-- what the reference's Receive gives -/
def RRecvPost (X : Nat → Prop) (r : Lnk.Ru) (s : Lnk.St) (now : Int) (w : World) (e : Ending) (w' : World) : Prop :=
  ∃ A' c' oA n oc, e = .returned (.tuple #[rlv r (Lnk.recv s now) A' (Lnk.recv s now).u.length c', .slice oA n oc, .int .i64 0]) ∧ RWay w' (fun i => X i ∨ w.heap.size ≤ i) A' (Lnk.recv s now).u.length (Lnk.recv s now).u ∧ (Lnk.recv s now).u.length ≤ c' ∧
    Rb w' w.heap.size w'.heap.size oA n ((Lnk.got s now).map (·.2)) ∧ Below w.heap.size w w'
/-- the first loop: what has arrived, sorted, and what is left -/
def RRel1 (rl : List RM) (now : Int) (n : Nat) (W : World) (H : Nat) (v7 v8 v9 : Value) (wr : World) : Prop :=
  ∃ (k : Nat) (oA : Option Addr) (on oc : Nat) (ro : List RM) (lA : Option Addr) (ln lc : Nat) (rf : List RM), v9 = .int .i64 k ∧ k ≤ n ∧ v7 = .slice oA on oc ∧ v8 = .slice lA ln lc ∧ on ≤ k ∧ ln ≤ k ∧
    ro.map RM.msg = Lnk.srt (((rl.map RM.msg).take k).filter (fun m => decide (m.1 ≤ now))) ∧ (∀ m ∈ ro, m ∈ rl) ∧ Row wr H 99 2 oA on oc (rmcs ro) ∧ (∀ g, blkOf oA = some g → blkOf lA ≠ some g) ∧
    rf.map RM.msg = ((rl.map RM.msg).take k).filter (fun m => decide (now < m.1)) ∧ (∀ m ∈ rf, m ∈ rl) ∧ Row wr H 99 2 lA ln lc (rmcs rf) ∧ Below H W wr
theorem Reads.new2 (w : World) (a b : Value) (t : TypeId) : Reads (w.alloc (.cells #[a, b] t)) (w.heap.size + 1) 2 (some ⟨w.heap.size, 0, none⟩) 1 [a, b] := by
  refine ⟨rfl, fun _ => ⟨_, rfl, by simp, fun i u hu => ?_⟩⟩
  rw [addr_add, Nat.zero_add]
  exact blk_cell (l := [a, b]) (heap_new w (.cells #[a, b] t)) i hu
/-- the new list behind an insertion -/
theorem ins_msgs {ro : List RM} {m : RM} {i : Nat} {u : List Lnk.Msg} (hro : ro.map RM.msg = Lnk.srt u) (hi : i ≤ ro.length) (h1 : ∀ (h : 0 < i), ∀ x, ro[i - 1]? = some x → x.t ≤ m.t) (h2 : ∀ j x, ro[j]? = some x → i ≤ j → m.t < x.t) :
    (ro.take i ++ ([m] ++ ro.drop i)).map RM.msg = Lnk.srt (u ++ [m.msg]) := by
  have hl : (Lnk.srt u).length = ro.length := by rw [← hro, List.length_map]
  have hat : ∀ j (h : j < (Lnk.srt u).length), ∃ x, ro[j]? = some x ∧ (Lnk.srt u)[j] = x.msg := fun j h => by
    have hj : j < ro.length := by omega
    refine ⟨ro[j], List.getElem?_eq_getElem hj, ?_⟩
    have : (Lnk.srt u)[j]? = some (ro[j].msg) := by rw [← hro, List.getElem?_map, List.getElem?_eq_getElem hj]; rfl
    rw [List.getElem?_eq_getElem h] at this
    exact Option.some.inj this
  rw [Lnk.srt_snoc, Lnk.ins_find (m := m.msg) (Lnk.sorted_srt u) (i := i) (by omega) (fun h => ?_) (fun j hj hij => ?_), ← hro]
  · simp [List.map_take, List.map_drop]
  · obtain ⟨x, hx, e⟩ := hat (i - 1) (by omega)
    rw [e]
    exact h1 h x hx
  · obtain ⟨x, hx, e⟩ := hat j hj
    rw [e]
    exact h2 j x hx hij
theorem rrel_ins {rl : List RM} {now : Int} {n : Nat} {W wo Vq w1 w2 w3 : World} {H k on ln i N c3 lc : Nat} {oA lA A3 : Option Addr} {ro rf : List RM} {m : RM} {ys : List Value} (hk : k < n) (hm : rl[k]? = some m) (hmn : m.t ≤ now) (hi : i ≤ on) (hon : on ≤ k) (hln : ln ≤ k)
    (hro : ro.map RM.msg = Lnk.srt (((rl.map RM.msg).take k).filter (fun m => decide (m.1 ≤ now)))) (hrom : ∀ m ∈ ro, m ∈ rl) (hlen : ro.length = on) (h1 : ∀ (h : 0 < i), ∀ x, ro[i - 1]? = some x → x.t ≤ m.t) (h2 : ∀ j x, ro[j]? = some x → i ≤ j → m.t < x.t)
    (hrow : Row w3 Vq.heap.size 99 2 A3 N c3 ys) (hN : N = on + 1) (hH : H ≤ wo.heap.size) (hdis : ∀ g, blkOf oA = some g → blkOf lA ≠ some g)
    (hrf : rf.map RM.msg = ((rl.map RM.msg).take k).filter (fun m => decide (now < m.1))) (hrfm : ∀ m ∈ rf, m ∈ rl) (hrol : Row Vq H 99 2 lA ln lc (rmcs rf)) (hV : wo.heap.size < Vq.heap.size)
    (hbq : Below wo.heap.size wo Vq) (hb1 : Below Vq.heap.size Vq w1) (hb2 : Below Vq.heap.size w1 w2) (hb3 : Below Vq.heap.size w2 w3) (hB : Below H W wo) (hys : ys = rmcs (ro.take i ++ ([m] ++ ro.drop i))) :
    RRel1 rl now n W H (.slice A3 N c3) (.slice lA ln lc) (.int .i64 (k + 1)) w3 := by
  subst hys; subst hN
  have hTK : (rl.map RM.msg).take (k + 1) = (rl.map RM.msg).take k ++ [m.msg] := by rw [List.take_add_one, List.getElem?_map, hm]; rfl
  have hins := ins_msgs (m := m) hro (by omega : i ≤ ro.length) h1 h2
  have z1 := hb1.size; have z2 := hb2.size; have z3 := hb3.size
  have hb13 : Below Vq.heap.size Vq w3 := (hb1.trans hb2).trans hb3
  refine ⟨k + 1, A3, on + 1, c3, ro.take i ++ ([m] ++ ro.drop i), lA, ln, lc, rf, by go_num, by omega, rfl, rfl, by omega, by omega, ?_, ?_, hrow.more (by omega), ?_, ?_, hrfm, hrol.below hb13 (Nat.le_refl _), ?_⟩
  · rw [hins, hTK, List.filter_append, List.filter_cons_of_pos (by have e : m.msg.1 = m.t := rfl; simp only [decide_eq_true_iff]; omega)]; rfl
  · intro y hy
    rcases List.mem_append.1 hy with hy | hy
    · exact hrom y (List.mem_of_mem_take hy)
    · rcases List.mem_append.1 hy with hy | hy
      · rw [List.mem_singleton.1 hy]; exact List.mem_of_getElem? hm
      · exact hrom y (List.mem_of_mem_drop hy)
  · intro g hg e
    have h3 := (hrow.lt hg).1
    have h4 := (hrol.lt e).2
    omega
  · rw [hTK, List.filter_append, hrf, List.filter_cons_of_neg (by have e : m.msg.1 = m.t := rfl; simp only [decide_eq_true_iff]; omega)]; simp
  · exact (hB.trans (hbq.mono hH)).trans (hb13.mono (by omega))
/-- the last loop: copies of what has arrived -/
def RRel3 (ro : List RM) (on : Nat) (V : World) (H : Nat) (v13 v14 : Value) (wr : World) : Prop :=
  ∃ (k : Nat) (bA : Option Addr) (bc : Nat) (rb : List RB), v14 = .int .i64 k ∧ k ≤ on ∧ v13 = .slice bA k bc ∧ Row wr H 37 1 bA k bc (rbcs rb) ∧ BGood wr H wr.heap.size rb ∧
    (∀ x ∈ rb, ∀ a, x.A = some a → a.block < wr.heap.size ∧ blkOf bA ≠ some a.block) ∧ rb.map (·.d) = (ro.take k).map (·.d) ∧ Below H V wr
theorem rbs_grow {wr w1 w4 : World} {H j bc c1 : Nat} {bA A4 A1 : Option Addr} {E : TypeId} {rb : List RB} {d : List Int} (hbr : Row wr H E 1 bA j bc (rbcs rb)) (hg : BGood wr H wr.heap.size rb) (hx : ∀ x ∈ rb, ∀ a, x.A = some a → a.block < wr.heap.size ∧ blkOf bA ≠ some a.block)
    (ho : Ow w1 wr.heap.size A1 d.length c1 d) (hb1 : Below wr.heap.size wr w1) (o : Obj) (hg4 : (w1.alloc o).grownBy w4 (blkOf bA)) (hat : blkOf A4 = blkOf bA ∨ blkOf A4 = some (w1.heap.size + 1)) (hH : H ≤ wr.heap.size) :
    BGood w4 H w4.heap.size (rb ++ [⟨A1, c1, d⟩]) ∧ ∀ y ∈ rb ++ [⟨A1, c1, d⟩], ∀ a, y.A = some a → a.block < w4.heap.size ∧ blkOf A4 ≠ some a.block := by
  have z1 := hb1.size
  have z4 : w1.heap.size + 1 ≤ w4.heap.size := by have := hg4.size; simpa using this
  have hA1 : ∀ a, A1 = some a → wr.heap.size ≤ a.block ∧ a.block < w1.heap.size := by
    intro a ha
    rcases ho.form with ⟨h1, _⟩ | ⟨g, h1, h2, h3, _⟩
    · rw [h1] at ha; cases ha
    · rw [h1] at ha; injection ha with ha; rw [← ha]; exact ⟨h2, h3⟩
  have k14 : Keeps (fun i => blkOf bA = some i) w1 w4 := ((Keeps.refl _ w1).alloc o).trans (Keeps.of_grown hg4 (S := fun i => blkOf bA = some i) (fun g h => h)) (fun _ _ h => h)
  have k04 : Keeps (fun i => blkOf bA = some i) wr w4 := (Keeps.of_below hb1 (S := fun i => blkOf bA = some i)).trans k14 (fun _ _ h => h)
  refine ⟨BGood.snoc ((hg.kept k04 (Nat.le_refl _) (fun x hx' a ha => (hx x hx' a ha).2)).more (by omega)) ⟨?_, ?_, ?_, ?_, ?_⟩, ?_⟩
  · exact (ho.rd.kept k14 (Nat.le_refl _) (fun a ha e => by have h1 := (hbr.lt e).2; have h2 := (hA1 a ha).1; omega)).more (by omega)
  · intro a ha
    have := (hA1 a ha).1
    omega
  · rcases ho.form with ⟨h1, h2, h3⟩ | ⟨g, h1, h2, h3, h4, h5⟩
    · simp only; omega
    · exact h4
  · rcases ho.form with ⟨h1, h2, h3⟩ | ⟨g, h1, h2, h3, h4, h5⟩
    · simp only [h3]; unfold maxLen; omega
    · exact h5
  · intro h0
    rcases ho.form with ⟨h1, h2, h3⟩ | ⟨g, h1, h2, h3, h4, h5⟩
    · exact h2
    · simp only [h1] at h0; cases h0
  · intro y hy a ha
    rcases List.mem_append.1 hy with hy | hy
    · obtain ⟨g1, g2⟩ := hx y hy a ha
      refine ⟨by omega, fun e => ?_⟩
      rcases hat with h5 | h5
      · exact g2 (by rw [← h5]; exact e)
      · rw [h5] at e; injection e with e; omega
    · rw [List.mem_singleton.1 hy] at ha
      obtain ⟨g1, g2⟩ := hA1 a ha
      refine ⟨by omega, fun e => ?_⟩
      rcases hat with h5 | h5
      · have := (hbr.lt (by rw [← h5]; exact e)).2; omega
      · rw [h5] at e; injection e with e; omega
theorem rrecv_yes (r : Lnk.Ru) (s : Lnk.St) (A : Option Addr) (n c : Nat) (now : Int) (w : World) (hnu : n = s.u.length) (hs : Lnk.Inv s) (X : Nat → Prop) (h : RWay w X A n s.u) (hnc : n ≤ c) (he : Lnk.recvE s now = 0) :
    Calls Try.prog 35 #[rlv r s A n c, .int .i64 now] w (RRecvPost X r s now w) := by
  obtain ⟨i0, hiA, hzA, hzB, hzC⟩ := info_parts rmsg_info
  obtain ⟨j0, hjA, hyA, hyB, hyC⟩ := info_parts info_u8
  obtain ⟨b0, hbA, hxA, hxB, hxC⟩ := info_parts bytes_info
  have hyes : s.now ≤ now ∧ now ≤ 1073741824 := by
    unfold Lnk.recvE at he
    split at he
    · assumption
    · omega
  obtain ⟨rl, hu, hrd, hgood, hxa, hxm⟩ := h.bound
  have hn1 : n ≤ 1000 := by have := hs.2.2.1; omega
  have hlen : rl.length = n := by have := hrd.1; rw [length_rmcs] at this; omega
  have HRD := Lib.hid hrd
  have HG := Lib.hid hgood
  have HXA := Lib.hid hxa
  have HXM := Lib.hid hxm
  have HU := Lib.hid hu
  have HLEN := Lib.hid hlen
  have HE := Lib.hid he
  have HNU := Lib.hid hnu
  have HS := Lib.hid hs
  clear h hrd hgood hxa hxm hu hlen he hnu hs
  simp only [rlv, rll] at *
  go_enter Try.func35, Try.ntmps35
  go_wp2_with fail
  generalize hW : World.alloc _ _ = W
  have k0 : W.heap[w.heap.size]? = some (.cells #[.int .i64 r.loss, .int .i64 r.twice, .int .i64 r.least, .int .i64 r.most, .int .i64 r.seed, .int .u64 s.x, .int .i64 now, .slice A n c, .int .i64 s.sent, .int .i64 s.lost, .int .i64 s.dbl] 28 (0, 0)) := by rw [← hW]; exact (by repeat (first | (with_reducible assumption) | ((with_reducible apply blk_far); rotate_left; (first | omega | (simp <;> omega)); rotate_right) | (with_reducible apply blk_drew) | (with_reducible apply blk_drewN) | (with_reducible exact heap_new _ _) | ((with_reducible apply heap_new'); (first | rfl | (simp <;> fail))) | (with_reducible apply blk_alloc)))
  have k1 : W.heap[w.heap.size + 1]? = some (.cells #[.int .i64 0, .int .i64 0, .int .i64 0, .int .i64 0, .int .i64 0, .int .u64 0, .int .i64 0, .slice none 0 0, .int .i64 0, .int .i64 0, .int .i64 0] 28 (0, 0)) := by rw [← hW]; exact (by repeat (first | (with_reducible assumption) | ((with_reducible apply blk_far); rotate_left; (first | omega | (simp <;> omega)); rotate_right) | (with_reducible apply blk_drew) | (with_reducible apply blk_drewN) | (with_reducible exact heap_new _ _) | ((with_reducible apply heap_new'); (first | rfl | (simp <;> fail))) | (with_reducible apply blk_alloc)))
  have hBW : Below w.heap.size w W := by rw [← hW]; exact (by repeat (first | (with_reducible exact Below.refl _ _) | (with_reducible refine Below.drew ?_) | (with_reducible refine below_drewN ?_ _) | ((with_reducible refine Below.alloc ?_ ?_ _); rotate_left; (first | omega | (simp <;> omega)); rotate_right) | ((with_reducible refine Below.setCell ?_ ?_ _); rotate_left; (first | omega | (simp <;> omega)); rotate_right) | (with_reducible assumption) | (refine Below.trans ?_ (Below.mono (by assumption) ?_); rotate_left; (first | omega | (simp <;> omega)); rotate_right)))
  have hzW : w.heap.size + 2 ≤ W.heap.size := by have := lt_of_block k1; omega
  have K0 := Lib.hid k0
  have K1 := Lib.hid k1
  have HBW := Lib.hid hBW
  clear hW k0 k1 hBW
  go_loopw [7, 8, 9] (fun v7 v8 v9 wr => RRel1 rl now n W W.heap.size v7 v8 v9 wr) (fun _ _ i _ => n - (intOf i).toNat)
  case atStart => exact ⟨0, none, 0, 0, [], none, 0, 0, [], by go_num, Nat.zero_le _, rfl, rfl, Nat.zero_le _, Nat.zero_le _, rfl, (fun m hm => by cases hm), Row.nil _ _ _ _, (fun g hg => by cases hg), rfl, (fun m hm => by cases hm), Row.nil _ _ _ _, Below.refl _ _⟩
  case round =>
    obtain ⟨k, oA, on, oc, ro, lA, ln, lc, rf, rfl, hk, rfl, rfl, hon, hln, hro, hrom, hrow, hdis, hrf, hrfm, hrol, hB⟩ := hrel
    have hzr := hB.size
    have hz2 : w.heap.size + 2 ≤ wr.heap.size := by omega
    have HRO := Lib.hid hro
    have HROM := Lib.hid hrom
    have HROW := Lib.hid hrow
    have HDIS := Lib.hid hdis
    have HRF := Lib.hid hrf
    have HRFM := Lib.hid hrfm
    have HROL := Lib.hid hrol
    have HB := Lib.hid hB
    have k0 := blk_below K0.out hB (by omega)
    have c7 := blk_cell (l := [.int .i64 r.loss, .int .i64 r.twice, .int .i64 r.least, .int .i64 r.most, .int .i64 r.seed, .int .u64 s.x, .int .i64 now, .slice A n c, .int .i64 s.sent, .int .i64 s.lost, .int .i64 s.dbl]) k0 7 rfl
    clear hro hrom hrow hdis hrf hrfm hrol hB k0
    by_cases hkl : k < n
    · obtain ⟨b, o, rfl, hb, hc⟩ := HRD.out.2 (by omega)
      obtain ⟨m, hm⟩ : ∃ m, rl[k]? = some m := ⟨_, List.getElem?_eq_getElem (by rw [HLEN.out]; exact hkl)⟩
      have hbb : ∀ j u, (rmcs rl)[j]? = some u → wr.cell? ⟨b, o + j, none⟩ = some u := fun j u hu => ((HBW.out.trans (HB.out.mono (by omega))).cell (p := ⟨b, o + j, none⟩) hb).trans (hc j u hu)
      have ct : wr.cell? ⟨b, o + k * 2, none⟩ = some (.int .i64 m.t) := hbb _ _ (rmcs_at hm).1
      have cd : wr.cell? ⟨b, o + k * 2 + 1, none⟩ = some (.slice m.A m.d.length m.c) := hbb _ _ (rmcs_at hm).2
      have HM := Lib.hid hm
      have hkn : (k : Int) < (n : Int) := by omega
      clear hc hbb hm
      by_cases hmn : m.t ≤ now
      · obtain ⟨wo, rfl⟩ : ∃ wo : World, wo = wr := ⟨_, rfl⟩
        have hle := HROW.out.le
        have hrolen : ro.length = on := by have := HROW.out.1; rw [length_rmcs] at this; omega
        have HROLEN := Lib.hid hrolen
        have hoc := hle.1
        clear hle hrolen
        go_wp2_with fail
        generalize hV : World.alloc _ _ = V
        have hmv : V.heap[wo.heap.size]? = some (.cells #[.int .i64 m.t, .slice m.A m.d.length m.c] 99 (0, 0)) := by rw [← hV]; exact heap_new _ _
        have hbv : Below wo.heap.size wo V := by rw [← hV]; exact (Below.refl _ _).alloc (Nat.le_refl _) _
        have hzv : wo.heap.size + 1 ≤ V.heap.size := by have := lt_of_block hmv; omega
        have HMV := Lib.hid hmv
        have HBV := Lib.hid hbv
        have cm : V.cell? ⟨wo.heap.size, 0, none⟩ = some (.int .i64 m.t) := blk_cell (l := [.int .i64 m.t, .slice m.A m.d.length m.c]) hmv 0 rfl
        clear hV hmv hbv ct cd
        go_loopw [11] (fun v wy => ∃ i q : Nat, v = .int .i64 i ∧ i ≤ on ∧ wy = V.drewN q ∧ Hid (∀ j x, ro[j]? = some x → i ≤ j → m.t < x.t)) (fun v _ => (intOf v).toNat)
        case atStart => exact ⟨on, 0, by go_num, Nat.le_refl _, rfl, Lib.hid (fun j x hx hj => by rw [List.getElem?_eq_none (by rw [HROLEN.out]; exact hj)] at hx; cases hx)⟩
        case round =>
          obtain ⟨i, q, rfl, hi, rfl, HI⟩ := hrel
          rcases Nat.eq_zero_or_pos i with h0 | h0
          · subst h0
            have HIE := Lib.hid (show ∀ (h : 0 < 0), ∀ x, ro[0 - 1]? = some x → x.t ≤ m.t from fun h => absurd h (by omega))
            go_wp2_with fail
            go_quiet (fail)
            generalize hVq : World.drewN _ _ = Vq
            have hbq : Below wo.heap.size wo Vq := by rw [← hVq]; first | exact below_drewN HBV.out _ | exact below_drewN (below_drewN HBV.out _) _
            have hzq : wo.heap.size + 1 ≤ Vq.heap.size := by rw [← hVq]; exact hzv
            have hmq : Vq.heap[wo.heap.size]? = some (.cells #[.int .i64 m.t, .slice m.A m.d.length m.c] 99 (0, 0)) := by rw [← hVq]; exact HMV.out
            have d0 := blk_cell (l := [.int .i64 m.t, .slice m.A m.d.length m.c]) hmq 0 rfl
            have d1 := blk_cell (l := [.int .i64 m.t, .slice m.A m.d.length m.c]) hmq 1 rfl
            have HOQ := Lib.hid (((Rds.of_row HROW.out).below hbq (Nat.le_refl _)).more (show wo.heap.size ≤ Vq.heap.size by omega))
            have HLQ := Lib.hid (HROL.out.below hbq (Nat.le_refl _))
            have HBQ := Lib.hid hbq
            have HMQ := Lib.hid hmq
            have HI2 := Lib.hid HI.out
            have b1 : ((0 : Nat) : Int) ≤ (oc : Int) := by omega
            have b2 : ((0 : Nat) : Int) ≤ (on : Int) := by omega
            clear hVq hbq hmq cm HI HMV HBV
            go_wp2_with (first
              | (at_builtin; refine wpList_append_any _ rfl (.const (.slice none 0 0)) (.tmp 65) _ rfl Vq.heap.size 99 i0 _ 2 32 Try.underlying26 hiA hzA hzB hzC rfl (by omega) (.slice none 0 0) 0 [] rfl (World.ownsRow_nil _ _ _ _) Vq.heap.size _ _ _ (rmcs (ro.take 0)) rfl (by rw [← rmcs_take]; exact (HOQ.out.take (by omega)).reads) (rmcs_one _) (by unfold maxLen; omega) (by omega) (Nat.le_refl _) ?_; intro v1 w1 hown1 hg1 hat1; simp only [Nat.zero_add, List.nil_append] at hown1; obtain ⟨A1, c1, rfl⟩ := own_formS hown1; have hz1 := hg1.size; have HO1 := Lib.hid hown1; have HB1 := Lib.hid (show Below Vq.heap.size Vq w1 from ⟨hg1.os, hg1.tape, hg1.output, hg1.size, fun j hj => hg1.block j hj (by simp [Value.ownBlock])⟩); have hm1 := blk_below HMQ.out HB1.out (by omega); have HM1 := Lib.hid hm1; have e0 := blk_cell (l := [.int .i64 m.t, .slice m.A m.d.length m.c]) hm1 0 rfl; have e1 := blk_cell (l := [.int .i64 m.t, .slice m.A m.d.length m.c]) hm1 1 rfl; clear hown1 hg1 hat1 hm1)
              | (at_builtin; refine wpList_append_any _ rfl (.tmp 67) (.tmp 69) _ rfl Vq.heap.size 99 i0 _ 2 32 Try.underlying26 hiA hzA hzB hzC rfl (by omega) (.slice A1 0 c1) 0 (rmcs (ro.take 0)) rfl (HO1.out.alloc _) (w1.heap.size + 1) (some ⟨w1.heap.size, 0, none⟩) 1 1 [.int .i64 m.t, .slice m.A m.d.length m.c] rfl (Reads.new2 w1 _ _ _) (pair_one rfl rfl) (by unfold maxLen; omega) (by omega) (by simp; omega) ?_; intro v2 w2 hown2 hg2 hat2; obtain ⟨A2, c2, rfl⟩ := own_formS hown2; have hz2 := hg2.size; (try simp at hz2); have HO2 := Lib.hid hown2; have HB2 := Lib.hid (show Below Vq.heap.size w1 w2 from Below.grown ((Below.refl _ _).alloc hz1 _) hg2 (by simp; omega) (fun g hg => ((HO1.out.lt) g hg).1)); clear hown2 hg2 hat2)
              | (at_builtin; refine wpList_append_any _ rfl (.tmp 71) (.tmp 74) _ rfl Vq.heap.size 99 i0 _ 2 32 Try.underlying26 hiA hzA hzB hzC rfl (by omega) (.slice A2 (0 + 1) c2) (0 + 1) (rmcs (ro.take 0) ++ [.int .i64 m.t, .slice m.A m.d.length m.c]) rfl HO2.out Vq.heap.size _ _ _ (rmcs (ro.drop 0)) rfl (by rw [← rmcs_drop]; first | exact (((HOQ.out.below HB1.out (Nat.le_refl _)).below HB2.out (Nat.le_refl _)).cut (by omega) (by omega)).reads | exact ((HOQ.out.below HB1.out (Nat.le_refl _)).below HB2.out (Nat.le_refl _)).reads) (rmcs_one _) (by unfold maxLen; omega) (by omega) (by omega) ?_; intro v3 w3 hown3 hg3 hat3; obtain ⟨A3, c3, rfl⟩ := own_formS hown3; have hz3 := hg3.size; have HO3 := Lib.hid hown3; have HB3 := Lib.hid (show Below Vq.heap.size w2 w3 from Below.grown (Below.refl _ _) hg3 (by omega) (fun g hg => ((HO2.out.lt) g hg).1)); clear hown3 hg3 hat3))
            go_roundw
            case rel => exact rrel_ins (i := 0) (H := W.heap.size) (wo := wo) (Vq := Vq) (on := on) (oA := oA) hkl HM.out hmn (by omega) hon hln HRO.out HROM.out HROLEN.out HIE.out HI2.out (Row.of_own HO3.out) (by omega) (by omega) HDIS.out HRF.out HRFM.out HLQ.out (by omega) HBQ.out HB1.out HB2.out HB3.out HB.out (by rw [rmcs_append, rmcs_append]; first | exact (List.append_assoc _ _ _) | rfl)
            case measure => simp [intOf]; omega
          · have hg0 : (0 : Int) < (i : Int) := by omega
            obtain ⟨x, hx⟩ : ∃ x, ro[i - 1]? = some x := ⟨_, List.getElem?_eq_getElem (by rw [HROLEN.out]; omega)⟩
            obtain ⟨g, o2, cur, hoA, hgb, hgl, hgg, hgn, hgc, hgf, hgt, hgx, hgz⟩ := HROW.out.some_ (by omega)
            subst hoA
            have c5 : V.cell? ⟨g, o2 + (i - 1) * 2, none⟩ = some (.int .i64 x.t) := (HBV.out.cell (p := ⟨g, o2 + (i - 1) * 2, none⟩) hgl).trans (hgx _ _ (rmcs_at hx).1)
            have i1 : (0 : Int) ≤ (i : Int) - 1 := by omega
            have i2 : (i : Int) - 1 < (on : Int) := by omega
            have i3 : ((i : Int) - 1).toNat = i - 1 := by omega
            have i4 : IntKind.i64.wrap ((i : Int) - 1) = (i : Int) - 1 := IntWalk.i64_in _ (by omega)
            have HXX := Lib.hid hx
            clear hx hgt hgx hgz hgg
            by_cases htx : m.t < x.t
            · go_wp2_with fail
              go_quiet (fail)
              go_wp2_with fail
              go_roundw
              case rel => exact ⟨i - 1, _, by go_num, by omega, by first | exact World.drewN_drewN _ _ _ | rfl, Lib.hid (fun j y hy hj => by
                rcases Nat.lt_or_ge j i with h | h
                · obtain rfl : j = i - 1 := by omega
                  rw [HXX.out] at hy
                  injection hy with hy
                  rw [← hy]; exact htx
                · exact HI.out j y hy h)⟩
              case measure => simp [intOf]; omega
            · have HIE := Lib.hid (show ∀ (h : 0 < i), ∀ y, ro[i - 1]? = some y → y.t ≤ m.t from fun h y hy => by rw [HXX.out] at hy; injection hy with hy; rw [← hy]; omega)
              go_wp2_with fail
              go_quiet (fail)
              clear c5 i1 i2 i3 i4
              by_cases hci : oc = i
              all_goals
                generalize hVq : World.drewN _ _ = Vq
                have hbq : Below wo.heap.size wo Vq := by rw [← hVq]; first | exact below_drewN HBV.out _ | exact below_drewN (below_drewN HBV.out _) _
                have hzq : wo.heap.size + 1 ≤ Vq.heap.size := by rw [← hVq]; exact hzv
                have hmq : Vq.heap[wo.heap.size]? = some (.cells #[.int .i64 m.t, .slice m.A m.d.length m.c] 99 (0, 0)) := by rw [← hVq]; exact HMV.out
                have d0 := blk_cell (l := [.int .i64 m.t, .slice m.A m.d.length m.c]) hmq 0 rfl
                have d1 := blk_cell (l := [.int .i64 m.t, .slice m.A m.d.length m.c]) hmq 1 rfl
                have HOQ := Lib.hid (((Rds.of_row HROW.out).below hbq (Nat.le_refl _)).more (show wo.heap.size ≤ Vq.heap.size by omega))
                have HLQ := Lib.hid (HROL.out.below hbq (Nat.le_refl _))
                have HBQ := Lib.hid hbq
                have HMQ := Lib.hid hmq
                have HI2 := Lib.hid HI.out
                have b1 : (i : Int) ≤ (oc : Int) := by omega
                have b2 : (i : Int) ≤ (on : Int) := by omega
                clear hVq hbq hmq cm HI HMV HBV
                go_wp2_with (first
                  | (at_builtin; refine wpList_append_any _ rfl (.const (.slice none 0 0)) (.tmp 65) _ rfl Vq.heap.size 99 i0 _ 2 32 Try.underlying26 hiA hzA hzB hzC rfl (by omega) (.slice none 0 0) 0 [] rfl (World.ownsRow_nil _ _ _ _) Vq.heap.size _ _ _ (rmcs (ro.take i)) rfl (by rw [← rmcs_take]; exact (HOQ.out.take (by omega)).reads) (rmcs_one _) (by unfold maxLen; omega) (by omega) (Nat.le_refl _) ?_; intro v1 w1 hown1 hg1 hat1; simp only [Nat.zero_add, List.nil_append] at hown1; obtain ⟨A1, c1, rfl⟩ := own_formS hown1; have hz1 := hg1.size; have HO1 := Lib.hid hown1; have HB1 := Lib.hid (show Below Vq.heap.size Vq w1 from ⟨hg1.os, hg1.tape, hg1.output, hg1.size, fun j hj => hg1.block j hj (by simp [Value.ownBlock])⟩); have hm1 := blk_below HMQ.out HB1.out (by omega); have HM1 := Lib.hid hm1; have e0 := blk_cell (l := [.int .i64 m.t, .slice m.A m.d.length m.c]) hm1 0 rfl; have e1 := blk_cell (l := [.int .i64 m.t, .slice m.A m.d.length m.c]) hm1 1 rfl; clear hown1 hg1 hat1 hm1)
                  | (at_builtin; refine wpList_append_any _ rfl (.tmp 67) (.tmp 69) _ rfl Vq.heap.size 99 i0 _ 2 32 Try.underlying26 hiA hzA hzB hzC rfl (by omega) (.slice A1 i c1) i (rmcs (ro.take i)) rfl (HO1.out.alloc _) (w1.heap.size + 1) (some ⟨w1.heap.size, 0, none⟩) 1 1 [.int .i64 m.t, .slice m.A m.d.length m.c] rfl (Reads.new2 w1 _ _ _) (pair_one rfl rfl) (by unfold maxLen; omega) (by omega) (by simp; omega) ?_; intro v2 w2 hown2 hg2 hat2; obtain ⟨A2, c2, rfl⟩ := own_formS hown2; have hz2 := hg2.size; (try simp at hz2); have HO2 := Lib.hid hown2; have HB2 := Lib.hid (show Below Vq.heap.size w1 w2 from Below.grown ((Below.refl _ _).alloc hz1 _) hg2 (by simp; omega) (fun g hg => ((HO1.out.lt) g hg).1)); clear hown2 hg2 hat2)
                  | (at_builtin; refine wpList_append_any _ rfl (.tmp 71) (.tmp 74) _ rfl Vq.heap.size 99 i0 _ 2 32 Try.underlying26 hiA hzA hzB hzC rfl (by omega) (.slice A2 (i + 1) c2) (i + 1) (rmcs (ro.take i) ++ [.int .i64 m.t, .slice m.A m.d.length m.c]) rfl HO2.out Vq.heap.size _ _ _ (rmcs (ro.drop i)) rfl (by rw [← rmcs_drop]; first | exact (((HOQ.out.below HB1.out (Nat.le_refl _)).below HB2.out (Nat.le_refl _)).cut (by omega) (by omega)).reads | (have h9 := (((HOQ.out.below HB1.out (Nat.le_refl _)).below HB2.out (Nat.le_refl _)).cut (k := i) (cap := oc) (by omega) (by omega)); rw [if_neg hci] at h9; simpa [addr_add] using h9.reads) | (have h9 := (((HOQ.out.below HB1.out (Nat.le_refl _)).below HB2.out (Nat.le_refl _)).cut (k := i) (cap := oc) (by omega) (by omega)); rw [if_pos hci] at h9; simpa using h9.reads) | exact ((HOQ.out.below HB1.out (Nat.le_refl _)).below HB2.out (Nat.le_refl _)).reads) (rmcs_one _) (by unfold maxLen; omega) (by omega) (by omega) ?_; intro v3 w3 hown3 hg3 hat3; obtain ⟨A3, c3, rfl⟩ := own_formS hown3; have hz3 := hg3.size; have HO3 := Lib.hid hown3; have HB3 := Lib.hid (show Below Vq.heap.size w2 w3 from Below.grown (Below.refl _ _) hg3 (by omega) (fun g hg => ((HO2.out.lt) g hg).1)); clear hown3 hg3 hat3))
                go_roundw
                case rel => exact rrel_ins (i := i) (H := W.heap.size) (wo := wo) (Vq := Vq) (on := on) (oA := some ⟨g, o2, none⟩) hkl HM.out hmn (by omega) hon hln HRO.out HROM.out HROLEN.out HIE.out HI2.out (Row.of_own HO3.out) (by omega) (by omega) HDIS.out HRF.out HRFM.out HLQ.out (by omega) HBQ.out HB1.out HB2.out HB3.out HB.out (by rw [rmcs_append, rmcs_append]; first | exact (List.append_assoc _ _ _) | rfl)
                case measure => simp [intOf]; omega
      · have hmn' : now < m.t := by omega
        go_wp2_with (at_builtin; refine wpList_append_row rfl (.tmp 42) (.tmp 44) _ rfl W.heap.size 99 i0 _ 2 32 Try.underlying26 hiA hzA hzB hzC rfl lA ln lc (rmcs rf) rfl ((HROL.out.alloc _).alloc _) ⟨wr.heap.size + 1, 0, none⟩ 1 1 [.int .i64 m.t, .slice m.A m.d.length m.c] rfl rfl (fun j u hu => by rw [addr_add, Nat.zero_add]; exact blk_cell (heap_new' _ _ _ (by simp)) j hu) (pair_one rfl rfl) (by omega) (by unfold maxLen; omega) (by omega) (by simp; omega) ?_; intro A4 c4 w4 hown4 hg4 hat4; have hz4 := hg4.size; (try simp at hz4); have HO4 := Lib.hid hown4; have HG4 := Lib.hid hg4; have HA4 := Lib.hid hat4; clear hown4 hg4 hat4)
        have HTK := Lib.hid (show (rl.map RM.msg).take (k + 1) = (rl.map RM.msg).take k ++ [m.msg] by rw [List.take_add_one, List.getElem?_map, HM.out]; rfl)
        go_roundw
        case rel =>
          refine ⟨k + 1, oA, on, oc, ro, A4, ln + 1, c4, rf ++ [m], by go_num, by omega, rfl, rfl, by omega, by omega, ?_, HROM.out, ((HROW.out.alloc _).alloc _).grown HG4.out (fun g hg e => HDIS.out g hg e.symm), ?_, ?_, ?_, ?_, ?_⟩
          · rw [HRO.out, HTK.out, List.filter_append, List.filter_cons_of_neg (by have e : m.msg.1 = m.t := rfl; simp only [decide_eq_true_iff]; omega)]; simp
          · intro g hg e
            rcases HA4.out with h | h
            · exact HDIS.out g hg (by rw [← h]; exact e)
            · rw [h] at e; injection e with e
              have := (HROW.out.lt hg).2
              simp at e; omega
          · rw [HTK.out, List.filter_append, List.map_append, HRF.out, List.filter_cons_of_pos (by have e : m.msg.1 = m.t := rfl; simp only [decide_eq_true_iff]; omega)]; rfl
          · intro y hy
            rcases List.mem_append.1 hy with hy | hy
            · exact HRFM.out y hy
            · rw [List.mem_singleton.1 hy]; exact List.mem_of_getElem? HM.out
          · rw [rmcs_append]; exact HO4.out
          · exact Below.grown ((HB.out.alloc (by omega) _).alloc (by simp; omega) _) HG4.out (by simp; omega) (fun g hg => (HROL.out.lt hg).1)
        case measure => simp [intOf]; omega
    · obtain rfl : k = n := by omega
      have hnu := HNU.out
      have hfil1 : ro.map RM.msg = Lnk.srt (s.u.filter (fun m => decide (m.1 ≤ now))) := by rw [HRO.out, HU.out, List.take_of_length_le (by omega)]
      have hfil2 : rf.map RM.msg = s.u.filter (fun m => decide (now < m.1)) := by rw [HRF.out, HU.out, List.take_of_length_le (by omega)]
      have HF1 := Lib.hid hfil1
      have HF2 := Lib.hid hfil2
      have hrolen : ro.length = on := by have := HROW.out.1; rw [length_rmcs] at this; omega
      have hrflen : rf.length = ln := by have := HROL.out.1; rw [length_rmcs] at this; omega
      have HOL := Lib.hid hrolen
      have HFL := Lib.hid hrflen
      have k0 := blk_below K0.out HB.out (by omega)
      have k1 := blk_below K1.out HB.out (by omega)
      have f7 := blk_free k0 7
      have KK0 := Lib.hid k0
      have KK1 := Lib.hid k1
      clear hnu hfil1 hfil2 hrolen hrflen k0 k1
      go_wp2_with fail
      generalize hV : World.setCell _ _ _ = V
      have e0 : V.heap[w.heap.size]? = some (.cells #[.int .i64 r.loss, .int .i64 r.twice, .int .i64 r.least, .int .i64 r.most, .int .i64 r.seed, .int .u64 s.x, .int .i64 now, .slice lA ln lc, .int .i64 s.sent, .int .i64 s.lost, .int .i64 s.dbl] 28 (0, 0)) := by rw [← hV]; exact blk_set KK0.out 7 (.slice lA ln lc)
      have e1 : V.heap[w.heap.size + 1]? = some (.cells #[.int .i64 0, .int .i64 0, .int .i64 0, .int .i64 0, .int .i64 0, .int .u64 0, .int .i64 0, .slice none 0 0, .int .i64 0, .int .i64 0, .int .i64 0] 28 (0, 0)) := by rw [← hV]; exact blk_far KK1.out (by simp) _
      have hkv : Keeps (fun i => i = w.heap.size) wr V := by rw [← hV]; exact (Keeps.refl (fun i => i = w.heap.size) _).setCell (p := ⟨w.heap.size, 7, none⟩) (.inl rfl) _
      have hzv := hkv.size
      have HE0 := Lib.hid e0
      have HE1 := Lib.hid e1
      have HOV := Lib.hid (HROW.out.kept hkv (fun g hg => by have := (HROW.out.lt hg).1; omega))
      have HLV := Lib.hid (HROL.out.kept hkv (fun g hg => by have := (HROL.out.lt hg).1; omega))
      have HBV := Lib.hid ((HBW.out.trans (HB.out.mono (by omega))).trans (hkv.below (B := w.heap.size) (fun i _ hi => by omega) (by omega)))
      have hgv : RMGood V V.heap.size rl := HG.out.keepX (S := fun i => w.heap.size ≤ i) ⟨HBV.out.os, HBV.out.tape, HBV.out.output, HBV.out.size, fun i _ hi => HBV.out.block i (by omega)⟩ (fun y hy a ha hl => by have := (HXM.out y hy a ha hl).2; omega)
      have HGV := Lib.hid hgv
      have honk : on ≤ 1000 := by omega
      clear hV e0 e1 hkv hgv c7 f7 KK0 KK1 HB HROW HROL HDIS HRO HRF
      go_loopw [13, 14] (fun v13 v14 wy => RRel3 ro on V V.heap.size v13 v14 wy) (fun _ i _ => on - (intOf i).toNat)
      case atStart => exact ⟨0, none, 0, [], by go_num, Nat.zero_le _, rfl, Row.nil _ _ _ _, BGood.nil _ _ _, (fun x hx => by cases hx), rfl, Below.refl _ _⟩
      case round =>
        obtain ⟨j, bA, bc, rb, rfl, hj, rfl, hbrow, hbg, hbx, hbm, hbb⟩ := hrel
        have hzy := hbb.size
        have HBR := Lib.hid hbrow
        have HBG := Lib.hid hbg
        have HBX := Lib.hid hbx
        have HBM := Lib.hid hbm
        have HBB := Lib.hid hbb
        clear hbrow hbg hbx hbm hbb
        by_cases hjl : j < on
        · obtain ⟨x, hx⟩ : ∃ x, ro[j]? = some x := ⟨_, List.getElem?_eq_getElem (by rw [HOL.out]; exact hjl)⟩
          obtain ⟨g, o2, cur, rfl, hgb, hgl, hgg, hgn, hgc, hgf, hgt, hgx, hgz⟩ := HOV.out.some_ (by omega)
          have cd : wr.cell? ⟨g, o2 + j * 2 + 1, none⟩ = some (.slice x.A x.d.length x.c) := (HBB.out.cell (p := ⟨g, o2 + j * 2 + 1, none⟩) hgl).trans (hgx (j * 2 + 1) _ (rmcs_at hx).2)
          have hxr := HROM.out x (List.mem_of_getElem? hx)
          obtain ⟨hrd, hxl, hxc, hxn⟩ := HGV.out x hxr
          have hok : x.d.length ≤ 128 := by
            have h1 : x.msg ∈ s.u := by rw [← HU.out]; exact List.mem_map.2 ⟨x, hxr, rfl⟩
            exact (HS.out.2.2.2.1 _ h1).2.2.2
          have HXX := Lib.hid hx
          have HRX := Lib.hid (hrd.below HBB.out (Nat.le_refl _))
          have hjn : (j : Int) < (on : Int) := by omega
          clear hx hgg hgt hgx hgz hrd hxn
          go_wp2_with (first
            | (at_builtin; refine wpList_append_any _ rfl (.const (.slice none 0 0)) (.tmp 89) _ rfl wr.heap.size 5 j0 _ 1 1 Try.underlying37 hjA hyA hyB hyC rfl (by omega) (.slice none 0 0) 0 [] rfl (World.ownsRow_nil _ _ _ _) V.heap.size x.A x.d.length x.c (bv x.d) rfl HRX.out.reads (bv_one _) (by unfold maxLen; omega) (by omega) (Nat.le_refl _) ?_; intro v1 w1 hown1 hg1 hat1; simp only [Nat.zero_add, List.nil_append] at hown1; obtain ⟨A1, c1, rfl⟩ := own_formS hown1; have hz1 := hg1.size; have HO1 := Lib.hid (show Ow w1 wr.heap.size A1 x.d.length c1 x.d from ⟨hown1, HRX.out.2.1⟩); have HB1 := Lib.hid (show Below wr.heap.size wr w1 from ⟨hg1.os, hg1.tape, hg1.output, hg1.size, fun i hi => hg1.block i hi (by simp [Value.ownBlock])⟩); clear hown1 hg1 hat1)
            | (at_builtin; refine wpList_append_row rfl (.tmp 84) (.tmp 91) _ rfl V.heap.size 37 b0 _ 1 24 Try.underlying48 hbA hxA hxB hxC rfl bA j bc (rbcs rb) rfl ((HBR.out.below HB1.out (Nat.le_refl _)).alloc _) ⟨w1.heap.size, 0, none⟩ 1 1 [rbc ⟨A1, c1, x.d⟩] rfl rfl (fun i u hu => by rw [addr_add, Nat.zero_add]; exact blk_cell (heap_new _ _) i hu) (rbcs_one [_]) (by omega) (by unfold maxLen; omega) (by omega) (by simp; omega) ?_; intro A4 c4 w4 hown4 hg4 hat4; have hz4 := hg4.size; (try simp at hz4); have HO4 := Lib.hid hown4; have HG4 := Lib.hid hg4; have HA4 := Lib.hid (show blkOf A4 = blkOf bA ∨ blkOf A4 = some (w1.heap.size + 1) by simpa using hat4); clear hown4 hg4 hat4))
          go_roundw
          case rel =>
            obtain ⟨h1, h2⟩ := rbs_grow HBR.out HBG.out HBX.out HO1.out HB1.out _ HG4.out HA4.out (by omega)
            refine ⟨j + 1, A4, c4, rb ++ [⟨A1, c1, x.d⟩], by go_num, by omega, rfl, by rw [rbcs_snoc]; exact HO4.out, h1, h2, ?_, ?_⟩
            · rw [List.map_append, HBM.out, List.take_add_one, HXX.out]; simp
            · exact Below.grown ((HBB.out.trans (HB1.out.mono (by omega))).alloc (by omega) _) HG4.out (by simp; omega) (fun g hg => (HBR.out.lt hg).1)
          case measure => simp [intOf]; omega
        · obtain rfl : j = on := by omega
          have e0 := blk_below HE0.out HBB.out (by omega)
          have e1 := blk_below HE1.out HBB.out (by omega)
          have ca_0 := blk_cell e0 0 rfl; have fa_0 := blk_free e0 0; have ca_1 := blk_cell e0 1 rfl; have fa_1 := blk_free e0 1; have ca_2 := blk_cell e0 2 rfl; have fa_2 := blk_free e0 2; have ca_3 := blk_cell e0 3 rfl; have fa_3 := blk_free e0 3; have ca_4 := blk_cell e0 4 rfl; have fa_4 := blk_free e0 4; have ca_5 := blk_cell e0 5 rfl; have fa_5 := blk_free e0 5; have ca_6 := blk_cell e0 6 rfl; have fa_6 := blk_free e0 6; have ca_7 := blk_cell e0 7 rfl; have fa_7 := blk_free e0 7; have ca_8 := blk_cell e0 8 rfl; have fa_8 := blk_free e0 8; have ca_9 := blk_cell e0 9 rfl; have fa_9 := blk_free e0 9; have ca_10 := blk_cell e0 10 rfl; have fa_10 := blk_free e0 10; have la := lt_of_block e0
          have cb_0 := blk_cell e1 0 rfl; have fb_0 := blk_free e1 0; have cb_1 := blk_cell e1 1 rfl; have fb_1 := blk_free e1 1; have cb_2 := blk_cell e1 2 rfl; have fb_2 := blk_free e1 2; have cb_3 := blk_cell e1 3 rfl; have fb_3 := blk_free e1 3; have cb_4 := blk_cell e1 4 rfl; have fb_4 := blk_free e1 4; have cb_5 := blk_cell e1 5 rfl; have fb_5 := blk_free e1 5; have cb_6 := blk_cell e1 6 rfl; have fb_6 := blk_free e1 6; have cb_7 := blk_cell e1 7 rfl; have fb_7 := blk_free e1 7; have cb_8 := blk_cell e1 8 rfl; have fb_8 := blk_free e1 8; have cb_9 := blk_cell e1 9 rfl; have fb_9 := blk_free e1 9; have cb_10 := blk_cell e1 10 rfl; have fb_10 := blk_free e1 10; have lb := lt_of_block e1
          go_wp2_with fail
          generalize hWf : World.setCell _ _ _ = Wf
          have hf : Wf.heap[w.heap.size + 1]? = some (.cells #[.int .i64 r.loss, .int .i64 r.twice, .int .i64 r.least, .int .i64 r.most, .int .i64 r.seed, .int .u64 s.x, .int .i64 now, .slice lA ln lc, .int .i64 s.sent, .int .i64 s.lost, .int .i64 s.dbl] 28 (0, 0)) := by rw [← hWf]; exact (by apply Eq.trans; (repeat (first | (with_reducible assumption) | (with_reducible apply blk_set) | ((with_reducible apply blk_far); rotate_left; (first | omega | (simp <;> omega)); rotate_right) | (with_reducible apply blk_drew) | (with_reducible apply blk_drewN) | ((with_reducible apply heap_new'); (first | rfl | (simp <;> fail))) | (with_reducible apply blk_alloc))); (first | with_reducible rfl | (simp <;> fail) | rfl))
          have hKf : Keeps (fun i => i = w.heap.size ∨ i = w.heap.size + 1) wr Wf := by rw [← hWf]; exact (by repeat (first | with_reducible exact Keeps.refl _ _ | (with_reducible refine Keeps.setCell ?_ (.inl (.inr rfl)) _) | (with_reducible refine Keeps.setCell ?_ (.inl (.inl rfl)) _)))
          clear hWf e0 e1 ca_0 fa_0 ca_1 fa_1 ca_2 fa_2 ca_3 fa_3 ca_4 fa_4 ca_5 fa_5 ca_6 fa_6 ca_7 fa_7 ca_8 fa_8 ca_9 fa_9 ca_10 fa_10 cb_0 fb_0 cb_1 fb_1 cb_2 fb_2 cb_3 fb_3 cb_4 fb_4 cb_5 fb_5 cb_6 fb_6 cb_7 fb_7 cb_8 fb_8 cb_9 fb_9 cb_10 fb_10
          have cm_0 := blk_cell hf 0 rfl; have fm_0 := blk_free hf 0; have cm_1 := blk_cell hf 1 rfl; have fm_1 := blk_free hf 1; have cm_2 := blk_cell hf 2 rfl; have fm_2 := blk_free hf 2; have cm_3 := blk_cell hf 3 rfl; have fm_3 := blk_free hf 3; have cm_4 := blk_cell hf 4 rfl; have fm_4 := blk_free hf 4; have cm_5 := blk_cell hf 5 rfl; have fm_5 := blk_free hf 5; have cm_6 := blk_cell hf 6 rfl; have fm_6 := blk_free hf 6; have cm_7 := blk_cell hf 7 rfl; have fm_7 := blk_free hf 7; have cm_8 := blk_cell hf 8 rfl; have fm_8 := blk_free hf 8; have cm_9 := blk_cell hf 9 rfl; have fm_9 := blk_free hf 9; have cm_10 := blk_cell hf 10 rfl; have fm_10 := blk_free hf 10; have lm := lt_of_block hf
          refine bodyPost_ret (v := .tuple #[.agg #[.int .i64 r.loss, .int .i64 r.twice, .int .i64 r.least, .int .i64 r.most, .int .i64 r.seed, .int .u64 s.x, .int .i64 now, .slice lA ln lc, .int .i64 s.sent, .int .i64 s.lost, .int .i64 s.dbl], .slice bA j bc, .int .i64 0]) ?_ rfl ?_
          · simp [results, Try.results35, go_sem, cm_0, cm_1, cm_2, cm_3, cm_4, cm_5, cm_6, cm_7, cm_8, cm_9, cm_10]
          · have hzf := hKf.size
            have hB : Below w.heap.size w Wf := (HBV.out.trans (HBB.out.mono (by omega))).trans (hKf.below (fun i _ hi => by omega) (by omega))
            have hrcv : Lnk.recv s now = { s with now := now, u := s.u.filter (fun m => decide (now < m.1)) } := by unfold Lnk.recv; rw [if_pos HE.out]
            have hgot : Lnk.got s now = Lnk.srt (s.u.filter (fun m => decide (m.1 ≤ now))) := by unfold Lnk.got; rw [if_pos HE.out]
            have hul : (Lnk.recv s now).u.length = ln := by rw [hrcv]; show (s.u.filter _).length = ln; rw [← HF2.out, List.length_map, HFL.out]
            have hru : (Lnk.recv s now).u = rf.map RM.msg := by rw [hrcv, HF2.out]
            have hlrow := (HLV.out.below HBB.out (Nat.le_refl _)).kept hKf (fun g hg => by have := (HLV.out.lt hg).1; omega)
            have hbrow := HBR.out.kept hKf (fun g hg => by have := (HBR.out.lt hg).1; omega)
            refine ⟨lA, lc, bA, j, bc, ?_, ?_, ?_, ?_, hB⟩
            · rw [hul, hrcv]; rfl
            · rw [hul]
              refine ⟨rf, hru.symm, Rds.of_row hlrow, (HG.out.keepX (S := fun i => w.heap.size ≤ i) ⟨hB.os, hB.tape, hB.output, hB.size, fun i _ hi => hB.block i (by omega)⟩ (fun y hy a ha hl => by have := (HXM.out y hy a ha hl).2; omega)).sub HRFM.out, fun a ha _ => .inr ?_, fun y hy a ha hl => .inl (HXM.out y (HRFM.out y hy) a ha hl).1⟩
              have h1 : blkOf lA = some a.block := by rw [ha]; rfl
              have := (hlrow.lt h1).1
              omega
            · rw [hul]; exact hlrow.le.1
            · refine ⟨rb, ?_, Rds.of_row hbrow, ((HBG.out.kept hKf (Nat.le_refl _) (fun y hy a ha => by have := (HBG.out y hy).2.1 a ha; omega)).more (by omega)).lower (by omega), fun a ha _ => by have := (hbrow.lt (g := a.block) (by rw [ha]; rfl)).1; omega⟩
              rw [HBM.out, List.take_of_length_le (by rw [HOL.out]; omega), hgot, ← HF1.out, List.map_map]
              rfl
end Go.Proofs.Ytgdpoiapkaahfaa

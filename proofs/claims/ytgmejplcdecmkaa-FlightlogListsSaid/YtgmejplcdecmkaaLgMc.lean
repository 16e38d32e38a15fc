/- Backward, and the last position. -/
import Derived.Test.YtgmejplcdecmkaaLgOf
import Derived.Test.YtgmejplcdecmkaaLgRF
namespace Go.Proofs.Ytgmejplcdecmkaa
open Go.RowKit Go.Shelf
attribute [local go_sem] Oper.semAt_some
set_option maxHeartbeats 4000000
set_option maxRecDepth 100000
set_option linter.unusedSimpArgs false
set_option linter.unusedVariables false
namespace Lg
/-- what a round of Backward is handed -/
def PrB (vs : List RV) (n : Nat) (pre : List NR) (x : NR) (W : World) : Prop := x.1 + pre.length + 1 = n ∧ x.2.x = (vs.getD x.1 rv0).x ∧ Ok W W.heap.size x.2
theorem PrB.own (B : Nat) (vs : List RV) (n : Nat) (pre : List NR) : OwnFrom B (PrB vs n pre) := fun s X Y row hs hg hr => ⟨hs.1, hs.2.1, ok_own B (fun _ => True) s.2 X Y row hs.2.2 hg hr⟩
end Lg
theorem backward_any (A : Option Addr) (n c : Nat) (w : World) : Calls Try.prog 61 #[.slice A n c] w fun e w' => ∃ B, e = .returned (.func (.func 80) #[] #[.pointer (some ⟨B, 0, none⟩)]) ∧ w.heap.size ≤ B ∧ w'.heap[B]? = some (.cells #[.slice A n c] 40 (0, 0)) ∧ Below w.heap.size w w' := by
  go_enter Try.func61, Try.ntmps61
  go_wp2_with fail
  go_ret
  exact ⟨w.heap.size, rfl, Nat.le_refl _, heap_new _ _, (by repeat (first | (with_reducible exact Below.refl _ _) | (with_reducible refine Below.drew ?_) | (with_reducible refine below_drewN ?_ _) | ((with_reducible refine Below.alloc ?_ ?_ _); rotate_left; (first | omega | (simp <;> omega)); rotate_right) | ((with_reducible refine Below.setCell ?_ ?_ _); rotate_left; (first | omega | (simp <;> omega)); rotate_right) | (with_reducible assumption) | (refine Below.trans ?_ (Below.mono (by assumption) ?_); rotate_left; (first | omega | (simp <;> omega)); rotate_right)))⟩
theorem back1_seq (m n0 B : Nat) (A : Option Addr) (n c : Nat) (vs : List Lg.RV) (w : World) (hm : 1 ≤ m) (hn : n ≤ 1000000) (hn0 : n0 ≤ w.heap.size) (hB : B < n0) (hbox : w.heap[B]? = some (.cells #[.slice A n c] 40 (0, 0))) (hR : Lg.Rr w n0 A n vs) :
    SeqP Fence.wide m Try.prog 80 #[.pointer (some ⟨B, 0, none⟩)] Lg.encNR (Lg.PrB vs n) (fun A B => Below n0 A B) (fun ys => ys.length = n) (fun ys => True) n w := by
  intro l J Jx W hW hJ hJx hY h0
  have hbx := Lib.hid (blk_below hbox hW (lt_of_block hbox))
  have HR := Lib.hid (hR.below hW hn0)
  have HL := Lib.hid hR.len
  have HJ := Lib.hid hJ
  have HY := Lib.hid hY
  have c0 := blk_cell (l := [_]) hbx.out 0 rfl
  have hW0 := hW.size
  clear hJx hY hR hJ hbox hW
  refine callsIn_of_wp Try.func80 rfl trivial ?_ rfl
  simp only [Try.ntmps80, List.size_toArray, List.length_cons, List.length_nil, Nat.reduceAdd, Nat.reduceSub, Array.replicate_succ, Array.replicate_zero, List.push_toArray, List.append_toArray, List.nil_append, List.cons_append]
  have wr1 : IntKind.i64.wrap ((n : Int) - 1) = (n : Int) - 1 := IntWalk.i64_in _ (by omega)
  gi_wp2
  gi_loopw [3] (fun i wr => ∃ (k : Nat) (pre : List Lg.NR), k + pre.length = n ∧ i = .int .i64 ((k : Int) - 1) ∧ J pre wr ∧ Hid (Below n0 W wr)) (fun i _ => (intOf i + 1).toNat)
  case atStart => exact ⟨n, [], rfl, rfl, h0, Lib.hid (Below.refl _ _)⟩
  case round =>
    obtain ⟨k, pre, hk, rfl, hJs, HB⟩ := hrel
    clear c0
    rcases k with _ | k
    · gi_wp2
      go_end0
      exact ⟨⟨_, rfl⟩, .inl ⟨pre, by omega, hJs⟩⟩
    · have hlt : k < n := by omega
      have HRw := (HR.out.below HB.out (Nat.le_refl _))
      obtain ⟨b, o, rfl, hbl, hcl, hok⟩ := HRw.at_ hlt
      have c0 := blk_cell (l := [_]) (blk_below hbx.out HB.out hB) 0 rfl
      have hzr : n0 ≤ wr.heap.size := Nat.le_trans (Nat.le_trans hn0 hW0) HB.out.size
      have l1 := Lg.RV.len (vs.getD k Lg.rv0)
      have e1 : ((k + 1 : Nat) : Int) - 1 = (k : Int) := by omega
      have HX := Lib.hid hk
      obtain ⟨fn, tmps, assign, body, hy, hR⟩ := HY.out pre (k, vs.getD k Lg.rv0) wr hJs ⟨by simp; omega, rfl, (hok.more hzr)⟩ (by omega)
      have HR2 := Lib.hid hR
      simp only [Lg.encNR, Lg.RV.val] at hy
      generalize vs.getD k Lg.rv0 = v at *
      have z1 : v.cells.toArray.size = 13 := l1
      have kn : (k : Int) < (n : Int) := by omega
      have k0 : (0 : Int) ≤ (k : Int) := by omega
      have wr2 : IntKind.i64.wrap ((k : Int) - 1) = (k : Int) - 1 := IntWalk.i64_in _ (by omega)
      rw [e1]
      clear hR hok HRw hk e1 hJs
      gi_wp2_with (first | (refine wpListIn_load_at rfl 32 _ rfl b (o + k * 13) rfl _ _ hcl Try.underlying32 rfl (by rw [l1]; kernel_rfl) ?_))
      refine HR2.out.mono ?_
      rintro e W3 (⟨rfl, hJ3, hk3, _⟩ | ⟨rfl, hJx3, _⟩)
      · have HB3 := Lib.hid (HB.out.trans hk3)
        clear hk3
        gi_wp2
        go_roundw
        case rel => exact ⟨k, _, by rw [List.length_append]; have := HX.out; simp; omega, rfl, hJ3, HB3⟩
        case measure => simp [intOf]; try omega
      · gi_wp2
        refine bodyPost_ret (results_none rfl _ _ _) rfl ?_
        exact ⟨⟨_, rfl⟩, .inr ⟨_, trivial, hJx3⟩⟩
end Go.Proofs.Ytgmejplcdecmkaa
/- Last. -/
namespace Go.Proofs.Ytgmejplcdecmkaa
open Go.RowKit Go.Shelf
attribute [local go_sem] Oper.semAt_some
set_option maxHeartbeats 4000000
set_option maxRecDepth 100000
set_option linter.unusedSimpArgs false
set_option linter.unusedVariables false
theorem run_loadVar_one {P : Program} {w : World} {a : Addr} {t : TypeId} {v : Value} {d : TypeDesc} (hu : P.underlying t = some d) (hd : (match d with | .struct _ | .array _ _ => true | _ => false) = false) (hc : w.cell? a = some v) : (loadVar t a).run P w = .ok v w := by
  have h1 : (isAgg t).run P w = .ok false w := by
    unfold isAgg
    rw [Sem.run_bind, run_underlying hu w]
    cases d <;> simp_all
  unfold loadVar
  simp [h1, hc]
theorem kf_setRow {B g : Nat} {W : World} {cs : Array Value} (hg : g < B) : KeepsFrom B W (W.setRow g cs) :=
  ⟨(below_setRow (Below.refl 0 W) (Nat.zero_le g) cs).size, fun k o hk h _ => (setRow_other _ _ _ _ (by omega)).trans h⟩
theorem kf_setCell {B : Nat} {a : Addr} {W : World} {u : Value} (hg : a.block < B) : KeepsFrom B W (W.setCell a u) :=
  ⟨((Below.refl 0 W).setCell (Nat.zero_le _) u).size, fun k o hk h _ => blk_far h (by omega) u⟩
def Lg.LastPost (a t : Int) (vs : List Lg.RV) (e : Ending) : Prop := (Lg.lastAt (Lg.xs vs) a t vs.length = none ∧ e = .returned (.tuple #[.agg #[.int .i64 0, .int .i64 0, .int .i64 0], .int .i64 0, .int .i64 9]))
  ∨ ∃ i, Lg.lastAt (Lg.xs vs) a t vs.length = some i ∧ e = .returned (.tuple #[.agg #[.int .i64 (vs.getD i Lg.rv0).x.x, .int .i64 (vs.getD i Lg.rv0).x.y, .int .i64 (vs.getD i Lg.rv0).x.z], .int .i64 (vs.getD i Lg.rv0).x.t, .int .i64 0])
theorem results_ccc {P : Program} {fn : Func} {p q s : Tmp} {t1 t2 t3 : TypeId} (h : fn.results = #[.cell p t1, .cell q t2, .cell s t3]) (tmps : Array Value) (w : World) (g1 g2 g3 : Nat) (u1 : TypeId) (cs : Array Value) (v2 v3 : Value) (d d2 d3 : TypeDesc)
    (h1 : tmps.getD p undef = .pointer (some ⟨g1, 0, none⟩)) (h2 : tmps.getD q undef = .pointer (some ⟨g2, 0, none⟩)) (h3 : tmps.getD s undef = .pointer (some ⟨g3, 0, none⟩)) (hg : w.heap[g1]? = some (.cells cs u1 (0, 0)))
    (l2 : w.cell? ⟨g2, 0, none⟩ = some v2) (l3 : w.cell? ⟨g3, 0, none⟩ = some v3) (hu2 : P.underlying t2 = some d2) (hd2 : (match d2 with | .struct _ | .array _ _ => true | _ => false) = false) (hu3 : P.underlying t3 = some d3) (hd3 : (match d3 with | .struct _ | .array _ _ => true | _ => false) = false)
    (hu : P.underlying t1 = some d) (hd : (match d with | .struct _ | .array _ _ => true | _ => false) = true) (hi : (P.info? t1).map (·.size) = some cs.size) :
    (results fn tmps).run P w = .ok (.tuple #[.agg cs, v2, v3]) w := by
  have h1' : tmps[p]?.getD undef = .pointer (some ⟨g1, 0, none⟩) := by simpa using h1
  have h2' : tmps[q]?.getD undef = .pointer (some ⟨g2, 0, none⟩) := by simpa using h2
  have h3' : tmps[s]?.getD undef = .pointer (some ⟨g3, 0, none⟩) := by simpa using h3
  simp [results, h, h1', h2', h3', asAddr, run_loadVar_row w g1 u1 t1 cs (0, 0) d hg hu hd hi, run_loadVar_one hu2 hd2 l2, run_loadVar_one hu3 hd3 l3]
theorem Lg.pos_at {V : World} {Bx : Nat} (x : Lg.RV) (h : V.heap[Bx]? = some (.cells x.cells.toArray 32 (0, 0))) : ∀ (j : Nat) (u : Value), [(.int .i64 x.x.x : Value), .int .i64 x.x.y, .int .i64 x.x.z][j]? = some u → V.cell? ⟨Bx, 3 + j, none⟩ = some u := by
  intro j u hj
  rcases j with _ | _ | _ | j
  · cases hj; exact arr_cell h rfl
  · cases hj; exact arr_cell h rfl
  · cases hj; exact arr_cell h rfl
  · simp at hj
def Lg.lastE (a t : Int) : Int := if 0 ≤ a ∧ a ≤ 64 then (if 0 ≤ t ∧ t ≤ 3600000 then 0 else 3) else 2
section
variable {w : World} {base p c : Nat} {X : Nat → Prop} {A : Option Addr} {vs : List Lg.RV}
theorem last_nil (a t : Int) (w : World) : Calls Try.prog 31 #[.pointer none, .int .i64 a, .int .i64 t] w fun e w' => e = .returned (.tuple #[.agg #[.int .i64 0, .int .i64 0, .int .i64 0], .int .i64 0, .int .i64 1]) ∧ Below w.heap.size w w' := by
  have D := Lib.hid (fun (W : World) => check_nil a W)
  go_enter Try.func31, Try.ntmps31
  go_wp2_with fail
  refine (D.out _).mono ?_
  rintro _ _ ⟨rfl, rfl⟩
  go_wp2_with fail
  exact bodyPost_ret (results_ccc rfl _ _ (w.heap.size + 2) (w.heap.size + 3) (w.heap.size + 4) _ #[.int .i64 0, .int .i64 0, .int .i64 0] (.int .i64 0) (.int .i64 1) _ _ _ rfl rfl rfl (by apply Eq.trans; (repeat (first | (with_reducible assumption) | (with_reducible apply blk_set) | ((with_reducible apply blk_far); rotate_left; (first | omega | (simp <;> omega)); rotate_right) | (with_reducible apply blk_drew) | (with_reducible apply blk_drewN) | ((with_reducible apply heap_new'); (first | rfl | (simp <;> fail))) | (with_reducible apply blk_alloc))); (first | with_reducible rfl | (simp <;> fail) | rfl)) (by simp [go_sem]) (by simp [go_sem]) Try.underlying3 rfl Try.underlying34 rfl Try.underlying25 rfl (by kernel_rfl)) rfl ⟨rfl, (by repeat (first | (with_reducible exact Below.refl _ _) | (with_reducible refine Below.drew ?_) | (with_reducible refine below_drewN ?_ _) | ((with_reducible refine Below.alloc ?_ ?_ _); rotate_left; (first | omega | (simp <;> omega)); rotate_right) | ((with_reducible refine Below.setCell ?_ ?_ _); rotate_left; (first | omega | (simp <;> omega)); rotate_right) | (with_reducible assumption) | (refine Below.trans ?_ (Below.mono (by assumption) ?_); rotate_left; (first | omega | (simp <;> omega)); rotate_right)))⟩
theorem last_a (q : Addr) (a t : Int) (h : Lg.ofE a = 2) (w : World) : Calls Try.prog 31 #[.pointer (some q), .int .i64 a, .int .i64 t] w fun e w' => e = .returned (.tuple #[.agg #[.int .i64 0, .int .i64 0, .int .i64 0], .int .i64 0, .int .i64 2]) ∧ Below w.heap.size w w' := by
  have D := Lib.hid (fun (W : World) => h ▸ check_any q a W)
  go_enter Try.func31, Try.ntmps31
  go_wp2_with fail
  refine (D.out _).mono ?_
  rintro _ _ ⟨rfl, rfl⟩
  go_wp2_with fail
  exact bodyPost_ret (results_ccc rfl _ _ (w.heap.size + 2) (w.heap.size + 3) (w.heap.size + 4) _ #[.int .i64 0, .int .i64 0, .int .i64 0] (.int .i64 0) (.int .i64 2) _ _ _ rfl rfl rfl (by apply Eq.trans; (repeat (first | (with_reducible assumption) | (with_reducible apply blk_set) | ((with_reducible apply blk_far); rotate_left; (first | omega | (simp <;> omega)); rotate_right) | (with_reducible apply blk_drew) | (with_reducible apply blk_drewN) | ((with_reducible apply heap_new'); (first | rfl | (simp <;> fail))) | (with_reducible apply blk_alloc))); (first | with_reducible rfl | (simp <;> fail) | rfl)) (by simp [go_sem]) (by simp [go_sem]) Try.underlying3 rfl Try.underlying34 rfl Try.underlying25 rfl (by kernel_rfl)) rfl ⟨rfl, (by repeat (first | (with_reducible exact Below.refl _ _) | (with_reducible refine Below.drew ?_) | (with_reducible refine below_drewN ?_ _) | ((with_reducible refine Below.alloc ?_ ?_ _); rotate_left; (first | omega | (simp <;> omega)); rotate_right) | ((with_reducible refine Below.setCell ?_ ?_ _); rotate_left; (first | omega | (simp <;> omega)); rotate_right) | (with_reducible assumption) | (refine Below.trans ?_ (Below.mono (by assumption) ?_); rotate_left; (first | omega | (simp <;> omega)); rotate_right)))⟩
theorem last_t (q : Addr) (a t : Int) (h : Lg.ofE a = 0) (ht : ¬ (0 ≤ t ∧ t ≤ 3600000)) (w : World) : Calls Try.prog 31 #[.pointer (some q), .int .i64 a, .int .i64 t] w fun e w' => e = .returned (.tuple #[.agg #[.int .i64 0, .int .i64 0, .int .i64 0], .int .i64 0, .int .i64 3]) ∧ Below w.heap.size w w' := by
  have D := Lib.hid (fun (W : World) => h ▸ check_any q a W)
  have IN := Lib.hid (fun (W : World) => lwithin_is t 0 3600000 false W (by simp [Frm.inB]; omega))
  clear ht
  go_enter Try.func31, Try.ntmps31
  go_wp2_with fail
  refine (D.out _).mono ?_
  rintro _ _ ⟨rfl, rfl⟩
  go_wp2_with fail
  refine (IN.out _).mono ?_
  rintro _ _ ⟨rfl, rfl⟩
  go_wp2_with fail
  exact bodyPost_ret (results_ccc rfl _ _ (w.heap.size + 2) (w.heap.size + 3) (w.heap.size + 4) _ #[.int .i64 0, .int .i64 0, .int .i64 0] (.int .i64 0) (.int .i64 3) _ _ _ rfl rfl rfl (by apply Eq.trans; (repeat (first | (with_reducible assumption) | (with_reducible apply blk_set) | ((with_reducible apply blk_far); rotate_left; (first | omega | (simp <;> omega)); rotate_right) | (with_reducible apply blk_drew) | (with_reducible apply blk_drewN) | ((with_reducible apply heap_new'); (first | rfl | (simp <;> fail))) | (with_reducible apply blk_alloc))); (first | with_reducible rfl | (simp <;> fail) | rfl)) (by simp [go_sem]) (by simp [go_sem]) Try.underlying3 rfl Try.underlying34 rfl Try.underlying25 rfl (by kernel_rfl)) rfl ⟨rfl, (by repeat (first | (with_reducible exact Below.refl _ _) | (with_reducible refine Below.drew ?_) | (with_reducible refine below_drewN ?_ _) | ((with_reducible refine Below.alloc ?_ ?_ _); rotate_left; (first | omega | (simp <;> omega)); rotate_right) | ((with_reducible refine Below.setCell ?_ ?_ _); rotate_left; (first | omega | (simp <;> omega)); rotate_right) | (with_reducible assumption) | (refine Below.trans ?_ (Below.mono (by assumption) ?_); rotate_left; (first | omega | (simp <;> omega)); rotate_right)))⟩
theorem last_any (h : Lg.IsLg w base p A c vs X) (hn : vs.length ≤ 1000000) (a t : Int) (ha : Lg.ofE a = 0) (ht : 0 ≤ t ∧ t ≤ 3600000) :
    Calls Try.prog 31 #[.pointer (some ⟨p, 0, none⟩), .int .i64 a, .int .i64 t] w fun e w' => Lg.LastPost a t vs e ∧ Below w.heap.size w w' := by
  have D := Lib.hid (fun (W : World) => ha ▸ check_any ⟨p, 0, none⟩ a W)
  have IN := Lib.hid (fun (W : World) => lwithin_is t 0 3600000 true W (by simp [Frm.inB]; omega))
  have BK := Lib.hid (backward_any A vs.length c)
  have hp := h.lt
  have cp := fun (W : World) (hW : Below w.heap.size w W) => (blk_cell (l := [_]) (blk_below h.blk hW hp) 0 rfl : W.cell? ⟨p, 0, none⟩ = _)
  have HR := Lib.hid (fun (W : World) (hW : Below w.heap.size w W) => h.rr.below hW (Nat.le_refl _))
  clear h ha
  refine (callsIn_wide (n := 3)).1 (callsIn_of_wp_marks Try.func31 rfl trivial ?_ rfl)
  simp only [Try.ntmps31, List.size_toArray, List.length_cons, List.length_nil, Nat.reduceAdd, Nat.reduceSub, Array.replicate_succ, Array.replicate_zero, List.push_toArray, List.append_toArray, List.nil_append, List.cons_append]
  gi_wp2
  refine ⟨trivial, callsIn_wide.2 ((D.out _).mono ?_)⟩
  rintro _ _ ⟨rfl, rfl⟩
  obtain ⟨W0, hW0⟩ : ∃ W0 : World, W0 = ((((w.alloc (.cells #[.int .i64 a] 3 (0, 0))).alloc (.cells #[.int .i64 t] 3 (0, 0))).alloc (.cells #[.int .i64 0, .int .i64 0, .int .i64 0] 25 (0, 0))).alloc (.cells #[.int .i64 0] 3 (0, 0))).alloc (.cells #[.int .i64 0] 34 (0, 0)) := ⟨_, rfl⟩
  have B0 : Below w.heap.size w W0 := by rw [hW0]; exact (by repeat (first | (with_reducible exact Below.refl _ _) | (with_reducible refine Below.drew ?_) | (with_reducible refine below_drewN ?_ _) | ((with_reducible refine Below.alloc ?_ ?_ _); rotate_left; (first | omega | (simp <;> omega)); rotate_right) | ((with_reducible refine Below.setCell ?_ ?_ _); rotate_left; (first | omega | (simp <;> omega)); rotate_right) | (with_reducible assumption) | (refine Below.trans ?_ (Below.mono (by assumption) ?_); rotate_left; (first | omega | (simp <;> omega)); rotate_right)))
  have z0 : W0.heap.size = w.heap.size + 5 := by rw [hW0]; simp
  have y4 : W0.heap[w.heap.size]? = some (.cells #[.int .i64 a] 3 (0, 0)) := by rw [hW0]; exact (by apply Eq.trans; (repeat (first | (with_reducible assumption) | (with_reducible apply blk_set) | ((with_reducible apply blk_far); rotate_left; (first | omega | (simp <;> omega)); rotate_right) | (with_reducible apply blk_drew) | (with_reducible apply blk_drewN) | ((with_reducible apply heap_new'); (first | rfl | (simp <;> fail))) | (with_reducible apply blk_alloc))); (first | with_reducible rfl | (simp <;> fail) | rfl))
  have y5 : W0.heap[w.heap.size + 1]? = some (.cells #[.int .i64 t] 3 (0, 0)) := by rw [hW0]; exact (by apply Eq.trans; (repeat (first | (with_reducible assumption) | (with_reducible apply blk_set) | ((with_reducible apply blk_far); rotate_left; (first | omega | (simp <;> omega)); rotate_right) | (with_reducible apply blk_drew) | (with_reducible apply blk_drewN) | ((with_reducible apply heap_new'); (first | rfl | (simp <;> fail))) | (with_reducible apply blk_alloc))); (first | with_reducible rfl | (simp <;> fail) | rfl))
  have y6 : W0.heap[w.heap.size + 2]? = some (.cells #[.int .i64 0, .int .i64 0, .int .i64 0] 25 (0, 0)) := by rw [hW0]; exact (by apply Eq.trans; (repeat (first | (with_reducible assumption) | (with_reducible apply blk_set) | ((with_reducible apply blk_far); rotate_left; (first | omega | (simp <;> omega)); rotate_right) | (with_reducible apply blk_drew) | (with_reducible apply blk_drewN) | ((with_reducible apply heap_new'); (first | rfl | (simp <;> fail))) | (with_reducible apply blk_alloc))); (first | with_reducible rfl | (simp <;> fail) | rfl))
  have y7 : W0.heap[w.heap.size + 3]? = some (.cells #[.int .i64 0] 3 (0, 0)) := by rw [hW0]; exact (by apply Eq.trans; (repeat (first | (with_reducible assumption) | (with_reducible apply blk_set) | ((with_reducible apply blk_far); rotate_left; (first | omega | (simp <;> omega)); rotate_right) | (with_reducible apply blk_drew) | (with_reducible apply blk_drewN) | ((with_reducible apply heap_new'); (first | rfl | (simp <;> fail))) | (with_reducible apply blk_alloc))); (first | with_reducible rfl | (simp <;> fail) | rfl))
  have y8 : W0.heap[w.heap.size + 4]? = some (.cells #[.int .i64 0] 34 (0, 0)) := by rw [hW0]; exact (by apply Eq.trans; (repeat (first | (with_reducible assumption) | (with_reducible apply blk_set) | ((with_reducible apply blk_far); rotate_left; (first | omega | (simp <;> omega)); rotate_right) | (with_reducible apply blk_drew) | (with_reducible apply blk_drewN) | ((with_reducible apply heap_new'); (first | rfl | (simp <;> fail))) | (with_reducible apply blk_alloc))); (first | with_reducible rfl | (simp <;> fail) | rfl))
  rw [← hW0]
  clear hW0 D
  have c4 := blk_cell (l := [_]) y4 0 rfl
  have c5 := blk_cell (l := [_]) y5 0 rfl
  have cp0 := cp W0 B0
  gi_wp2
  refine ⟨trivial, callsIn_wide.2 ((IN.out _).mono ?_)⟩
  rintro _ _ ⟨rfl, rfl⟩
  clear IN
  gi_wp2
  refine ⟨trivial, callsIn_wide.2 ((BK.out _).mono ?_)⟩
  rintro _ W1 ⟨B, rfl, hB, yB, B1⟩
  have z1 := B1.size
  replace y4 := blk_below y4 B1 (by omega)
  replace y5 := blk_below y5 B1 (by omega)
  replace y6 := blk_below y6 B1 (by omega)
  replace y7 := blk_below y7 B1 (by omega)
  replace y8 := blk_below y8 B1 (by omega)
  have HB1 := B0.trans (B1.mono (by omega))
  have HL := Lib.hid (HR.out W1 HB1).len
  have hBl := lt_of_block yB
  clear c4 c5 cp0 cp BK B0 B1
  gi_wp2
  -- THE LOOP
  have hseq := back1_seq 2 W1.heap.size B A vs.length c vs W1 (by omega) hn (Nat.le_refl _) hBl yB ((HR.out W1 HB1).more (by omega))
  refine range_own (F := Fence.wide) rfl (by omega) (gf := 80) (lb := #[.pointer (some ⟨B, 0, none⟩)]) rfl trivial (enters_of Try.func80 (by kernel_rfl) rfl) hseq (fun h k => h.trans k)
    (fun V l' o o' hl h hc => (Below.refl _ V).grown (grownBy_putObj' V l' o') (by have := (Array.getElem?_eq_some_iff.1 h).1; omega) (fun k e => by cases e; omega)) (fun x => rfl)
    (fun pre V => Below W1.heap.size W1 V ∧ pre.length ≤ vs.length ∧ Lg.lastAt (Lg.xs vs) a t vs.length = Lg.lastAt (Lg.xs vs) a t (vs.length - pre.length))
    (fun c pre V => c = .ret ∧ Below w.heap.size w V ∧ ∃ i, Lg.lastAt (Lg.xs vs) a t vs.length = some i ∧ V.heap[w.heap.size + 2]? = some (.cells #[.int .i64 (vs.getD i Lg.rv0).x.x, .int .i64 (vs.getD i Lg.rv0).x.y, .int .i64 (vs.getD i Lg.rv0).x.z] 25 (0, 0)) ∧ V.heap[w.heap.size + 3]? = some (.cells #[.int .i64 (vs.getD i Lg.rv0).x.t] 3 (0, 0)) ∧ V.heap[w.heap.size + 4]? = some (.cells #[.int .i64 0] 34 (0, 0)))
    (fun x a' V => ∃ Bx, W1.heap.size ≤ Bx ∧ V.heap[Bx]? = some (.cells x.2.cells.toArray 32 (0, 0)) ∧ a' = { tmps := #[.pointer (some ⟨p, 0, none⟩), .int .i64 a, .int .i64 t, undef, .pointer (some ⟨w.heap.size, 0, none⟩), .pointer (some ⟨w.heap.size + 1, 0, none⟩), .pointer (some ⟨w.heap.size + 1 + 1, 0, none⟩), .pointer (some ⟨w.heap.size + 1 + 1 + 1, 0, none⟩), .pointer (some ⟨w.heap.size + 1 + 1 + 1 + 1, 0, none⟩), .int .i64 0, undef, .pointer (some ⟨Bx, 0, none⟩), .pointer (some ⟨p, 0, none⟩), .int .i64 a, .int .i64 0, .int .i64 0, .bool false, undef, undef, .int .i64 t, .bool true, .bool false, undef, .pointer (some ⟨p, 0, none⟩), .pointer (some ⟨p, 0, none⟩), .pointer (some ⟨p, 0, none⟩), .slice A vs.length c, .func (.func 80) #[] #[.pointer (some ⟨B, 0, none⟩)], .int .i64 x.1, x.2.val, undef, undef, undef, undef, undef, undef, undef, undef, undef, undef, undef, undef, undef, undef, undef, undef, undef, undef, undef, undef], defers := [] })
    ?hI ?hIx ?hPr ?hAx ?h0 ?assign ?body ?done ?stop
  case hI => exact OwnFrom.and (ownFrom_below (by omega) (by omega)) (ownFrom_pure _ _)
  case hIx =>
    intro c'
    refine OwnFrom.and (ownFrom_pure _ _) (OwnFrom.and (ownFrom_below (by omega) (by omega)) ?_)
    rintro s X Y row ⟨i, e0, e1, e2, e3⟩ hg hr
    exact ⟨i, e0, blk_own (β := Unit) _ _ _ _ () X Y row e1 hg hr, blk_own (β := Unit) _ _ _ _ () X Y row e2 hg hr, blk_own (β := Unit) _ _ _ _ () X Y row e3 hg hr⟩
  case hPr => exact fun pre => Lg.PrB.own _ vs _ pre
  case hAx =>
    rintro a' x X Y row ⟨Bx, e1, e2, e3⟩ hg hr
    exact ⟨Bx, e1, blk_own (β := Unit) _ Bx _ _ () X Y row e2 hg hr, e3⟩
  case h0 => exact ⟨Below.refl _ _, Nat.zero_le _, rfl⟩
  case assign =>
    rintro l' pre x V K ⟨hBn, hlen, hla⟩ ⟨hx1, hx2, hok⟩ hK
    have hzV := hBn.size
    have z1 : x.2.cells.toArray.size = 13 := rfl
    have HX1 := Lib.hid hx1
    have HX2 := Lib.hid hx2
    have HLA := Lib.hid hla
    clear hx1 hx2 hla
    simp only [Lg.encNR]
    gi_wp2_with (refine wpListIn_store_row rfl 32 _ _ rfl V.heap.size x.2.cells.toArray rfl rfl 32 _ (heap_new V (.cells #[.int .i64 0, .int .i64 0, .int .i64 0, .int .i64 0, .int .i64 0, .int .i64 0, .int .i64 0, .int .i64 0, .int .i64 0, .int .i64 0, .int .i64 0, .slice none 0 0, .int .u32 0] 32 (0, 0))) (by rw [z1]; kernel_rfl) z1.symm (rv_ones x.2) ?_)
    have kx := setRow_heap (V.alloc (.cells #[.int .i64 0, .int .i64 0, .int .i64 0, .int .i64 0, .int .i64 0, .int .i64 0, .int .i64 0, .int .i64 0, .int .i64 0, .int .i64 0, .int .i64 0, .slice none 0 0, .int .u32 0] 32 (0, 0))) V.heap.size #[.int .i64 0, .int .i64 0, .int .i64 0, .int .i64 0, .int .i64 0, .int .i64 0, .int .i64 0, .int .i64 0, .int .i64 0, .int .i64 0, .int .i64 0, .slice none 0 0, .int .u32 0] x.2.cells.toArray 32 (0, 0) (heap_new V (.cells #[.int .i64 0, .int .i64 0, .int .i64 0, .int .i64 0, .int .i64 0, .int .i64 0, .int .i64 0, .int .i64 0, .int .i64 0, .int .i64 0, .int .i64 0, .slice none 0 0, .int .u32 0] 32 (0, 0)))
    have bx : Below V.heap.size V ((V.alloc (.cells #[.int .i64 0, .int .i64 0, .int .i64 0, .int .i64 0, .int .i64 0, .int .i64 0, .int .i64 0, .int .i64 0, .int .i64 0, .int .i64 0, .int .i64 0, .slice none 0 0, .int .u32 0] 32 (0, 0))).setRow V.heap.size x.2.cells.toArray) := below_setRow ((Below.refl V.heap.size V).alloc (Nat.le_refl _) _) (Nat.le_refl _) _
    exact hK _ _ (keepsFrom_below bx) (bx.mono (by omega)) ⟨hBn.trans (bx.mono (by omega)), hlen, HLA.out⟩ ⟨HX1.out, HX2.out, hok.up bx⟩ ⟨V.heap.size, hzV, kx, rfl⟩
  case body =>
    rintro l' pre x a' V ⟨hBn, hlen, hla⟩ ⟨hx1, hx2, hok⟩ ⟨Bx, hBx, hbx, rfl⟩ hlt
    have hzV := hBn.size
    have z1 : x.2.cells.toArray.size = 13 := rfl
    have hy4 := blk_below y4 hBn (by omega)
    have hy5 := blk_below y5 hBn (by omega)
    have hy6 := blk_below y6 hBn (by omega)
    have hy7 := blk_below y7 hBn (by omega)
    have hy8 := blk_below y8 hBn (by omega)
    have d2 : V.cell? ⟨Bx, 2, none⟩ = some (.int .i64 x.2.x.k) := arr_cell hbx rfl
    have d1 : V.cell? ⟨Bx, 1, none⟩ = some (.int .i64 x.2.x.a) := arr_cell hbx rfl
    have d0 : V.cell? ⟨Bx, 0, none⟩ = some (.int .i64 x.2.x.t) := arr_cell hbx rfl
    have d4 : V.cell? ⟨w.heap.size, 0, none⟩ = some (.int .i64 a) := blk_cell (l := [_]) hy4 0 rfl
    have d5 : V.cell? ⟨w.heap.size + 1, 0, none⟩ = some (.int .i64 t) := blk_cell (l := [_]) hy5 0 rfl
    have hxm : x.1 < vs.length := by omega
    have ex : (Lg.xs vs).getD x.1 Lg.r0 = x.2.x := by rw [Lg.xs_at hxm, ← hx2]
    have en : vs.length - pre.length = x.1 + 1 := by omega
    have hst : Lg.lastAt (Lg.xs vs) a t vs.length = if Lg.isPos a t x.2.x = true then some x.1 else Lg.lastAt (Lg.xs vs) a t x.1 := by rw [hla, en, Lg.lastAt, ex]
    have em : vs.length - (pre ++ [x]).length = x.1 := by rw [List.length_append, List.length_singleton]; omega
    have HX1 := Lib.hid hx1
    have HX2 := Lib.hid hx2
    have HST := Lib.hid hst
    have HEM := Lib.hid em
    have HLT := Lib.hid (show (pre ++ [x]).length ≤ vs.length by rw [List.length_append, List.length_singleton]; omega)
    clear hx1 hx2 hla ex en hst em hlen hlt hxm
    by_cases hq : Lg.isPos a t x.2.x = true
    · obtain ⟨q1, q2, q3⟩ := (show x.2.x.k = 1 ∧ x.2.x.a = a ∧ x.2.x.t ≤ t by simpa [Lg.isPos] using hq)
      have zt : (x.2.x.k == 1) = true := by simp [q1]
      have za : (x.2.x.a == a) = true := by simp [q2]
      have HST2 := Lib.hid (by have := HST.out; rw [if_pos hq] at this; exact this : Lg.lastAt (Lg.xs vs) a t vs.length = some x.1)
      clear hq HST q1 q2
      gi_wp2
      (try refine wpIn_block ?_)
      refine region_round (S := fun w' => w'.heap[Bx]? = some (.cells x.2.cells.toArray 32 (0, 0)) ∧ True) (by kernel_rfl) (by kernel_rfl) (by rintro ⟨a, w, h⟩; exact h) ⟨hbx, trivial⟩ ?_
      intro h0
      refine wpAnyH_take (i := 0) (v := ?_) rfl (by kernel_rfl) (by kernel_rfl) (by kernel_rfl) (fun _ _ _ h => h) (Or.inl ⟨by rfl, ?_⟩) h0 ?_
      rotate_left
      focus (intro w' hSw; skip; go_simp; (try with_reducible rfl))
      (try simp only [List.getElem_toArray, List.getElem_cons_succ, List.getElem_cons_zero, Act.put, List.setIfInBounds_toArray, List.set_cons_zero, List.set_cons_succ])
      refine wpAnyH_take (i := 1) (v := .agg #[.int .i64 x.2.x.x, .int .i64 x.2.x.y, .int .i64 x.2.x.z]) rfl (by kernel_rfl) (by kernel_rfl) (by kernel_rfl) (fun _ _ _ h => h) (yields_load_at (by rfl) 25 _ rfl Bx 3 rfl _ _ (fun w' hS => Lg.pos_at x.2 hS.1) Try.underlying25 rfl (by kernel_rfl)) h0 ?_
      (try simp only [List.getElem_toArray, List.getElem_cons_succ, List.getElem_cons_zero, Act.put, List.setIfInBounds_toArray, List.set_cons_zero, List.set_cons_succ])
      refine wpAnyH_take (i := 2) (v := ?_) rfl (by kernel_rfl) (by kernel_rfl) (by kernel_rfl) (fun _ _ _ h => h) (Or.inl ⟨by rfl, ?_⟩) h0 ?_
      rotate_left
      focus (intro w' hSw; skip; go_simp; (try with_reducible rfl))
      (try simp only [List.getElem_toArray, List.getElem_cons_succ, List.getElem_cons_zero, Act.put, List.setIfInBounds_toArray, List.set_cons_zero, List.set_cons_succ])
      refine wpAnyH_take (i := 3) (v := ?_) rfl (by kernel_rfl) (by kernel_rfl) (by kernel_rfl) (fun _ _ _ h => h) (Or.inl ⟨by rfl, ?_⟩) h0 ?_
      rotate_left
      focus (intro w' hSw; have d0 : w'.cell? ⟨Bx, 0, none⟩ = some (.int .i64 x.2.x.t) := arr_cell hSw.1 rfl; go_simp; (try with_reducible rfl))
      (try simp only [List.getElem_toArray, List.getElem_cons_succ, List.getElem_cons_zero, Act.put, List.setIfInBounds_toArray, List.set_cons_zero, List.set_cons_succ])
      refine wpAnyH_ready (rs := [4]) (by kernel_rfl) (by simp) ?_
      refine AllReadyH.cons rfl (fun K hK => ?_) AllReadyH.nil
      refine wp_store_row 25 _ _ rfl _ _ rfl rfl 25 _ (hy6) (by kernel_rfl) rfl (by simp [Value.oneCell']) ?_
      refine hK.out _ _ ?_ (fun h1 => ?_)
      · exact ⟨(setRow_other _ _ _ _ (by omega)).trans h0.1, trivial⟩
      clear hK K
      (try simp only [List.getElem_toArray, List.getElem_cons_succ, List.getElem_cons_zero, Act.put, List.setIfInBounds_toArray, List.set_cons_zero, List.set_cons_succ])
      generalize hW : World.setRow _ _ _ = W5 at h1 ⊢
      have B5 : Below w.heap.size w W5 := by rw [← hW]; exact below_setRow ((HB1.trans (hBn.mono (by omega))).drew) (by omega) _
      have g6 : W5.heap[w.heap.size + 2]? = some (.cells #[.int .i64 x.2.x.x, .int .i64 x.2.x.y, .int .i64 x.2.x.z] 25 (0, 0)) := by rw [← hW]; exact setRow_heap _ _ _ _ _ _ hy6
      have g7 : W5.heap[w.heap.size + 3]? = some (.cells #[.int .i64 0] 3 (0, 0)) := by rw [← hW]; exact (setRow_other _ _ _ _ (by omega)).trans hy7
      have g8 : W5.heap[w.heap.size + 4]? = some (.cells #[.int .i64 0] 34 (0, 0)) := by rw [← hW]; exact (setRow_other _ _ _ _ (by omega)).trans hy8
      have K5 : KeepsFrom W1.heap.size V W5 := by rw [← hW]; exact ⟨(kf_setRow (B := W1.heap.size) (g := w.heap.size + 1 + 1) (W := V.drew) (by omega)).size, (kf_setRow (B := W1.heap.size) (g := w.heap.size + 1 + 1) (W := V.drew) (by omega)).same⟩
      clear hW
      have c7 := blk_cell (l := [_]) g7 0 rfl
      have f7 := blk_free g7 0
      have c8 := blk_cell (l := [_]) g8 0 rfl
      have f8 := blk_free g8 0
      refine wpAnyH_ready (rs := [5]) (by kernel_rfl) (by simp) ?_
      refine AllReadyH.cons rfl (fun K hK => ?_) AllReadyH.nil
      go_simp
      refine hK.out _ _ ?_ (fun h2 => ?_)
      · exact ⟨blk_far h1.1 (by show Bx ≠ w.heap.size + 1 + 1 + 1; omega) _, trivial⟩
      clear hK K
      (try simp only [List.getElem_toArray, List.getElem_cons_succ, List.getElem_cons_zero, Act.put, List.setIfInBounds_toArray, List.set_cons_zero, List.set_cons_succ])
      have g6 := blk_far g6 (a := ⟨w.heap.size + 1 + 1 + 1, 0, none⟩) (by simp) (.int .i64 x.2.x.t)
      have g7 := blk_set g7 0 (.int .i64 x.2.x.t)
      have g8 := blk_far g8 (a := ⟨w.heap.size + 1 + 1 + 1, 0, none⟩) (by simp) (.int .i64 x.2.x.t)
      have c8 := blk_cell (l := [_]) g8 0 rfl
      have f8 := blk_free g8 0
      refine wpAnyH_ready (rs := [6]) (by kernel_rfl) (by simp) ?_
      refine AllReadyH.cons rfl (fun K hK => ?_) AllReadyH.nil
      go_simp
      refine hK.out _ _ ?_ (fun h3 => ?_)
      · exact ⟨blk_far h2.1 (by show Bx ≠ w.heap.size + 1 + 1 + 1 + 1; omega) _, trivial⟩
      clear hK K
      (try simp only [List.getElem_toArray, List.getElem_cons_succ, List.getElem_cons_zero, Act.put, List.setIfInBounds_toArray, List.set_cons_zero, List.set_cons_succ])
      have g6 := blk_far g6 (a := ⟨w.heap.size + 1 + 1 + 1 + 1, 0, none⟩) (by simp) (.int .i64 0)
      have g7 := blk_far g7 (a := ⟨w.heap.size + 1 + 1 + 1 + 1, 0, none⟩) (by simp) (.int .i64 0)
      have g8 := blk_set g8 0 (.int .i64 0)
      refine wpAnyH_done (by kernel_rfl) ?_ _
      gi_wp2
      have B6 := (B5.setCell (p := ⟨w.heap.size + 1 + 1 + 1, 0, none⟩) (by show w.heap.size ≤ w.heap.size + 1 + 1 + 1; omega) (.int .i64 x.2.x.t)).setCell (p := ⟨w.heap.size + 1 + 1 + 1 + 1, 0, none⟩) (by show w.heap.size ≤ w.heap.size + 1 + 1 + 1 + 1; omega) (.int .i64 0)
      exact ⟨(K5.trans (kf_setCell (by show w.heap.size + 1 + 1 + 1 < _; omega))).trans (kf_setCell (by show w.heap.size + 1 + 1 + 1 + 1 < _; omega)), rfl, B6, x.1, HST2.out, by rw [← HX2.out]; exact g6, by rw [← HX2.out]; exact g7, g8⟩
    · have HST2 := Lib.hid (by have := HST.out; rw [if_neg hq] at this; exact this : Lg.lastAt (Lg.xs vs) a t vs.length = Lg.lastAt (Lg.xs vs) a t x.1)
      have hq2 : ¬ (x.2.x.k = 1 ∧ x.2.x.a = a ∧ x.2.x.t ≤ t) := by simpa [Lg.isPos] using hq
      have zz : ((x.2.x.k == 1) = true ∧ (x.2.x.a == a) = true ∧ ¬ x.2.x.t ≤ t) ∨ ((x.2.x.k == 1) = true ∧ (x.2.x.a == a) = false) ∨ (x.2.x.k == 1) = false := by
        by_cases h1 : x.2.x.k = 1
        · by_cases h2 : x.2.x.a = a
          · exact .inl ⟨by simp [h1], by simp [h2], fun h3 => hq2 ⟨h1, h2, h3⟩⟩
          · exact .inr (.inl ⟨by simp [h1], by simp [h2]⟩)
        · exact .inr (.inr (by simp [h1]))
      clear hq hq2 HST
      rcases zz with ⟨zt, za, zl⟩ | ⟨zt, za⟩ | zt
      all_goals
        gi_wp2
        exact ⟨KeepsFrom.refl _ V, Below.refl _ _, hBn, HLT.out, by rw [HEM.out]; exact HST2.out⟩
  case done =>
    rintro D ys V hD hys ⟨hBn, hlen, hla⟩ hK
    have hno : Lg.lastAt (Lg.xs vs) a t vs.length = none := by rw [hla, hys, Nat.sub_self]; rfl
    have HNO := Lib.hid hno
    clear hno
    have hzV := hBn.size
    have hy6 := blk_below y6 hBn (by omega)
    have hy7 := blk_below y7 hBn (by omega)
    have hy8 := blk_below y8 hBn (by omega)
    clear hla
    have g6 := setRow_heap V (w.heap.size + 1 + 1) _ #[.int .i64 0, .int .i64 0, .int .i64 0] 25 (0, 0) hy6
    have g7 : (V.setRow (w.heap.size + 1 + 1) #[.int .i64 0, .int .i64 0, .int .i64 0]).heap[w.heap.size + 3]? = some (.cells #[.int .i64 0] 3 (0, 0)) := (setRow_other _ _ _ _ (by omega)).trans hy7
    have g8 : (V.setRow (w.heap.size + 1 + 1) #[.int .i64 0, .int .i64 0, .int .i64 0]).heap[w.heap.size + 4]? = some (.cells #[.int .i64 0] 34 (0, 0)) := (setRow_other _ _ _ _ (by omega)).trans hy8
    have HB5 : Below w.heap.size w (V.setRow (w.heap.size + 1 + 1) #[.int .i64 0, .int .i64 0, .int .i64 0]) := below_setRow (HB1.trans (hBn.mono (by omega))) (by omega) _
    have hK5 : (V.setRow (w.heap.size + 1 + 1) #[.int .i64 0, .int .i64 0, .int .i64 0]).heap[D]? = some (.deferred (some [])) := (setRow_other _ _ _ _ (by omega)).trans hK
    generalize hW : V.setRow (w.heap.size + 1 + 1) #[.int .i64 0, .int .i64 0, .int .i64 0] = W5 at *
    have c7 := blk_cell (l := [_]) g7 0 rfl
    have f7 := blk_free g7 0
    have c8 := blk_cell (l := [_]) g8 0 rfl
    have f8 := blk_free g8 0
    gi_wp2_with (first | (refine wpListIn_store_row rfl 25 _ _ rfl (w.heap.size + 1 + 1) #[.int .i64 0, .int .i64 0, .int .i64 0] rfl rfl 25 _ hy6 (by kernel_rfl) rfl (by simp [Value.oneCell']) ?_; rw [hW]))
    have e6 := blk_far (blk_far g6 (a := ⟨w.heap.size + 1 + 1 + 1, 0, none⟩) (by simp) (.int .i64 0)) (a := ⟨w.heap.size + 1 + 1 + 1 + 1, 0, none⟩) (by simp) (.int .i64 9)
    have e7 := blk_far (blk_set g7 0 (.int .i64 0)) (a := ⟨w.heap.size + 1 + 1 + 1 + 1, 0, none⟩) (by simp) (.int .i64 9)
    have e8 := blk_set (blk_far g8 (a := ⟨w.heap.size + 1 + 1 + 1, 0, none⟩) (by simp) (.int .i64 0)) 0 (.int .i64 9)
    have eD := blk_far (blk_far hK5 (a := ⟨w.heap.size + 1 + 1 + 1, 0, none⟩) (by show D ≠ w.heap.size + 1 + 1 + 1; omega) (.int .i64 0)) (a := ⟨w.heap.size + 1 + 1 + 1 + 1, 0, none⟩) (by show D ≠ w.heap.size + 1 + 1 + 1 + 1; omega) (.int .i64 9)
    have B6 := (HB5.setCell (p := ⟨w.heap.size + 1 + 1 + 1, 0, none⟩) (by show w.heap.size ≤ w.heap.size + 1 + 1 + 1; omega) (.int .i64 0)).setCell (p := ⟨w.heap.size + 1 + 1 + 1 + 1, 0, none⟩) (by show w.heap.size ≤ w.heap.size + 1 + 1 + 1 + 1; omega) (.int .i64 9)
    refine ⟨by simp, .inl ⟨_, _, rfl, run_takeDeferred eD, ?_⟩⟩
    refine ⟨_, results_ccc rfl _ _ (w.heap.size + 2) (w.heap.size + 3) (w.heap.size + 4) _ #[.int .i64 0, .int .i64 0, .int .i64 0] (.int .i64 0) (.int .i64 9) _ _ _ rfl rfl rfl ((World.putObj_heap_other (by omega)).trans e6) (blk_cell (l := [_]) ((World.putObj_heap_other (by omega)).trans e7) 0 rfl) (blk_cell (l := [_]) ((World.putObj_heap_other (by omega)).trans e8) 0 rfl) Try.underlying3 rfl Try.underlying34 rfl Try.underlying25 rfl (by kernel_rfl), .inl ⟨HNO.out, rfl⟩, ?_⟩
    exact B6.grown (grownBy_putObj' _ _ _) (by have := (Array.getElem?_eq_some_iff.1 eD).1; omega) (fun k e => by cases e; omega)
  case stop =>
    rintro D c' pre V hD _ ⟨rfl, hBV, i, hi, g6, g7, g8⟩ hK
    have HI := Lib.hid hi
    clear hi
    gi_wp2
    refine ⟨by simp, .inl ⟨_, _, rfl, run_takeDeferred hK, ?_⟩⟩
    refine ⟨_, results_ccc rfl _ _ (w.heap.size + 2) (w.heap.size + 3) (w.heap.size + 4) _ _ _ _ _ _ _ rfl rfl rfl ((World.putObj_heap_other (by omega)).trans g6) (blk_cell (l := [_]) ((World.putObj_heap_other (by omega)).trans g7) 0 rfl) (blk_cell (l := [_]) ((World.putObj_heap_other (by omega)).trans g8) 0 rfl) Try.underlying3 rfl Try.underlying34 rfl Try.underlying25 rfl (by kernel_rfl), .inr ⟨i, HI.out, rfl⟩, ?_⟩
    exact hBV.grown (grownBy_putObj' _ _ _) (by have := (Array.getElem?_eq_some_iff.1 hK).1; omega) (fun k e => by cases e; omega)
end
end Go.Proofs.Ytgmejplcdecmkaa

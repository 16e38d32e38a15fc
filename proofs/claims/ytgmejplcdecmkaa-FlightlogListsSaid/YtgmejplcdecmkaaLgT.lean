/- At, Copy, Same, SameAll. -/
import Derived.Test.YtgmejplcdecmkaaLgS
namespace Go.Proofs.Ytgmejplcdecmkaa
open Go.RowKit
set_option maxHeartbeats 8000000
set_option maxRecDepth 100000
set_option linter.unusedSimpArgs false
set_option linter.unusedVariables false
attribute [local go_sem ↓] Go.wp_at_zero Go.wp_at_succ
theorem results_ct {P : Program} {fn : Func} {p b : Tmp} {ty : TypeId} (h : fn.results = #[.cell p ty, .tmp b]) (tmps : Array Value) (w : World) (g : Nat) (t : TypeId) (cs : Array Value) (fr : Nat × Nat) (d : TypeDesc)
    (hp : tmps.getD p undef = .pointer (some ⟨g, 0, none⟩)) (hg : w.heap[g]? = some (.cells cs t fr))
    (hu : P.underlying ty = some d) (hd : (match d with | .struct _ | .array _ _ => true | _ => false) = true) (hi : (P.info? ty).map (·.size) = some cs.size) :
    (results fn tmps).run P w = .ok (.tuple #[.agg cs, tmps.getD b undef]) w := by
  have hp' : tmps[p]?.getD undef = .pointer (some ⟨g, 0, none⟩) := by simpa using hp
  simp [results, h, hp', asAddr, run_loadVar_row w g t ty cs fr d hg hu hd hi]
section
variable {w w' : World} {base p c n : Nat} {X X' : Nat → Prop} {A : Option Addr} {vs : List Lg.RV}
open Lg (IsLg)
theorem lat_nil (i : Int) (w : World) : Calls Try.prog 35 #[.pointer none, .int .i64 i] w fun e w' => e = .returned (.tuple #[Lg.rv0.val, .int .i64 1]) ∧ Below w.heap.size w w' := by
  have hz := heap_new w (.cells #[.int .i64 0, .int .i64 0, .int .i64 0, .int .i64 0, .int .i64 0, .int .i64 0, .int .i64 0, .int .i64 0, .int .i64 0, .int .i64 0, .int .i64 0, .slice none 0 0, .int .u32 0] 32 (0, 0))
  go_enter Try.func35, Try.ntmps35
  go_wp2_with fail
  exact bodyPost_ret (results_ct rfl _ _ w.heap.size 32 #[.int .i64 0, .int .i64 0, .int .i64 0, .int .i64 0, .int .i64 0, .int .i64 0, .int .i64 0, .int .i64 0, .int .i64 0, .int .i64 0, .int .i64 0, .slice none 0 0, .int .u32 0] (0, 0) _ rfl hz Try.underlying32 rfl (by kernel_rfl)) rfl ⟨rfl, (by repeat (first | (with_reducible exact Below.refl _ _) | (with_reducible refine Below.drew ?_) | (with_reducible refine below_drewN ?_ _) | ((with_reducible refine Below.alloc ?_ ?_ _); rotate_left; (first | omega | (simp <;> omega)); rotate_right) | ((with_reducible refine Below.setCell ?_ ?_ _); rotate_left; (first | omega | (simp <;> omega)); rotate_right) | (with_reducible assumption) | (refine Below.trans ?_ (Below.mono (by assumption) ?_); rotate_left; (first | omega | (simp <;> omega)); rotate_right)))⟩
theorem lat_no (h : IsLg w base p A c vs X) (i : Int) (hi : i < 0 ∨ (vs.length : Int) ≤ i) : Calls Try.prog 35 #[.pointer (some ⟨p, 0, none⟩), .int .i64 i] w fun e w' => e = .returned (.tuple #[Lg.rv0.val, .int .i64 3]) ∧ Below w.heap.size w w' := by
  have c0 := (World.cell?_alloc_lt w (.cells #[.int .i64 0, .int .i64 0, .int .i64 0, .int .i64 0, .int .i64 0, .int .i64 0, .int .i64 0, .int .i64 0, .int .i64 0, .int .i64 0, .int .i64 0, .slice none 0 0, .int .u32 0] 32 (0, 0)) ⟨p, 0, none⟩ h.lt).trans (show w.cell? ⟨p, 0, none⟩ = some (.slice A vs.length c) from blk_cell (l := [_]) h.blk 0 rfl)
  have hz := heap_new w (.cells #[.int .i64 0, .int .i64 0, .int .i64 0, .int .i64 0, .int .i64 0, .int .i64 0, .int .i64 0, .int .i64 0, .int .i64 0, .int .i64 0, .int .i64 0, .slice none 0 0, .int .u32 0] 32 (0, 0))
  have hp := h.lt
  clear h
  rcases hi with hi | hi
  all_goals
    go_enter Try.func35, Try.ntmps35
    go_wp2_with fail
    exact bodyPost_ret (results_ct rfl _ _ w.heap.size 32 #[.int .i64 0, .int .i64 0, .int .i64 0, .int .i64 0, .int .i64 0, .int .i64 0, .int .i64 0, .int .i64 0, .int .i64 0, .int .i64 0, .int .i64 0, .slice none 0 0, .int .u32 0] (0, 0) _ rfl hz Try.underlying32 rfl (by kernel_rfl)) rfl ⟨rfl, (by repeat (first | (with_reducible exact Below.refl _ _) | (with_reducible refine Below.drew ?_) | (with_reducible refine below_drewN ?_ _) | ((with_reducible refine Below.alloc ?_ ?_ _); rotate_left; (first | omega | (simp <;> omega)); rotate_right) | ((with_reducible refine Below.setCell ?_ ?_ _); rotate_left; (first | omega | (simp <;> omega)); rotate_right) | (with_reducible assumption) | (refine Below.trans ?_ (Below.mono (by assumption) ?_); rotate_left; (first | omega | (simp <;> omega)); rotate_right)))⟩
theorem lat_yes (h : IsLg w base p A c vs X) (i : Nat) (hi : i < vs.length) (hn : vs.length ≤ 1000000) (hd : (vs.getD i Lg.rv0).x.f.d.length ≤ 1000) :
    Calls Try.prog 35 #[.pointer (some ⟨p, 0, none⟩), .int .i64 i] w fun e w' => ∃ A' c', e = .returned (.tuple #[Lg.RV.val ⟨(vs.getD i Lg.rv0).x, A', c'⟩, .int .i64 0]) ∧ Ow w' w.heap.size A' (vs.getD i Lg.rv0).x.f.d.length c' (vs.getD i Lg.rv0).x.f.d ∧ Below w.heap.size w w' := by
  have c0 := (World.cell?_alloc_lt w (.cells #[.int .i64 0, .int .i64 0, .int .i64 0, .int .i64 0, .int .i64 0, .int .i64 0, .int .i64 0, .int .i64 0, .int .i64 0, .int .i64 0, .int .i64 0, .slice none 0 0, .int .u32 0] 32 (0, 0)) ⟨p, 0, none⟩ h.lt).trans (show w.cell? ⟨p, 0, none⟩ = some (.slice A vs.length c) from blk_cell (l := [_]) h.blk 0 rfl)
  have hp := h.lt
  obtain ⟨b, o, rfl, hb, hc, hok⟩ := h.rr.at_ hi
  have OW := Lib.hid (fun (W : World) (hW : Below w.heap.size w W) => lown_any (vs.getD i Lg.rv0) W (hok.up hW) hd)
  obtain ⟨n, hvn⟩ : ∃ n, n = vs.length := ⟨_, rfl⟩
  rw [← hvn] at hi hn c0
  have hcs : ∀ j u, (vs.getD i Lg.rv0).cells[j]? = some u → (w.alloc (.cells #[.int .i64 0, .int .i64 0, .int .i64 0, .int .i64 0, .int .i64 0, .int .i64 0, .int .i64 0, .int .i64 0, .int .i64 0, .int .i64 0, .int .i64 0, .slice none 0 0, .int .u32 0] 32 (0, 0))).cell? ⟨b, o + i * 13 + j, none⟩ = some u := fun j u hu => (World.cell?_alloc_lt w _ ⟨b, _, none⟩ hb).trans (hc j u hu)
  have hl13 := Lg.RV.len (vs.getD i Lg.rv0)
  have hz := heap_new w (.cells #[.int .i64 0, .int .i64 0, .int .i64 0, .int .i64 0, .int .i64 0, .int .i64 0, .int .i64 0, .int .i64 0, .int .i64 0, .int .i64 0, .int .i64 0, .slice none 0 0, .int .u32 0] 32 (0, 0))
  have ii : (i : Int) < (n : Int) := by omega
  clear h hc hok hvn
  generalize vs.getD i Lg.rv0 = v at *
  go_enter Try.func35, Try.ntmps35
  go_wp2_with (refine wpList_load_at rfl 32 _ rfl b (o + i * 13) rfl _ _ hcs Try.underlying32 rfl (by rw [hl13]; kernel_rfl) ?_)
  refine (OW.out _ (by repeat (first | (with_reducible exact Below.refl _ _) | (with_reducible refine Below.drew ?_) | (with_reducible refine below_drewN ?_ _) | ((with_reducible refine Below.alloc ?_ ?_ _); rotate_left; (first | omega | (simp <;> omega)); rotate_right) | ((with_reducible refine Below.setCell ?_ ?_ _); rotate_left; (first | omega | (simp <;> omega)); rotate_right) | (with_reducible assumption) | (refine Below.trans ?_ (Below.mono (by assumption) ?_); rotate_left; (first | omega | (simp <;> omega)); rotate_right)))).mono ?_
  rintro e w1 ⟨A1, c1, rfl, o1, hb1⟩
  have hz1 := blk_below hz hb1 (by simp)
  have HB1 := (show Below w.heap.size w w1 from (by repeat (first | (with_reducible exact Below.refl _ _) | (with_reducible refine Below.drew ?_) | (with_reducible refine below_drewN ?_ _) | ((with_reducible refine Below.alloc ?_ ?_ _); rotate_left; (first | omega | (simp <;> omega)); rotate_right) | ((with_reducible refine Below.setCell ?_ ?_ _); rotate_left; (first | omega | (simp <;> omega)); rotate_right) | (with_reducible assumption) | (refine Below.trans ?_ (Below.mono (by assumption) ?_); rotate_left; (first | omega | (simp <;> omega)); rotate_right))))
  obtain ⟨C, hval, hC, hCs⟩ := rv_opaque ⟨v.x, A1, c1⟩
  have hon := rv_ones ⟨v.x, A1, c1⟩
  rw [hC] at hon
  rw [hval]
  have HV := Lib.hid hval
  have HO := Lib.hid (o1.more (base' := w.heap.size + 1) (by simp))
  clear hb1 hz hval o1 hcs c0
  go_wp2_with (refine wpList_store_row rfl 32 _ _ rfl _ _ rfl rfl 32 _ hz1 (by rw [hCs]; kernel_rfl) hCs.symm hon ?_)
  refine bodyPost_ret (results_ct rfl _ _ w.heap.size 32 C (0, 0) _ rfl (setRow_heap _ _ _ _ _ _ hz1) Try.underlying32 rfl (by rw [hCs]; kernel_rfl)) rfl ⟨A1, c1, by rw [HV.out]; rfl, ?_, below_setRow HB1 (Nat.le_refl _) _⟩
  refine (Ow.kept HO.out ((Keeps.refl (fun i => i = w.heap.size) w1).setRow (g := w.heap.size) (.inl rfl) C) (fun g e => ?_)).more (Nat.le_succ _)
  rcases HO.out.form with ⟨e', _⟩ | ⟨g', e', hh, _⟩
  · rw [e'] at e; cases e
  · rw [e'] at e; injection e with e; injection e with e; omega
/-- a slice of records, once more -/
theorem cloneR_any (h : Lg.Rr w w.heap.size A n vs) (hnil : A = none → n = 0) (hn : n ≤ 1000000) :
    Calls Try.prog 68 #[.slice A n c] w fun e w' => ∃ A' c', e = .returned (.slice A' n c') ∧ Row w' w.heap.size 32 13 A' n c' (Lg.cs vs) ∧ Below w.heap.size w w' := by
  obtain ⟨i0, hi0, hz0, hz1, hz2⟩ := info_parts info_rec
  have hl := h.len
  cases A with
  | none =>
    obtain rfl := hnil rfl
    have hv : vs = [] := List.eq_nil_of_length_eq_zero hl
    subst hv
    have kn := fun (W : World) => Lib.run_eql_slice_nil (P := Try.prog) W 40 32 none 0 c 0 0 Try.underlying40
    simp only [Option.isNone] at kn
    go_enter Try.func68, Try.ntmps68
    go_wp2_with fail
    go_ret
    exact ⟨none, 0, rfl, Row.nil _ _ _ _, (by repeat (first | (with_reducible exact Below.refl _ _) | (with_reducible refine Below.drew ?_) | (with_reducible refine below_drewN ?_ _) | ((with_reducible refine Below.alloc ?_ ?_ _); rotate_left; (first | omega | (simp <;> omega)); rotate_right) | ((with_reducible refine Below.setCell ?_ ?_ _); rotate_left; (first | omega | (simp <;> omega)); rotate_right) | (with_reducible assumption) | (refine Below.trans ?_ (Below.mono (by assumption) ?_); rotate_left; (first | omega | (simp <;> omega)); rotate_right)))⟩
  | some a =>
    have hr := h.1.reads
    clear h hnil
    have kn := fun (W : World) => Lib.run_eql_slice_nil (P := Try.prog) W 40 32 (some a) n c 0 0 Try.underlying40
    simp only [Option.isNone] at kn
    go_enter Try.func68, Try.ntmps68
    go_wp2_with (at_builtin; refine wpList_append_any _ rfl (.tmp 5) (.tmp 6) _ rfl w.heap.size 32 i0 _ 13 120 Try.underlying40 hi0 hz0 hz1 hz2 rfl (by omega) (.slice (some ⟨w.heap.size, 0, none⟩) 0 0) 0 [] rfl (World.ownsRow_lit w #[] 0 (Nat.le_refl _) (by unfold maxLen; omega) rfl) w.heap.size (some a) n c (Lg.cs vs) rfl (hr.alloc (Nat.le_refl _) _) (Lg.cs_ones vs) (by simp only [maxLen]; omega) (by omega) (by simp) ?_; intro v1 w1 hown1 hg1 hat1)
    go_ret
    simp only [Nat.zero_add, List.nil_append] at hown1
    obtain ⟨A', cap', rfl⟩ := own_formS hown1
    exact ⟨A', cap', rfl, Row.of_own hown1, ((Below.refl _ _).alloc (Nat.le_refl _) _).grown hg1 (by simp) (fun k hk => by simp [Value.ownBlock] at hk; omega)⟩
theorem lcopy_nil (w : World) : Calls Try.prog 40 #[.pointer none] w fun e w' => e = .returned (.pointer none) ∧ Below w.heap.size w w' := by
  go_enter Try.func40, Try.ntmps40
  go_wp2_with fail
  go_ret
  exact ⟨rfl, (by repeat (first | (with_reducible exact Below.refl _ _) | (with_reducible refine Below.drew ?_) | (with_reducible refine below_drewN ?_ _) | ((with_reducible refine Below.alloc ?_ ?_ _); rotate_left; (first | omega | (simp <;> omega)); rotate_right) | ((with_reducible refine Below.setCell ?_ ?_ _); rotate_left; (first | omega | (simp <;> omega)); rotate_right) | (with_reducible assumption) | (refine Below.trans ?_ (Below.mono (by assumption) ?_); rotate_left; (first | omega | (simp <;> omega)); rotate_right)))⟩
theorem lcopy_any (h : IsLg w base p A c vs X) (hn : vs.length ≤ 1000000) :
    Calls Try.prog 40 #[.pointer (some ⟨p, 0, none⟩)] w fun e w' => ∃ p' A' c', e = .returned (.pointer (some ⟨p', 0, none⟩)) ∧ IsLg w' w.heap.size p' A' c' vs X ∧ Below w.heap.size w w' := by
  have c0 : w.cell? ⟨p, 0, none⟩ = some (.slice A vs.length c) := blk_cell (l := [_]) h.blk 0 rfl
  have CL := Lib.hid (cloneR_any (c := c) h.rr (fun e => by
    rcases h.row.2 with ⟨_, h0, _⟩ | ⟨g, o, cur, e', _⟩
    · exact h0
    · rw [e] at e'; cases e') hn)
  have HD := Lib.hid h.dat
  clear h
  obtain ⟨n, hvn⟩ : ∃ n, n = vs.length := ⟨_, rfl⟩
  rw [← hvn] at c0 CL
  have HN := Lib.hid hvn
  clear hvn
  go_enter Try.func40, Try.ntmps40
  go_wp2_with fail
  refine CL.out.mono ?_
  rintro e w1 ⟨A1, c1, rfl, r1, hb1⟩
  have hz1 := hb1.size
  have R1 := Lib.hid r1
  clear r1
  go_wp2_with fail
  go_ret
  refine ⟨_, A1, c1, rfl, ⟨?_, ?_, fun y hy => ?_, hz1⟩, (by repeat (first | (with_reducible exact Below.refl _ _) | (with_reducible refine Below.drew ?_) | (with_reducible refine below_drewN ?_ _) | ((with_reducible refine Below.alloc ?_ ?_ _); rotate_left; (first | omega | (simp <;> omega)); rotate_right) | ((with_reducible refine Below.setCell ?_ ?_ _); rotate_left; (first | omega | (simp <;> omega)); rotate_right) | (with_reducible assumption) | (refine Below.trans ?_ (Below.mono (by assumption) ?_); rotate_left; (first | omega | (simp <;> omega)); rotate_right)))⟩
  · rw [← HN.out]; exact heap_new _ _
  · rw [← HN.out]; exact R1.out.alloc _
  · exact (HD.out y hy).below (by exact (by repeat (first | (with_reducible exact Below.refl _ _) | (with_reducible refine Below.drew ?_) | (with_reducible refine below_drewN ?_ _) | ((with_reducible refine Below.alloc ?_ ?_ _); rotate_left; (first | omega | (simp <;> omega)); rotate_right) | ((with_reducible refine Below.setCell ?_ ?_ _); rotate_left; (first | omega | (simp <;> omega)); rotate_right) | (with_reducible assumption) | (refine Below.trans ?_ (Below.mono (by assumption) ?_); rotate_left; (first | omega | (simp <;> omega)); rotate_right))))
end
end Go.Proofs.Ytgmejplcdecmkaa

/- The reference: whose records, the last position. -/
import Derived.Test.YtgmejplcdecmkaaLgMc
import Derived.Deep.QuietTactic
import Derived.BigQuiet
namespace Go.Proofs.Ytgmejplcdecmkaa
open Go.RowKit
set_option maxHeartbeats 8000000
set_option maxRecDepth 100000
set_option linter.unusedSimpArgs false
set_option linter.unusedVariables false
attribute [local go_sem ↓] Go.wp_at_zero Go.wp_at_succ
theorem rof_any (a : Int) (w : World) : Calls Try.prog 62 #[.int .i64 a] w fun e w' => e = .returned (.bool (Frm.inB a 0 64)) ∧ w = w' := by
  by_cases h : 0 ≤ a
  · by_cases g : a ≤ 64
    · rw [show Frm.inB a 0 64 = true by simp [Frm.inB, h, g]]
      go_enter Try.func62, Try.ntmps62
      go_wp2_with fail
      go_ret
      exact ⟨rfl, rfl⟩
    · rw [show Frm.inB a 0 64 = false by simp [Frm.inB, h, g]]
      go_enter Try.func62, Try.ntmps62
      go_wp2_with fail
      go_ret
      exact ⟨rfl, rfl⟩
  · rw [show Frm.inB a 0 64 = false by simp [Frm.inB, h]]
    go_enter Try.func62, Try.ntmps62
    go_wp2_with fail
    go_ret
    exact ⟨rfl, rfl⟩
theorem rof_is (a : Int) (w : World) (r : Bool) (h : Frm.inB a 0 64 = r) : Calls Try.prog 62 #[.int .i64 a] w fun e w' => e = .returned (.bool r) ∧ w = w' := by
  subst h
  exact rof_any a w
theorem Lg.of_yes {a : Int} (h : Lg.ofE a = 0) : Frm.inB a 0 64 = true := by
  unfold Lg.ofE at h
  split at h
  · simp [Frm.inB]; omega
  · omega
theorem Lg.of_no {a : Int} (h : Lg.ofE a = 2) : Frm.inB a 0 64 = false := by
  unfold Lg.ofE at h
  split at h
  · omega
  · simp [Frm.inB]; omega
theorem cell_row (w : World) (g : Nat) (cs : Array Value) (a : Addr) (h : a.block ≠ g) : (w.setRow g cs).cell? a = w.cell? a := by
  unfold World.cell?
  rw [setRow_other _ _ _ _ h]
theorem Lg.pos_row {V : World} {b o : Nat} (v : Lg.RV) (h : ∀ (j : Nat) (u : Value), v.cells[j]? = some u → V.cell? ⟨b, o + j, none⟩ = some u) : ∀ (j : Nat) (u : Value), [(.int .i64 v.x.x : Value), .int .i64 v.x.y, .int .i64 v.x.z][j]? = some u → V.cell? ⟨b, o + 3 + j, none⟩ = some u := by
  intro j u hj
  rcases j with _ | _ | _ | j
  · cases hj; exact h 3 _ rfl
  · cases hj; exact h 4 _ rfl
  · cases hj; exact h 5 _ rfl
  · simp at hj
theorem lres_ctt {P : Program} {fn : Func} {p a b : Tmp} {ty : TypeId} (h : fn.results = #[.cell p ty, .tmp a, .tmp b]) (tmps : Array Value) (w : World) (g : Nat) (t : TypeId) (cs : Array Value) (fr : Nat × Nat) (d : TypeDesc)
    (hp : tmps.getD p undef = .pointer (some ⟨g, 0, none⟩)) (hg : w.heap[g]? = some (.cells cs t fr))
    (hu : P.underlying ty = some d) (hd : (match d with | .struct _ | .array _ _ => true | _ => false) = true) (hi : (P.info? ty).map (·.size) = some cs.size) :
    (results fn tmps).run P w = .ok (.tuple #[.agg cs, tmps.getD a undef, tmps.getD b undef]) w := by
  have hp' : tmps[p]?.getD undef = .pointer (some ⟨g, 0, none⟩) := by simpa using hp
  simp [results, h, hp', asAddr, run_loadVar_row w g t ty cs fr d hg hu hd hi]
theorem rlast_a (A : Option Addr) (n c : Nat) (a t : Int) (h : Lg.ofE a = 2) (w : World) : Calls Try.prog 32 #[.slice A n c, .int .i64 a, .int .i64 t] w fun e w' => e = .returned (.tuple #[.agg #[.int .i64 0, .int .i64 0, .int .i64 0], .int .i64 0, .int .i64 2]) ∧ Below w.heap.size w w' := by
  have D := Lib.hid (fun (W : World) => rof_is a W _ (Lg.of_no h))
  have hbx := heap_new w (.cells #[.int .i64 0, .int .i64 0, .int .i64 0] 25 (0, 0))
  go_enter Try.func32, Try.ntmps32
  go_wp2_with fail
  refine (D.out _).mono ?_
  rintro _ _ ⟨rfl, rfl⟩
  go_wp2_with fail
  exact bodyPost_ret (lres_ctt rfl _ _ w.heap.size 25 #[.int .i64 0, .int .i64 0, .int .i64 0] (0, 0) _ rfl (by apply Eq.trans; (repeat (first | (with_reducible assumption) | (with_reducible apply blk_set) | ((with_reducible apply blk_far); rotate_left; (first | omega | (simp <;> omega)); rotate_right) | (with_reducible apply blk_drew) | (with_reducible apply blk_drewN) | ((with_reducible apply heap_new'); (first | rfl | (simp <;> fail))) | (with_reducible apply blk_alloc))); (first | with_reducible rfl | (simp <;> fail) | rfl)) Try.underlying25 rfl (by kernel_rfl)) rfl ⟨rfl, (by repeat (first | (with_reducible exact Below.refl _ _) | (with_reducible refine Below.drew ?_) | (with_reducible refine below_drewN ?_ _) | ((with_reducible refine Below.alloc ?_ ?_ _); rotate_left; (first | omega | (simp <;> omega)); rotate_right) | ((with_reducible refine Below.setCell ?_ ?_ _); rotate_left; (first | omega | (simp <;> omega)); rotate_right) | (with_reducible assumption) | (refine Below.trans ?_ (Below.mono (by assumption) ?_); rotate_left; (first | omega | (simp <;> omega)); rotate_right)))⟩
theorem rlast_t (A : Option Addr) (n c : Nat) (a t : Int) (h : Lg.ofE a = 0) (ht : ¬ (0 ≤ t ∧ t ≤ 3600000)) (w : World) : Calls Try.prog 32 #[.slice A n c, .int .i64 a, .int .i64 t] w fun e w' => e = .returned (.tuple #[.agg #[.int .i64 0, .int .i64 0, .int .i64 0], .int .i64 0, .int .i64 3]) ∧ Below w.heap.size w w' := by
  have D := Lib.hid (fun (W : World) => rof_is a W _ (Lg.of_yes h))
  have h2 : t < 0 ∨ (0 ≤ t ∧ 3600000 < t) := by omega
  clear ht
  rcases h2 with h1 | ⟨h1, h2⟩
  all_goals
    go_enter Try.func32, Try.ntmps32
    go_wp2_with fail
    refine (D.out _).mono ?_
    rintro _ _ ⟨rfl, rfl⟩
    go_wp2_with fail
    exact bodyPost_ret (lres_ctt rfl _ _ w.heap.size 25 #[.int .i64 0, .int .i64 0, .int .i64 0] (0, 0) _ rfl (by apply Eq.trans; (repeat (first | (with_reducible assumption) | (with_reducible apply blk_set) | ((with_reducible apply blk_far); rotate_left; (first | omega | (simp <;> omega)); rotate_right) | (with_reducible apply blk_drew) | (with_reducible apply blk_drewN) | ((with_reducible apply heap_new'); (first | rfl | (simp <;> fail))) | (with_reducible apply blk_alloc))); (first | with_reducible rfl | (simp <;> fail) | rfl)) Try.underlying25 rfl (by kernel_rfl)) rfl ⟨rfl, (by repeat (first | (with_reducible exact Below.refl _ _) | (with_reducible refine Below.drew ?_) | (with_reducible refine below_drewN ?_ _) | ((with_reducible refine Below.alloc ?_ ?_ _); rotate_left; (first | omega | (simp <;> omega)); rotate_right) | ((with_reducible refine Below.setCell ?_ ?_ _); rotate_left; (first | omega | (simp <;> omega)); rotate_right) | (with_reducible assumption) | (refine Below.trans ?_ (Below.mono (by assumption) ?_); rotate_left; (first | omega | (simp <;> omega)); rotate_right)))⟩
theorem rlast_any {A : Option Addr} {n c : Nat} {vs : List Lg.RV} {w : World} (h : Lg.Rr w w.heap.size A n vs) (hn : n ≤ 1000000) (a t : Int) (ha : Lg.ofE a = 0) (ht : 0 ≤ t ∧ t ≤ 3600000) :
    Calls Try.prog 32 #[.slice A n c, .int .i64 a, .int .i64 t] w fun e w' => Lg.LastPost a t vs e ∧ Below w.heap.size w w' := by
  have D := Lib.hid (fun (W : World) => rof_is a W _ (Lg.of_yes ha))
  have H := Lib.hid h
  have HL := Lib.hid h.len
  obtain ⟨t0, t1⟩ := ht
  have i1 : IntKind.i64.wrap ((n : Int) - 1) = (n : Int) - 1 := IntWalk.i64_in _ (by omega)
  clear h
  have hb0 := heap_new w (.cells #[.int .i64 0, .int .i64 0, .int .i64 0] 25 (0, 0))
  have B0 : Below w.heap.size w (w.alloc (.cells #[.int .i64 0, .int .i64 0, .int .i64 0] 25 (0, 0))) := (by repeat (first | (with_reducible exact Below.refl _ _) | (with_reducible refine Below.drew ?_) | (with_reducible refine below_drewN ?_ _) | ((with_reducible refine Below.alloc ?_ ?_ _); rotate_left; (first | omega | (simp <;> omega)); rotate_right) | ((with_reducible refine Below.setCell ?_ ?_ _); rotate_left; (first | omega | (simp <;> omega)); rotate_right) | (with_reducible assumption) | (refine Below.trans ?_ (Below.mono (by assumption) ?_); rotate_left; (first | omega | (simp <;> omega)); rotate_right)))
  go_enter Try.func32, Try.ntmps32
  go_wp2_with fail
  refine (D.out _).mono ?_
  rintro _ _ ⟨rfl, rfl⟩
  go_wp2_with fail
  go_loopw [9] (fun s wr => ∃ (k : Nat), s = .int .i64 ((k : Int) - 1) ∧ k ≤ n ∧ Below w.heap.size w wr ∧ wr.heap[w.heap.size]? = some (.cells #[.int .i64 0, .int .i64 0, .int .i64 0] 25 (0, 0)) ∧ Hid (Lg.lastAt (Lg.xs vs) a t n = Lg.lastAt (Lg.xs vs) a t k)) (fun s _ => (intOf s + 1).toNat)
  case atStart => exact ⟨n, rfl, Nat.le_refl _, B0, hb0, Lib.hid rfl⟩
  case round =>
    obtain ⟨k, rfl, hk, hBr, hbr, HA⟩ := hrel
    have hzr := hBr.size
    clear hb0 B0
    have c6 := blk_cell (l := [_, _, _]) hbr 0 rfl
    rcases k with _ | k
    · go_wp2_with (first | (refine wpList_store_row rfl 25 _ _ rfl w.heap.size #[.int .i64 0, .int .i64 0, .int .i64 0] rfl rfl 25 _ hbr (by kernel_rfl) rfl (by simp [Value.oneCell']) ?_))
      exact bodyPost_ret (lres_ctt rfl _ _ w.heap.size 25 _ (0, 0) _ rfl (setRow_heap _ _ _ _ _ _ hbr) Try.underlying25 rfl (by kernel_rfl)) rfl ⟨.inl ⟨by rw [HL.out, HA.out]; rfl, rfl⟩, below_setRow hBr (Nat.le_refl _) _⟩
    · have hlt : k < n := by omega
      obtain ⟨b, o, rfl, hbl, hcl, hok⟩ := (H.out.below hBr (Nat.le_refl _)).at_ hlt
      have ex : (Lg.xs vs).getD k Lg.r0 = (vs.getD k Lg.rv0).x := Lg.xs_at (by rw [HL.out]; exact hlt)
      have hst : Lg.lastAt (Lg.xs vs) a t vs.length = if Lg.isPos a t (vs.getD k Lg.rv0).x = true then some k else Lg.lastAt (Lg.xs vs) a t k := by rw [HL.out, HA.out, Lg.lastAt, ex]
      have HST := Lib.hid hst
      have HV := Lib.hid (rfl : vs.getD k Lg.rv0 = vs.getD k Lg.rv0)
      obtain ⟨v, hv⟩ : ∃ v, v = vs.getD k Lg.rv0 := ⟨_, rfl⟩
      rw [← hv] at hcl hst
      replace HV := Lib.hid hv.symm
      replace HST := Lib.hid hst
      clear hst hv ex hok HA
      have HC := Lib.hid hcl
      have d0 : wr.cell? ⟨b, o + k * 13, none⟩ = some (.int .i64 v.x.t) := hcl 0 _ rfl
      have d1 : wr.cell? ⟨b, o + k * 13 + 1, none⟩ = some (.int .i64 v.x.a) := hcl 1 _ rfl
      have d2 : wr.cell? ⟨b, o + k * 13 + 2, none⟩ = some (.int .i64 v.x.k) := hcl 2 _ rfl
      have e1 : ((k + 1 : Nat) : Int) - 1 = (k : Int) := by omega
      have kn : (k : Int) < (n : Int) := by omega
      have k0 : (0 : Int) ≤ (k : Int) := by omega
      have i2 : IntKind.i64.wrap ((k : Int) - 1) = (k : Int) - 1 := IntWalk.i64_in _ (by omega)
      clear hcl
      rw [e1]
      by_cases hq : Lg.isPos a t v.x = true
      · obtain ⟨q1, q2, q3⟩ := (show v.x.k = 1 ∧ v.x.a = a ∧ v.x.t ≤ t by simpa [Lg.isPos] using hq)
        have zt : (v.x.k == 1) = true := by simp [q1]
        have za : (v.x.a == a) = true := by simp [q2]
        have L1 := Lib.hid (by have := HST.out; rw [if_pos hq] at this; exact this : Lg.lastAt (Lg.xs vs) a t vs.length = some k)
        clear hq HST q1 q2 e1
        go_upto_region 9 with fail
        have hcl := HC.out
        refine wp_region_held_drew (S := fun w' => (∀ (j : Nat) (u : Value), v.cells[j]? = some u → w'.cell? ⟨b, o + k * 13 + j, none⟩ = some u) ∧ True) (by kernel_rfl) ?_ (fun h0 => ?_)
        · exact ⟨hcl, trivial⟩
        refine wpAnyH_take (i := 0) (v := ?_) rfl (by kernel_rfl) (by kernel_rfl) (by kernel_rfl) (fun _ _ _ h => h) (Or.inl ⟨by rfl, ?_⟩) h0 ?_
        rotate_left
        focus (intro w' hSw; skip; go_simp; (try with_reducible rfl))
        (try simp only [List.getElem_toArray, List.getElem_cons_succ, List.getElem_cons_zero, Act.put, List.setIfInBounds_toArray, List.set_cons_zero, List.set_cons_succ])
        refine wpAnyH_take (i := 1) (v := ?_) rfl (by kernel_rfl) (by kernel_rfl) (by kernel_rfl) (fun _ _ _ h => h) (Or.inl ⟨by rfl, ?_⟩) h0 ?_
        rotate_left
        focus (intro w' hSw; skip; go_simp; (try with_reducible rfl))
        (try simp only [List.getElem_toArray, List.getElem_cons_succ, List.getElem_cons_zero, Act.put, List.setIfInBounds_toArray, List.set_cons_zero, List.set_cons_succ])
        refine wpAnyH_take (i := 2) (v := ?_) rfl (by kernel_rfl) (by kernel_rfl) (by kernel_rfl) (fun _ _ _ h => h) (Or.inl ⟨by rfl, ?_⟩) h0 ?_
        rotate_left
        focus (intro w' hSw; skip; go_simp; (try with_reducible rfl))
        (try simp only [List.getElem_toArray, List.getElem_cons_succ, List.getElem_cons_zero, Act.put, List.setIfInBounds_toArray, List.set_cons_zero, List.set_cons_succ])
        refine wpAnyH_take (i := 3) (v := ?_) rfl (by kernel_rfl) (by kernel_rfl) (by kernel_rfl) (fun _ _ _ h => h) (Or.inl ⟨by rfl, ?_⟩) h0 ?_
        rotate_left
        focus (intro w' hSw; skip; go_simp; (try with_reducible rfl))
        (try simp only [List.getElem_toArray, List.getElem_cons_succ, List.getElem_cons_zero, Act.put, List.setIfInBounds_toArray, List.set_cons_zero, List.set_cons_succ])
        refine wpAnyH_take (i := 4) (v := .agg #[.int .i64 v.x.x, .int .i64 v.x.y, .int .i64 v.x.z]) rfl (by kernel_rfl) (by kernel_rfl) (by kernel_rfl) (fun _ _ _ h => h) (yields_load_at (by rfl) 25 _ rfl b (o + k * 13 + 3) rfl _ _ (fun w' hS => Lg.pos_row v hS.1) Try.underlying25 rfl (by kernel_rfl)) h0 ?_
        (try simp only [List.getElem_toArray, List.getElem_cons_succ, List.getElem_cons_zero, Act.put, List.setIfInBounds_toArray, List.set_cons_zero, List.set_cons_succ])
        refine wpAnyH_take (i := 5) (v := ?_) rfl (by kernel_rfl) (by kernel_rfl) (by kernel_rfl) (fun _ _ _ h => h) (Or.inl ⟨by rfl, ?_⟩) h0 ?_
        rotate_left
        focus (intro w' hSw; skip; go_simp; (try with_reducible rfl))
        (try simp only [List.getElem_toArray, List.getElem_cons_succ, List.getElem_cons_zero, Act.put, List.setIfInBounds_toArray, List.set_cons_zero, List.set_cons_succ])
        refine wpAnyH_take (i := 6) (v := ?_) rfl (by kernel_rfl) (by kernel_rfl) (by kernel_rfl) (fun _ _ _ h => h) (Or.inl ⟨by rfl, ?_⟩) h0 ?_
        rotate_left
        focus (intro w' hSw; skip; go_simp; (try with_reducible rfl))
        (try simp only [List.getElem_toArray, List.getElem_cons_succ, List.getElem_cons_zero, Act.put, List.setIfInBounds_toArray, List.set_cons_zero, List.set_cons_succ])
        refine wpAnyH_take (i := 7) (v := ?_) rfl (by kernel_rfl) (by kernel_rfl) (by kernel_rfl) (fun _ _ _ h => h) (Or.inl ⟨by rfl, ?_⟩) h0 ?_
        rotate_left
        focus (intro w' hSw; skip; go_simp; (try with_reducible rfl))
        (try simp only [List.getElem_toArray, List.getElem_cons_succ, List.getElem_cons_zero, Act.put, List.setIfInBounds_toArray, List.set_cons_zero, List.set_cons_succ])
        refine wpAnyH_take (i := 8) (v := ?_) rfl (by kernel_rfl) (by kernel_rfl) (by kernel_rfl) (fun _ _ _ h => h) (Or.inl ⟨by rfl, ?_⟩) h0 ?_
        rotate_left
        focus (intro w' hSw; skip; go_simp; (try with_reducible rfl))
        (try simp only [List.getElem_toArray, List.getElem_cons_succ, List.getElem_cons_zero, Act.put, List.setIfInBounds_toArray, List.set_cons_zero, List.set_cons_succ])
        refine wpAnyH_take (i := 9) (v := ?_) rfl (by kernel_rfl) (by kernel_rfl) (by kernel_rfl) (fun _ _ _ h => h) (Or.inl ⟨by rfl, ?_⟩) h0 ?_
        rotate_left
        focus (intro w' hSw; have d0 : w'.cell? ⟨b, o + k * 13, none⟩ = some (.int .i64 v.x.t) := hSw.1 0 _ rfl; go_simp; (try with_reducible rfl))
        (try simp only [List.getElem_toArray, List.getElem_cons_succ, List.getElem_cons_zero, Act.put, List.setIfInBounds_toArray, List.set_cons_zero, List.set_cons_succ])
        refine wpAnyH_ready (rs := [10]) (by kernel_rfl) (by simp) ?_
        refine AllReadyH.cons rfl (fun K hK => ?_) AllReadyH.nil
        refine wp_store_row 25 _ _ rfl _ _ rfl rfl 25 _ (hbr) (by kernel_rfl) rfl (by simp [Value.oneCell']) ?_
        refine hK.out _ _ ?_ (fun h1 => ?_)
        · exact ⟨fun j u hj => (cell_row _ w.heap.size _ ⟨b, o + k * 13 + j, none⟩ (show b ≠ w.heap.size by omega)).trans (h0.1 j u hj), trivial⟩
        clear hK K
        (try simp only [List.getElem_toArray, List.getElem_cons_succ, List.getElem_cons_zero, Act.put, List.setIfInBounds_toArray, List.set_cons_zero, List.set_cons_succ])
        refine wpAnyH_take (i := 11) (v := ?_) rfl (by kernel_rfl) (by kernel_rfl) (by kernel_rfl) (fun _ _ _ h => h) (Or.inl ⟨by rfl, ?_⟩) h1 ?_
        rotate_left
        focus (intro w' hSw; skip; go_simp; (try with_reducible rfl))
        (try simp only [List.getElem_toArray, List.getElem_cons_succ, List.getElem_cons_zero, Act.put, List.setIfInBounds_toArray, List.set_cons_zero, List.set_cons_succ])
        refine wpAnyH_take (i := 12) (v := ?_) rfl (by kernel_rfl) (by kernel_rfl) (by kernel_rfl) (fun _ _ _ h => h) (Or.inl ⟨by rfl, ?_⟩) h1 ?_
        rotate_left
        focus (intro w' hSw; skip; go_simp; (try with_reducible rfl))
        (try simp only [List.getElem_toArray, List.getElem_cons_succ, List.getElem_cons_zero, Act.put, List.setIfInBounds_toArray, List.set_cons_zero, List.set_cons_succ])
        refine wpAnyH_done (by kernel_rfl) ?_ _
        go_wp2_with fail
        exact bodyPost_ret (lres_ctt rfl _ _ w.heap.size 25 _ (0, 0) _ rfl (setRow_heap _ _ _ _ _ _ hbr) Try.underlying25 rfl (by kernel_rfl)) rfl ⟨.inr ⟨k, L1.out, by rw [HV.out]; rfl⟩, below_setRow hBr.drew (Nat.le_refl _) _⟩
      · have HST2 := Lib.hid (by have := HST.out; rw [if_neg hq, HL.out] at this; exact this : Lg.lastAt (Lg.xs vs) a t n = Lg.lastAt (Lg.xs vs) a t k)
        have hq2 : ¬ (v.x.k = 1 ∧ v.x.a = a ∧ v.x.t ≤ t) := by simpa [Lg.isPos] using hq
        have zz : ((v.x.k == 1) = true ∧ (v.x.a == a) = true ∧ ¬ v.x.t ≤ t) ∨ ((v.x.k == 1) = true ∧ (v.x.a == a) = false) ∨ (v.x.k == 1) = false := by
          by_cases h1 : v.x.k = 1
          · by_cases h2 : v.x.a = a
            · exact .inl ⟨by simp [h1], by simp [h2], fun h3 => hq2 ⟨h1, h2, h3⟩⟩
            · exact .inr (.inl ⟨by simp [h1], by simp [h2]⟩)
          · exact .inr (.inr (by simp [h1]))
        clear hq hq2 HST e1
        rcases zz with ⟨zt, za, zl⟩ | ⟨zt, za⟩ | zt
        all_goals
          go_wp2_with fail
          go_roundw
          case rel => exact ⟨k, rfl, by omega, hBr, hbr, HST2⟩
          case measure => simp [intOf]; try omega
end Go.Proofs.Ytgmejplcdecmkaa
/- The reference: the records of an aircraft (their numbers). -/
namespace Go.Proofs.Ytgmejplcdecmkaa
open Go.RowKit
set_option maxHeartbeats 8000000
set_option maxRecDepth 100000
set_option linter.unusedSimpArgs false
set_option linter.unusedVariables false
attribute [local go_sem ↓] Go.wp_at_zero Go.wp_at_succ
theorem linfo_in : (Try.prog.info? 3).map (fun i => (i.zero, i.size, i.bytes)) = some (some (.int .i64 0), 1, 8) := by kernel_rfl
/-- numbers as cells -/
def Lg.ns (l : List Nat) : List Value := l.map (fun (i : Nat) => .int .i64 i)
theorem rof_no (A : Option Addr) (n c : Nat) (a : Int) (h : Lg.ofE a = 2) (w : World) : Calls Try.prog 38 #[.slice A n c, .int .i64 a] w fun e w' => e = .returned (.tuple #[.slice none 0 0, .int .i64 2]) ∧ Below w.heap.size w w' := by
  have D := Lib.hid (fun (W : World) => rof_is a W _ (Lg.of_no h))
  go_enter Try.func38, Try.ntmps38
  go_wp2_with fail
  refine (D.out _).mono ?_
  rintro _ _ ⟨rfl, rfl⟩
  go_wp2_with fail
  exact bodyPost_ret (results_tmp2 rfl _ _ _) rfl ⟨rfl, (by repeat (first | (with_reducible exact Below.refl _ _) | (with_reducible refine Below.drew ?_) | (with_reducible refine below_drewN ?_ _) | ((with_reducible refine Below.alloc ?_ ?_ _); rotate_left; (first | omega | (simp <;> omega)); rotate_right) | ((with_reducible refine Below.setCell ?_ ?_ _); rotate_left; (first | omega | (simp <;> omega)); rotate_right) | (with_reducible assumption) | (refine Below.trans ?_ (Below.mono (by assumption) ?_); rotate_left; (first | omega | (simp <;> omega)); rotate_right)))⟩
theorem rof_yes {A : Option Addr} {n c : Nat} {vs : List Lg.RV} {w : World} (h : Lg.Rr w w.heap.size A n vs) (hn : n ≤ 1000000) (a : Int) (ha : Lg.ofE a = 0) :
    Calls Try.prog 38 #[.slice A n c, .int .i64 a] w fun e w' => ∃ A' c', e = .returned (.tuple #[.slice A' (Lg.ofL (Lg.xs vs) a n).length c', .int .i64 0]) ∧ Row w' w.heap.size 3 1 A' (Lg.ofL (Lg.xs vs) a n).length c' (Lg.ns (Lg.ofL (Lg.xs vs) a n)) ∧ Below w.heap.size w w' := by
  obtain ⟨i0, hi0, hz0, hz1, hz2⟩ := info_parts linfo_in
  have D := Lib.hid (fun (W : World) => rof_is a W _ (Lg.of_yes ha))
  have H := Lib.hid h
  have HL := Lib.hid h.len
  clear h
  go_enter Try.func38, Try.ntmps38
  go_wp2_with fail
  refine (D.out _).mono ?_
  rintro _ _ ⟨rfl, rfl⟩
  go_wp2_with fail
  go_loopw [6, 7] (fun s6 s7 wr => ∃ (i : Nat) (l : List Nat), s7 = .int .i64 i ∧ i ≤ n ∧ Hid (l = Lg.ofL (Lg.xs vs) a i) ∧ l.length ≤ i ∧ wr.ownsRow w.heap.size 3 1 s6 l.length (Lg.ns l) ∧ Below w.heap.size w wr) (fun _ s7 _ => n - (intOf s7).toNat)
  case atStart => exact ⟨0, [], by go_num, by omega, Lib.hid rfl, by simp, World.ownsRow_nil _ _ _ _, Below.refl _ _⟩
  case round =>
    obtain ⟨i, l, rfl, hi, HLL, hll, hown, hB⟩ := hrel
    have hzr := hB.size
    obtain ⟨A3, c3, rfl⟩ := own_formS hown
    have HOW := Lib.hid hown
    have HB := Lib.hid hB
    clear hown
    by_cases hlt : i < n
    · obtain ⟨b, o, rfl, hbl, hcl, hok⟩ := (H.out.below hB (Nat.le_refl _)).at_ hlt
      have ex : (Lg.xs vs).getD i Lg.r0 = (vs.getD i Lg.rv0).x := Lg.xs_at (by rw [HL.out]; exact hlt)
      have d1 : wr.cell? ⟨b, o + i * 13 + 1, none⟩ = some (.int .i64 (vs.getD i Lg.rv0).x.a) := hcl 1 _ rfl
      have hst : Lg.ofL (Lg.xs vs) a (i + 1) = if (vs.getD i Lg.rv0).x.a = a then l ++ [i] else l := by rw [Lg.ofL, ex, HLL.out]
      generalize (vs.getD i Lg.rv0).x.a = av at d1 hst
      have HST := Lib.hid hst
      have ik : (i : Int) < (n : Int) := by omega
      clear hcl hok ex hst hB
      by_cases hq : av = a
      · have zt : (av == a) = true := by simp [hq]
        have HS2 := Lib.hid (by have := HST.out; rw [if_pos hq] at this; exact this : Lg.ofL (Lg.xs vs) a (i + 1) = l ++ [i])
        clear hq HST
        go_wp2_with (at_builtin; refine wpList_append_any _ rfl (.tmp 24) (.tmp 26) _ rfl w.heap.size 3 i0 _ 1 8 Try.underlying62 hi0 hz0 hz1 hz2 rfl (by omega) _ l.length _ rfl (HOW.out.alloc _) (wr.heap.size + 1) (some ⟨wr.heap.size, 0, none⟩) 1 1 [.int .i64 (i : Int)] rfl (Reads.newN wr #[.int .i64 (i : Int)] 3 1 1 rfl) (by simp [Value.oneCell']) (by simp only [maxLen]; omega) (by omega) (by simp; omega) ?_; intro v7 w7 ho7 hg7 hv7; have HO1 := Lib.hid ho7; have HG1 := Lib.hid hg7; clear ho7 hg7 hv7)
        have HN := Lib.hid (show Below w.heap.size w w7 from (HB.out.alloc (by omega) _).grown HG1.out (by simp; omega) (fun g hg => (HOW.out.lt g hg).1))
        go_roundw
        case rel => exact ⟨i + 1, l ++ [i], by go_num, by omega, Lib.hid HS2.out.symm, by simp; omega, by simpa [Lg.ns] using HO1.out, HN.out⟩
        case measure => simp [intOf]; omega
      · have zf : (av == a) = false := by simp [hq]
        have HS2 := Lib.hid (by have := HST.out; rw [if_neg hq] at this; exact this : Lg.ofL (Lg.xs vs) a (i + 1) = l)
        clear hq HST
        go_wp2_with fail
        go_roundw
        case rel => exact ⟨i + 1, l, by go_num, by omega, Lib.hid HS2.out.symm, by omega, HOW.out, HB.out⟩
        case measure => simp [intOf]; omega
    · obtain rfl : i = n := by omega
      have e := HLL.out
      have HE := Lib.hid e
      clear e hB
      go_wp2_with fail
      rw [← HE.out]
      exact bodyPost_ret (results_tmp2 rfl _ _ _) rfl ⟨A3, c3, rfl, Row.of_own HOW.out, HB.out⟩
end Go.Proofs.Ytgmejplcdecmkaa
/- The reference: the states of an aircraft, without repetitions. -/
namespace Go.Proofs.Ytgmejplcdecmkaa
open Go.RowKit
set_option maxHeartbeats 8000000
set_option maxRecDepth 100000
set_option linter.unusedSimpArgs false
set_option linter.unusedVariables false
attribute [local go_sem ↓] Go.wp_at_zero Go.wp_at_succ
namespace Lg
def lastV (l : List RV) : RV := l.getD (l.length - 1) rv0
/-- a record comes to the states that are kept -/
def rsV (a : Int) (out : List RV) (v : RV) : List RV := if v.x.k = 2 ∧ v.x.a = a then (if out.length = 0 then out ++ [v] else if (lastV out).x.s = v.x.s then out else out ++ [v]) else out
def replF (a : Int) (vs : List RV) : Nat → List RV
  | 0 => []
  | n + 1 => rsV a (replF a vs n) (vs.getD n rv0)
/-- the states of an aircraft, below a number -/
def stL (l : List Rc) (a : Int) : Nat → List Rc
  | 0 => []
  | n + 1 => if isSt a (l.getD n r0) = true then stL l a n ++ [l.getD n r0] else stL l a n
theorem xs_app1 (l : List RV) (v : RV) : xs (l ++ [v]) = xs l ++ [v.x] := by simp [xs]
theorem lastV_x (l : List RV) (h : 0 < l.length) : (lastV l).x = lastR (xs l) := by
  unfold lastV lastR
  rw [xs_len, xs_at (by omega)]
theorem rsV_x (a : Int) (out : List RV) (v : RV) : xs (rsV a out v) = if isSt a v.x = true then rstep (xs out) v.x else xs out := by
  unfold rsV
  by_cases h : v.x.k = 2 ∧ v.x.a = a
  · have e : isSt a v.x = true := by simp [isSt, h]
    rw [if_pos h, if_pos e]
    unfold rstep
    rw [xs_len]
    by_cases h0 : out.length = 0
    · rw [if_pos h0, if_pos (.inl h0), xs_app1]
    · rw [if_neg h0]
      have hl := lastV_x out (by omega)
      by_cases h1 : (lastV out).x.s = v.x.s
      · rw [if_pos h1, if_neg (fun hh => hh.elim h0 (fun h2 => h2 (by rw [← hl]; exact h1)))]
      · rw [if_neg h1, if_pos (.inr (by rw [← hl]; exact h1)), xs_app1]
  · have e : ¬ isSt a v.x = true := by simpa [isSt] using h
    rw [if_neg h, if_neg e]
theorem replF_x (a : Int) (vs : List RV) : ∀ n, n ≤ vs.length → xs (replF a vs n) = (stL (xs vs) a n).foldl rstep [] := by
  intro n
  induction n with
  | zero => intro _; rfl
  | succ n ih =>
    intro hn
    rw [replF, rsV_x, ih (by omega), stL, xs_at (by omega)]
    by_cases h : isSt a (vs.getD n rv0).x = true
    · rw [if_pos h, if_pos h, List.foldl_append]; rfl
    · rw [if_neg h, if_neg h]
/-- the states that are kept, without repetitions -/
theorem replF_cmp (a : Int) (vs : List RV) : xs (replF a vs vs.length) = cmp (stL (xs vs) a vs.length) := by rw [replF_x a vs _ (Nat.le_refl _), rstep_cmp]
theorem replF_mem (a : Int) (vs : List RV) : ∀ n, n ≤ vs.length → ∀ y ∈ replF a vs n, y ∈ vs := by
  intro n
  induction n with
  | zero => intro _ y hy; cases hy
  | succ n ih =>
    intro hn y hy
    have hin : vs.getD n rv0 ∈ vs := by rw [List.getD, List.getElem?_eq_getElem (by omega)]; exact List.getElem_mem _
    have : y ∈ replF a vs n ∨ y = vs.getD n rv0 := by
      rw [replF, rsV] at hy
      split at hy
      · split at hy
        · simpa using hy
        · split at hy
          · exact .inl hy
          · simpa using hy
      · exact .inl hy
    rcases this with h | rfl
    · exact ih (by omega) y h
    · exact hin
end Lg
theorem own_drewNR {w : World} {base : Nat} {e : TypeId} {size n : Nat} {v : Value} {xs : List Value} (h : w.ownsRow base e size v n xs) (k : Nat) : (w.drewN k).ownsRow base e size v n xs := h
theorem fill_from : ∀ (C Z : List Value) (k : Nat), k + C.length = Z.length → List.foldl (fun (cs : Array Value) (x : Value × Nat) => cs.setIfInBounds x.snd x.fst) Z.toArray (C.zipIdx k) = (Z.take k ++ C).toArray
  | [], Z, k, h => by
    have : k = Z.length := by simpa using h
    subst this
    simp
  | a :: C, Z, k, h => by
    have hk : k < Z.length := by simp at h; omega
    rw [List.zipIdx_cons, List.foldl_cons]
    simp only [List.setIfInBounds_toArray]
    rw [fill_from C (Z.set k a) (k + 1) (by simp at h ⊢; omega), List.take_add_one, List.getElem?_set_self hk]
    have : (Z.set k a).take k = Z.take k := by
      rw [List.take_set]
      exact List.set_eq_of_length_le (by simp; omega)
    rw [this]
    simp
theorem fill13 (C : List Value) (h : C.length = 13) : List.foldl (fun (cs : Array Value) (x : Value × Nat) => cs.setIfInBounds x.snd x.fst) (#[.int .i64 0, .int .i64 0, .int .i64 0, .int .i64 0, .int .i64 0, .int .i64 0, .int .i64 0, .int .i64 0, .int .i64 0, .int .i64 0, .int .i64 0, .slice none 0 0, .int .u32 0] : Array Value) C.zipIdx = C.toArray := by
  have := fill_from C [.int .i64 0, .int .i64 0, .int .i64 0, .int .i64 0, .int .i64 0, .int .i64 0, .int .i64 0, .int .i64 0, .int .i64 0, .int .i64 0, .int .i64 0, .slice none 0 0, .int .u32 0] 0 (by simp [h])
  simpa using this
theorem reads_fill (W : World) (C : List Value) (h : C.length = 13) : Reads (W.alloc (.cells (List.foldl (fun (cs : Array Value) (x : Value × Nat) => cs.setIfInBounds x.snd x.fst) (#[.int .i64 0, .int .i64 0, .int .i64 0, .int .i64 0, .int .i64 0, .int .i64 0, .int .i64 0, .int .i64 0, .int .i64 0, .int .i64 0, .int .i64 0, .slice none 0 0, .int .u32 0] : Array Value) C.zipIdx) 32)) (W.heap.size + 1) 13 (some ⟨W.heap.size, 0, none⟩) 1 C := by
  rw [fill13 C h]
  have := Reads.newN W C.toArray 32 1 13 (by simp [h])
  simpa using this
theorem rv_oneL (v : Lg.RV) : ∀ u ∈ v.cells, u.oneCell' = true := fun u hu => Lg.cs_ones [v] u (by rw [Lg.cs_one]; exact hu)
theorem rrep_no (A : Option Addr) (n c : Nat) (a : Int) (h : Lg.ofE a = 2) (w : World) : Calls Try.prog 34 #[.slice A n c, .int .i64 a] w fun e w' => e = .returned (.tuple #[.slice none 0 0, .int .i64 2]) ∧ Below w.heap.size w w' := by
  have D := Lib.hid (fun (W : World) => rof_is a W _ (Lg.of_no h))
  go_enter Try.func34, Try.ntmps34
  go_wp2_with fail
  refine (D.out _).mono ?_
  rintro _ _ ⟨rfl, rfl⟩
  go_wp2_with fail
  exact bodyPost_ret (results_tmp2 rfl _ _ _) rfl ⟨rfl, (by repeat (first | (with_reducible exact Below.refl _ _) | (with_reducible refine Below.drew ?_) | (with_reducible refine below_drewN ?_ _) | ((with_reducible refine Below.alloc ?_ ?_ _); rotate_left; (first | omega | (simp <;> omega)); rotate_right) | ((with_reducible refine Below.setCell ?_ ?_ _); rotate_left; (first | omega | (simp <;> omega)); rotate_right) | (with_reducible assumption) | (refine Below.trans ?_ (Below.mono (by assumption) ?_); rotate_left; (first | omega | (simp <;> omega)); rotate_right)))⟩
theorem rrep_yes {A : Option Addr} {n c : Nat} {vs : List Lg.RV} {w : World} (h : Lg.Rr w w.heap.size A n vs) (hn : n ≤ 1000000) (a : Int) (ha : Lg.ofE a = 0) :
    Calls Try.prog 34 #[.slice A n c, .int .i64 a] w fun e w' => ∃ A' c', e = .returned (.tuple #[.slice A' (Lg.replF a vs n).length c', .int .i64 0]) ∧ Row w' w.heap.size 32 13 A' (Lg.replF a vs n).length c' (Lg.cs (Lg.replF a vs n)) ∧ Below w.heap.size w w' := by
  obtain ⟨j0, hj0, hya, hyb, hyc⟩ := info_parts info_rec
  have D := Lib.hid (fun (W : World) => rof_is a W _ (Lg.of_yes ha))
  have H := Lib.hid h
  clear h
  go_enter Try.func34, Try.ntmps34
  go_wp2_with fail
  refine (D.out _).mono ?_
  rintro _ _ ⟨rfl, rfl⟩
  go_wp2_with fail
  go_loopw [6, 7] (fun s6 s7 wr => ∃ (i : Nat) (l : List Lg.RV), s7 = .int .i64 i ∧ i ≤ n ∧ Hid (l = Lg.replF a vs i) ∧ l.length ≤ i ∧ wr.ownsRow w.heap.size 32 13 s6 l.length (Lg.cs l) ∧ Below w.heap.size w wr) (fun _ s7 _ => n - (intOf s7).toNat)
  case atStart => exact ⟨0, [], by go_num, by omega, Lib.hid rfl, by simp, World.ownsRow_nil _ _ _ _, Below.refl _ _⟩
  case round =>
    obtain ⟨i, l, rfl, hi, HLL, hll, hown, hB⟩ := hrel
    have hzr := hB.size
    obtain ⟨A3, c3, rfl⟩ := own_formS hown
    have HOW := Lib.hid hown
    have HB := Lib.hid hB
    clear hown
    by_cases hlt : i < n
    · obtain ⟨b, o, rfl, hbl, hcl, hok⟩ := (H.out.below hB (Nat.le_refl _)).at_ hlt
      have hst : Lg.replF a vs (i + 1) = Lg.rsV a l (vs.getD i Lg.rv0) := by rw [Lg.replF, HLL.out]
      generalize vs.getD i Lg.rv0 = v at hcl hst
      have d1 : wr.cell? ⟨b, o + i * 13 + 1, none⟩ = some (.int .i64 v.x.a) := hcl 1 _ rfl
      have d2 : wr.cell? ⟨b, o + i * 13 + 2, none⟩ = some (.int .i64 v.x.k) := hcl 2 _ rfl
      have d6 : wr.cell? ⟨b, o + i * 13 + 6, none⟩ = some (.int .i64 v.x.s) := hcl 6 _ rfl
      have HST := Lib.hid hst
      have HC := Lib.hid hcl
      have ik : (i : Int) < (n : Int) := by omega
      clear hcl hok hst hB
      by_cases hq : v.x.k = 2
      · have zt : (v.x.k == 2) = true := by simp [hq]
        by_cases hp : v.x.a = a
        · have za : (v.x.a == a) = true := by simp [hp]
          rcases Nat.eq_zero_or_pos l.length with h0 | h0
          · have HS2 := Lib.hid (by have := HST.out; rw [Lg.rsV, if_pos ⟨hq, hp⟩, if_pos h0] at this; exact this : Lg.replF a vs (i + 1) = l ++ [v])
            have zl : ((l.length : Int) == 0) = true := by rw [h0]; rfl
            clear hq hp HST h0
            go_upto_region 7 with fail
            go_quiet (fail)
            have HC2 := Lib.hid (show ∀ (j : Nat) (u : Value), v.cells[j]? = some u → (wr.drewN nq).cell? ⟨b, o + i * 13 + j, none⟩ = some u from HC.out)
            have HOW2 := Lib.hid (own_drewNR HOW.out nq)
            have HB2 := Lib.hid (below_drewN HB.out nq)
            generalize wr.drewN nq = W at *
            obtain ⟨C, hC⟩ : ∃ C : List Value, C = v.cells := ⟨_, rfl⟩
            rw [← hC] at HC2
            have hCl : C.length = 13 := by rw [hC]; exact Lg.RV.len v
            have hC1 : ∀ u ∈ C, u.oneCell' = true := by rw [hC]; exact rv_oneL v
            have HCC := Lib.hid hC
            have HRD := Lib.hid (reads_fill W C hCl)
            have hzW := HB2.out.size
            clear HC HOW HB d1 d2 d6 hC
            go_wp2_with (first | (refine wpList_load_at rfl 32 _ rfl b (o + i * 13) rfl _ _ HC2.out Try.underlying32 rfl (by rw [hCl]; kernel_rfl) ?_) | (at_builtin; refine wpList_append_any _ rfl (.tmp 52) (.tmp 57) 40 rfl w.heap.size 32 j0 _ 13 120 Try.underlying40 hj0 hya hyb hyc rfl (by omega) _ l.length _ rfl (HOW2.out.alloc _) (W.heap.size + 1) (some ⟨W.heap.size, 0, none⟩) 1 1 C (by rfl) HRD.out hC1 (by simp only [maxLen]; omega) (by omega) (by simp; omega) ?_; intro v7 w7 ho7 hg7 hv7; have HO1 := Lib.hid ho7; have HG1 := Lib.hid hg7; clear ho7 hg7 hv7))
            have HN := Lib.hid (show Below w.heap.size w w7 from (HB2.out.alloc (by omega) _).grown HG1.out (by simp; omega) (fun g hg => (HOW2.out.lt g hg).1))
            go_roundw
            case rel => exact ⟨i + 1, l ++ [v], by go_num, by omega, Lib.hid (HS2.out.symm), by simp; omega, by rw [Lg.cs_app, Lg.cs_one, ← HCC.out]; simpa using HO1.out, HN.out⟩
            case measure => simp [intOf]; omega
          · obtain ⟨g, og, cur, rfl, hgb, hgs, _, _, _, _, _, hgc, _⟩ := (Row.of_own HOW.out).some_ h0
            have zl : ((l.length : Int) == 0) = false := by rw [beq_eq_false_iff_ne]; omega
            have wl : IntKind.i64.wrap ((l.length : Int) - 1) = ((l.length - 1 : Nat) : Int) := by rw [IntWalk.i64_in _ (by omega)]; omega
            have ll : ((l.length - 1 : Nat) : Int) < (l.length : Int) := by omega
            have dl : wr.cell? ⟨g, og + (l.length - 1) * 13 + 6, none⟩ = some (.int .i64 (Lg.lastV l).x.s) := by
              rw [Nat.add_assoc]
              exact hgc _ _ (by rw [Lg.cs_at _ _ _ (by omega) (by omega)]; rfl)
            clear hgc
            by_cases hs : (Lg.lastV l).x.s = v.x.s
            · have HS2 := Lib.hid (by have := HST.out; rw [Lg.rsV, if_pos ⟨hq, hp⟩, if_neg (by omega), if_pos hs] at this; exact this : Lg.replF a vs (i + 1) = l)
              have zs : ((Lg.lastV l).x.s != v.x.s) = false := by simp [hs]
              generalize (Lg.lastV l).x.s = ls at dl zs
              clear hq hp HST h0 hs
              go_upto_region 7 with fail
              go_quiet (fail)
              go_wp2_with fail
              go_roundw
              case rel => exact ⟨i + 1, l, by go_num, by omega, Lib.hid (HS2.out.symm), by omega, own_drewNR HOW.out _, below_drewN HB.out _⟩
              case measure => simp [intOf]; omega
            · have HS2 := Lib.hid (by have := HST.out; rw [Lg.rsV, if_pos ⟨hq, hp⟩, if_neg (by omega), if_neg hs] at this; exact this : Lg.replF a vs (i + 1) = l ++ [v])
              have zs : ((Lg.lastV l).x.s != v.x.s) = true := by simp [hs]
              generalize (Lg.lastV l).x.s = ls at dl zs
              clear hq hp HST h0 hs
              go_upto_region 7 with fail
              go_quiet (fail)
              have HC2 := Lib.hid (show ∀ (j : Nat) (u : Value), v.cells[j]? = some u → (wr.drewN nq).cell? ⟨b, o + i * 13 + j, none⟩ = some u from HC.out)
              have HOW2 := Lib.hid (own_drewNR HOW.out nq)
              have HB2 := Lib.hid (below_drewN HB.out nq)
              generalize wr.drewN nq = W at *
              obtain ⟨C, hC⟩ : ∃ C : List Value, C = v.cells := ⟨_, rfl⟩
              rw [← hC] at HC2
              have hCl : C.length = 13 := by rw [hC]; exact Lg.RV.len v
              have hC1 : ∀ u ∈ C, u.oneCell' = true := by rw [hC]; exact rv_oneL v
              have HCC := Lib.hid hC
              have HRD := Lib.hid (reads_fill W C hCl)
              have hzW := HB2.out.size
              clear HC HOW HB d1 d2 d6 hC
              go_wp2_with (first | (refine wpList_load_at rfl 32 _ rfl b (o + i * 13) rfl _ _ HC2.out Try.underlying32 rfl (by rw [hCl]; kernel_rfl) ?_) | (at_builtin; refine wpList_append_any _ rfl (.tmp 52) (.tmp 57) 40 rfl w.heap.size 32 j0 _ 13 120 Try.underlying40 hj0 hya hyb hyc rfl (by omega) _ l.length _ rfl (HOW2.out.alloc _) (W.heap.size + 1) (some ⟨W.heap.size, 0, none⟩) 1 1 C (by rfl) HRD.out hC1 (by simp only [maxLen]; omega) (by omega) (by simp; omega) ?_; intro v7 w7 ho7 hg7 hv7; have HO1 := Lib.hid ho7; have HG1 := Lib.hid hg7; clear ho7 hg7 hv7))
              have HN := Lib.hid (show Below w.heap.size w w7 from (HB2.out.alloc (by omega) _).grown HG1.out (by simp; omega) (fun g hg => (HOW2.out.lt g hg).1))
              go_roundw
              case rel => exact ⟨i + 1, l ++ [v], by go_num, by omega, Lib.hid (HS2.out.symm), by simp; omega, by rw [Lg.cs_app, Lg.cs_one, ← HCC.out]; simpa using HO1.out, HN.out⟩
              case measure => simp [intOf]; omega
        · have HS2 := Lib.hid (by have := HST.out; rw [Lg.rsV, if_neg (fun h => hp h.2)] at this; exact this : Lg.replF a vs (i + 1) = l)
          have za : (v.x.a == a) = false := by simp [hp]
          clear hq hp HST
          go_upto_region 7 with fail
          go_quiet (fail)
          go_wp2_with fail
          go_roundw
          case rel => exact ⟨i + 1, l, by go_num, by omega, Lib.hid (HS2.out.symm), by omega, own_drewNR HOW.out _, below_drewN HB.out _⟩
          case measure => simp [intOf]; omega
      · have HS2 := Lib.hid (by have := HST.out; rw [Lg.rsV, if_neg (fun h => hq h.1)] at this; exact this : Lg.replF a vs (i + 1) = l)
        have zt : (v.x.k == 2) = false := by simp [hq]
        clear hq HST
        go_upto_region 7 with fail
        go_quiet (fail)
        go_wp2_with fail
        go_roundw
        case rel => exact ⟨i + 1, l, by go_num, by omega, Lib.hid (HS2.out.symm), by omega, own_drewNR HOW.out _, below_drewN HB.out _⟩
        case measure => simp [intOf]; omega
    · obtain rfl : i = n := by omega
      have HE := Lib.hid HLL.out
      clear hB
      go_wp2_with fail
      rw [← HE.out]
      exact bodyPost_ret (results_tmp2 rfl _ _ _) rfl ⟨A3, c3, rfl, Row.of_own HOW.out, HB.out⟩
end Go.Proofs.Ytgmejplcdecmkaa

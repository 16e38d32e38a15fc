/- give: a command. -/
import Derived.Test.YtiidkmnagfhgiaaStD
namespace Go.Proofs.Ytiidkmnagfhgiaa
open Go.RowKit
set_option maxHeartbeats 8000000
set_option maxRecDepth 100000
set_option linter.unusedSimpArgs false
set_option linter.unusedVariables false
attribute [local go_sem ↓] Go.wp_at_zero Go.wp_at_succ
/-- block i holds cells of type e -/
def Ty (w : World) (i : Nat) (e : TypeId) : Prop := ∃ cs, w.heap[i]? = some (.cells cs e (0, 0))
theorem Ty.ne {w : World} {i j : Nat} {e f : TypeId} (h : Ty w i e) (g : Ty w j f) (hne : e ≠ f) : i ≠ j := by
  rintro rfl
  obtain ⟨a, ha⟩ := h
  obtain ⟨c, hc⟩ := g
  rw [ha] at hc
  injection hc with hc
  injection hc with _ hc
  exact hne hc
theorem Row.ty {w : World} {base size n c : Nat} {e : TypeId} {A : Option Addr} {xs : List Value} (h : Row w base e size A n c xs) {g : Nat} (hg : blkOf A = some g) : Ty w g e := by
  rcases h.2 with ⟨rfl, _⟩ | ⟨g', o, cur, rfl, _, hh, _⟩
  · cases hg
  · simp only [blkOf, Option.some.injEq] at hg
    subst hg
    exact ⟨_, hh⟩
theorem Keeps.set1 {w w' : World} {b : Nat} (h : Keeps (fun i => i = b) w w') (o : Nat) (u : Value) : Keeps (fun i => i = b) w (w'.setCell ⟨b, o, none⟩ u) := h.setCell (.inl rfl) u
/-- the blocks of a station -/
def Three (b : Nat) (MA RA : Option Addr) (i : Nat) : Prop := i = b ∨ blkOf MA = some i ∨ blkOf RA = some i
section
variable {w w' : World} {base b mc rc : Nat} {MA RA : Option Addr} {s : Stn.St}
theorem IsSt.lt (h : IsSt w base b MA mc RA rc s) : b < w.heap.size := lt_of_block h.blk
theorem IsSt.three (h : IsSt w base b MA mc RA rc s) {i : Nat} (hi : Three b MA RA i) : Ty w i 74 ∨ Ty w i 3 ∨ Ty w i 88 := by
  rcases hi with rfl | hi | hi
  · exact .inl ⟨_, h.blk⟩
  · exact .inr (.inl (h.mrow.ty hi))
  · exact .inr (.inr (h.rrow.ty hi))
theorem IsSt.away (h : IsSt w base b MA mc RA rc s) {i : Nat} {e : TypeId} (g : Ty w i e) (h1 : e ≠ 74) (h2 : e ≠ 3) (h3 : e ≠ 88) : ¬ Three b MA RA i := fun hi => by
  rcases h.three hi with k | k | k
  · exact g.ne k h1 rfl
  · exact g.ne k h2 rfl
  · exact g.ne k h3 rfl
theorem IsSt.three_lt (h : IsSt w base b MA mc RA rc s) {i : Nat} (hi : Three b MA RA i) : base ≤ i ∧ i < w.heap.size := by
  rcases hi with rfl | hi | hi
  · exact ⟨h.ge, h.lt⟩
  · exact h.mrow.lt hi
  · exact h.rrow.lt hi
theorem IsSt.mne (h : IsSt w base b MA mc RA rc s) {g : Nat} (hg : blkOf MA = some g) : g ≠ b := (h.mrow.ty hg).ne ⟨_, h.blk⟩ (by decide)
theorem IsSt.rne (h : IsSt w base b MA mc RA rc s) {g : Nat} (hg : blkOf RA = some g) : g ≠ b := (h.rrow.ty hg).ne ⟨_, h.blk⟩ (by decide)
theorem IsSt.kept {S : Nat → Prop} (h : IsSt w base b MA mc RA rc s) (k : Keeps S w w') (hS : ∀ i, Three b MA RA i → ¬ S i) : IsSt w' base b MA mc RA rc s :=
  ⟨blk_keep h.blk k (hS b (.inl rfl)), h.mrow.kept k (fun g hg => hS g (.inr (.inl hg))), h.rrow.kept k (fun g hg => hS g (.inr (.inr hg))), h.ge⟩
theorem IsSt.below {B : Nat} (h : IsSt w base b MA mc RA rc s) (k : Below B w w') (hB : w.heap.size ≤ B) : IsSt w' base b MA mc RA rc s :=
  h.kept (S := fun _ => False) ⟨k.os, k.tape, k.output, k.size, fun i hi _ => k.block i (by omega)⟩ (fun _ _ h => h)
theorem IsSt.alloc (h : IsSt w base b MA mc RA rc s) (o : Obj) : IsSt (w.alloc o) base b MA mc RA rc s := ⟨blk_alloc h.blk o, h.mrow.alloc o, h.rrow.alloc o, h.ge⟩
theorem IsSt.drewN (h : IsSt w base b MA mc RA rc s) (q : Nat) : IsSt (w.drewN q) base b MA mc RA rc s := ⟨h.blk, h.mrow, h.rrow, h.ge⟩
theorem IsSt.drew (h : IsSt w base b MA mc RA rc s) : IsSt w.drew base b MA mc RA rc s := ⟨h.blk, h.mrow, h.rrow, h.ge⟩
end
theorem Rof.far' {w : World} {base b : Nat} {v : Value} {l : List Fr} {cs : Array Value} {t : TypeId} (h : Rof w base v l) (hb : w.heap[b]? = some (.cells cs t (0, 0))) (h1 : t ≠ 40) (h2 : t ≠ 5) (o : Nat) (u : Value) : Rof (w.setCell ⟨b, o, none⟩ u) base v l := by
  obtain ⟨vs, g1, g2, g3⟩ := h
  have hk : w.grownBy (w.setCell ⟨b, o, none⟩ u) (some b) := ⟨rfl, rfl, rfl, by simp [World.setCell], fun i hi hne => Below.heap_setCell w ⟨b, o, none⟩ u i (fun e => hne (by rw [e]))⟩
  refine ⟨vs, g1, g2.kept hk ?_, fun y hy => (g3 y hy).grown hk (fun g hg e => ?_)⟩
  · rcases g2.2 with ⟨rfl, _⟩ | ⟨g, c, cur, rfl, _, hh, _⟩
    · left; rfl
    · right
      intro e
      simp only [Value.ownBlock, Option.some.injEq] at e
      exact (Ty.ne ⟨_, hb⟩ ⟨_, hh⟩ h1) e.symm
  · have ho := g3 y hy
    rw [hg] at ho
    obtain ⟨cur, hc, _⟩ := ho.block
    injection e with e
    exact (Ty.ne ⟨_, hb⟩ ⟨_, hc⟩ h2) e.symm
/-- behind a call of a station that gives frames and an error -/
def StPost (base b : Nat) (MA RA : Option Addr) (rc : Nat) (s' : Stn.St) (fr : List Fr) (err : Int) (w : World) (e : Ending) (w' : World) : Prop :=
  ∃ v MA' mc', e = .returned (.tuple #[v, .int .i64 err]) ∧ IsSt w' base b MA' mc' RA rc s' ∧ Keeps (Three b MA RA) w w' ∧ Rof w' w.heap.size v fr ∧ (blkOf MA' = blkOf MA ∨ ∃ g, blkOf MA' = some g ∧ w.heap.size ≤ g)
/-- the error of give -/
def gvE (s : Stn.St) (k now x p : Int) : Int :=
  if ¬ (0 ≤ p ∧ p ≤ 4294967295) then 2 else if Stn.timeE s now ≠ 0 then 3 else if k = 3 ∧ ¬ (now ≤ x ∧ x ≤ 3600000) then 3 else if Stn.may k s.st = false then 8 else 0
section
variable {w w' : World} {base b mc rc : Nat} {MA RA : Option Addr} {s : Stn.St} {T : TypeId} {cv : Value} {k x : Int} {fk fm fs fd : FuncId}
theorem timeE_cases (s : Stn.St) (now : Int) : Stn.timeE s now = 0 ∨ Stn.timeE s now = 3 := by unfold Stn.timeE; split <;> simp
theorem give_no (h : IsSt w base b MA mc RA rc s) (hs : Stn.Inv s) (C : Cmd T cv k x fk fm fs fd) (now p : Int) (he : gvE s k now x p ≠ 0) :
    Calls Try.prog 44 #[.pointer (some ⟨b, 0, none⟩), .int .i64 now, .iface T cv, .int .i64 p] w fun e w' => e = .returned (.tuple #[.slice none 0 0, .int .i64 (gvE s k now x p)]) ∧ Below w.heap.size w w' := by
  have N := Lib.hid (h.none hs)
  have CH := Lib.hid (check_any h now)
  have c2 : w.cell? ⟨b, 2, none⟩ = some (.int .i64 s.st) := blk_cell h.blk 2 rfl
  have hst := hs.st
  have hb := h.lt
  have CM := Lib.hid (fun W => C.cm W s.st hst.1)
  have m1 := C.am.m
  have n1 := C.am.n
  have q1 := C.am.c
  have ta := C.ta
  have HE := Lib.hid he
  clear h hs C he
  by_cases hp : 0 ≤ p ∧ p ≤ 4294967295
  · by_cases ht : Stn.timeE s now = 0
    · rw [ht] at CH
      by_cases h3 : k = 3
      · subst h3
        simp only [if_true, decide_true] at ta
        by_cases hx : now ≤ x ∧ x ≤ 3600000
        · cases hm : Stn.may 3 s.st
          · have E := Lib.hid (show gvE s 3 now x p = 8 by unfold gvE; rw [if_neg (by simp [hp]), if_neg (by simp [ht]), if_neg (by simp [hx]), if_pos hm])
            rw [hm] at CM
            clear hm ht
            go_enter Try.func44, Try.ntmps44; go_wp2_with fail; refine N.out.mono ?_; rintro e w' ⟨rfl, rfl⟩; go_wp2_with fail
            refine CH.out.mono ?_; rintro e w' ⟨rfl, rfl⟩; go_wp2_with fail
            go_region_held3 (fun w' => w'.cell? ⟨b, 2, none⟩ = some (.int .i64 s.st)) (first | (simp [go_sem, *]; done) | go_keep) (first | (refine (CM.out _).mono ?_; rintro e w4 ⟨rfl, hb4⟩; have hz4 := hb4.size; (try simp at hz4); have e2 : w4.cell? ⟨b, 2, none⟩ = some (.int .i64 s.st) := ((bcell hb4).1 b _ (by first | omega | (simp; done) | (simp; omega))).trans (by simp [go_sem, *])))
            go_wp2_with fail
            go_ret2
            rw [E.out]
            exact ⟨rfl, (by repeat (first | (with_reducible exact Below.refl _ _) | (with_reducible refine Below.drew ?_) | (with_reducible refine below_drewN ?_ _) | ((with_reducible refine Below.alloc ?_ ?_ _); rotate_left; (first | omega | (simp <;> omega)); rotate_right) | ((with_reducible refine Below.setCell ?_ ?_ _); rotate_left; (first | omega | (simp <;> omega)); rotate_right) | (with_reducible assumption) | (refine Below.trans ?_ (Below.mono (by assumption) ?_); rotate_left; (first | omega | (simp <;> omega)); rotate_right)))⟩
          · exact absurd (by unfold gvE; rw [if_neg (by simp [hp]), if_neg (by simp [ht]), if_neg (by simp [hx]), if_neg (by simp [hm])]) HE.out
        · have E := Lib.hid (show gvE s 3 now x p = 3 by unfold gvE; rw [if_neg (by simp [hp]), if_neg (by simp [ht]), if_pos (by simp only [true_and]; exact hx)])
          by_cases hxn : x < now
          all_goals
            (try (have hxm : 3600000 < x := by omega))
            (try clear hx)
            (try clear ht)
            go_enter Try.func44, Try.ntmps44; go_wp2_with fail; refine N.out.mono ?_; rintro e w' ⟨rfl, rfl⟩; go_wp2_with fail
            refine CH.out.mono ?_; rintro e w' ⟨rfl, rfl⟩; go_wp2_with fail
            go_ret2
            rw [E.out]
            exact ⟨rfl, (by repeat (first | (with_reducible exact Below.refl _ _) | (with_reducible refine Below.drew ?_) | (with_reducible refine below_drewN ?_ _) | ((with_reducible refine Below.alloc ?_ ?_ _); rotate_left; (first | omega | (simp <;> omega)); rotate_right) | ((with_reducible refine Below.setCell ?_ ?_ _); rotate_left; (first | omega | (simp <;> omega)); rotate_right) | (with_reducible assumption) | (refine Below.trans ?_ (Below.mono (by assumption) ?_); rotate_left; (first | omega | (simp <;> omega)); rotate_right)))⟩
      · simp only [if_neg h3, decide_eq_false h3] at ta
        cases hm : Stn.may k s.st
        · have E := Lib.hid (show gvE s k now x p = 8 by unfold gvE; rw [if_neg (by simp [hp]), if_neg (by simp [ht]), if_neg (by simp [h3]), if_pos hm])
          rw [hm] at CM
          clear hm ht h3
          go_enter Try.func44, Try.ntmps44; go_wp2_with fail; refine N.out.mono ?_; rintro e w' ⟨rfl, rfl⟩; go_wp2_with fail
          refine CH.out.mono ?_; rintro e w' ⟨rfl, rfl⟩; go_wp2_with fail
          go_region_held3 (fun w' => w'.cell? ⟨b, 2, none⟩ = some (.int .i64 s.st)) (first | (simp [go_sem, *]; done) | go_keep) (first | (refine (CM.out _).mono ?_; rintro e w4 ⟨rfl, hb4⟩; have hz4 := hb4.size; (try simp at hz4); have e2 : w4.cell? ⟨b, 2, none⟩ = some (.int .i64 s.st) := ((bcell hb4).1 b _ (by first | omega | (simp; done) | (simp; omega))).trans (by simp [go_sem, *])))
          go_wp2_with fail
          go_ret2
          rw [E.out]
          exact ⟨rfl, (by repeat (first | (with_reducible exact Below.refl _ _) | (with_reducible refine Below.drew ?_) | (with_reducible refine below_drewN ?_ _) | ((with_reducible refine Below.alloc ?_ ?_ _); rotate_left; (first | omega | (simp <;> omega)); rotate_right) | ((with_reducible refine Below.setCell ?_ ?_ _); rotate_left; (first | omega | (simp <;> omega)); rotate_right) | (with_reducible assumption) | (refine Below.trans ?_ (Below.mono (by assumption) ?_); rotate_left; (first | omega | (simp <;> omega)); rotate_right)))⟩
        · exact absurd (by unfold gvE; rw [if_neg (by simp [hp]), if_neg (by simp [ht]), if_neg (by simp [h3]), if_neg (by simp [hm])]) HE.out
    · have ht3 : Stn.timeE s now = 3 := (timeE_cases s now).resolve_left ht
      have E := Lib.hid (show gvE s k now x p = 3 by unfold gvE; rw [if_neg (by simp [hp]), if_pos ht])
      rw [ht3] at CH
      clear ht ht3
      go_enter Try.func44, Try.ntmps44; go_wp2_with fail; refine N.out.mono ?_; rintro e w' ⟨rfl, rfl⟩; go_wp2_with fail
      refine CH.out.mono ?_; rintro e w' ⟨rfl, rfl⟩; go_wp2_with fail
      go_ret2
      rw [E.out]
      exact ⟨rfl, (by repeat (first | (with_reducible exact Below.refl _ _) | (with_reducible refine Below.drew ?_) | (with_reducible refine below_drewN ?_ _) | ((with_reducible refine Below.alloc ?_ ?_ _); rotate_left; (first | omega | (simp <;> omega)); rotate_right) | ((with_reducible refine Below.setCell ?_ ?_ _); rotate_left; (first | omega | (simp <;> omega)); rotate_right) | (with_reducible assumption) | (refine Below.trans ?_ (Below.mono (by assumption) ?_); rotate_left; (first | omega | (simp <;> omega)); rotate_right)))⟩
  · have E := Lib.hid (show gvE s k now x p = 2 by unfold gvE; rw [if_pos hp])
    have hp' : p < 0 ∨ 4294967295 < p := by omega
    clear hp
    rcases hp' with hp' | hp'
    all_goals
      go_enter Try.func44, Try.ntmps44; go_wp2_with fail; refine N.out.mono ?_; rintro e w' ⟨rfl, rfl⟩; go_wp2_with fail
      go_ret2
      rw [E.out]
      exact ⟨rfl, (by repeat (first | (with_reducible exact Below.refl _ _) | (with_reducible refine Below.drew ?_) | (with_reducible refine below_drewN ?_ _) | ((with_reducible refine Below.alloc ?_ ?_ _); rotate_left; (first | omega | (simp <;> omega)); rotate_right) | ((with_reducible refine Below.setCell ?_ ?_ _); rotate_left; (first | omega | (simp <;> omega)); rotate_right) | (with_reducible assumption) | (refine Below.trans ?_ (Below.mono (by assumption) ?_); rotate_left; (first | omega | (simp <;> omega)); rotate_right)))⟩
end
end Go.Proofs.Ytiidkmnagfhgiaa

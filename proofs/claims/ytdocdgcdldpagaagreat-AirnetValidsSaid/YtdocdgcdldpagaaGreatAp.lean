import Derived.WalkKit
import Derived.WalkSpells
import Derived.WalkLawsBesides
import Derived.Deep.QuietTactic
import Derived.BigQuiet
import Derived.BigRegion
import Derived.Lib.Hide
import Derived.IntWalk
import Derived.KernelRfl
import Derived.LoopTactic
import Derived.OwnWalk
import Derived.Laws.OwnMore
import Derived.Below
import Derived.Outline
import Derived.Deep.RegionHeld3
import Derived.Deep.RegionLaw
import Derived.Deep.DeepCutAuto
import Derived.Deep.LoopGhost
import Derived.Laws.BitsAllLaws
import Derived.Laws.BitsLemmas
import Derived.Laws.BytesArg
import Derived.Deep.AppendLies
import Derived.Deep.Draws
import Derived.Maps.AppendAt
import Derived.RegionTactic
import Derived.StillTailTactics
import Derived.ProofKit
import Derived.OpenShut
import Derived.ShutString
import Derived.ChangeOld
import Derived.Lib.SmallJoins
import Derived.Deep.Slices
import Derived.Deep.Fields
import Derived.ChangeSame
import Derived.Carry
import Derived.Laws.CopyOwn
import Derived.Laws.Cover3
import Derived.Deep.DrawnRows
import Derived.RangeFuncBox
import Derived.RangeFuncLeaves
import Derived.Shelf.Abstract
import Derived.OwnWalkIn
import Derived.TacticsInMore
import Derived.LoopNIn
import Derived.LoopIn
import Derived.Deep.AppendSrc
import Derived.Lib.AppendZerosOnto
import Derived.Lib.Overlaps
import Derived.Laws.Externs
import Derived.Lib.ConvBytes
import Derived.Maps.OwnSet
import Derived.WalkArith
import Derived.Lib.SliceRun
import Derived.Handy
import Derived.Laws.EntriesVeiled
import Derived.RangeFuncCalls
import Derived.RangeFuncNested
import Derived.StillTail
import Derived.BigFrame
namespace Go.Proofs.YtdocdgcdldpagaaGreat
open Go.RowKit
theorem C9 {p : Prop} (h : p := by simp) : p := h
theorem Cb {p : Prop} (h : p := by omega) : p := h
theorem C8 {p : Prop} (h : p := by decide) : p := h
theorem C7 {p : Prop} (h : p := by kernel_rfl) : p := h
theorem C6 {p : Prop} (h : p := by simp; omega) : p := h
theorem C3 {p : Prop} (h : p := by rw [hst]; rfl) : p := h
theorem C4 {p : Prop} (h : p := by simpa using h) : p := h
theorem C1 {p : Prop} (h : p := by decide +kernel) : p := h
theorem C2 {p : Prop} (h : p := by simpa using h1) : p := h
theorem Bz {p : Prop} (h : p := by simp [go_sem, *]) : p := h
theorem C0 {p : Prop} (h : p := by rw [hyl]; decide) : p := h
theorem Bw {p : Prop} (h : p := by unfold NT; decide) : p := h
theorem Bv {p : Prop} (h : p := by unfold maxLen; omega) : p := h
theorem Bt {p : Prop} (h : p := by simp [Value.oneCell']) : p := h
theorem Bu {p : Prop} (h : p := by rw [← hn]; exact hi) : p := h
theorem Bs {p : Prop} (h : p := by rw [← her]; exact h0) : p := h
theorem Br {p : Prop} (h : p := by show T10 ≠ T12; omega) : p := h
theorem Bp {p : Prop} (h : p := by simp [Act.eval, Act.put]) : p := h
theorem Bq {p : Prop} (h : p := by have := HH.out.lt; omega) : p := h
theorem Bn {p : Prop} (h : p := by simp only [maxLen]; omega) : p := h
theorem Bo {p : Prop} (h : p := by rw [size_madeCells]; simp) : p := h
theorem Ca {p : Prop} (h : p := by with_reducible assumption) : p := h
theorem Bm {p : Prop} (h : p := by rw [Lnk.length_srt]; omega) : p := h
theorem Bk {p : Prop} (h : p := by simp [World.setCell]; omega) : p := h
theorem Bl {p : Prop} (h : p := by clear k1 k2 k3 k4 k5; omega) : p := h
theorem Bj {p : Prop} (h : p := by simp [Frm.inB, h]; try omega) : p := h
theorem Bg {p : Prop} (h : p := by rw [E.out]; try (simp; omega)) : p := h
theorem Bh {p : Prop} (h : p := by show w.heap.size ≠ b; omega) : p := h
theorem Bi {p : Prop} (h : p := by intro x hx; simp at hx; omega) : p := h
theorem Bf {p : Prop} (h : p := by rw [DE.out, ← her]; exact h0) : p := h
theorem Bd {p : Prop} (h : p := by rw [← hV]; exact heap_new _ _) : p := h
theorem Be {p : Prop} (h : p := by rw [beq_eq_false_iff_ne]; omega) : p := h
theorem Bc {p : Prop} (h : p := by rw [← HNL.out]; exact Nat.le_refl _) : p := h
theorem Bb {p : Prop} (h : p := by simp [results, Tryz.results127, go_sem]) : p := h
theorem Ba {p : Prop} (h : p := by first | omega | (simp; done) | (simp; omega)) : p := h
theorem B6 {p : Prop} (h : p := by have h1 := hDp.out; have h2 := hsz.out; omega) : p := h
theorem B7 {p : Prop} (h : p := by first | exact HP1.out | exact HP1.out.drewN _) : p := h
theorem B8 {p : Prop} (h : p := by show r.up.seed + ((i : Int) + 1) ≤ _; omega) : p := h
theorem B9 {p : Prop} (h : p := by show r.dn.seed + ((i : Int) + 1) ≤ _; omega) : p := h
theorem B5 {p : Prop} (h : p := by rw [repcs_at _ _ _ Cb Cb]; rfl) : p := h
theorem B4 {p : Prop} (h : p := by first | exact HV.out | exact below_drewN HV.out _) : p := h
theorem Az {p : Prop} (h : p := by first | exact HE.out.symm | (rw [HE.out]; simp; omega)) : p := h
theorem Ay {p : Prop} (h : p := by first | exact below_drewN bB _ | exact bB.drew | exact bB) : p := h
theorem Aw {p : Prop} (h : p := by first | exact heap_new _ _ | exact blk_drew (heap_new _ _)) : p := h
theorem Av {p : Prop} (h : p := by first | exact CK.out | exact Ck.clk_drewN CK.out _ | exact CK.out) : p := h
theorem Au {p : Prop} (h : p := by rw [← hV]; exact HB5.out.alloc (by have := HB5.out.size; omega) _) : p := h
theorem At {p : Prop} (h : p := by unfold Plt.newE; rw [if_pos ⟨by simp [Ck.Clk.inB]; omega, h2, g4⟩]) : p := h
theorem As {p : Prop} (h : p := by first | exact hb1 | exact (below_drewN (Below.refl V.heap.size V) _).trans hb1) : p := h
theorem Ar {p : Prop} (h : p := by first | exact ER.out.drew.alloc _ | exact (ER.out.alloc _).drew | exact ER.out.alloc _) : p := h
theorem Aq {p : Prop} (h : p := by rw [List.drop_zero, made_bools, List.take_of_length_le (by simp [bools, Stn.new])]; rfl) : p := h
theorem Ap {p : Prop} (h : p := by first | exact below_drewN (Below.refl _ w) _ | exact (Below.refl _ w).drew | exact Below.refl _ w) : p := h
theorem Ao {p : Prop} (h : p := by repeat (first | (with_reducible assumption) | (with_reducible refine clk_alloc ?_ _) | (with_reducible refine clk_drew ?_))) : p := h
theorem Am {p : Prop} (h : p := by rw [List.drop_zero, made_reps, List.take_of_length_le (by rw [length_repcs, List.length_replicate]; exact Nat.le_refl _)]; rfl) : p := h
theorem Al {p : Prop} (h : p := by repeat (first | (with_reducible assumption) | (with_reducible apply Row.drew) | (with_reducible apply Row.drewN) | (with_reducible apply Row.alloc))) : p := h
theorem Ak {p : Prop} (h : p := by repeat (first | exact Keeps.refl _ _ | (with_reducible refine Keeps.drew ?_) | (with_reducible refine Keeps.drewN ?_ _) | (with_reducible refine Keeps.alloc ?_ _))) : p := h
theorem Aj {p : Prop} (h : p := by rw [icl, List.getElem?_map, List.getElem?_eq_getElem (by rw [HLI.out]; exact hlt)]; simp [List.getD, List.getElem?_eq_getElem (show i < l'.length by rw [HLI.out]; exact hlt)]) : p := h
theorem Ai {p : Prop} (h : p := by (repeat (first | with_reducible exact Keeps.refl _ _ | (with_reducible refine Keeps.set1 ?_ _ _) | (with_reducible refine Keeps.drew ?_) | (with_reducible refine Keeps.drewN ?_ _) | (with_reducible refine Keeps.alloc ?_ _)))) : p := h
theorem Ah {p : Prop} (h : p := by rw [← hW]; (repeat (first | with_reducible exact Keeps.refl _ _ | (with_reducible refine Keeps.set1 ?_ _ _) | (with_reducible refine Keeps.drew ?_) | (with_reducible refine Keeps.drewN ?_ _) | (with_reducible refine Keeps.alloc ?_ _)))) : p := h
theorem Ag {p : Prop} (h : p := by refine ⟨?_, ?_, ?_, ?_⟩ <;> (repeat (first | (with_reducible assumption) | (with_reducible refine cell_drew_keep ?_) | (with_reducible refine cell_alloc_keep ?_) | ((with_reducible refine cell_far_keep ?_ ?_); rotate_left; (simp; omega))))) : p := h
theorem Af {p : Prop} (h : p := by repeat (first | (with_reducible assumption) | (with_reducible refine clk_alloc ?_ _) | (with_reducible refine clk_drew ?_) | (with_reducible refine clk_drewN ?_ _) | ((with_reducible refine clk_far ?_ ?_ _); rotate_left; (first | omega | (simp <;> omega)); rotate_right))) : p := h
theorem Ae {p : Prop} (h : p := by repeat (first | (with_reducible assumption) | ((with_reducible apply blk_far); rotate_left; (first | omega | (simp <;> omega)); rotate_right) | (with_reducible apply blk_drew) | (with_reducible apply blk_drewN) | (with_reducible exact heap_new _ _) | ((with_reducible apply heap_new'); (first | rfl | (simp <;> fail))) | (with_reducible apply blk_alloc))) : p := h
theorem Ad {p : Prop} (h : p := by repeat (first | (with_reducible exact Keeps.refl _ _) | (with_reducible assumption) | (with_reducible refine Keeps.drew ?_) | (with_reducible refine Keeps.drewN ?_ _) | (with_reducible refine Keeps.alloc ?_ _) | ((with_reducible refine Keeps.setCell ?_ ?_ _); rotate_left; (first | (left; exact Or.inl rfl) | (right; (first | omega | (simp <;> omega)))); rotate_right))) : p := h
theorem Ac {p : Prop} (h : p := by unfold IsClk; apply Eq.trans; (repeat (first | (with_reducible apply blk_set) | (with_reducible apply blk_drew) | (with_reducible apply blk_drewN) | (with_reducible apply blk_alloc) | (exact clk_blk Ca) | ((with_reducible apply blk_far); rotate_left; (first | omega | (simp <;> omega)); rotate_right))); (first | with_reducible rfl | (simp <;> fail) | rfl)) : p := h
theorem Ab {p : Prop} (h : p := by repeat (first | (with_reducible refine only_drew ?_) | (with_reducible refine only_alloc ?_ _) | ((with_reducible refine only_setCell ?_ ?_ _); rotate_left; (first | (left; rfl) | (right; simp; omega)); rotate_right) | (with_reducible assumption) | (refine only_of_below ?_ _; with_reducible assumption) | (with_reducible refine only_drewN ?_ _) | (with_reducible exact only_of_below (Below.refl _ _) _))) : p := h
theorem Aa {p : Prop} (h : p := by apply Eq.trans; (repeat (first | (with_reducible assumption) | (with_reducible apply blk_set) | ((with_reducible apply blk_far); rotate_left; (first | omega | (simp <;> omega)); rotate_right) | (with_reducible apply blk_drew) | (with_reducible apply blk_drewN) | ((with_reducible apply heap_new'); (first | rfl | (simp <;> fail))) | (with_reducible apply blk_alloc))); (first | with_reducible rfl | (simp <;> fail) | rfl)) : p := h
theorem A9 {p : Prop} (h : p := by repeat (first | (with_reducible exact Below.refl _ _) | (with_reducible refine Below.drew ?_) | (with_reducible refine below_drewN ?_ _) | ((with_reducible refine Below.alloc ?_ ?_ _); rotate_left; (first | omega | (simp <;> omega)); rotate_right) | ((with_reducible refine Below.setCell ?_ ?_ _); rotate_left; (first | omega | (simp <;> omega)); rotate_right) | (with_reducible assumption) | (refine Below.trans ?_ (Below.mono (by assumption) ?_); rotate_left; (first | omega | (simp <;> omega)); rotate_right))) : p := h
end Go.Proofs.YtdocdgcdldpagaaGreat

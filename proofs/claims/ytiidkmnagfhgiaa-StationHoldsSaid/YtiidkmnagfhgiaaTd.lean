/- A station and its reference while a law's calls go on: what a round keeps. -/
import Derived.Test.YtiidkmnagfhgiaaTa
namespace Go.Proofs.Ytiidkmnagfhgiaa
open Go.RowKit
set_option maxHeartbeats 4000000
set_option linter.unusedSimpArgs false
set_option linter.unusedVariables false
set_option maxRecDepth 100000
attribute [local go_sem ↓] Go.wp_at_zero Go.wp_at_succ
theorem few_big (A : Option Addr) (n cap most : Nat) (l : List LAct) (w : World) (h : l.length = n) (hn : n ≤ 9223372036854775807) (hnm : most < n) :
    Calls Try.prog 10 #[.slice A n cap, .int .i64 most] w fun e w' => e = .returned (.bool (fewB l most)) ∧ w = w' := by
  have E := Lib.hid (show fewB l most = false by unfold fewB; rw [decide_eq_false (by omega)]; rfl)
  clear h
  go_enter Try.func10, Try.ntmps10
  go_wp2_with fail
  go_ret
  exact ⟨ret_bool E.out.symm, rfl⟩
/-- a block of another type than the station's and the reference's rows -/
def Oth (e : TypeId) : Prop := e ≠ 74 ∧ e ≠ 3 ∧ e ≠ 88 ∧ e ≠ 5 ∧ e ≠ 4 ∧ e ≠ 84
theorem oth_S : Oth 29 := by unfold Oth; decide
theorem oth_A : Oth 42 := by unfold Oth; decide
/-- station b and the reference's rows at D, A, S, both in the state s -/
structure SB (B b : Nat) (s : Stn.St) (D : Option Addr) (dc : Nat) (A : Option Addr) (ac : Nat) (S : Option Addr) (sc : Nat) (w wx : World) : Prop where
  st : ∃ MA mc RA rc, IsSt wx B b MA mc RA rc s
  inv : Stn.Inv s
  fit : Fit s
  r : IsR wx D dc A ac S sc s
  lt : Below B w wx
section
variable {B b : Nat} {s : Stn.St} {D A S : Option Addr} {dc ac sc : Nat} {w wx wy : World}
theorem SB.below (h : SB B b s D dc A ac S sc w wx) (k : Below wx.heap.size wx wy) (hB : B ≤ wx.heap.size) : SB B b s D dc A ac S sc w wy := by
  obtain ⟨⟨MA, mc, RA, rc, h1⟩, h2, h3, h4, h5⟩ := h
  exact ⟨⟨MA, mc, RA, rc, h1.below k (Nat.le_refl _)⟩, h2, h3, h4.below k (Nat.le_refl _), h5.trans (k.mono hB)⟩
theorem SB.size (h : SB B b s D dc A ac S sc w wx) (hB : B ≤ w.heap.size) : B ≤ wx.heap.size := Nat.le_trans hB h.lt.size
theorem SB.kept {P : Nat → Prop} (h : SB B b s D dc A ac S sc w wx) (k : Keeps P wx wy) (hP : ∀ i, P i → i < wx.heap.size → B ≤ i ∧ ∃ e, Ty wx i e ∧ Oth e) (hB : B ≤ wx.heap.size) : SB B b s D dc A ac S sc w wy := by
  obtain ⟨⟨MA, mc, RA, rc, h1⟩, h2, h3, h4, h5⟩ := h
  refine ⟨⟨MA, mc, RA, rc, h1.kept k (fun i hi hp => ?_)⟩, h2, h3, h4.keptT k (fun i hp hl => ?_), h5.trans (k.below (fun i hl hp => (hP i hp hl).1) hB)⟩
  · obtain ⟨_, e, he, o1, o2, o3, _⟩ := hP i hp (h1.three_lt hi).2
    exact h1.away he o1 o2 o3 hi
  · obtain ⟨_, e, he, o1, o2, o3, o4, o5, o6⟩ := hP i hp hl
    exact ⟨e, he, o4, o5, o6⟩
/-- stores into one block of another type, or a new one -/
theorem SB.store {N : Nat} {e : TypeId} (h : SB B b s D dc A ac S sc w wx) (k : Keeps (fun i => i = N) wx wy) (hN : B ≤ N) (hT : N < wx.heap.size → Ty wx N e) (ho : Oth e) (hB : B ≤ wx.heap.size) : SB B b s D dc A ac S sc w wy :=
  h.kept k (fun i hi hl => ⟨by omega, e, by subst hi; exact hT hl, ho⟩) hB
/-- bytes of frames turn; the reference's row D lies elsewhere -/
theorem SB.bytes {H0 H1 : Nat} (h : SB B b s D dc A ac S sc w wx) (k : Keeps (fun i => (H0 ≤ i ∧ i < H1) ∧ Ty wx i 5) wx wy) (hD : ∀ g, blkOf D = some g → g < H0 ∨ H1 ≤ g) (hH : B ≤ H0) (hB : B ≤ wx.heap.size) : SB B b s D dc A ac S sc w wy := by
  obtain ⟨⟨MA, mc, RA, rc, h1⟩, h2, h3, h4, h5⟩ := h
  refine ⟨⟨MA, mc, RA, rc, h1.kept k (fun i hi hp => h1.away hp.2 (by decide) (by decide) (by decide) hi)⟩, h2, h3, h4.kept k (fun g hg hp => ?_) (fun g hg hp => ?_) (fun g hg hp => ?_), h5.trans (k.below (fun i hl hp => by have := hp.1; omega) hB)⟩
  · have := hD g hg; have := hp.1; omega
  · exact hp.2.ne (h4.ar.ty hg) (by decide) rfl
  · exact hp.2.ne (h4.sr.ty hg) (by decide) rfl
theorem SB.shows (h : SB B b s D dc A ac S sc w wx) : Calls Try.prog 12 #[.pointer (some ⟨b, 0, none⟩), .agg (rsl s D dc A ac S sc).toArray] wx fun e w' => e = .returned (.bool true) ∧ Below wx.heap.size wx w' := by
  obtain ⟨⟨MA, mc, RA, rc, h1⟩, h2, h3, h4, h5⟩ := h
  exact shows_yes B b mc rc MA RA s h2 h3 s.some s.prog rfl rfl D (Stn.data s).length dc A ac S sc wx h1 h4
/-- behind act: the frames at F, whose bytes lie from H0 on, below H1 -/
def SAPost (B b : Nat) (s' : Stn.St) (fr : List Fr) (w W : World) (e : Ending) (w' : World) : Prop :=
  ∃ F fc D' dc' A' ac' S' sc' vs H1, e = .returned (.tuple #[.agg (rsl s' D' dc' A' ac' S' sc').toArray, .slice F fr.length fc, .bool true]) ∧ SB B b s' D' dc' A' ac' S' sc' w w' ∧ vs.length = fr.length ∧ Mz w' W.heap.size H1 F fc vs ∧ (∀ g, blkOf D' = some g → g < W.heap.size ∨ H1 ≤ g) ∧
    (∀ (i : Nat) (t : TypeId) (cs : Array Value), W.heap[i]? = some (.cells cs t (0, 0)) → Oth t → w'.heap[i]? = some (.cells cs t (0, 0))) ∧ Below B W w' ∧ Rof w' W.heap.size (.slice F fr.length fc) fr
end
theorem sa_ty {B b : Nat} {s : Stn.St} {D A S : Option Addr} {dc ac sc : Nat} {w W : World} (h : SB B b s D dc A ac S sc w W) (x : LAct) (FD : Option Addr) (fc : Nat) (hB : B ≤ W.heap.size) (hn : x.f.d.length ≤ 140737488355328) (hd : Rd W W.heap.size FD x.f.d.length x.f.d) (hFT : 0 < x.f.d.length → ∀ a, FD = some a → a.block < B ∨ Ty W a.block 5) :
    Calls Try.prog 11 #[.pointer (some ⟨b, 0, none⟩), .agg (rsl s D dc A ac S sc).toArray, .agg #[.int .i64 x.kind, .int .i64 x.now, .int .i64 x.n, .int .i64 x.f.k, .int .i64 x.f.f, .int .i64 x.f.t, .int .i64 x.f.s, .slice FD x.f.d.length fc]] W (SAPost B b (actS s x) (actF s x) w W) := by
  obtain ⟨⟨MA, mc, RA, rc, h1⟩, h2, h3, h4, h5⟩ := h
  refine (act_any B b mc rc MA RA s h2 D (Stn.data s).length dc A ac S sc x FD fc W hB rfl h1 h4 hn hd (fun h0 a ha hh => by
    rcases hFT h0 a ha with h | h
    · have := (h1.three_lt hh).1; omega
    · exact h1.away h (by decide) (by decide) (by decide) hh)).mono ?_
  rintro e w' ⟨v, MA', mc', D', dc', A', ac', S', sc', w1, rfl, hS, hR, hK, hF1, hF2, hKm, hz, hM, hD, hT⟩
  obtain ⟨F, fcap, rfl⟩ := hF2.form
  have hKB : Below B W w' := hK.below (fun i _ hi => (h1.three_lt hi).1) hB
  obtain ⟨vs, hv1, hv2⟩ := Mz.of_rof hF1 hKm (fun i hi _ => ⟨29, hi ▸ hT, by decide, by decide⟩)
  refine ⟨F, fcap, D', dc', A', ac', S', sc', vs, w1.heap.size, rfl, ⟨⟨MA', mc', RA, rc, hS⟩, inv_actS h2 x hd.2.1, fit_actS h3 x, hR, h5.trans hKB⟩, hv1, hv2, fun g hg => ?_, fun i e cs hi he => ?_, hKB, hF2⟩
  · rcases hD g hg with h | h
    · exact .inl (h4.dr.lt h).2
    · exact .inr h
  · exact blk_keep hi hK (h1.away ⟨_, hi⟩ he.1 he.2.1 he.2.2.1)
theorem sa_any {B b : Nat} {s : Stn.St} {D A S : Option Addr} {dc ac sc : Nat} {w W : World} (h : SB B b s D dc A ac S sc w W) (x : LAct) (FD : Option Addr) (fc : Nat) (hB : B ≤ W.heap.size) (hn : x.f.d.length ≤ 140737488355328) (hd : Rd W B FD x.f.d.length x.f.d) :
    Calls Try.prog 11 #[.pointer (some ⟨b, 0, none⟩), .agg (rsl s D dc A ac S sc).toArray, .agg #[.int .i64 x.kind, .int .i64 x.now, .int .i64 x.n, .int .i64 x.f.k, .int .i64 x.f.f, .int .i64 x.f.t, .int .i64 x.f.s, .slice FD x.f.d.length fc]] W (SAPost B b (actS s x) (actF s x) w W) :=
  sa_ty h x FD fc hB hn (hd.more hB) (fun h0 a ha => .inl (by
    obtain ⟨b', o, e, hb, _⟩ := hd.2.2 h0
    rw [e] at ha; injection ha with ha; rw [← ha]; exact hb))
/-- a law's cut: the reference's new state lies in box N, the old one in box R -/
def SCut (B b R : Nat) (s' : Stn.St) (fr : List Fr) (old : Array Value) (w : World) (v11 v12 v13 : Value) (wx : World) : Prop :=
  ∃ N F fc D' dc' A' ac' S' sc' vs H0 H1, v11 = .pointer (some ⟨N, 0, none⟩) ∧ v12 = .slice F fr.length fc ∧ v13 = .bool true ∧ N ≠ R ∧ B ≤ N ∧
    wx.heap[N]? = some (.cells (rsl s' D' dc' A' ac' S' sc').toArray 29 (0, 0)) ∧ wx.heap[R]? = some (.cells old 29 (0, 0)) ∧
    SB B b s' D' dc' A' ac' S' sc' w wx ∧ vs.length = fr.length ∧ Mz wx H0 H1 F fc vs ∧ B ≤ H0 ∧ (∀ g, blkOf D' = some g → g < H0 ∨ H1 ≤ g) ∧ Rof wx H0 (.slice F fr.length fc) fr
theorem Mz.kept {w w' : World} {H0 H1 c : Nat} {A : Option Addr} {vs : List FV} {P : Nat → Prop} (h : Mz w H0 H1 A c vs) (k : Keeps P w w') (hP : ∀ i, P i → i < w.heap.size → ∃ e, Ty w i e ∧ e ≠ 40 ∧ e ≠ 5) : Mz w' H0 H1 A c vs := by
  obtain ⟨g2, g3, g4⟩ := h
  have hk : ∀ i : Nat, i < w.heap.size → (∀ e, Ty w i e → e = 40 ∨ e = 5) → w'.heap[i]? = w.heap[i]? := fun i hi he => k.block i hi (fun hp => by
    obtain ⟨e, h1, h2, h3⟩ := hP i hp hi
    rcases he e h1 with h4 | h4
    · exact h2 h4
    · exact h3 h4)
  have hty : ∀ (i : Nat) (e f : TypeId), Ty w i e → Ty w i f → e = f := fun i e f h1 h2 => by
    by_cases hh : e = f
    · exact hh
    · exact absurd rfl (h1.ne h2 hh)
  refine ⟨⟨g2.1, ?_⟩, fun y hy => ?_, g4⟩
  · rcases g2.2 with h1 | ⟨g, c, cur, h1, h2, h3, h4⟩
    · exact .inl h1
    · exact .inr ⟨g, c, cur, h1, h2, (hk g (lt_of_block h3) (fun e he => .inl (hty g e _ he ⟨_, h3⟩))).trans h3, h4⟩
  · obtain ⟨d, hd, ho⟩ := g3 y hy
    refine ⟨d, hd, ⟨ho.1.1, ?_⟩, ho.2⟩
    rcases ho.1.2 with h1 | ⟨g, c, cur, h1, h2, h3, h4⟩
    · exact .inl h1
    · exact .inr ⟨g, c, cur, h1, h2, (hk g (lt_of_block h3) (fun e he => .inr (hty g e _ he ⟨_, h3⟩))).trans h3, h4⟩
theorem Mz.blk {w : World} {H0 H1 c : Nat} {A : Option Addr} {vs : List FV} (h : Mz w H0 H1 A c vs) {y : FV} (hy : y ∈ vs) {i : Nat} (hi : blkOf y.A = some i) : (H0 ≤ i ∧ i < H1) ∧ Ty w i 5 := by
  obtain ⟨d, hd, ho⟩ := h.2.1 y hy
  rcases ho.form with ⟨h0, _⟩ | ⟨g, hg, h1, _⟩
  · rw [h0] at hi; cases hi
  · have h2 := h.2.2 y hy i hi
    rw [hg] at hi ho
    injection hi with hi
    simp only at hi
    subst hi
    obtain ⟨cur, hh, _⟩ := ho.block
    exact ⟨⟨h1, h2⟩, _, hh⟩
theorem Mz.at' {w : World} {H0 H1 c g : Nat} {vs : List FV} (h : Mz w H0 H1 (some ⟨g, 0, none⟩) c vs) {k : Nat} (hk : k < vs.length) : w.cell? ⟨g, k * 5 + 4, none⟩ = some (.slice vs[k].A vs[k].x.d.length vs[k].cap) := by
  obtain ⟨g', e, _, _, hc⟩ := h.at_ hk
  injection e with e; injection e with e _; subst e
  exact hc
theorem Mz.len {w : World} {H0 H1 c : Nat} {A : Option Addr} {vs : List FV} (h : Mz w H0 H1 A c vs) {k : Nat} (hk : k < vs.length) : vs[k].x.d.length ≤ 9223372036854775807 := by
  obtain ⟨d, hd, ho⟩ := h.2.1 vs[k] (List.getElem_mem hk)
  rcases ho.form with ⟨_, h1, _⟩ | ⟨g, _, _, _, h1, h2⟩
  · omega
  · unfold maxLen at h2; omega
/-- the blocks of frames' bytes -/
def Fb (vs : List FV) (i : Nat) : Prop := ∃ y ∈ vs, blkOf y.A = some i
theorem SB.turned {B b : Nat} {s : Stn.St} {D A S : Option Addr} {dc ac sc : Nat} {w wx wy : World} {H0 H1 c : Nat} {F : Option Addr} {vs : List FV} (h : SB B b s D dc A ac S sc w wx) (k : Keeps (Fb vs) wx wy) (hM : Mz wx H0 H1 F c vs) (hD : ∀ g, blkOf D = some g → g < H0 ∨ H1 ≤ g) (hH : B ≤ H0) (hB : B ≤ wx.heap.size) : SB B b s D dc A ac S sc w wy :=
  h.bytes (k.mono (fun i _ hi => by obtain ⟨y, hy, e⟩ := hi; exact hM.blk hy e)) hD hH hB
/-- behind act and the store into box N (or the making of it): the cut -/
theorem SAPost.cut {B b R N : Nat} {s' : Stn.St} {fr : List Fr} {old : Array Value} {w w1 wx : World} {F : Option Addr} {fc : Nat} {D' A' S' : Option Addr} {dc' ac' sc' : Nat} {vs : List FV} {H0 H1 : Nat}
    (h1 : SB B b s' D' dc' A' ac' S' sc' w w1) (h2 : vs.length = fr.length) (h3 : Mz w1 H0 H1 F fc vs) (h4 : ∀ g, blkOf D' = some g → g < H0 ∨ H1 ≤ g) (h5 : Rof w1 H0 (.slice F fr.length fc) fr) (hB : B ≤ w1.heap.size) (hH : B ≤ H0)
    (k : Keeps (fun i => i = N) w1 wx) (hN : B ≤ N) (hT : N < w1.heap.size → Ty w1 N 29) (hNR : N ≠ R) (kN : wx.heap[N]? = some (.cells (rsl s' D' dc' A' ac' S' sc').toArray 29 (0, 0))) (kR : wx.heap[R]? = some (.cells old 29 (0, 0))) :
    SCut B b R s' fr old w (.pointer (some ⟨N, 0, none⟩)) (.slice F fr.length fc) (.bool true) wx :=
  ⟨N, F, fc, D', dc', A', ac', S', sc', vs, H0, H1, rfl, rfl, rfl, hNR, hN, kN, kR, h1.store k hN hT oth_S hB, h2, h3.kept k (fun i hi hl => ⟨_, by subst hi; exact hT hl, by decide, by decide⟩), hH, h4, h5.keptT k (fun i hi hl => ⟨_, by subst hi; exact hT hl, by decide, by decide⟩)⟩
end Go.Proofs.Ytiidkmnagfhgiaa

/- act whole; frames whose bytes turn. -/
import Derived.Test.YtiidkmnagfhgiaaSz
namespace Go.Proofs.Ytiidkmnagfhgiaa
open Go.RowKit
set_option maxHeartbeats 4000000
set_option linter.unusedSimpArgs false
set_option linter.unusedVariables false
theorem act_any (base b mc rc : Nat) (MA RA : Option Addr) (s : Stn.St) (hs : Stn.Inv s) (D : Option Addr) (dl dc : Nat) (A : Option Addr) (ac : Nat) (S : Option Addr) (sc : Nat) (x : LAct) (FD : Option Addr) (fc : Nat) (w : World) (hbase : base ≤ w.heap.size) (hdl : dl = (Stn.data s).length) (h : IsSt w base b MA mc RA rc s) (hr : IsR w D dc A ac S sc s) (hn : x.f.d.length ≤ 140737488355328) (hd : Rd w w.heap.size FD x.f.d.length x.f.d) (hFT : 0 < x.f.d.length → ∀ a, FD = some a → ¬ Three b MA RA a.block) :
    Calls Try.prog 11 #[.pointer (some ⟨b, 0, none⟩), .agg #[.int .i64 s.again, .int .i64 s.st, .int .i64 s.now, .int .i64 s.seq, .bool s.some, .int .i64 s.prog, .int .i64 s.cmd, .slice D dl dc, .int .i64 s.sent, .slice A s.n ac, .slice S s.n sc], .agg #[.int .i64 x.kind, .int .i64 x.now, .int .i64 x.n, .int .i64 x.f.k, .int .i64 x.f.f, .int .i64 x.f.t, .int .i64 x.f.s, .slice FD x.f.d.length fc]] w (ActPost base b MA RA rc D (actS s x) (actF s x) w) := by
  unfold actS actF
  by_cases h1 : 1 ≤ x.kind ∧ x.kind ≤ 6
  · rw [if_pos h1, if_pos h1]
    have hk : x.kind = 1 ∨ x.kind = 2 ∨ x.kind = 3 ∨ x.kind = 4 ∨ x.kind = 5 ∨ x.kind = 6 := by omega
    rcases hk with hk | hk | hk | hk | hk | hk
    · exact act_load base b mc rc MA RA s hs D dl dc A ac S sc x.kind x.now x.n x.f.k x.f.f x.f.t x.f.s FD _ fc w hbase hdl h hr hk
    · exact act_arm base b mc rc MA RA s hs D dl dc A ac S sc x.kind x.now x.n x.f.k x.f.f x.f.t x.f.s FD _ fc w hbase hdl h hr hk
    · exact act_start base b mc rc MA RA s hs D dl dc A ac S sc x.kind x.now x.n x.f.k x.f.f x.f.t x.f.s FD _ fc w hbase hdl h hr hk
    · exact act_hold base b mc rc MA RA s hs D dl dc A ac S sc x.kind x.now x.n x.f.k x.f.f x.f.t x.f.s FD _ fc w hbase hdl h hr hk
    · exact act_resume base b mc rc MA RA s hs D dl dc A ac S sc x.kind x.now x.n x.f.k x.f.f x.f.t x.f.s FD _ fc w hbase hdl h hr hk
    · exact act_abort base b mc rc MA RA s hs D dl dc A ac S sc x.kind x.now x.n x.f.k x.f.f x.f.t x.f.s FD _ fc w hbase hdl h hr hk
  · rw [if_neg h1, if_neg h1]
    by_cases h8 : x.kind = 8
    · rw [if_pos h8, if_pos h8]
      exact act_recv base b mc rc MA RA s hs D dl dc A ac S sc x.kind x.now x.n x.f FD fc w hbase hdl h hr h8 hn hd hFT
    · rw [if_neg h8, if_neg h8]
      exact act_tick base b mc rc MA RA s hs D dl dc A ac S sc x.kind x.now x.n x.f.k x.f.f x.f.t x.f.s FD _ fc w hbase hdl h hr (by omega)
theorem inv_actS {s : Stn.St} (h : Stn.Inv s) (x : LAct) (hd : By x.f.d) : Stn.Inv (actS s x) := by
  unfold actS
  split
  · rename_i h1; exact Stn.inv_give h h1
  · split
    · exact Stn.inv_recv h hd
    · exact Stn.inv_tick h
theorem fit_actS {s : Stn.St} (h : Fit s) (x : LAct) : Fit (actS s x) := by
  unfold actS
  split
  · exact fit_give h _ _ _
  · split
    · exact fit_recv h _ _
    · exact fit_tick h _
theorem actF_len {s : Stn.St} (h : Stn.Inv s) (x : LAct) : (actF s x).length ≤ 64 := by
  unfold actF
  split
  · rename_i h1; exact giveF_len s _ _ _ h h1
  · split
    · exact recvF_len s _ _
    · exact tickF_len s _ h
/-- frames whose bytes may turn: the cells of each stay, its bytes are some -/
def Mz (w : World) (H0 H1 : Nat) (A : Option Addr) (c : Nat) (vs : List FV) : Prop :=
  w.ownsRow H0 40 5 (.slice A vs.length c) vs.length (vs.flatMap FV.cells) ∧ (∀ y ∈ vs, ∃ d, d.length = y.x.d.length ∧ Ow w H0 y.A y.x.d.length y.cap d) ∧ ∀ y ∈ vs, ∀ g, blkOf y.A = some g → g < H1
section
variable {w w' : World} {H0 H1 c : Nat} {A : Option Addr} {vs : List FV}
theorem Ow.store1 {base g n cap : Nat} {l : List Int} (h : Ow w base (some ⟨g, 0, none⟩) n cap l) (i : Nat) (y : Int) (hy : 0 ≤ y ∧ y < 256) : Ow (w.setCell ⟨g, i, none⟩ (.int .u8 y)) base (some ⟨g, 0, none⟩) n cap (l.set i y) := by
  refine ⟨?_, ?_⟩
  · have := (h.1.stored i (.int .u8 y)).1
    rw [bv, List.map_set]
    exact this
  · intro x hx
    rcases List.mem_or_eq_of_mem_set hx with h1 | h1
    · exact h.2 x h1
    · rw [h1]; exact hy
theorem Mz.of_rof {l : List Fr} {P : Nat → Prop} (h : Rof w H0 (.slice A l.length c) l) (k : Keeps P w w') (hP : ∀ i, P i → i < w.heap.size → ∃ e, Ty w i e ∧ e ≠ 40 ∧ e ≠ 5) : ∃ vs, vs.length = l.length ∧ Mz w' H0 w.heap.size A c vs := by
  obtain ⟨vs, g1, g2, g3⟩ := h
  have hl : vs.length = l.length := by rw [← g1, List.length_map]
  have hk : ∀ i : Nat, i < w.heap.size → (∀ e, Ty w i e → e = 40 ∨ e = 5) → w'.heap[i]? = w.heap[i]? := fun i hi he => k.block i hi (fun hp => by
    obtain ⟨e, h1, h2, h3⟩ := hP i hp hi
    rcases he e h1 with h4 | h4
    · exact h2 h4
    · exact h3 h4)
  have hty : ∀ (i : Nat) (e f : TypeId), Ty w i e → Ty w i f → e = f := fun i e f h1 h2 => by
    by_cases hh : e = f
    · exact hh
    · exact absurd rfl (h1.ne h2 hh)
  refine ⟨vs, hl, ?_, fun y hy => ⟨y.x.d, rfl, ⟨⟨(g3 y hy).1.1, ?_⟩, (g3 y hy).2⟩⟩, fun y hy g hg => ?_⟩
  · rw [hl]
    refine ⟨g2.1, ?_⟩
    rcases g2.2 with h1 | ⟨g, c, cur, h1, h2, h3, h4⟩
    · exact .inl h1
    · exact .inr ⟨g, c, cur, h1, h2, (hk g (lt_of_block h3) (fun e he => .inl (hty g e _ he ⟨_, h3⟩))).trans h3, h4⟩
  · rcases (g3 y hy).1.2 with h1 | ⟨g, c, cur, h1, h2, h3, h4⟩
    · exact .inl h1
    · exact .inr ⟨g, c, cur, h1, h2, (hk g (lt_of_block h3) (fun e he => .inr (hty g e _ he ⟨_, h3⟩))).trans h3, h4⟩
  · rcases (g3 y hy).form with ⟨h0, _⟩ | ⟨q, hq, _, hlt, _⟩
    · rw [h0] at hg; cases hg
    · rw [hq] at hg; injection hg with hg; rw [← hg]; exact hlt
/-- the cells of a frame, and its bytes -/
theorem Mz.at_ (h : Mz w H0 H1 A c vs) {k : Nat} (hk : k < vs.length) : ∃ g, A = some ⟨g, 0, none⟩ ∧ g < w.heap.size ∧ H0 ≤ g ∧ w.cell? ⟨g, k * 5 + 4, none⟩ = some (.slice vs[k].A vs[k].x.d.length vs[k].cap) := by
  rcases h.1.2 with ⟨_, h0⟩ | ⟨g, c', cur, e, hb, hh, _⟩
  · omega
  · injection e with e1 e2 e3
    refine ⟨g, e1, lt_of_block hh, hb, ?_⟩
    subst e1
    have := World.ownsRow.cellAt h.1 (g := g) (k * 5 + 4) (by omega)
    rw [this, FV.cells_at vs k 4 hk (by omega)]
    rfl
theorem Mz.bytes (h : Mz w H0 H1 A c vs) {k j : Nat} (hk : k < vs.length) (hj : j < vs[k].x.d.length) : ∃ g u, vs[k].A = some ⟨g, 0, none⟩ ∧ H0 ≤ g ∧ g < H1 ∧ Ty w g 5 ∧ g < w.heap.size ∧ w.cell? ⟨g, j, none⟩ = some (.int .u8 u) ∧ (0 ≤ u ∧ u < 256) ∧ w.frozen? ⟨g, j, none⟩ = false := by
  obtain ⟨d, hd, ho⟩ := h.2.1 vs[k] (List.getElem_mem hk)
  obtain ⟨g, hg, h1, h2, _⟩ := ho.form.resolve_left (by omega)
  rw [hg] at ho
  obtain ⟨cur, hh, _⟩ := ho.block
  obtain ⟨g', o', e', _, hc⟩ := ho.rd.2.2 (by omega)
  injection e' with e'; injection e' with e1 e2; subst e1; subst e2
  have hcj := hc j hj
  rw [Nat.zero_add] at hcj
  refine ⟨g, d.getD j 0, hg, h1, h.2.2 _ (List.getElem_mem hk) g (by rw [hg]; rfl), ⟨_, hh⟩, h2, hcj, ho.2.at_ j, blk_free hh j⟩
theorem Mz.store (h : Mz w H0 H1 A c vs) {g : Nat} (hg : Ty w g 5) (i : Nat) (u : Int) (hu : 0 ≤ u ∧ u < 256) : Mz (w.setCell ⟨g, i, none⟩ (.int .u8 u)) H0 H1 A c vs := by
  have hk : w.grownBy (w.setCell ⟨g, i, none⟩ (.int .u8 u)) (some g) := ⟨rfl, rfl, rfl, by simp [World.setCell], fun j hj hne => Below.heap_setCell w ⟨g, i, none⟩ _ j (fun e => hne (by rw [e]))⟩
  refine ⟨h.1.kept hk ?_, fun y hy => ?_, h.2.2⟩
  · rcases h.1.2 with ⟨e, _⟩ | ⟨q, c', cur, e, _, hh, _⟩
    · left; rw [e]; rfl
    · right
      rw [e]
      intro e'
      simp only [Value.ownBlock, Option.some.injEq] at e'
      exact (hg.ne ⟨_, hh⟩ (by decide)) e'.symm
  · obtain ⟨d, hd, ho⟩ := h.2.1 y hy
    by_cases hq : blkOf y.A = some g
    · rcases ho.form with ⟨h0, _⟩ | ⟨q, hq', _⟩
      · rw [h0] at hq; cases hq
      · rw [hq'] at hq ho ⊢
        injection hq with hq
        simp only at hq
        subst hq
        exact ⟨d.set i u, by rw [List.length_set]; exact hd, ho.store1 i u hu⟩
    · refine ⟨d, hd, ho.grown hk (fun q hq' e => ?_)⟩
      rw [hq'] at hq
      injection e with e
      exact hq (by rw [← e]; rfl)
theorem Mz.drew (h : Mz w H0 H1 A c vs) : Mz w.drew H0 H1 A c vs := h
theorem Mz.drewN (h : Mz w H0 H1 A c vs) (q : Nat) : Mz (w.drewN q) H0 H1 A c vs := h
end
end Go.Proofs.Ytiidkmnagfhgiaa

import Derived.Test.YtdocdgcdldpagaaGreatAp
import Derived.Test.YtdocdgcdldpagaaGreatAv28
import Derived.Test.YtdocdgcdldpagaaGreatAv14
import Derived.Test.YtdocdgcdldpagaaGreatAv16
import Derived.BigQuiet
namespace Go.Proofs.YtdocdgcdldpagaaGreat
open Go.RowKit
set_option maxHeartbeats 4000000
set_option maxRecDepth 100000
set_option linter.unusedSimpArgs false
set_option linter.unusedVariables false
theorem Rof.kept {P : Nat → Prop} {w w' : World} {base : Nat} {v : Value} {l : List Fr} (h : Rof w base v l) (k : Keeps P w w') (hP : ∀ i, P i → ¬ Ty w i 147 ∧ ¬ Ty w i 5) : Rof w' base v l := by
  obtain ⟨vs, g1, g2, g3⟩ := h
  refine ⟨vs, g1, ⟨g2.1, ?_⟩, fun y hy => ⟨⟨(g3 y hy).1.1, ?_⟩, (g3 y hy).2⟩⟩
  · rcases g2.2 with h1 | ⟨g, c, cur, h1, h2, h3, h4⟩
    · exact .inl h1
    · exact .inr ⟨g, c, cur, h1, h2, blk_keep h3 k (fun hp => (hP g hp).1 ⟨_, h3⟩), h4⟩
  · rcases (g3 y hy).1.2 with h1 | ⟨g, c, cur, h1, h2, h3, h4⟩
    · exact .inl h1
    · exact .inr ⟨g, c, cur, h1, h2, blk_keep h3 k (fun hp => (hP g hp).2 ⟨_, h3⟩), h4⟩
def NM.fix (m : NM) : Option Addr × Option Addr × Nat × Option Addr × Nat := (m.CA, m.OA, m.oc, m.TA, m.tc)
def NG (b : Nat) (m m' : NM) (n : Nat) : Prop := (∀ q, NF b m' q → NF b m q ∨ n ≤ q) ∧ m'.fix = m.fix
theorem NG.CA {b n : Nat} {m m' : NM} (g : NG b m m' n) : m'.CA = m.CA := congrArg (·.1) g.2
theorem NG.refl {b n : Nat} {m : NM} : NG b m m n := ⟨fun _ h => .inl h, rfl⟩
def NTo (base b : Nat) (m : NM) (k : Nat) (s' : Nt.St) (w w' : World) : Prop := ∃ m', IsNet w' base b m' k s' ∧ Keeps (NF b m) w w' ∧ NG b m m' w.heap.size
section
variable {w w' w1 : World} {base b k : Nat} {m m1 : NM} {s s1 s' : Nt.St}
theorem NTo.refl (h : IsNet w base b m k s) : NTo base b m k s w w := ⟨m, h, Keeps.refl _ _, NG.refl⟩
theorem NTo.of_below (h : IsNet w base b m k s) (g : Below w.heap.size w w') : NTo base b m k s w w' := ⟨m, h.below g, Keeps.of_below g, NG.refl⟩
theorem NTo.trans (h1 : Keeps (NF b m) w w1) (h2 : NG b m m1 w.heap.size) (h : NTo base b m1 k s' w1 w') : NTo base b m k s' w w' := by
  obtain ⟨m', g1, g2, g3⟩ := h
  refine ⟨m', g1, h1.trans g2 (fun i hi hs => ?_), fun q hq => ?_, g3.2.trans h2.2⟩
  · rcases h2.1 i hs with h | h
    · exact h
    · omega
  · rcases g3.1 q hq with h | h
    · exact h2.1 q h
    · exact .inr (Nat.le_trans h1.size h)
theorem NTo.below (h : NTo base b m k s' w w1) (g : Below w1.heap.size w1 w') : NTo base b m k s' w w' := by
  obtain ⟨m', g1, g2, g3⟩ := h
  exact ⟨m', g1.below g, g2.trans (Keeps.of_below (S := fun _ => False) g) (fun _ _ h => h.elim), g3⟩
theorem NTo.mono (h : NTo base b m k s' w w') {k' : Nat} (hk : k ≤ k') : NTo base b m k' s' w w' := by
  obtain ⟨m', g1, g2, g3⟩ := h
  exact ⟨m', g1.mono hk, g2, g3⟩
theorem Cf.nf {j : Nat} (hj : j < m.cs.length) {q : Nat} (hq : Cf (m.cs.getD j cm0) q) : NF b m q := .inr (.inr (.inr (.inr (.inr (.inr (.inr ⟨j, hj, hq⟩))))))
theorem getD_set {α : Type} (l : List α) (i j : Nat) (x d : α) (hi : i < l.length) : (l.set i x).getD j d = if j = i then x else l.getD j d := by
  by_cases e : j = i
  · subst e
    rw [if_pos rfl, List.getD, List.getElem?_set_self hi]; rfl
  · rw [if_neg e, List.getD, List.getD, List.getElem?_set_ne (fun h => e h.symm)]
theorem IsNet.notCf (h : IsNet w base b m k s) {i q : Nat} (hi : i < s.cr.length) {e : TypeId} (g : Ty w q e) (h1 : e ≠ 168) (h2 : e ≠ 213) (h3 : e ≠ 172) (h4 : e ≠ 175) : ¬ Cf (m.cs.getD i cm0) q := fun hq => by
  rcases (h.cr i hi).ty hq with k | k | k | k
  · exact g.ne k h1 rfl
  · exact g.ne k h2 rfl
  · exact g.ne k h3 rfl
  · exact g.ne k h4 rfl
theorem IsNet.toCr (h : IsNet w base b m k s) {i : Nat} (hi : i < s.cr.length) {S : Nat → Prop} (kk : Keeps S w w') (hS : ∀ q, S q → Cf (m.cs.getD i cm0) q) {c' : CM} {x' : Nt.Cr}
    (hc : IsCr w' base c' (Nt.lru s.r.up i) (Nt.lru s.r.dn i) x') (e1 : c'.pb = (m.cs.getD i cm0).pb) (e2 : c'.ub = (m.cs.getD i cm0).ub) (e3 : c'.db = (m.cs.getD i cm0).db) (hx : x'.s = (Nt.at_ s i).s)
    (hnew : ∀ q, Cf c' q → Cf (m.cs.getD i cm0) q ∨ w.heap.size ≤ q) : NTo base b m k (Nt.put s i x') w w' := by
  have hil : i < m.cs.length := by rw [h.len]; exact hi
  have hcl : (s.cr.set i x').length = s.cr.length := List.length_set
  refine ⟨{ m with cs := m.cs.set i c' }, ⟨?_, ?_, ?_, ?_, ?_, ?_, ?_, ?_, ?_, ?_, h.ge, h.so⟩, kk.mono (fun q _ hq => Cf.nf hil (hS q hq)), ?_, rfl⟩
  · have := blk_keep h.blk kk (fun hq => h.notCf hi ⟨_, h.blk⟩ C8 C8 C8 C8 (hS _ hq))
    have e : ncl { m with cs := m.cs.set i c' } (Nt.put s i x') = ncl m s := by simp only [ncl, Nt.put, hcl]
    rw [e]
    exact this
  · exact h.st.kept kk (fun q hq hs => by
      rcases h.st.three hq with g | g | g
      · exact h.notCf hi g C8 C8 C8 C8 (hS q hs)
      · exact h.notCf hi g C8 C8 C8 C8 (hS q hs)
      · exact h.notCf hi g C8 C8 C8 C8 (hS q hs))
  · exact h.offs.kept kk (fun g hg hs => h.notCf hi (h.offs.ty hg) C8 C8 C8 C8 (hS g hs))
  · exact h.rates.kept kk (fun g hg hs => h.notCf hi (h.rates.ty hg) C8 C8 C8 C8 (hS g hs))
  · have := h.crow.kept kk (fun g hg hs => h.notCf hi (h.crow.ty hg) C8 C8 C8 C8 (hS g hs))
    show Row w' base 108 4 m.CA (s.cr.set i x').length m.cc (ccls (m.cs.set i c') (s.cr.set i x'))
    rw [hcl, ccls_put _ _ _ _ hx, ccls_cm _ _ _ _ e1 e2 e3]
    exact this
  · exact h.erow.kept kk (fun g hg hs => h.notCf hi (h.erow.ty hg) C8 C8 C8 C8 (hS g hs))
  · intro j hj
    have hj' : j < s.cr.length := by rw [← hcl]; exact hj
    show IsCr w' base ((m.cs.set i c').getD j cm0) _ _ ((s.cr.set i x').getD j Nt.c0)
    rw [getD_set _ _ _ _ _ hil, getD_set _ _ _ _ _ hi]
    by_cases e : j = i
    · subst e
      rw [if_pos rfl, if_pos rfl]
      exact hc
    · rw [if_neg e, if_neg e]
      exact (h.cr j hj').kept kk (fun q hq hs => h.dis j i hj' hi e q hq (hS q hs))
  · show (m.cs.set i c').length = (s.cr.set i x').length
    rw [List.length_set, List.length_set, h.len]
  · intro j l hj hl hne q hq hq'
    have hj' : j < s.cr.length := by rw [← hcl]; exact hj
    have hl' : l < s.cr.length := by rw [← hcl]; exact hl
    have hqa : Cf ((m.cs.set i c').getD j cm0) q := hq
    have hqb : Cf ((m.cs.set i c').getD l cm0) q := hq'
    clear hq hq'
    rw [getD_set _ _ _ _ _ hil] at hqa
    rw [getD_set _ _ _ _ _ hil] at hqb
    by_cases e : j = i
    · subst e
      rw [if_pos rfl] at hqa
      rw [if_neg (fun e => hne e.symm)] at hqb
      rcases hnew q hqa with g | g
      · exact h.dis j l hj' hl' hne q g hqb
      · have := ((h.cr l hl').lt hqb).2
        omega
    · rw [if_neg e] at hqa
      by_cases e' : l = i
      · subst e'
        rw [if_pos rfl] at hqb
        rcases hnew q hqb with g | g
        · exact h.dis j l hj' hl' hne q hqa g
        · have := ((h.cr j hj').lt hqa).2
          omega
      · rw [if_neg e'] at hqb
        exact h.dis j l hj' hl' hne q hqa hqb
  · obtain ⟨k', h1, h2⟩ := h.cut
    exact ⟨k', h1, h2.kept kk (fun hs => by
      rcases (h.cr i hi).ty (hS _ hs) with g | g | g | g <;> exact h2.notCells g rfl)⟩
  · rintro q (hq | hq | hq | hq | hq | hq | hq | ⟨j, hj, hq⟩)
    · exact .inl (.inl hq)
    · exact .inl (.inr (.inl hq))
    · exact .inl (.inr (.inr (.inl hq)))
    · exact .inl (.inr (.inr (.inr (.inl hq))))
    · exact .inl (.inr (.inr (.inr (.inr (.inl hq)))))
    · exact .inl (.inr (.inr (.inr (.inr (.inr (.inl hq))))))
    · exact .inl (.inr (.inr (.inr (.inr (.inr (.inr (.inl hq)))))))
    · have hj' : j < m.cs.length := by
        have : j < (m.cs.set i c').length := hj
        rwa [List.length_set] at this
      have hq : Cf ((m.cs.set i c').getD j cm0) q := hq
      rw [getD_set _ _ _ _ _ hil] at hq
      by_cases e : j = i
      · rw [if_pos e] at hq
        rcases hnew q hq with g | g
        · exact .inl (Cf.nf hil g)
        · exact .inr g
      · rw [if_neg e] at hq
        exact .inl (Cf.nf hj' hq)
theorem IsNet.toUp (h : IsNet w base b m k s) {i : Nat} (hi : i < s.cr.length) {l' : Lnk.St} (g : LkTo base (m.cs.getD i cm0).ub (m.cs.getD i cm0).uA (Nt.lru s.r.up i) l' w w') : NTo base b m k (Nt.put s i { Nt.at_ s i with up := l' }) w w' := by
  obtain ⟨A', c', g1, g2, g3⟩ := g
  have hc := h.cr i hi
  refine h.toCr hi g2 (fun q hq => .inr (.inr (.inl hq))) (c' := { m.cs.getD i cm0 with uA := A', uc := c' }) ⟨hc.p.kept g2 ?_ ?_, g1, hc.dn.kept g2 (fun q hq hs => hc.ne q hs hq), fun q hq hs => ?_⟩ rfl rfl rfl rfl (fun q hq => ?_)
  · intro hs
    rcases hc.up.ty hs with t | t
    · exact t.ne ⟨_, hc.p.blk⟩ C8 rfl
    · exact t.ne ⟨_, hc.p.blk⟩ C8 rfl
  · intro hs
    rcases hc.up.ty hs with t | t
    · exact t.ne ⟨_, hc.p.clk⟩ C8 rfl
    · exact t.ne ⟨_, hc.p.clk⟩ C8 rfl
  · have h2 := hc.dn.two q hs
    rcases Nat.lt_or_ge q w.heap.size with hh | hh
    · exact hc.ne q (two_new g3 q hh hq) hs
    · omega
  · rcases hq with hq | hq | hq | hq
    · exact .inl (.inl hq)
    · exact .inl (.inr (.inl hq))
    · rcases Nat.lt_or_ge q w.heap.size with hh | hh
      · exact .inl (.inr (.inr (.inl (two_new g3 q hh hq))))
      · exact .inr hh
    · exact .inl (.inr (.inr (.inr hq)))
theorem IsNet.toDn (h : IsNet w base b m k s) {i : Nat} (hi : i < s.cr.length) {l' : Lnk.St} (g : LkTo base (m.cs.getD i cm0).db (m.cs.getD i cm0).dA (Nt.lru s.r.dn i) l' w w') : NTo base b m k (Nt.put s i { Nt.at_ s i with dn := l' }) w w' := by
  obtain ⟨A', c', g1, g2, g3⟩ := g
  have hc := h.cr i hi
  refine h.toCr hi g2 (fun q hq => .inr (.inr (.inr hq))) (c' := { m.cs.getD i cm0 with dA := A', dc := c' }) ⟨hc.p.kept g2 ?_ ?_, hc.up.kept g2 (fun q hq hs => hc.ne q hq hs), g1, fun q hq hs => ?_⟩ rfl rfl rfl rfl (fun q hq => ?_)
  · intro hs
    rcases hc.dn.ty hs with t | t
    · exact t.ne ⟨_, hc.p.blk⟩ C8 rfl
    · exact t.ne ⟨_, hc.p.blk⟩ C8 rfl
  · intro hs
    rcases hc.dn.ty hs with t | t
    · exact t.ne ⟨_, hc.p.clk⟩ C8 rfl
    · exact t.ne ⟨_, hc.p.clk⟩ C8 rfl
  · have h2 := hc.up.two q hq
    rcases Nat.lt_or_ge q w.heap.size with hh | hh
    · exact hc.ne q hq (two_new g3 q hh hs)
    · omega
  · rcases hq with hq | hq | hq | hq
    · exact .inl (.inl hq)
    · exact .inl (.inr (.inl hq))
    · exact .inl (.inr (.inr (.inl hq)))
    · rcases Nat.lt_or_ge q w.heap.size with hh | hh
      · exact .inl (.inr (.inr (.inr (two_new g3 q hh hq))))
      · exact .inr hh
theorem IsNet.toP (h : IsNet w base b m k s) {i : Nat} (hi : i < s.cr.length) {p' : Plt.St} (g1 : IsP w' base (m.cs.getD i cm0).pb (m.cs.getD i cm0).pc p') (g2 : Keeps (fun q => q = (m.cs.getD i cm0).pb ∨ q = (m.cs.getD i cm0).pc) w w') : NTo base b m k (Nt.put s i { Nt.at_ s i with p := p' }) w w' := by
  have hc := h.cr i hi
  have ht : ∀ q, (q = (m.cs.getD i cm0).pb ∨ q = (m.cs.getD i cm0).pc) → Ty w q 168 ∨ Ty w q 213 := by
    rintro q (rfl | rfl)
    · exact .inl ⟨_, hc.p.blk⟩
    · exact .inr ⟨_, hc.p.clk⟩
  have hl : ∀ q, (Ty w q 172 ∨ Ty w q 175) → ¬ (q = (m.cs.getD i cm0).pb ∨ q = (m.cs.getD i cm0).pc) := by
    intro q hq hs
    rcases ht q hs with t | t <;> rcases hq with u | u <;> exact t.ne u C8 rfl
  exact h.toCr hi g2 (fun q hq => hq.elim .inl (fun h => .inr (.inl h))) (c' := m.cs.getD i cm0) ⟨g1, hc.up.kept g2 (fun q hq => hl q (hc.up.ty hq)), hc.dn.kept g2 (fun q hq => hl q (hc.dn.ty hq)), hc.ne⟩ rfl rfl rfl rfl (fun q hq => .inl hq)
theorem IsNet.toSt (h : IsNet w base b m k s) {st' : Stn.St} {MA' : Option Addr} {mc' : Nat} (g1 : IsSt w' base m.sb MA' mc' m.RA m.rc st') (g2 : Keeps (Three m.sb m.MA m.RA) w w') (g3 : blkOf MA' = blkOf m.MA ∨ ∃ g, blkOf MA' = some g ∧ w.heap.size ≤ g) : NTo base b m k { s with st := st' } w w' := by
  have hn : ∀ (q : Nat) (e : TypeId), Ty w q e → e ≠ 162 → e ≠ 3 → e ≠ 165 → ¬ Three m.sb m.MA m.RA q := fun q e g a b c => h.st.away g a b c
  have h3 : ∀ q, Three m.sb MA' m.RA q → Three m.sb m.MA m.RA q ∨ w.heap.size ≤ q := by
    rintro q (hq | hq | hq)
    · exact .inl (.inl hq)
    · rcases g3 with e | ⟨g, e, hg⟩
      · exact .inl (.inr (.inl (e ▸ hq)))
      · rw [e] at hq
        injection hq with hq
        exact .inr (hq ▸ hg)
    · exact .inl (.inr (.inr hq))
  refine ⟨{ m with MA := MA', mc := mc' }, ⟨?_, g1, ?_, ?_, ?_, ?_, ?_, h.len, h.dis, ?_, h.ge, ?_⟩, g2.mono (fun q _ hq => .inr (.inl hq)), ?_, rfl⟩
  · exact blk_keep h.blk g2 (hn _ _ ⟨_, h.blk⟩ C8 C8 C8)
  · exact h.offs.kept g2 (fun q hq => h.so q (.inl hq))
  · exact h.rates.kept g2 (fun q hq => h.so q (.inr hq))
  · exact h.crow.kept g2 (fun q hq => hn _ _ (h.crow.ty hq) C8 C8 C8)
  · exact h.erow.kept g2 (fun q hq => hn _ _ (h.erow.ty hq) C8 C8 C8)
  · intro i hi
    exact (h.cr i hi).kept g2 (fun q hq => by
      rcases (h.cr i hi).ty hq with t | t | t | t <;> exact hn _ _ t C8 C8 C8)
  · obtain ⟨k', h1, h2⟩ := h.cut
    exact ⟨k', h1, h2.kept g2 (fun hs => by rcases h.st.three hs with t | t | t <;> exact h2.notCells t rfl)⟩
  · intro q hq hs
    rcases h3 q hs with g | g
    · exact h.so q hq g
    · rcases hq with hq | hq
      · have := (h.offs.lt hq).2; omega
      · have := (h.rates.lt hq).2; omega
  · rintro q (hq | hq | hq)
    · exact .inl (.inl hq)
    · exact (h3 q hq).imp (fun g => .inr (.inl g)) id
    · exact .inl (.inr (.inr hq))
end
end Go.Proofs.YtdocdgcdldpagaaGreat
namespace Go.Proofs.YtdocdgcdldpagaaGreat
set_option linter.unusedVariables false
set_option linter.unusedSimpArgs false
set_option maxHeartbeats 4000000
namespace Nt
open Go.RowKit
def FOk (n : Nat) (f : Fr) : Prop := (1 ≤ max f.f f.t ∧ max f.f f.t ≤ (n : Int)) ∧ By f.d ∧ f.d.length ≤ 64
structure CInv (N : Nat) (i : Nat) (c : Cr) : Prop where
  p : Plt.Inv c.p
  id : c.p.id = (i : Int) + 1
  rep : c.p.reports ≤ N
  up : Lnk.Inv c.up
  dn : Lnk.Inv c.dn
  us : c.up.sent ≤ N
  ds : c.dn.sent ≤ N
structure Inv (N : Nat) (s : St) : Prop where
  st : Stn.Inv s.st
  sn : s.st.n = s.cr.length
  rn : s.r.n = s.cr.length
  up : Lnk.vld s.r.up = true ∧ s.r.up.seed ≤ 1099511627776
  dn : Lnk.vld s.r.dn = true ∧ s.r.dn.seed ≤ 1099511627776
  now : 0 ≤ s.now ∧ s.now ≤ 3600000
  step : 1 ≤ s.r.step ∧ s.r.step ≤ 1000
  steps : 0 ≤ s.steps ∧ s.steps ≤ 100000
  offs : s.r.offs.length = s.cr.length
  rates : s.r.rates.length = s.cr.length
  cr : ∀ i, i < s.cr.length → CInv N i (at_ s i)
  cut : s.cut.length = s.cr.length + 1
  ev : s.ev.length ≤ N
theorem Inv.n {N : Nat} {s : St} (h : Inv N s) : 1 ≤ s.cr.length ∧ s.cr.length ≤ 64 := by rw [← h.sn]; exact h.st.n
theorem CInv.mono {N M i : Nat} {c : Cr} (h : CInv N i c) (hM : N ≤ M) : CInv M i c := { h with rep := by have := h.rep; omega, us := by have := h.us; omega, ds := by have := h.ds; omega }
theorem Inv.mono {N M : Nat} {s : St} (h : Inv N s) (hM : N ≤ M) : Inv M s := { h with cr := fun i hi => (h.cr i hi).mono hM, ev := by have := h.ev; omega }
theorem lru_vld {r : Lnk.Ru} (h : Lnk.vld r = true) (i : Nat) : Lnk.vld (lru r i) = true := by
  rw [Lnk.vld_iff] at h ⊢
  obtain ⟨h1, h2, h3, h4, h5⟩ := h
  exact ⟨h1, h2, h3, h4, by show 0 ≤ r.seed + _; omega⟩
theorem inv_sfS {r : Lnk.Ru} {s : Lnk.St} {now k f t q : Int} {d : List Int} (hr : Lnk.vld r = true) (h : Lnk.Inv s) (hd : By d) (hs : s.sent < 1000000000000000) : Lnk.Inv (sfS r s now k f t q d) := by
  unfold sfS
  split
  · rename_i hv
    refine Lnk.inv_send hr h ?_ hs
    have hb := Frm.body_by hv hd
    have hc := Frm.crcN_lt hb
    refine Frm.By.append (Frm.By.append Bi hb) Bi
  · exact h
theorem sent_send (r : Lnk.Ru) (s : Lnk.St) (now : Int) (b : List Int) : (Lnk.send r s now b).sent ≤ s.sent + 1 := by
  unfold Lnk.send
  split
  · split
    · simp [Lnk.send0]
    · split
      · simp [Lnk.send2, Lnk.send1, Lnk.put, Lnk.send0]
      · simp [Lnk.send1, Lnk.put, Lnk.send0]
  · omega
theorem sent_sf (r : Lnk.Ru) (s : Lnk.St) (now k f t q : Int) (d : List Int) : (sfS r s now k f t q d).sent ≤ s.sent + 1 := by
  unfold sfS
  split
  · exact sent_send _ _ _ _
  · omega
theorem sent_recv (s : Lnk.St) (now : Int) : (Lnk.recv s now).sent = s.sent := by unfold Lnk.recv; split <;> rfl
theorem at_put (s : St) (i j : Nat) (c : Cr) (hi : i < s.cr.length) : at_ (put s i c) j = if j = i then c else at_ s j := by
  unfold at_ put
  by_cases e : j = i
  · subst e
    rw [if_pos rfl]
    show (s.cr.set j c).getD j c0 = c
    rw [List.getD, List.getElem?_set_self hi]; rfl
  · rw [if_neg e]
    show (s.cr.set i c).getD j c0 = s.cr.getD j c0
    rw [List.getD, List.getD, List.getElem?_set_ne (fun h => e h.symm)]
theorem put_len (s : St) (i : Nat) (c : Cr) : (put s i c).cr.length = s.cr.length := by unfold put; exact List.length_set
theorem Inv.put {N : Nat} {s : St} (h : Inv N s) {i : Nat} (hi : i < s.cr.length) {c : Cr} (hc : CInv N i c) : Inv N (put s i c) where
  st := h.st
  sn := by rw [put_len]; exact h.sn
  rn := by rw [put_len]; exact h.rn
  up := h.up
  dn := h.dn
  now := h.now
  step := h.step
  steps := h.steps
  offs := by rw [put_len]; exact h.offs
  rates := by rw [put_len]; exact h.rates
  cr := fun j hj => by
    rw [put_len] at hj
    rw [at_put s i j c hi]
    by_cases e : j = i
    · subst e; rw [if_pos rfl]; exact hc
    · rw [if_neg e]; exact h.cr j hj
  cut := by rw [put_len]; exact h.cut
  ev := h.ev
theorem idx_lt {n : Nat} {f : Fr} (h : FOk n f) : 1 ≤ idx f ∧ idx f ≤ n ∧ ((idx f : Nat) : Int) = max f.f f.t := by
  have := h.1
  unfold idx
  omega
theorem Inv.snd {N : Nat} {s : St} (h : Inv N s) {f : Fr} (hf : FOk s.cr.length f) (hN : N < 1000000000000000) : Inv (N + 1) (snd s f) := by
  unfold Nt.snd
  split
  · exact h.mono Cb
  · have hi := idx_lt hf
    have hi' : idx f - 1 < s.cr.length := by omega
    have hc := h.cr _ hi'
    have h' := h.mono (M := N + 1) Cb
    have hc' := h'.cr _ hi'
    unfold snd1
    split
    · exact h'.put hi' { hc' with dn := inv_sfS (lru_vld h.dn.1 _) hc.dn hf.2.1 (by have := hc.ds; omega), ds := by have := hc.ds; have := sent_sf (lru s.r.dn (idx f - 1)) (at_ s (idx f - 1)).dn s.now f.k f.f f.t f.s f.d; simp only; omega }
    · exact h'.put hi' { hc' with up := inv_sfS (lru_vld h.up.1 _) hc.up hf.2.1 (by have := hc.us; omega), us := by have := hc.us; have := sent_sf (lru s.r.up (idx f - 1)) (at_ s (idx f - 1)).up s.now f.k f.f f.t f.s f.d; simp only; omega }
theorem snd_len (s : St) (f : Fr) : (snd s f).cr.length = s.cr.length := by
  unfold snd snd1
  split
  · rfl
  · split <;> exact put_len _ _ _
theorem snd_same (s : St) (f : Fr) : (snd s f).now = s.now ∧ (snd s f).steps = s.steps ∧ (snd s f).r = s.r ∧ (snd s f).st = s.st := by
  unfold snd snd1 put
  split
  · exact ⟨rfl, rfl, rfl, rfl⟩
  · split <;> exact ⟨rfl, rfl, rfl, rfl⟩
theorem sndL_len : ∀ (l : List Fr) (s : St), (sndL s l).cr.length = s.cr.length
  | [], s => rfl
  | f :: l, s => by
    show (sndL (snd s f) l).cr.length = _
    rw [sndL_len l, snd_len]
theorem sndL_same : ∀ (l : List Fr) (s : St), (sndL s l).now = s.now ∧ (sndL s l).steps = s.steps ∧ (sndL s l).r = s.r ∧ (sndL s l).st = s.st
  | [], s => ⟨rfl, rfl, rfl, rfl⟩
  | f :: l, s => by
    have h1 := sndL_same l (snd s f)
    have h2 := snd_same s f
    show (sndL (snd s f) l).now = _ ∧ (sndL (snd s f) l).steps = _ ∧ (sndL (snd s f) l).r = _ ∧ (sndL (snd s f) l).st = _
    rw [h1.1, h1.2.1, h1.2.2.1, h1.2.2.2]
    exact h2
theorem Inv.sndL {N : Nat} : ∀ {l : List Fr} {s : St}, Inv N s → (∀ f ∈ l, FOk s.cr.length f) → N + l.length ≤ 1000000000000000 → Inv (N + l.length) (sndL s l)
  | [], s, h, _, _ => h
  | f :: l, s, h, hf, hN => by
    simp only [List.length_cons] at hN ⊢
    have h1 := h.snd (hf f (List.mem_cons_self ..)) Cb
    have h2 := Inv.sndL (l := l) h1 (fun g hg => by rw [snd_len]; exact hf g (List.mem_cons_of_mem _ hg)) Cb
    rw [show N + (l.length + 1) = N + 1 + l.length by omega]
    exact h2
theorem num4_len (x : Int) : (Frm.num4 x).length = 4 := rfl
theorem data_by (s : Stn.St) (hs : Stn.Inv s) : By (Stn.data s) ∧ (Stn.data s).length ≤ 64 := by
  have h1 := hs.prog
  have h2 := hs.at_
  unfold Stn.data
  split
  · exact ⟨Frm.num4_by (Frm.okN_iff.2 Cb), by rw [num4_len]; omega⟩
  · split
    · exact ⟨Frm.num4_by (Frm.okN_iff.2 Cb), by rw [num4_len]; omega⟩
    · exact ⟨(by intro x hx; cases hx), by simp⟩
theorem miss_n (s : Stn.St) (hs : Stn.Inv s) : ∀ x ∈ Stn.miss s, 1 ≤ x ∧ x ≤ s.n := by
  intro x hx
  unfold Stn.miss at hx
  split at hx
  · cases hx
  · have := Stn.missFrom_ge _ _ _ hx
    rw [hs.ack] at this
    omega
theorem frames_ok (s : Stn.St) (hs : Stn.Inv s) : (∀ f ∈ Stn.frames s, FOk s.n f) ∧ (Stn.frames s).length ≤ 64 := by
  refine ⟨fun f hf => ?_, ?_⟩
  · unfold Stn.frames at hf
    obtain ⟨i, hi, rfl⟩ := List.mem_map.1 hf
    have := miss_n s hs i hi
    have hd := data_by s hs
    exact ⟨by simp only; omega, hd.1, hd.2⟩
  · unfold Stn.frames
    rw [List.length_map]
    exact (miss_bd s hs).1
theorem give_n (s : Stn.St) (k now x : Int) : (Stn.give s k now x).n = s.n := by unfold Stn.give; split <;> rfl
theorem tick_n (s : Stn.St) (now : Int) : (Stn.tick s now).n = s.n := by
  unfold Stn.tick
  split
  · split <;> rfl
  · rfl
theorem recv_n (s : Stn.St) (now : Int) (y : Fr) : (Stn.recv s now y).n = s.n := by
  unfold Stn.recv Stn.recv1
  split
  · split
    · split
      · rfl
      · split <;> rfl
    · rfl
  · rfl
theorem giveF_ok (s : Stn.St) (hs : Stn.Inv s) (k now x : Int) (hk : 1 ≤ k ∧ k ≤ 6) : (∀ f ∈ Stn.giveF s k now x, FOk s.n f) ∧ (Stn.giveF s k now x).length ≤ 64 := by
  unfold Stn.giveF
  split
  · rename_i h0
    have h1 := Stn.inv_give (now := now) (x := x) hs hk
    have h2 := give_n s k now x
    unfold Stn.give at h1 h2
    rw [if_pos h0] at h1 h2
    rw [← h2]
    exact frames_ok _ h1
  · exact ⟨fun f hf => (by cases hf), by simp⟩
theorem tickF_ok (s : Stn.St) (hs : Stn.Inv s) (now : Int) : (∀ f ∈ Stn.tickF s now, FOk s.n f) ∧ (Stn.tickF s now).length ≤ 64 := by
  unfold Stn.tickF
  split
  · rw [← tick_n s now]
    exact frames_ok _ (Stn.inv_tick hs)
  · exact ⟨fun f hf => (by cases hf), by simp⟩
theorem recvF_ok (s : Stn.St) (hs : Stn.Inv s) (now : Int) (hn : 0 ≤ now ∧ now ≤ 3600000) (y : Fr) : (∀ f ∈ Stn.recvF s now y, FOk s.n f) ∧ (Stn.recvF s now y).length ≤ 1 := by
  unfold Stn.recvF
  split
  · rename_i h
    refine ⟨fun f hf => ?_, by simp⟩
    rw [List.mem_singleton.1 hf]
    have h0 := h.1
    unfold Stn.recvE at h0
    split at h0
    · rename_i hv
      have hv1 := Frm.vd_iff.1 hv.1
      have hb := Frm.num4_by (Frm.okN_iff.2 (by omega : 0 ≤ now ∧ now ≤ 4294967295))
      refine ⟨by simp only; omega, Frm.By.append hb hb, ?_⟩
      simp only [List.length_append, num4_len]
      omega
    · omega
  · exact ⟨fun f hf => (by cases hf), by simp⟩
theorem rcvF_ok (s : Plt.St) (hs : Plt.Inv s) {n : Nat} (hi : s.id ≤ n) (l : Int) {y : Fr} (hy : By y.d) : (∀ f ∈ Plt.rcvF s l y, FOk n f) ∧ (Plt.rcvF s l y).length ≤ 1 := by
  unfold Plt.rcvF
  split
  · rename_i h
    refine ⟨fun f hf => ?_, by simp⟩
    rw [List.mem_singleton.1 hf]
    have hv := Frm.vd_iff.1 (Plt.rcvE_ok h.1).2.1
    have := hs.id
    exact ⟨by simp only; omega, by intro x hx; simp at hx; omega, by simp⟩
  · exact ⟨fun f hf => (by cases hf), by simp⟩
theorem pltickF_ok (s : Plt.St) (hs : Plt.Inv s) {n : Nat} (hi : s.id ≤ n) (l : Int) : (∀ f ∈ Plt.tickF s l, FOk n f) ∧ (Plt.tickF s l).length ≤ 1 := by
  unfold Plt.tickF
  split
  · rename_i h
    refine ⟨fun f hf => ?_, by simp⟩
    rw [List.mem_singleton.1 hf]
    have := hs.id
    have hp := (Plt.pas_inv hs (Plt.timE_ok h.1).1).st
    exact ⟨by simp only; omega, by intro x hx; simp at hx; omega, by simp⟩
  · exact ⟨fun f hf => (by cases hf), by simp⟩
end Nt
end Go.Proofs.YtdocdgcdldpagaaGreat
namespace Go.Proofs.YtdocdgcdldpagaaGreat
open Go.RowKit
set_option maxHeartbeats 4000000
set_option maxRecDepth 100000
set_option linter.unusedSimpArgs false
set_option linter.unusedVariables false
attribute [local go_sem ↓] Go.wp_at_zero Go.wp_at_succ
theorem Dz {p : Prop} (h : p := by
  go_ret
  exact ⟨rfl, rfl⟩
 ) : p := h
theorem Ea {p : Prop} (h : p := by
  go_enter Tryz.func31, Tryz.ntmps31
  go_wp2_with fail
  exact Dz
 ) : p := h
theorem nwithin_yes (n a b : Int) (w : World) (h : a ≤ n ∧ n ≤ b) : Calls Tryz.prog 31 #[.int .i64 n, .int .i64 a, .int .i64 b] w fun e w' => e = .returned (.bool true) ∧ w = w' := by
  obtain ⟨h1, h2⟩ := h
  exact Ea
theorem nwithin_no (n a b : Int) (w : World) (h : ¬ (a ≤ n ∧ n ≤ b)) : Calls Tryz.prog 31 #[.int .i64 n, .int .i64 a, .int .i64 b] w fun e w' => e = .returned (.bool false) ∧ w = w' := by
  by_cases h1 : a ≤ n
  · have h2 : ¬ n ≤ b := fun hh => h ⟨h1, hh⟩
    clear h
    exact Ea
  · clear h
    exact Ea
section
variable {w w' : World} {base b k N : Nat} {m : NM} {s : Nt.St}
theorem nnone_any (h : IsNet w base b m k s) (hn : 1 ≤ s.cr.length) : Calls Tryz.prog 46 #[.pointer (some ⟨b, 0, none⟩)] w fun e w' => e = .returned (.bool false) ∧ w = w' := by
  have c25 : w.cell? ⟨b, 25, none⟩ = some (.slice m.CA s.cr.length m.cc) := blk_cell h.blk 25 rfl
  obtain ⟨n, hnn⟩ : ∃ n, n = s.cr.length := ⟨_, rfl⟩
  rw [← hnn] at c25 hn
  have z : ((n : Int) == 0) = false := by rw [beq_eq_false_iff_ne]; omega
  clear h hnn
  go_enter Tryz.func46, Tryz.ntmps46
  go_wp2_with fail
  exact Dz
theorem nnone_nil (w : World) : Calls Tryz.prog 46 #[.pointer none] w fun e w' => e = .returned (.bool true) ∧ w = w' := by
  go_enter Tryz.func46, Tryz.ntmps46
  go_wp2_with fail
  exact Dz
theorem nnone_zero (b : Nat) (w : World) (c25 : w.cell? ⟨b, 25, none⟩ = some (.slice none 0 0)) : Calls Tryz.prog 46 #[.pointer (some ⟨b, 0, none⟩)] w fun e w' => e = .returned (.bool true) ∧ w = w' := by
  go_enter Tryz.func46, Tryz.ntmps46
  go_wp2_with fail
  exact Dz
theorem E9 {p : Prop} (h : p := by
  go_wp2_with (refine NO.out.mono ?_; rintro e w' ⟨rfl, rfl⟩)
  exact Dz
 ) : p := h
theorem nnow_any (h : IsNet w base b m k s) (hn : 1 ≤ s.cr.length) : Calls Tryz.prog 21 #[.pointer (some ⟨b, 0, none⟩)] w fun e w' => e = .returned (.int .i64 s.now) ∧ w = w' := by
  have NO := Lib.hid (nnone_any h hn)
  have c21 : w.cell? ⟨b, 21, none⟩ = some (.int .i64 s.now) := blk_cell h.blk 21 rfl
  clear h hn
  go_enter Tryz.func21, Tryz.ntmps21
  exact E9
theorem nstation_any (h : IsNet w base b m k s) (hs : Nt.Inv N s) : Calls Tryz.prog 19 #[.pointer (some ⟨b, 0, none⟩)] w fun e w' => e = .returned (.int .i64 s.st.st) ∧ w = w' := by
  have NO := Lib.hid (nnone_any h hs.n.1)
  have ST := Lib.hid (state_any h.st hs.st)
  have c23 : w.cell? ⟨b, 23, none⟩ = some (.pointer (some ⟨m.sb, 0, none⟩)) := blk_cell h.blk 23 rfl
  clear h hs
  go_enter Tryz.func19, Tryz.ntmps19
  go_wp2_with (first | (refine NO.out.mono ?_; rintro e w' ⟨rfl, rfl⟩) | (refine ST.out.mono ?_; rintro e w' ⟨rfl, rfl⟩))
  exact Dz
theorem E6 {p : Prop} (h : p := by
  clear h hs ha
  go_enter Tryz.func53, Tryz.ntmps53
  go_wp2_with (first | (refine NO.out.mono ?_; rintro e w' ⟨rfl, rfl⟩) | (refine WI.out.mono ?_; rintro e w' ⟨rfl, rfl⟩))
  exact Dz
 ) : p := h
theorem ncheck_yes (h : IsNet w base b m k s) (hs : Nt.Inv N s) (a : Int) (ha : 1 ≤ a ∧ a ≤ s.cr.length) : Calls Tryz.prog 53 #[.pointer (some ⟨b, 0, none⟩), .int .i64 a] w fun e w' => e = .returned (.int .i64 0) ∧ w = w' := by
  have NO := Lib.hid (nnone_any h hs.n.1)
  have c25 : w.cell? ⟨b, 25, none⟩ = some (.slice m.CA s.cr.length m.cc) := blk_cell h.blk 25 rfl
  have WI := Lib.hid (nwithin_yes a 1 s.cr.length w ha)
  exact E6
theorem ncheck_no (h : IsNet w base b m k s) (hs : Nt.Inv N s) (a : Int) (ha : ¬ (1 ≤ a ∧ a ≤ s.cr.length)) : Calls Tryz.prog 53 #[.pointer (some ⟨b, 0, none⟩), .int .i64 a] w fun e w' => e = .returned (.int .i64 2) ∧ w = w' := by
  have NO := Lib.hid (nnone_any h hs.n.1)
  have c25 : w.cell? ⟨b, 25, none⟩ = some (.slice m.CA s.cr.length m.cc) := blk_cell h.blk 25 rfl
  have WI := Lib.hid (nwithin_no a 1 s.cr.length w ha)
  exact E6
theorem ncheck_nil (a : Int) (w : World) : Calls Tryz.prog 53 #[.pointer none, .int .i64 a] w fun e w' => e = .returned (.int .i64 1) ∧ w = w' := by
  have NO := Lib.hid (nnone_nil w)
  go_enter Tryz.func53, Tryz.ntmps53
  exact E9
theorem ncheck_zero (b : Nat) (a : Int) (w : World) (c25 : w.cell? ⟨b, 25, none⟩ = some (.slice none 0 0)) : Calls Tryz.prog 53 #[.pointer (some ⟨b, 0, none⟩), .int .i64 a] w fun e w' => e = .returned (.int .i64 1) ∧ w = w' := by
  have NO := Lib.hid (nnone_zero b w c25)
  go_enter Tryz.func53, Tryz.ntmps53
  exact E9
theorem icl_at (l : List Int) (i : Nat) (hi : i < l.length) : (icl l)[i]? = some (.int .i64 (l.getD i 0)) := by
  rw [icl, List.getElem?_map, List.getD, List.getElem?_eq_getElem hi]; rfl
theorem Row.int_at {A : Option Addr} {n c : Nat} {l : List Int} (h : Row w base 3 1 A n c (icl l)) {i : Nat} (hi : i < n) : ∃ g o, A = some ⟨g, o, none⟩ ∧ w.cell? ⟨g, o + i, none⟩ = some (.int .i64 (l.getD i 0)) := by
  obtain ⟨g, o, cur, h1, _, _, _, _, _, _, _, hc, _⟩ := h.some_ Cb
  have hl : l.length = n := by have := h.1; simpa [icl] using this
  exact ⟨g, o, h1, hc i _ (icl_at l i Cb)⟩
theorem nlocal_any (h : IsNet w base b m k s) (hs : Nt.Inv N s) {i : Nat} (hi : i < s.cr.length) : Calls Tryz.prog 55 #[.pointer (some ⟨b, 0, none⟩), .int .i64 ((i : Int) + 1)] w fun e w' => e = .returned (.int .i64 (Nt.lcl s i)) ∧ ∃ q, w' = w.drewN q := by
  have c19 : w.cell? ⟨b, 19, none⟩ = some (.slice m.OA s.r.offs.length m.oc) := blk_cell h.blk 19 rfl
  have c20 : w.cell? ⟨b, 20, none⟩ = some (.slice m.TA s.r.rates.length m.tc) := blk_cell h.blk 20 rfl
  have c21 : w.cell? ⟨b, 21, none⟩ = some (.int .i64 s.now) := blk_cell h.blk 21 rfl
  have io : i < s.r.offs.length := by rw [hs.offs]; exact hi
  have ir : i < s.r.rates.length := by rw [hs.rates]; exact hi
  obtain ⟨g1, o1, e1, k1⟩ := h.offs.int_at io
  obtain ⟨g2, o2, e2, k2⟩ := h.rates.int_at ir
  rw [e1] at c19
  rw [e2] at c20
  have hi64 := hs.n.2
  have wi : IntKind.i64.wrap ((i : Int) + 1 - 1) = (i : Int) := by rw [IntWalk.i64_in _ Cb]; omega
  have wi2 : IntKind.i64.wrap (i : Int) = (i : Int) := IntWalk.i64_in _ Cb
  have io' : (i : Int) < (s.r.offs.length : Int) := by omega
  have ir' : (i : Int) < (s.r.rates.length : Int) := by omega
  have LC := Lib.hid (fun (W : World) => Ck.local_any (s.r.offs.getD i 0) (s.r.rates.getD i 0) s.now W)
  obtain ⟨x, hx⟩ : ∃ x, x = s.r.offs.getD i 0 := ⟨_, rfl⟩
  obtain ⟨y, hy⟩ : ∃ y, y = s.r.rates.getD i 0 := ⟨_, rfl⟩
  obtain ⟨z, hz⟩ : ∃ z, z = Nt.lcl s i := ⟨_, rfl⟩
  have hz' : Ck.lV x y s.now = z := by rw [hz, hx, hy]; rfl
  rw [← hx, ← hy, hz'] at LC
  rw [← hx] at k1
  rw [← hy] at k2
  rw [← hz]
  have hi0 : (0 : Int) ≤ (i : Int) := by omega
  clear hx hy hz hz' h hs e1 e2 io ir hi
  go_enter Tryz.func55, Tryz.ntmps55
  go_upto_region 1 with fail
  go_quiet ((go_at_call 98; exact Calls.quiet_of_same ((LC.out _).mono fun e w' h => ⟨h.1, h.2.symm⟩)))
  go_wp2_with fail
  go_ret
  exact ⟨rfl, _, rfl⟩
end
end Go.Proofs.YtdocdgcdldpagaaGreat

import Derived.Test.YtdocdgcdldpagaaGreatAp
import Derived.Test.YtdocdgcdldpagaaGreatAv31
import Derived.Test.YtdocdgcdldpagaaGreatAv28
namespace Go.Proofs.YtdocdgcdldpagaaGreat
open Go.RowKit
set_option maxHeartbeats 8000000
set_option maxRecDepth 100000
set_option linter.unusedSimpArgs false
set_option linter.unusedVariables false
attribute [local go_sem ↓] Go.wp_at_zero Go.wp_at_succ
namespace Nt
theorem fly1_ok {N : Nat} {s : St} (h : Inv N s) {i : Nat} (hi : i < s.cr.length) {f : Fr} (hf : By f.d) (l : Int) : Inv N (put s i { at_ s i with p := Plt.rcvS (at_ s i).p l f }) ∧ (∀ g ∈ Plt.rcvF (at_ s i).p l f, FOk (put s i { at_ s i with p := Plt.rcvS (at_ s i).p l f }).cr.length g) ∧ (Plt.rcvF (at_ s i).p l f).length ≤ 1 := by
  have hc := h.cr i hi
  have ok := rcvF_ok (at_ s i).p hc.p (n := s.cr.length) (by have := hc.id; omega) l hf
  exact ⟨h.put hi (hc.rcvP (l := l) hf), fun g hg => by rw [put_len]; exact ok.1 g hg, ok.2⟩
theorem flyT_ok {N : Nat} {s : St} (h : Inv N s) {i : Nat} (hi : i < s.cr.length) (l : Int) : Inv (N + 1) (put s i { at_ s i with p := Plt.tickS (at_ s i).p l }) ∧ (∀ g ∈ Plt.tickF (at_ s i).p l, FOk (put s i { at_ s i with p := Plt.tickS (at_ s i).p l }).cr.length g) ∧ (Plt.tickF (at_ s i).p l).length ≤ 1 := by
  have hc := h.cr i hi
  have ok := pltickF_ok (at_ s i).p hc.p (n := s.cr.length) (by have := hc.id; omega) l
  exact ⟨(h.mono (M := N + 1) Cb).put hi hc.tickP, fun g hg => by rw [put_len]; exact ok.1 g hg, ok.2⟩
def noteS (i : Nat) (x : Int) (s : St) : St := { s with cr := s.cr.set i { s.cr.getD i c0 with s := x }, ev := s.ev ++ [(s.now, (i : Int) + 1, x)] }
theorem note_eq {i : Nat} {s : St} {x : Int} (hx : x = (at_ s i).p.st) (h : ¬ x = (at_ s i).s) : note i s = noteS i x s := by
  subst hx
  unfold note
  rw [if_neg h]
  rfl
theorem noteS_at {i : Nat} {x : Int} {s : St} (hi : i < s.cr.length) (j : Nat) : (at_ (noteS i x s) j).p = (at_ s j).p ∧ (at_ (noteS i x s) j).up = (at_ s j).up ∧ (at_ (noteS i x s) j).dn = (at_ s j).dn := by
  have e := at_put s i j { at_ s i with s := x } hi
  have e' : at_ (noteS i x s) j = at_ (put s i { at_ s i with s := x }) j := rfl
  rw [e', e]
  split
  · rename_i h
    subst h
    exact ⟨rfl, rfl, rfl⟩
  · exact ⟨rfl, rfl, rfl⟩
theorem lcl_eq {s t : St} (h1 : t.now = s.now) (h2 : t.r = s.r) (i : Nat) : lcl t i = lcl s i := by unfold lcl; rw [h1, h2]
end Nt
section
variable {w w' w0 : World} {base b k N fb : Nat} {m m1 : NM} {s s' : Nt.St} {v : Value} {L : List Fr}
theorem HS.cells (h : HS base b k m w0 fb v L s w m1) {g o i : Nat} (hCA : m.CA = some ⟨g, o, none⟩) (hi : i < s.cr.length) : Ty w g 108 ∧ w.cell? ⟨g, o + i * 4, none⟩ = some (.pointer (some ⟨(m1.cs.getD i cm0).pb, 0, none⟩)) ∧ w.cell? ⟨g, o + i * 4 + 2, none⟩ = some (.pointer (some ⟨(m1.cs.getD i cm0).db, 0, none⟩)) ∧ w.cell? ⟨g, o + i * 4 + 3, none⟩ = some (.int .i64 (Nt.at_ s i).s) ∧ ∀ j, w.frozen? ⟨g, j, none⟩ = false := by
  obtain ⟨g', o', e, h1, h2, _, h3, h4, h5⟩ := h.1.cells hi
  rw [h.2.2.1.CA, hCA] at e
  injection e with e
  injection e with e1 e2
  subst e1 e2
  exact ⟨h1, h2, h3, h4, h5⟩
theorem Row.setN {g o p c n size q : Nat} {e : TypeId} {xs : List Value} (h : Row w base e size (some ⟨g, o, none⟩) n c xs) (hn : 0 < n) (hq : q < n * size) (hp : p = o + q) (u : Value) : Row (w.setCell ⟨g, p, none⟩ u) base e size (some ⟨g, o, none⟩) n c (xs.set q u) := by
  obtain ⟨g', o', cur, he, hb, _, hh, hnc, hcm, hfit, hcur, _⟩ := h.some_ hn
  injection he with he; injection he with e1 e2
  subst e1; subst e2; subst hp
  have hxl := h.1
  have hle : n * size ≤ c * size := Nat.mul_le_mul_right _ hnc
  refine Row.of_block (blk_set hh (o + q) u) hb hnc hcm (by rw [Array.size_setIfInBounds]; omega) ?_
  apply List.ext_getElem?
  intro k
  rw [List.getElem?_take, List.getElem?_drop, Array.getElem?_toList, Array.getElem?_setIfInBounds, List.getElem?_set]
  have hxk : ∀ j, j < n * size → xs[j]? = cur[o + j]? := fun j hj => by rw [← hcur, List.getElem?_take, if_pos hj, List.getElem?_drop, Array.getElem?_toList]
  by_cases hk : k < n * size
  · rw [if_pos hk]
    by_cases hki : q = k
    · subst hki
      rw [if_pos rfl, if_pos rfl, if_pos Cb, if_pos Cb]
    · rw [if_neg Cb, if_neg hki, hxk k hk]
  · rw [if_neg hk, if_neg Cb, List.getElem?_eq_none Cb]
theorem Ow.capd {n cap : Nat} {A : Option Addr} {l : List Int} (h : Ow w base A n cap l) : n ≤ cap ∧ cap ≤ maxLen := by
  rcases h.form with ⟨_, e1, e2⟩ | ⟨g, _, _, _, h1, h2⟩
  · omega
  · exact ⟨h1, h2⟩
theorem IsNet.toNote (h : IsNet w base b m k s) {EA' : Option Addr} {ec' : Nat} (hst : s'.st = s.st) (hr : s'.r = s.r) (hcut : s'.cut = s.cut) (hcl : s'.cr.length = s.cr.length) (hat : ∀ j, j < s.cr.length → (Nt.at_ s' j).p = (Nt.at_ s j).p ∧ (Nt.at_ s' j).up = (Nt.at_ s j).up ∧ (Nt.at_ s' j).dn = (Nt.at_ s j).dn)
    (kk : Keeps (fun q => q = b ∨ blkOf m.EA = some q ∨ blkOf m.CA = some q) w w')
    (hb : w'.heap[b]? = some (.cells (ncl { m with EA := EA', ec := ec' } s').toArray 86 (0, 0))) (hc : Row w' base 108 4 m.CA s'.cr.length m.cc (ccls m.cs s'.cr)) (he : Row w' base 58 3 EA' s'.ev.length ec' (evcs s'.ev)) (hE : blkOf EA' = blkOf m.EA ∨ ∃ g, blkOf EA' = some g ∧ w.heap.size ≤ g) : NTo base b m k s' w w' := by
  have hn : ∀ (q : Nat) (e : TypeId), Ty w q e → e ≠ 86 → e ≠ 58 → e ≠ 108 → ¬ (q = b ∨ blkOf m.EA = some q ∨ blkOf m.CA = some q) := fun q e g h1 h2 h3 hq => by
    rcases hq with rfl | hq | hq
    · exact g.ne ⟨_, h.blk⟩ h1 rfl
    · exact g.ne (h.erow.ty hq) h2 rfl
    · exact g.ne (h.crow.ty hq) h3 rfl
  refine ⟨{ m with EA := EA', ec := ec' }, ⟨hb, ?_, ?_, ?_, hc, he, ?_, by rw [hcl]; exact h.len, by rw [hcl]; exact h.dis, ?_, h.ge, h.so⟩, kk.mono (fun q _ hq => ?_), ?_, rfl⟩
  · rw [hst]
    exact h.st.kept kk (fun q hq => by rcases h.st.three hq with t | t | t <;> exact hn _ _ t C8 C8 C8)
  · rw [hr]; exact h.offs.kept kk (fun q hq => hn _ _ (h.offs.ty hq) C8 C8 C8)
  · rw [hr]; exact h.rates.kept kk (fun q hq => hn _ _ (h.rates.ty hq) C8 C8 C8)
  · rw [hcl, hr]
    intro i hi
    obtain ⟨e1, e2, e3⟩ := hat i hi
    have hk := (h.cr i hi).kept kk (fun q hq => by rcases (h.cr i hi).ty hq with t | t | t | t <;> exact hn _ _ t C8 C8 C8)
    exact ⟨by rw [e1]; exact hk.p, by rw [e2]; exact hk.up, by rw [e3]; exact hk.dn, hk.ne⟩
  · rw [hcut]
    obtain ⟨k', h1, h2⟩ := h.cut
    exact ⟨k', h1, h2.kept kk (fun hq => by
      rcases hq with hq | hq | hq
      · exact h2.notCells ⟨_, h.blk⟩ hq.symm
      · exact h2.notCells (h.erow.ty hq) rfl
      · exact h2.notCells (h.crow.ty hq) rfl)⟩
  · rcases hq with hq | hq | hq
    · exact .inl hq
    · exact .inr (.inr (.inr (.inr (.inr (.inr (.inl hq))))))
    · exact .inr (.inr (.inr (.inr (.inl hq))))
  · rintro q (hq | hq | hq | hq | hq | hq | hq | hq)
    · exact .inl (.inl hq)
    · exact .inl (.inr (.inl hq))
    · exact .inl (.inr (.inr (.inl hq)))
    · exact .inl (.inr (.inr (.inr (.inl hq))))
    · exact .inl (.inr (.inr (.inr (.inr (.inl hq)))))
    · exact .inl (.inr (.inr (.inr (.inr (.inr (.inl hq))))))
    · have hq : blkOf EA' = some q := hq
      rcases hE with e | ⟨g, e, hg⟩
      · exact .inl (.inr (.inr (.inr (.inr (.inr (.inr (.inl (e ▸ hq))))))))
      · rw [e] at hq
        injection hq with hq
        exact .inr (hq ▸ hg)
    · exact .inl (.inr (.inr (.inr (.inr (.inr (.inr (.inr hq)))))))
end
end Go.Proofs.YtdocdgcdldpagaaGreat
namespace Go.Proofs.YtdocdgcdldpagaaGreat
open Go.RowKit
set_option maxHeartbeats 8000000
set_option maxRecDepth 100000
set_option linter.unusedSimpArgs false
set_option linter.unusedVariables false
attribute [local go_sem ↓] Go.wp_at_zero Go.wp_at_succ
section
variable {w w' w0 : World} {base b k N fb : Nat} {m m1 : NM} {s s' : Nt.St} {v : Value} {L : List Fr}
theorem Ec {p : Prop} (h : p := by
  rintro e w' ⟨v1, e1, g1, g2, g3⟩
  obtain ⟨m3, h3⟩ := h1.to (h1.1.toP hi g2 g3)
  exact ⟨v1, _, m3, e1, g1, h3⟩
 ) : p := h
theorem hs_recv (h : HS base b k m w0 fb v L s w m1) (hs : Nt.Inv N s) {i : Nat} (hi : i < s.cr.length) (hN : N < 1000000000000000) (l : Int) (f : Fr) {B : Nat} {D : Option Addr} {dc : Nat} (how : Ow w B D f.d.length dc f.d) (W : World) (hW : Below w.heap.size w W) :
    Calls Tryz.prog 104 #[.pointer (some ⟨(m1.cs.getD i cm0).pb, 0, none⟩), .int .i64 l, .agg #[.int .i64 f.k, .int .i64 f.f, .int .i64 f.t, .int .i64 f.s, .slice D f.d.length dc]] W fun e w' => ∃ (v1 : Value) (er : Int) (m3 : NM), e = .returned (.tuple #[v1, .int .i64 er]) ∧ Rof w' W.heap.size v1 (Plt.rcvF (Nt.at_ s i).p l f) ∧ HS base b k m w0 fb v L (Nt.put s i { Nt.at_ s i with p := Plt.rcvS (Nt.at_ s i).p l f }) w' m3 := by
  have h1 := h.below hW
  have hc := h.1.cr i hi
  have hc1 := h1.1.cr i hi
  have hci := hs.cr i hi
  have hcd := how.capd
  have hmx : maxLen = 9223372036854775807 := rfl
  refine (precv_any hc1.p hci.p f.k f.f f.t f.s D f.d.length dc f.d rfl Cb hcd.1 Cb ((how.rd.below hW (Nat.le_refl _)).more hW.size) (fun a ha => ⟨(how.ty a ha).ne ⟨_, hc.p.blk⟩ C8, (how.ty a ha).ne ⟨_, hc.p.clk⟩ C8⟩) (by have := hci.rep; omega) l).mono ?_
  exact Ec
theorem hs_tick (h : HS base b k m w0 fb v L s w m1) (hs : Nt.Inv N s) {i : Nat} (hi : i < s.cr.length) (hN : N < 1000000000000000) (l : Int) (W : World) (hW : Below w.heap.size w W) :
    Calls Tryz.prog 105 #[.pointer (some ⟨(m1.cs.getD i cm0).pb, 0, none⟩), .int .i64 l] W fun e w' => ∃ (v1 : Value) (er : Int) (m3 : NM), e = .returned (.tuple #[v1, .int .i64 er]) ∧ Rof w' W.heap.size v1 (Plt.tickF (Nt.at_ s i).p l) ∧ HS base b k m w0 fb v L (Nt.put s i { Nt.at_ s i with p := Plt.tickS (Nt.at_ s i).p l }) w' m3 := by
  have h1 := h.below hW
  have hc1 := h1.1.cr i hi
  have hci := hs.cr i hi
  refine (ptick_any hc1.p hci.p (by have := hci.rep; omega) l).mono ?_
  exact Ec
theorem nfly_any (h : IsNet w base b m k s) (hs : Nt.Inv N s) {i : Nat} (hi : i < s.cr.length) (hbase : base ≤ w.heap.size) (hN : N + 2000 ≤ 1000000000000) :
    Calls Tryz.prog 60 #[.pointer (some ⟨b, 0, none⟩), .int .i64 i] w fun e w' => e = .returned (.tuple #[]) ∧ NTo base b m k (Nt.fly s i) w w' := by
  obtain ⟨i0, hi0', hza, hzb, hzc⟩ := info_parts info_ev
  obtain ⟨g, o, hCA, hTc, _, _, d2, _, _⟩ := h.cells hi
  have hn64 := hs.n.2
  have LO := Lib.hid (show ∀ W : World, Below w.heap.size w W → Calls Tryz.prog 55 #[.pointer (some ⟨b, 0, none⟩), .int .i64 ((i : Int) + 1)] W fun e w' => e = .returned (.int .i64 (Nt.lcl s i)) ∧ ∃ q, w' = W.drewN q from fun W hW => nlocal_any (h.below hW) hs hi)
  have c25 : w.cell? ⟨b, 25, none⟩ = some (.slice m.CA s.cr.length m.cc) := blk_cell h.blk 25 rfl
  rw [hCA] at c25
  have ic : (i : Int) < (s.cr.length : Int) := by omega
  have ip : (0 : Int) ≤ (i : Int) := by omega
  have wi : IntKind.i64.wrap ((i : Int) + 1) = (i : Int) + 1 := IntWalk.i64_in _ Cb
  obtain ⟨l, hl⟩ : ∃ l, l = Nt.lcl s i := ⟨_, rfl⟩
  rw [← hl] at LO
  have HLC := Lib.hid hl
  have HH := Lib.hid h
  have HSV := Lib.hid hs
  have hgl : g < w.heap.size := by obtain ⟨_, hh⟩ := hTc; exact lt_of_block hh
  have HI := Lib.hid hi
  have HCA := Lib.hid hCA
  clear h hs hTc hl hi hCA d2
  go_enter Tryz.func60, Tryz.ntmps60
  go_upto_region 0 with fail
  go_quiet ((go_at_call 55; exact Calls.quiet_of (LO.out _ (below_drewN (Below.refl _ _) _))))
  generalize hW1 : World.drewN _ _ = W1
  have b1 : Below w.heap.size w W1 := by rw [← hW1]; exact below_drewN (Below.refl _ _) _
  have hz1 := b1.size
  have H1 := Lib.hid (show HS base b k m w w.heap.size (.slice none 0 0) [] s W1 m from ⟨HH.out.below b1, Keeps.of_below b1, NG.refl, Rof.nil _ _⟩)
  have hcl := H1.out.cells HCA.out HI.out
  obtain ⟨_, _, d2, _, _⟩ := hcl
  have c21 : W1.cell? ⟨b, 21, none⟩ = some (.int .i64 s.now) := blk_cell H1.out.1.blk 21 rfl
  have hc := H1.out.1.cr i HI.out
  have hci := HSV.out.cr i HI.out
  have RC := Lib.hid (nrecv_any b base _ _ _ _ _ s.now W1 c21 hc.dn hci.dn Cb)
  have hgm := Nt.got_mok hci.dn s.now
  obtain ⟨L, hL⟩ : ∃ L, L = Nt.rcv (Lnk.got (Nt.at_ s i).dn s.now) := ⟨_, rfl⟩
  have hLl : L.length ≤ 1000 := by rw [hL]; exact Nat.le_trans (Nt.rcv_le _) hgm.2
  have HLB := Lib.hid (show ∀ f ∈ L, By f.d ∧ f.d.length ≤ 64 from by rw [hL]; exact Nt.rcv_ok hgm.1)
  obtain ⟨s1, hs1⟩ : ∃ s1, s1 = Nt.put s i { Nt.at_ s i with dn := Lnk.recv (Nt.at_ s i).dn s.now } := ⟨_, rfl⟩
  have HS1 := Lib.hid (show Nt.Inv N s1 from by rw [hs1]; exact HSV.out.put HI.out hci.recvDn)
  have E := Lib.hid (show Nt.fly s i = Nt.note i (Nt.flyT i (L.foldl (Nt.fly1 i) s1)) from by rw [hL, hs1]; rfl)
  have SL := Lib.hid (show s1.cr.length = s.cr.length ∧ s1.now = s.now ∧ s1.r = s.r from by rw [hs1]; exact ⟨Nt.put_len _ _ _, rfl, rfl⟩)
  have TO := Lib.hid (show ∀ w1 : World, LkTo base (m.cs.getD i cm0).db (m.cs.getD i cm0).dA (Nt.lru s.r.dn i) (Lnk.recv (Nt.at_ s i).dn s.now) W1 w1 → NTo base b m k s1 W1 w1 from fun w1 g => by rw [hs1]; exact H1.out.1.toDn HI.out g)
  unfold RcPost at RC
  rw [← hL] at RC
  obtain ⟨cm, hcm⟩ : ∃ cm, cm = m.cs.getD i cm0 := ⟨_, rfl⟩
  rw [← hcm] at RC TO d2
  clear hc hci hgm hs1 hL hcm hW1 b1 LO c25 c21 ic ip
  go_wp2_with fail
  refine RC.out.mono ?_
  rintro _ w1 ⟨v, rfl, hR, hlk⟩
  obtain ⟨m1, h1⟩ := H1.out.to (TO.out _ hlk)
  have hz2 := h1.2.1.size
  obtain ⟨n, hn⟩ : ∃ n, n = L.length := ⟨_, rfl⟩
  have hH := Lib.hid (show HS base b k m w W1.heap.size v L s1 w1 m1 from ⟨h1.1, h1.2.1, h1.2.2.1, hR⟩)
  obtain ⟨A, cap, rfl⟩ := hR.form
  rw [← hn] at hH hLl ⊢
  have HNL := Lib.hid hn
  clear hlk hR h1 hn d2 RC TO H1
  go_wp2_with fail
  go_loopw [30] (fun s30 wr => ∃ (j : Nat) (m2 : NM), s30 = .int .i64 j ∧ j ≤ n ∧ w.heap.size ≤ wr.heap.size ∧ Hid (HS base b k m w W1.heap.size (.slice A n cap) L ((L.take j).foldl (Nt.fly1 i) s1) wr m2)) (fun s30 _ => n - (intOf s30).toNat)
  case atStart => exact ⟨0, m1, by go_num, by omega, hz2, hH⟩
  case round =>
    obtain ⟨j, m2, rfl, hj, hzr, HR⟩ := hrel
    by_cases hlt : j < n
    · have hji : (j : Int) < (n : Int) := by omega
      have hjl : j < L.length := by rw [← HNL.out]; exact hlt
      obtain ⟨t, ht⟩ : ∃ t, t = (L.take j).foldl (Nt.fly1 i) s1 := ⟨_, rfl⟩
      have hlj : (L.take j).length = j := by rw [List.length_take]; omega
      obtain ⟨f, hf⟩ : ∃ f, f = L.getD j fr0 := ⟨_, rfl⟩
      have hfm : f ∈ L := by rw [hf, List.getD, List.getElem?_eq_getElem hjl]; exact List.getElem_mem _
      have hfb := HLB.out f hfm
      have hi1 : i < s1.cr.length := by rw [SL.out.1]; exact HI.out
      have hsv : Nt.Inv (N + j) t := by
        rw [ht, ← hlj]
        have := HS1.out.flyL (l := L.take j) hi1 (fun f hf => (HLB.out f (List.mem_of_mem_take hf)).1) Cb
        rw [hlj] at this ⊢
        exact this
      have hsm := Nt.flyL_same i (L.take j) s1
      rw [← ht] at hsm
      have hit : i < t.cr.length := by rw [hsm.1]; exact hi1
      have hlc : Nt.lcl t i = l := by rw [HLC.out]; exact Nt.lcl_eq (hsm.2.1.trans SL.out.2.1) (hsm.2.2.2.trans SL.out.2.2) i
      have SN := Lib.hid (show (L.take (j + 1)).foldl (Nt.fly1 i) s1 = Nt.sndL (Nt.put t i { Nt.at_ t i with p := Plt.rcvS (Nt.at_ t i).p l f }) (Plt.rcvF (Nt.at_ t i).p l f) from by
        rw [List.take_succ_eq_append_getElem hjl, List.foldl_append, ← ht, ← hlc, hf, List.getD, List.getElem?_eq_getElem hjl]
        rfl)
      have hok := Nt.fly1_ok hsv hit hfb.1 l
      have OK1 := Lib.hid hok.1
      have OK2 := Lib.hid hok.2.1
      have hol := hok.2.2
      rw [← ht] at HR
      obtain ⟨gf, of, D, dc, rfl, hgf, hgt, q0, q1, q2, q3, q4, how⟩ := HR.out.2.2.2.at_ hlt
      rw [← hf] at q0 q1 q2 q3 q4 how
      have hcl := HR.out.cells HCA.out hit
      obtain ⟨⟨_, hgb⟩, d0, _, _, _⟩ := hcl
      have hgl2 := lt_of_block hgb
      have HRV := Lib.hid (hs_recv HR.out hsv hit Cb l f how)
      obtain ⟨pb, hpb⟩ : ∃ pb, pb = (m2.cs.getD i cm0).pb := ⟨_, rfl⟩
      rw [← hpb] at d0 HRV
      clear hok hsv ht how hgt hfm hfb hf hlj hjl hpb hsm hlc hit hi1 hgb
      go_upto_region 4 with fail
      generalize hWa : World.alloc _ _ = Wa
      have bA : Below wr.heap.size wr Wa := by rw [← hWa]; exact (Below.refl _ wr).alloc (Nat.le_refl _) _
      have yF : Wa.heap[wr.heap.size]? = some (.cells #[.int .i64 f.k, .int .i64 f.f, .int .i64 f.t, .int .i64 f.s, .slice D f.d.length dc] 147 (0, 0)) := by rw [← hWa]; exact heap_new _ _
      have a0 := (bA.cell (p := ⟨g, o + i * 4, none⟩) hgl2).trans d0
      have u0 := blk_cell yF 0 rfl
      have u1 := blk_cell yF 1 rfl
      have u2 := blk_cell yF 2 rfl
      have u3 := blk_cell yF 3 rfl
      have u4 := blk_cell yF 4 rfl
      clear hWa d0 q0 q1 q2 q3 q4 yF
      go_region_with (first | (go_at_call 104; refine (HRV.out _ (by first | exact below_drewN bA _ | exact bA.drew | exact bA)).mono ?_; rintro e w5 ⟨v5, er, m5, rfl, hr5, h5⟩; have R5 := Lib.hid hr5; have H5 := Lib.hid h5; clear hr5 h5))
      all_goals
        have S5 := Lib.hid (nsend_any H5.out.1 OK1.out OK2.out R5.out (Nat.le_trans hbase H5.out.2.1.size) Cb Cb)
        go_wp2_with (refine S5.out.mono ?_; rintro e w6 ⟨rfl, hto⟩; obtain ⟨m6, h6⟩ := H5.out.to hto; have H6 := Lib.hid h6; have hz6 := h6.2.1.size; clear h6 hto)
        go_roundw
        case rel => exact ⟨j + 1, m6, by go_num, by omega, hz6, Lib.hid (by rw [SN.out]; exact H6.out)⟩
        case measure => simp [intOf]; omega
    · have hj' : j = n := by omega
      subst hj'
      have E2 := Lib.hid (show L.take j = L by rw [List.take_of_length_le Bc])
      rw [E2.out] at HR
      have ik : ¬ ((j : Int) < (j : Int)) := by omega
      obtain ⟨t, ht⟩ : ∃ t, t = L.foldl (Nt.fly1 i) s1 := ⟨_, rfl⟩
      have hi1 : i < s1.cr.length := by rw [SL.out.1]; exact HI.out
      have hsv : Nt.Inv (N + j) t := by
        have := HS1.out.flyL (l := L) hi1 (fun f hf => (HLB.out f hf).1) (by have := HNL.out; omega)
        rw [ht]
        rw [← HNL.out] at this
        exact this
      have hsm := Nt.flyL_same i L s1
      rw [← ht] at hsm
      have hit : i < t.cr.length := by rw [hsm.1]; exact hi1
      have hlc : Nt.lcl t i = l := by rw [HLC.out]; exact Nt.lcl_eq (hsm.2.1.trans SL.out.2.1) (hsm.2.2.2.trans SL.out.2.2) i
      have FT := Lib.hid (show Nt.fly s i = Nt.note i (Nt.sndL (Nt.put t i { Nt.at_ t i with p := Plt.tickS (Nt.at_ t i).p l }) (Plt.tickF (Nt.at_ t i).p l)) from by rw [E.out, ← ht, ← hlc]; rfl)
      have hok := Nt.flyT_ok hsv hit l
      obtain ⟨t1, ht1⟩ : ∃ t1, t1 = Nt.put t i { Nt.at_ t i with p := Plt.tickS (Nt.at_ t i).p l } := ⟨_, rfl⟩
      rw [← ht] at HR
      have HRV := Lib.hid (hs_tick HR.out hsv hit Cb l)
      rw [← ht1] at hok FT HRV
      have OK1 := Lib.hid hok.1
      have OK2 := Lib.hid hok.2.1
      have hol := hok.2.2
      have hcl := HR.out.cells HCA.out hit
      obtain ⟨⟨_, hgb⟩, d0, _, _, _⟩ := hcl
      have hgl2 := lt_of_block hgb
      obtain ⟨pb, hpb⟩ : ∃ pb, pb = (m2.cs.getD i cm0).pb := ⟨_, rfl⟩
      rw [← hpb] at d0 HRV
      have hit1 : i < t1.cr.length := by rw [ht1, Nt.put_len]; exact hit
      obtain ⟨fr, hfr⟩ : ∃ fr, fr = Plt.tickF (Nt.at_ t i).p l := ⟨_, rfl⟩
      rw [← hfr] at HRV OK2 FT hol
      obtain ⟨t2, ht2⟩ : ∃ t2, t2 = Nt.sndL t1 fr := ⟨_, rfl⟩
      have hiv2 : Nt.Inv (N + j + 1 + fr.length) t2 := by rw [ht2]; exact OK1.out.sndL OK2.out Cb
      have hit2 : i < t2.cr.length := by rw [ht2, Nt.sndL_len]; exact hit1
      have hev : t2.ev.length + 1 ≤ 1000000000000 := by have := hiv2.ev; omega
      rw [← ht2] at FT
      clear hok hsv ht hpb hsm hlc hit hi1 hgb E HLB HLC HS1
      go_wp2_with fail
      refine (HRV.out wr (Below.refl _ _)).mono ?_
      rintro e w3 ⟨v3, er, m3, rfl, hr3, h3⟩
      have SD := Lib.hid (nsend_any h3.1 OK1.out OK2.out hr3 (Nat.le_trans hbase h3.2.1.size) Cb Cb)
      have H3 := Lib.hid h3
      clear hr3 h3 d0 HRV
      go_wp2_with fail
      refine SD.out.mono ?_
      rintro e w4 ⟨rfl, hto⟩
      rw [← ht2] at hto
      obtain ⟨m4, h4⟩ := H3.out.to hto
      have H4 := Lib.hid h4
      have hz4 := h4.2.1.size
      have hcl := h4.cells HCA.out hit2
      obtain ⟨hTg, d0, d2, d3, hfz⟩ := hcl
      have PS := Lib.hid (pstate_any (h4.1.cr i hit2).p (hiv2.cr i hit2).p)
      obtain ⟨pb4, hpb4⟩ : ∃ pb, pb = (m4.cs.getD i cm0).pb := ⟨_, rfl⟩
      rw [← hpb4] at d0 PS
      obtain ⟨x, hx⟩ : ∃ x, x = (Nt.at_ t2 i).p.st := ⟨_, rfl⟩
      obtain ⟨y, hy⟩ : ∃ y, y = (Nt.at_ t2 i).s := ⟨_, rfl⟩
      rw [← hx] at PS
      rw [← hy] at d3
      clear hto h4 hpb4 SD H3 OK1 OK2 d2 hol hit1 ht2 ht1 hfr
      by_cases hxy : x = y
      · have zE : (x != y) = false := by simp [hxy]
        have EN := Lib.hid (show Nt.fly s i = t2 from by rw [FT.out]; unfold Nt.note; rw [if_pos (by rw [← hx, ← hy]; exact hxy)])
        clear hx hy hxy
        go_wp2_with (refine PS.out.mono ?_; rintro e w5 ⟨rfl, rfl⟩)
        exact bodyPost_end (results_none rfl _ _ _) rfl ⟨rfl, m4, by rw [EN.out]; exact H4.out.1, H4.out.2.1, H4.out.2.2.1⟩
      · have zE : (x != y) = true := by simp [hxy]
        have EN := Lib.hid (show Nt.fly s i = Nt.noteS i x t2 from by rw [FT.out]; exact Nt.note_eq hx (by rw [← hy]; exact hxy))
        clear hx hy hxy
        go_wp2_with (refine PS.out.mono ?_; rintro e w5 ⟨rfl, rfl⟩)
        have hCA4 : m4.CA = some ⟨g, o, none⟩ := H4.out.2.2.1.CA.trans HCA.out
        have hgb : g ≠ b := hTg.ne ⟨_, H4.out.1.blk⟩ C8
        obtain ⟨s5, hs5⟩ : ∃ s5, s5 = Nt.noteS i x t2 := ⟨_, rfl⟩
        have hcr5 : s5.cr = t2.cr.set i { t2.cr.getD i Nt.c0 with s := x } := by rw [hs5]; rfl
        have hn5 : 0 < t2.cr.length := by omega
        have CR := Lib.hid (show Row (w4.setCell ⟨g, o + i * 4 + 3, none⟩ (.int .i64 x)) base 108 4 (some ⟨g, o, none⟩) s5.cr.length m4.cc (ccls m4.cs s5.cr) from by
          have h0 := H4.out.1.crow
          rw [hCA4] at h0
          have := h0.setN hn5 (q := i * 4 + 3) (p := o + i * 4 + 3) Cb Cb (.int .i64 x)
          rw [hcr5, List.length_set, ccls_s _ _ _ _ H4.out.1.len hit2]
          exact this)
        have ER := Lib.hid (H4.out.1.erow.far (p := ⟨g, o + i * 4 + 3, none⟩) (fun q hq => ((H4.out.1.erow.ty hq).ne hTg C8 : q ≠ g)) (.int .i64 x))
        have KW := Lib.hid ((Keeps.refl (fun q => q = b ∨ blkOf m4.EA = some q ∨ blkOf m4.CA = some q) w4).setCell (p := ⟨g, o + i * 4 + 3, none⟩) (.inl (.inr (.inr (by rw [hCA4]; rfl)))) (.int .i64 x))
        have hB1 := blk_keep H4.out.1.blk ((Keeps.refl (fun q => q = g) w4).setCell (p := ⟨g, o + i * 4 + 3, none⟩) (.inl rfl) (.int .i64 x)) (fun e => hgb e.symm)
        have hzw : (w4.setCell ⟨g, o + i * 4 + 3, none⟩ (.int .i64 x)).heap.size = w4.heap.size := by simp
        have HGE := Lib.hid (show ∀ q, blkOf m4.EA = some q → q ≠ g from fun q hq => (H4.out.1.erow.ty hq).ne hTg C8)
        have HEB := Lib.hid (show ∀ q, blkOf m4.EA = some q → q ≠ b from fun q hq => (H4.out.1.erow.ty hq).ne ⟨_, H4.out.1.blk⟩ C8)
        have HS5 := Lib.hid hs5
        have HCA4 := Lib.hid hCA4
        have HGB := Lib.hid hgb
        have hbl4 := lt_of_block H4.out.1.blk
        have HIT := Lib.hid hit2
        clear hTg hfz d0 d3 PS hs5 hCA4 hgb hcr5 hiv2 hit2 hn5 zE hj hn64 hgl hgl2 hLl ik hz1 hz2
        generalize w4.setCell ⟨g, o + i * 4 + 3, none⟩ (.int .i64 x) = W5 at *
        have c27 : W5.cell? ⟨b, 27, none⟩ = some (.slice m4.EA t2.ev.length m4.ec) := blk_cell hB1 27 rfl
        have c21 : W5.cell? ⟨b, 21, none⟩ = some (.int .i64 t2.now) := blk_cell hB1 21 rfl
        have f27 := blk_free hB1 27
        have hbl1 : b < W5.heap.size := by omega
        have hbs1 : base ≤ W5.heap.size := by omega
        have HZW := Lib.hid hzw
        have HB1 := Lib.hid hB1
        obtain ⟨q, hq⟩ : ∃ q, q = t2.ev.length := ⟨_, rfl⟩
        rw [← hq] at c27 ER hev
        have HQ := Lib.hid hq
        clear hB1 hzw hq hbl4 hz4
        go_region_law (first | (refine step_append_row rfl (.tmp 79) (.tmp 88) 45 rfl base 58 i0 _ 3 24 Tryz.underlying45 hi0' hza hzb hzc rfl m4.EA q m4.ec (evcs t2.ev) rfl Ar ⟨W5.heap.size, 0, none⟩ 1 1 [.int .i64 t2.now, .int .i64 ((i : Int) + 1), .int .i64 x] rfl rfl (fun j u hu => by rw [addr_add, Nat.zero_add]; exact blk_cell (l := [_, _, _]) Aw j hu) Bt Cb Bn Cb (by simp; try omega) ?_; intro EA2 ec2 w6 hrow hg hat; have K6 := Lib.hid (show Keeps (fun i => blkOf m4.EA = some i) W5 w6 from Keeps.trans (S' := fun i => blkOf m4.EA = some i) Ak (Keeps.of_grown hg (fun g e => e)) (fun _ _ h => h)); have kp := Lib.hid (blk_keep HB1.out K6.out (fun e => HEB.out b e rfl)); have f6 := blk_free kp.out 27; have c6 := (show w6.cell? ⟨b, 27, none⟩ = some (.slice m4.EA t2.ev.length m4.ec) from blk_cell kp.out 27 rfl); have AT := Lib.hid (show blkOf EA2 = blkOf m4.EA ∨ ∃ g, blkOf EA2 = some g ∧ W5.heap.size ≤ g from hat.imp id (fun e => ⟨_, e, by simp⟩)); have RO := Lib.hid hrow; clear hrow hg hat))
        all_goals
          have HSb := blk_set kp.out 27 (.slice EA2 (q + 1) ec2)
          refine bodyPost_end (results_none rfl _ _ _) rfl ⟨rfl, ?_⟩
          rw [EN.out]
          refine NTo.trans H4.out.2.1 H4.out.2.2.1 (H4.out.1.toNote (s' := Nt.noteS i x t2) (EA' := EA2) (ec' := ec2) rfl rfl rfl List.length_set (fun j _ => Nt.noteS_at HIT.out j) ((KW.out.trans K6.out (fun i _ hi => .inr (.inl hi))).setCell (p := ⟨b, 27, none⟩) (.inl (.inl rfl)) _) ?_ ?_ ?_ (AT.out.imp id (fun ⟨g, e, hg⟩ => ⟨g, e, by have := HZW.out; omega⟩)))
          · rw [List.setIfInBounds_toArray] at HSb
            rw [HSb, HQ.out]
            simp [ncl, Nt.noteS]
          · rw [HCA4.out, ← HS5.out]
            exact (CR.out.kept K6.out (fun g' hg' hE => HGE.out g' hE (by injection hg' with hg'; exact hg'.symm))).far (p := ⟨b, 27, none⟩) (fun g' hg' => by injection hg' with hg'; rw [← hg']; exact HGB.out) _
          · show Row _ base _ 3 EA2 (t2.ev ++ [(t2.now, (i : Int) + 1, x)]).length ec2 (evcs (t2.ev ++ [(t2.now, (i : Int) + 1, x)]))
            rw [evcs_snoc, List.length_append, List.length_singleton, ← HQ.out]
            exact RO.out.far (p := ⟨b, 27, none⟩) (fun g hg e => by
              rcases AT.out with h1 | ⟨q, h1, h2⟩
              · exact HEB.out g (h1 ▸ hg) e
              · rw [h1] at hg
                injection hg with hg
                have e : g = b := e
                omega) _
end
end Go.Proofs.YtdocdgcdldpagaaGreat

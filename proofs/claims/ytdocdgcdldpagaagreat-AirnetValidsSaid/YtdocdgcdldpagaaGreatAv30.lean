import Derived.Test.YtdocdgcdldpagaaGreatAp
import Derived.Test.YtdocdgcdldpagaaGreatAv29
namespace Go.Proofs.YtdocdgcdldpagaaGreat
open Go.RowKit
set_option maxHeartbeats 4000000
set_option maxRecDepth 100000
set_option linter.unusedSimpArgs false
set_option linter.unusedVariables false
attribute [local go_sem ↓] Go.wp_at_zero Go.wp_at_succ
theorem got_len {l : Lnk.St} (h : Lnk.Inv l) (now : Int) : (Lnk.got l now).length ≤ 1000 := by
  unfold Lnk.got
  split
  · rw [Lnk.length_srt]
    exact Nat.le_trans (List.length_filter_le _ _) h.2.2.1
  · simp
theorem got_ok {l : Lnk.St} (h : Lnk.Inv l) (now : Int) : ∀ m ∈ Lnk.got l now, Lnk.MOk m := by
  intro m hm
  unfold Lnk.got at hm
  split at hm
  · rw [Lnk.mem_srt] at hm
    exact h.2.2.2.1 m (List.mem_filter.1 hm).1
  · cases hm
theorem rcv_snoc (l : List Lnk.Msg) (j : Nat) (hj : j < l.length) : Nt.rcv (l.take (j + 1)) = Nt.rcv (l.take j) ++ (match Nt.dec (l[j]).2 with | some f => [f] | none => []) := by
  rw [List.take_succ_eq_append_getElem hj]
  unfold Nt.rcv
  rw [List.filterMap_append]
  cases h : Nt.dec (l[j]).2 <;> simp [h]
theorem rcv_len (l : List Lnk.Msg) : (Nt.rcv l).length ≤ l.length := List.length_filterMap_le _ _
theorem lrecv_all (base b c : Nat) (A : Option Addr) (r : Lnk.Ru) (l : Lnk.St) (now : Int) (w : World) (h : IsLk w base b A c r l) (hs : Lnk.Inv l) (hbase : base ≤ w.heap.size) :
    Calls Tryz.prog 131 #[.pointer (some ⟨b, 0, none⟩), .int .i64 now] w fun e w' => ∃ oA n oc er, e = .returned (.tuple #[.slice oA n oc, .int .i64 er]) ∧ Rb w' w.heap.size w'.heap.size oA n ((Lnk.got l now).map (·.2)) ∧ LkTo base b A r (Lnk.recv l now) w w' := by
  by_cases he : Lnk.recvE l now = 0
  · refine (recv_yes base b c A r l now w h hs hbase he).mono ?_
    rintro e w' ⟨oA, n, oc, h1, h2, h3⟩
    exact ⟨oA, n, oc, 0, h1, h2, h3⟩
  · refine (lkrecv_no base b c A r l now w h he).mono ?_
    rintro e w' ⟨h1, rfl⟩
    refine ⟨none, 0, 0, 3, h1, ?_, ?_⟩
    · have e : Lnk.got l now = [] := by unfold Lnk.got; rw [if_neg he]
      rw [e]
      exact Rb.nil _ _ _ _
    · have e : Lnk.recv l now = l := by unfold Lnk.recv; rw [if_neg he]
      rw [e]
      exact LkTo.same h (Keeps.refl _ _)
def RcPost (base b : Nat) (A : Option Addr) (r : Lnk.Ru) (l : Lnk.St) (now : Int) (w : World) (e : Ending) (w' : World) : Prop :=
  ∃ v, e = .returned v ∧ Rof w' w.heap.size v (Nt.rcv (Lnk.got l now)) ∧ LkTo base b A r (Lnk.recv l now) w w'
theorem nrecv_any (nb base b c : Nat) (A : Option Addr) (r : Lnk.Ru) (l : Lnk.St) (now : Int) (w : World) (c21 : w.cell? ⟨nb, 21, none⟩ = some (.int .i64 now)) (h : IsLk w base b A c r l) (hs : Lnk.Inv l) (hbase : base ≤ w.heap.size) :
    Calls Tryz.prog 102 #[.pointer (some ⟨nb, 0, none⟩), .pointer (some ⟨b, 0, none⟩)] w (RcPost base b A r l now w) := by
  obtain ⟨i0, hi0, hzA, hzB, hzC⟩ := info_parts info_fr
  have RC := Lib.hid (lrecv_all base b c A r l now w h hs hbase)
  obtain ⟨L, hL⟩ : ∃ L, L = Lnk.got l now := ⟨_, rfl⟩
  have hL1 : L.length ≤ 1000 := by rw [hL]; exact got_len hs now
  have HL2 := Lib.hid (show ∀ m ∈ L, Lnk.MOk m by rw [hL]; exact got_ok hs now)
  unfold RcPost
  rw [← hL] at RC ⊢
  clear h hs hL
  go_enter Tryz.func102, Tryz.ntmps102
  go_wp2_with fail
  refine RC.out.mono ?_
  rintro _ w1 ⟨oA, n, oc, er, rfl, hrb, hlk⟩
  have hnl : n = L.length := by have := hrb.len; simpa using this.symm
  have HRB := Lib.hid hrb
  have HLK := Lib.hid hlk
  have hn1 : n ≤ 1000 := by omega
  have HNL := Lib.hid hnl
  obtain ⟨_, _, _, hkl, _⟩ := hlk
  have hz1 := hkl.size
  clear RC hrb hnl hkl c21
  go_wp2_with fail
  go_loopw [5, 23] (fun s5 s23 wr => ∃ j : Nat, s23 = .int .i64 j ∧ j ≤ n ∧ Rof wr w1.heap.size s5 (Nt.rcv (L.take j)) ∧ Below w1.heap.size w1 wr) (fun _ s23 _ => n - (intOf s23).toNat)
  case atStart => exact ⟨0, by go_num, by omega, Rof.nil _ _, Below.refl _ _⟩
  case round =>
    obtain ⟨j, rfl, hj, hR, hB⟩ := hrel
    have hzr := hB.size
    by_cases hlt : j < n
    · have hji : (j : Int) < (n : Int) := by omega
      have hjl : j < L.length := by rw [← HNL.out]; exact hlt
      obtain ⟨g, o, A', c', rfl, hg, hcell, hrd, hca, hcm⟩ := ((HRB.out.below hB (Nat.le_refl _)).more hzr).at_ hlt
      obtain ⟨d, hd⟩ : ∃ d, d = (L[j]).2 := ⟨_, rfl⟩
      have hdd : (L.map (·.2)).getD j [] = d := by rw [hd, List.getD, List.getElem?_map, List.getElem?_eq_getElem hjl]; rfl
      rw [hdd] at hcell hrd hca
      have hmo := HL2.out L[j] (List.getElem_mem _)
      have hdl : d.length ≤ 128 := by rw [hd]; exact hmo.2.2.2
      have SN := Lib.hid (show Nt.rcv (L.take (j + 1)) = Nt.rcv (L.take j) ++ (match Nt.dec d with | some f => [f] | none => []) by rw [hd]; exact rcv_snoc L j hjl)
      obtain ⟨f, hf⟩ : ∃ f : Fr, f = ⟨Frm.uk d 2, Frm.uk d 3, Frm.uk d 4, Frm.us d, Frm.ud d⟩ := ⟨_, rfl⟩
      obtain ⟨ee, hee⟩ : ∃ ee, ee = Frm.dE d := ⟨_, rfl⟩
      have DU := Lib.hid (show ∀ W : World, Below wr.heap.size wr W → Calls Tryz.prog 132 #[.slice A' d.length c'] W (fun e w' => ∃ A2 cap2, e = .returned (.tuple #[.agg #[.int .i64 f.k, .int .i64 f.f, .int .i64 f.t, .int .i64 f.s, .slice A2 f.d.length cap2], .int .i64 ee]) ∧ Ow w' W.heap.size A2 f.d.length cap2 f.d ∧ Below W.heap.size W w') from fun W hW => by
        rw [hf, hee]
        exact dec_uni A' d.length c' d W Cb hca (by have := hcm; unfold maxLen at this; omega) ((hrd.below hW (Nat.le_refl _)).more hW.size))
      have hdec : Nt.dec d = if ee = 0 then some f else none := by
        rw [hee, hf]
        unfold Nt.dec
        split
        · rename_i h0
          simp only [Frm.uk, Frm.us, Frm.ud, if_pos h0]
        · rfl
      obtain ⟨fs, hfs⟩ : ∃ fs, fs = Nt.rcv (L.take j) := ⟨_, rfl⟩
      have hfl : fs.length ≤ 1000 := by
        rw [hfs]
        refine Nat.le_trans (rcv_len _) ?_
        rw [List.length_take]
        omega
      rw [← hfs] at hR SN
      have HDEC := Lib.hid hdec
      clear hdd hrd hmo hd hjl hcm hf hee hdec hfs
      go_wp2_with fail
      refine (DU.out _ (Below.refl _ _)).mono ?_
      rintro _ w2 ⟨A2, cap2, rfl, how, hb2⟩
      have hz2 := hb2.size
      by_cases h0 : ee = 0
      · subst h0
        have hR2 := hR.below hb2 (Nat.le_refl _)
        obtain ⟨vs, hv1, hv2, hv3⟩ := hR2
        have HV3 := Lib.hid hv3
        have HV1 := Lib.hid hv1
        have HOW := Lib.hid how
        obtain ⟨A5, cap5, rfl⟩ := own_formS hv2
        have hvl := hv2.lt
        have E := Lib.hid (show Nt.rcv (L.take (j + 1)) = fs ++ [f] by rw [SN.out, HDEC.out, if_pos rfl])
        have HB2 := Lib.hid (hB.trans (hb2.mono hzr))
        have RN := Lib.hid (show Reads ((w2.alloc (.cells #[.int .i64 f.k, .int .i64 f.f, .int .i64 f.t, .int .i64 f.s, .slice A2 f.d.length cap2] 147)).alloc (.cells #[.int .i64 f.k, .int .i64 f.f, .int .i64 f.t, .int .i64 f.s, .slice A2 f.d.length cap2] 147)) (w2.heap.size + 1 + 1) 5 (some ⟨w2.heap.size + 1, 0, none⟩) 1 [.int .i64 f.k, .int .i64 f.f, .int .i64 f.t, .int .i64 f.s, .slice A2 f.d.length cap2] by
          have := Reads.newN (w2.alloc (.cells #[.int .i64 f.k, .int .i64 f.f, .int .i64 f.t, .int .i64 f.s, .slice A2 f.d.length cap2] 147)) #[.int .i64 f.k, .int .i64 f.f, .int .i64 f.t, .int .i64 f.s, .slice A2 f.d.length cap2] 147 1 5 rfl
          rw [World.size_alloc] at this
          exact this)
        clear hR hv1 hv3 how hb2 hB DU SN
        go_wp2_with (at_builtin; refine wpList_append_any _ rfl (.tmp 34) (.tmp 36) _ rfl w1.heap.size 147 i0 _ 5 56 Tryz.underlying113 hi0 hzA hzB hzC rfl Cb (.slice A5 fs.length cap5) fs.length _ rfl ((hv2.alloc _).alloc _) (w2.heap.size + 1 + 1) (some ⟨w2.heap.size + 1, 0, none⟩) 1 1 [.int .i64 f.k, .int .i64 f.f, .int .i64 f.t, .int .i64 f.s, .slice A2 f.d.length cap2] rfl RN.out Bt Bn Cb C6 ?_; intro v1 w3 hown1 hg1 hat1)
        go_roundw
        case rel =>
          refine ⟨j + 1, by go_num, by omega, ?_, ?_⟩
          · rw [E.out]
            have hy := (((HOW.out.more (base' := w1.heap.size) Cb).alloc (.cells #[.int .i64 f.k, .int .i64 f.f, .int .i64 f.t, .int .i64 f.s, .slice A2 f.d.length cap2] 147)).alloc (.cells #[.int .i64 f.k, .int .i64 f.f, .int .i64 f.t, .int .i64 f.s, .slice A2 f.d.length cap2] 147))
            exact Rof.append (y := ⟨f, A2, cap2⟩) HV1.out ((hv2.alloc _).alloc _) (fun y hy => ((HV3.out y hy).alloc _).alloc _) hy hg1 (by simpa [FV.cells] using hown1)
          · exact Below.grown (w := (w2.alloc (.cells #[.int .i64 f.k, .int .i64 f.f, .int .i64 f.t, .int .i64 f.s, .slice A2 f.d.length cap2] 147)).alloc (.cells #[.int .i64 f.k, .int .i64 f.f, .int .i64 f.t, .int .i64 f.s, .slice A2 f.d.length cap2] 147)) ((HB2.out.alloc Cb _).alloc C6 _) hg1 C6 (fun g hg => (hvl g hg).1)
        case measure => simp [intOf]; omega
      · have zE : (ee == 0) = false := by simp [h0]
        have E := Lib.hid (show Nt.rcv (L.take (j + 1)) = fs by rw [SN.out, HDEC.out, if_neg h0]; simp)
        have HB2 := Lib.hid (hB.trans (hb2.mono hzr))
        have hR2 := Lib.hid (hR.below hb2 (Nat.le_refl _))
        clear hR hB hb2 how DU SN h0
        go_wp2_with fail
        go_roundw
        case rel => exact ⟨j + 1, by go_num, by omega, by rw [E.out]; exact hR2.out.alloc _, HB2.out.alloc Cb _⟩
        case measure => simp [intOf]; omega
    · have hj' : j = n := by omega
      subst hj'
      have E := Lib.hid (show L.take j = L by rw [List.take_of_length_le Bc])
      rw [E.out] at hR
      have ik : ¬ ((j : Int) < (j : Int)) := by omega
      go_wp2_with fail
      go_ret
      obtain ⟨A2, c2, g1, g2, g3⟩ := HLK.out
      exact ⟨_, rfl, hR.more hz1, A2, c2, g1.below hB (Nat.le_refl _), g2.trans (Keeps.of_below (S := fun _ => False) hB) (fun _ _ h => h.elim), g3⟩
end Go.Proofs.YtdocdgcdldpagaaGreat
namespace Go.Proofs.YtdocdgcdldpagaaGreat
open Go.RowKit
set_option maxHeartbeats 8000000
set_option maxRecDepth 100000
set_option linter.unusedSimpArgs false
set_option linter.unusedVariables false
attribute [local go_sem ↓] Go.wp_at_zero Go.wp_at_succ
attribute [local go_sem high] run_mn run_mx
section
variable {w w' : World} {base b k N : Nat} {m : NM} {s : Nt.St}
theorem IsNet.cells (h : IsNet w base b m k s) {i : Nat} (hi : i < s.cr.length) : ∃ g o, m.CA = some ⟨g, o, none⟩ ∧ Ty w g 108 ∧
    w.cell? ⟨g, o + i * 4, none⟩ = some (.pointer (some ⟨(m.cs.getD i cm0).pb, 0, none⟩)) ∧ w.cell? ⟨g, o + i * 4 + 1, none⟩ = some (.pointer (some ⟨(m.cs.getD i cm0).ub, 0, none⟩)) ∧ w.cell? ⟨g, o + i * 4 + 2, none⟩ = some (.pointer (some ⟨(m.cs.getD i cm0).db, 0, none⟩)) ∧ w.cell? ⟨g, o + i * 4 + 3, none⟩ = some (.int .i64 (Nt.at_ s i).s) ∧ ∀ j, w.frozen? ⟨g, j, none⟩ = false := by
  obtain ⟨g, o, cur, h1, _, _, h4, _, _, _, _, hc, hf⟩ := h.crow.some_ Cb
  have ha : ∀ j, j < 4 → (ccls m.cs s.cr)[i * 4 + j]? = (ccl (m.cs.getD i cm0) (Nt.at_ s i))[j]? := fun j hj => ccls_at _ _ _ _ h.len hi hj
  exact ⟨g, o, h1, ⟨_, h4⟩, hc (i * 4 + 0) _ (ha 0 Cb), hc (i * 4 + 1) _ (ha 1 Cb), hc (i * 4 + 2) _ (ha 2 Cb), hc (i * 4 + 3) _ (ha 3 Cb), hf⟩
theorem rof_net (h : IsNet w base b m k s) (kk : Keeps (NF b m) w w') {fb : Nat} {v : Value} {l : List Fr} (hR : Rof w fb v l) : Rof w' fb v l :=
  hR.kept kk (fun q hq => ⟨fun t => h.away t Bw hq, fun t => h.away t Bw hq⟩)
theorem Eb {p : Prop} (h : p := by
  go_wp2_with fail
  obtain ⟨m5, g1, g2, g3⟩ := N5.out
  have G1 := Lib.hid g1
  have G2 := Lib.hid g2
  have G3 := Lib.hid g3
  clear g1 g2 g3
  go_roundw
  case rel => exact ⟨j + 1, m5, by go_num, by omega, Lib.hid (by rw [SN.out, HE.out]; exact G1.out), G2, G3⟩
  case measure => simp [intOf]; omega
 ) : p := h
theorem nsend_any (h : IsNet w base b m k s) (hs : Nt.Inv N s) {fb : Nat} {v : Value} {l : List Fr} (hl : ∀ f ∈ l, Nt.FOk s.cr.length f) (hR : Rof w fb v l) (hbase : base ≤ w.heap.size) (hN : N + l.length ≤ 1000000000000000) (hln : l.length ≤ 1000000) :
    Calls Tryz.prog 58 #[.pointer (some ⟨b, 0, none⟩), v] w fun e w' => e = .returned (.tuple #[]) ∧ NTo base b m k (Nt.sndL s l) w w' := by
  obtain ⟨A, cap, rfl⟩ := hR.form
  obtain ⟨n, hn⟩ : ∃ n, n = l.length := ⟨_, rfl⟩
  have HH := Lib.hid h
  have HR := Lib.hid hR
  have HS := Lib.hid hs
  have HL := Lib.hid hl
  have HNL := Lib.hid hn
  rw [← hn] at hN hln ⊢
  clear h hR hs hl hn
  go_enter Tryz.func58, Tryz.ntmps58
  go_wp2_with fail
  go_loopw [10] (fun s10 wr => ∃ (j : Nat) (m1 : NM), s10 = .int .i64 j ∧ j ≤ n ∧ Hid (IsNet wr base b m1 k (Nt.sndL s (l.take j))) ∧ Hid (Keeps (NF b m) w wr) ∧ Hid (NG b m m1 w.heap.size)) (fun s10 _ => n - (intOf s10).toNat)
  case atStart => exact ⟨0, m, by go_num, by omega, HH, Lib.hid (Keeps.refl _ _), Lib.hid NG.refl⟩
  case round =>
    obtain ⟨j, m1, rfl, hj, HI, HK, HF⟩ := hrel
    have hzr := HK.out.size
    by_cases hlt : j < n
    · have hji : (j : Int) < (n : Int) := by omega
      have hjl : j < l.length := by rw [← HNL.out]; exact hlt
      obtain ⟨t, ht⟩ : ∃ t, t = Nt.sndL s (l.take j) := ⟨_, rfl⟩
      have SV := Lib.hid (show Nt.Inv (N + (l.take j).length) t from by rw [ht]; exact HS.out.sndL (fun f hf => HL.out f (List.mem_of_mem_take hf)) (by rw [List.length_take]; omega))
      have TL := Lib.hid (show t.cr.length = s.cr.length from by rw [ht]; exact Nt.sndL_len _ _)
      have SN := Lib.hid (show Nt.sndL s (l.take (j + 1)) = Nt.snd t (l.getD j fr0) by
        rw [ht, List.take_succ_eq_append_getElem hjl, Nt.sndL, Nt.sndL, List.foldl_append]
        simp [List.getD, List.getElem?_eq_getElem hjl])
      have FO := Lib.hid (show Nt.FOk t.cr.length (l.getD j fr0) from by rw [TL.out]; refine HL.out _ ?_; rw [List.getD, List.getElem?_eq_getElem hjl]; exact List.getElem_mem _)
      rw [← ht] at HI
      obtain ⟨hrf1, hrf2⟩ := (rof_net HH.out HK.out HR.out).rf
      rw [← HNL.out] at hrf2
      obtain ⟨g, o, rfl, hg, hfr⟩ := hrf2 Cb
      obtain ⟨D, dc, q0, q1, q2, q3, q4, hrd, hD0, hdc, hdm⟩ := hfr j hlt
      obtain ⟨f, hf⟩ : ∃ f, f = l.getD j fr0 := ⟨_, rfl⟩
      rw [← hf] at q0 q1 q2 q3 q4 hrd hD0 hdc SN FO
      have hidx := Nt.idx_lt FO.out
      obtain ⟨i, hi⟩ : ∃ i : Nat, Nt.idx f = i + 1 := ⟨Nt.idx f - 1, by omega⟩
      have hmx : max f.f f.t = (i : Int) + 1 := by omega
      have hin : i < t.cr.length := by omega
      have hn64 := SV.out.n.2
      obtain ⟨gc, oc, hCA, hTc, d0, d1, d2, d3, _⟩ := HI.out.cells hin
      have hCr := HI.out.cr i hin
      obtain ⟨cm, hcm⟩ : ∃ cm, cm = m1.cs.getD i cm0 := ⟨_, rfl⟩
      have c25 : wr.cell? ⟨b, 25, none⟩ = some (.slice m1.CA t.cr.length m1.cc) := blk_cell HI.out.blk 25 rfl
      have c26 : wr.cell? ⟨b, 26, none⟩ = some (.map (some m1.mb)) := blk_cell HI.out.blk 26 rfl
      have c21 : wr.cell? ⟨b, 21, none⟩ = some (.int .i64 t.now) := blk_cell HI.out.blk 21 rfl
      rw [hCA] at c25
      have HCm := Lib.hid hcm
      have hC : IsCr wr base cm (Nt.lru t.r.up i) (Nt.lru t.r.dn i) (Nt.at_ t i) := by rw [hcm]; exact hCr
      have HC := Lib.hid hC
      rw [← hcm] at d0 d1 d2
      obtain ⟨k', hk1, hk2⟩ := HI.out.cut
      have LO := Lib.hid (show ∀ W : World, Below wr.heap.size wr W → (Instr.lookup TM (.map (some m1.mb)) (.int .i64 ((i : Int) + 1)) false).run Tryz.prog W = .ok (.bool (t.cut.getD (i + 1) false)) W from fun W hW =>
        (hk2.kept (Keeps.of_below (S := fun _ => False) hW) (fun h => h)).look (i + 1) Cb)
      obtain ⟨cb, hcb⟩ : ∃ cb, cb = t.cut.getD (i + 1) false := ⟨_, rfl⟩
      rw [← hcb] at LO
      have HCB := Lib.hid hcb
      have HMX := Lib.hid hmx
      have HI2 := Lib.hid hi
      have HO := Lib.hid (show ∀ W : World, Below wr.heap.size wr W → Rd W W.heap.size D f.d.length f.d from fun W hW => ((hrd.below hW (Nat.le_refl _)).more hW.size))
      have hdl := FO.out.2.2
      have hfd : f.d.length ≤ 64 := hdl
      have ic : (i : Int) < (t.cr.length : Int) := by omega
      have i0 : (0 : Int) ≤ (i : Int) := by omega
      have wi : IntKind.i64.wrap ((i : Int) + 1 - 1) = (i : Int) := by rw [IntWalk.i64_in _ Cb]; omega
      have wi2 : IntKind.i64.wrap (i : Int) = (i : Int) := IntWalk.i64_in _ Cb
      have hin2 := Lib.hid hin
      have hbw := HI.out.lt (.inl rfl)
      have hgl : gc < wr.heap.size := by obtain ⟨_, hh⟩ := hTc; exact lt_of_block hh
      have SN2 := Lib.hid (show Nt.snd t f = if cb = true then t else Nt.snd1 t i f from by
        unfold Nt.snd
        rw [HI2.out, HCB.out]
        rfl)
      clear hcm hC hCr hk2 hcb hmx hi hrd hdl hf hidx hrf1 hrf2 hfr hin hTc hjl ht hD0
      go_upto_region 4 with fail
      rw [HMX.out]
      generalize hWa : World.alloc _ _ = Wa
      have bA : Below wr.heap.size wr Wa := by rw [← hWa]; exact (Below.refl _ wr).alloc (Nat.le_refl _) _
      have yF : Wa.heap[wr.heap.size]? = some (.cells #[.int .i64 f.k, .int .i64 f.f, .int .i64 f.t, .int .i64 f.s, .slice D f.d.length dc] 147 (0, 0)) := by rw [← hWa]; exact heap_new _ _
      have hza : wr.heap.size < Wa.heap.size := lt_of_block yF
      have LO2 := LO.out Wa bA
      have a25 := (bA.cell (p := ⟨b, 25, none⟩) hbw.2).trans c25
      have a26 := (bA.cell (p := ⟨b, 26, none⟩) hbw.2).trans c26
      have a21 := (bA.cell (p := ⟨b, 21, none⟩) hbw.2).trans c21
      have p0 := (bA.cell (p := ⟨gc, oc + i * 4, none⟩) hgl).trans d0
      have p1 := (bA.cell (p := ⟨gc, oc + i * 4 + 1, none⟩) hgl).trans d1
      have p2 := (bA.cell (p := ⟨gc, oc + i * 4 + 2, none⟩) hgl).trans d2
      have p3 := (bA.cell (p := ⟨gc, oc + i * 4 + 3, none⟩) hgl).trans d3
      cases cb
      · go_upto_region 6 with fail
        generalize hWb : World.alloc _ _ = Wb
        have bAB : Below Wa.heap.size Wa Wb := by rw [← hWb]; exact (Below.refl _ Wa).alloc (Nat.le_refl _) _
        have yC : Wb.heap[Wa.heap.size]? = some (.cells #[.pointer (some ⟨cm.pb, 0, none⟩), .pointer (some ⟨cm.ub, 0, none⟩), .pointer (some ⟨cm.db, 0, none⟩), .int .i64 (Nt.at_ t i).s] 108 (0, 0)) := by rw [← hWb]; exact heap_new _ _
        have bB : Below wr.heap.size wr Wb := bA.trans (bAB.mono bA.size)
        have yF2 := blk_below yF bAB hza
        have z21 := (bAB.cell (p := ⟨b, 21, none⟩) (by show b < _; omega)).trans a21
        have v0 := blk_cell yC 0 rfl
        have v1 := blk_cell yC 1 rfl
        have v2 := blk_cell yC 2 rfl
        have u0 := blk_cell yF2 0 rfl
        have u1 := blk_cell yF2 1 rfl
        have u2 := blk_cell yF2 2 rfl
        have u3 := blk_cell yF2 3 rfl
        have u4 := blk_cell yF2 4 rfl
        clear hWb hWa a25 a26 a21 c21 c25 c26 q0 q1 q2 q3 q4 d0 d1 d2 d3 p0 p1 p2 p3 LO LO2 yC yF yF2 bAB
        by_cases hff : f.f = 0
        · have zF : (f.f == 0) = true := by simp [hff]
          have HE := Lib.hid (show Nt.snd t f = Nt.put t i { Nt.at_ t i with dn := sfS (Nt.lru t.r.dn i) (Nt.at_ t i).dn t.now f.k f.f f.t f.s f.d } from by rw [SN2.out, if_neg C9, Nt.snd1, if_pos hff])
          clear hff
          have SD := Lib.hid (fun (W : World) (hW : Below wr.heap.size wr W) => sendf_any base cm.db cm.dc cm.dA (Nt.lru t.r.dn i) (Nt.at_ t i).dn t.now f.k f.f f.t f.s D f.d.length dc f.d W (HC.out.dn.below hW (Nat.le_refl _)) (Nt.lru_vld SV.out.dn.1 i) (SV.out.cr i hin2.out).dn (by have := (SV.out.cr i hin2.out).ds; rw [List.length_take] at this; omega) (by have := hW.size; omega) Cb (HO.out W hW))
          go_upto_region 7 with fail
          go_region_with (first | (go_at_call 101; refine (SD.out _ Ay).mono ?_; rintro e w5 ⟨rfl, hlk⟩; have N5 := Lib.hid (NTo.trans HK.out HF.out (NTo.trans (m := m1) (w := wr) (Keeps.of_below Ay) NG.refl ((HI.out.below Ay).toDn hin2.out (by rw [← HCm.out]; exact hlk)))); clear hlk))
          all_goals
            exact Eb
        · have zF : (f.f == 0) = false := by simp [hff]
          have HE := Lib.hid (show Nt.snd t f = Nt.put t i { Nt.at_ t i with up := sfS (Nt.lru t.r.up i) (Nt.at_ t i).up t.now f.k f.f f.t f.s f.d } from by rw [SN2.out, if_neg C9, Nt.snd1, if_neg hff])
          clear hff
          have SD := Lib.hid (fun (W : World) (hW : Below wr.heap.size wr W) => sendf_any base cm.ub cm.uc cm.uA (Nt.lru t.r.up i) (Nt.at_ t i).up t.now f.k f.f f.t f.s D f.d.length dc f.d W (HC.out.up.below hW (Nat.le_refl _)) (Nt.lru_vld SV.out.up.1 i) (SV.out.cr i hin2.out).up (by have := (SV.out.cr i hin2.out).us; rw [List.length_take] at this; omega) (by have := hW.size; omega) Cb (HO.out W hW))
          go_upto_region 8 with fail
          go_region_with (first | (go_at_call 101; refine (SD.out _ Ay).mono ?_; rintro e w5 ⟨rfl, hlk⟩; have N5 := Lib.hid (NTo.trans HK.out HF.out (NTo.trans (m := m1) (w := wr) (Keeps.of_below Ay) NG.refl ((HI.out.below Ay).toUp hin2.out (by rw [← HCm.out]; exact hlk)))); clear hlk))
          all_goals
            exact Eb
      · have HE := Lib.hid (show Nt.snd t f = t from by rw [SN2.out, if_pos rfl])
        have NN := Lib.hid (HI.out.below bA)
        have KK := Lib.hid (HK.out.trans (Keeps.of_below (S := fun _ => False) bA) (fun _ _ h => h.elim))
        clear hWa q0 q1 q2 q3 q4 d0 d1 d2 d3 p0 p1 p2 p3 c21 c25 c26
        go_wp2_with fail
        go_roundw
        case rel => exact ⟨j + 1, m1, by go_num, by omega, Lib.hid (by rw [SN.out, HE.out]; exact NN.out), KK, HF⟩
        case measure => simp [intOf]; omega
    · have hj' : j = n := by omega
      subst hj'
      have E := Lib.hid (show Nt.sndL s (l.take j) = Nt.sndL s l by rw [List.take_of_length_le Bc])
      have ik : ¬ ((j : Int) < (j : Int)) := by omega
      go_wp2_with fail
      exact bodyPost_end (results_none rfl _ _ _) rfl ⟨rfl, m1, by rw [← E.out]; exact HI.out, HK.out, HF.out⟩
end
end Go.Proofs.YtdocdgcdldpagaaGreat
namespace Go.Proofs.YtdocdgcdldpagaaGreat
open Go.RowKit
set_option maxHeartbeats 8000000
set_option maxRecDepth 100000
set_option linter.unusedSimpArgs false
set_option linter.unusedVariables false
attribute [local go_sem ↓] Go.wp_at_zero Go.wp_at_succ
theorem step_append_row {P : Program} {w : World} {ops : Array Oper} {o : Oper} {a : Act} {K : Act → World → Prop} {Q : Exit → Act → World → Prop} {E : Prop} (hgd : o.guard = none) (s x : Operand) (t : TypeId)
    (ho : o.op = .call { callee := .builtin .append, args := #[s, x], argTypes := #[t, t] })
    (base : Nat) (e : TypeId) (i : TypeInfo) (z : Value) (size bytes : Nat) (ht : P.underlying t = some (.slice e)) (hi : P.info? e = some i) (hz : i.zero = some z)
    (hsize : i.size = size) (hby : i.bytes = bytes) (hzs : z.cells.size = size) (A : Option Addr) (n c : Nat) (xs : List Value) (hs : a.eval s = .slice A n c) (hown : Row w base e size A n c xs)
    (ad : Addr) (m d : Nat) (news : List Value) (hx : a.eval x = .slice (some ad) m d) (hl : news.length = m * size) (hnews : ∀ j u, news[j]? = some u → w.cell? (ad.add j) = some u) (h1 : ∀ u ∈ news, u.oneCell' = true) (hm : 0 < m)
    (h63 : n + m ≤ maxLen) (hbytes : (n + m) * bytes ≤ 140737488355328) (hbase : base ≤ w.heap.size)
    (h : ∀ A' c' w', Row w' base e size A' (n + m) c' (xs ++ news) → w.grownBy w' (blkOf A) → (blkOf A' = blkOf A ∨ blkOf A' = some w.heap.size) → K (a.put o.dst (.slice A' (n + m) c')) w') :
    if Region.wanted o (yielded ops a.tmps) = true then Oper.wp P o a w K Q else E := by
  have hw : Region.wanted o (yielded ops a.tmps) = true := by simp [Region.wanted, hgd]
  rw [if_pos hw]
  exact wp_append_row s x t ho base e i z size bytes ht hi hz hsize hby hzs A n c xs hs hown ad m d news hx hl hnews h1 hm h63 hbytes hbase h
theorem info_ev : (Tryz.prog.info? 58).map (fun i => (i.zero, i.size, i.bytes)) = some (some (.agg #[.int .i64 0, .int .i64 0, .int .i64 0]), 3, 24) := by kernel_rfl
section
variable {w w' : World} {base b k N : Nat} {m : NM} {s s' : Nt.St}
theorem IsNet.toOwn (h : IsNet w base b m k s) {EA' : Option Addr} {ec' : Nat} (hst : s'.st = s.st) (hr : s'.r = s.r) (hcr : s'.cr = s.cr) (hcut : s'.cut = s.cut) (kk : Keeps (fun q => q = b ∨ blkOf m.EA = some q) w w')
    (hb : w'.heap[b]? = some (.cells (ncl { m with EA := EA', ec := ec' } s').toArray 86 (0, 0))) (he : Row w' base 58 3 EA' s'.ev.length ec' (evcs s'.ev)) (hE : blkOf EA' = blkOf m.EA ∨ ∃ g, blkOf EA' = some g ∧ w.heap.size ≤ g) : NTo base b m k s' w w' := by
  have hn : ∀ (q : Nat) (e : TypeId), Ty w q e → e ≠ 86 → e ≠ 58 → ¬ (q = b ∨ blkOf m.EA = some q) := fun q e g h1 h2 hq => by
    rcases hq with rfl | hq
    · exact g.ne ⟨_, h.blk⟩ h1 rfl
    · exact g.ne (h.erow.ty hq) h2 rfl
  refine ⟨{ m with EA := EA', ec := ec' }, ⟨hb, ?_, ?_, ?_, ?_, he, ?_, by rw [hcr]; exact h.len, by rw [hcr]; exact h.dis, ?_, h.ge, h.so⟩, kk.mono (fun q _ hq => hq.elim .inl (fun g => .inr (.inr (.inr (.inr (.inr (.inr (.inl g)))))))), ?_, rfl⟩
  · rw [hst]
    exact h.st.kept kk (fun q hq => by rcases h.st.three hq with t | t | t <;> exact hn _ _ t C8 C8)
  · rw [hr]; exact h.offs.kept kk (fun q hq => hn _ _ (h.offs.ty hq) C8 C8)
  · rw [hr]; exact h.rates.kept kk (fun q hq => hn _ _ (h.rates.ty hq) C8 C8)
  · rw [hcr]; exact h.crow.kept kk (fun q hq => hn _ _ (h.crow.ty hq) C8 C8)
  · rw [hcr, hr]
    intro i hi
    have e : Nt.at_ s' i = Nt.at_ s i := by unfold Nt.at_; rw [hcr]
    rw [e]
    exact (h.cr i hi).kept kk (fun q hq => by rcases (h.cr i hi).ty hq with t | t | t | t <;> exact hn _ _ t C8 C8)
  · rw [hcut]
    obtain ⟨k', h1, h2⟩ := h.cut
    exact ⟨k', h1, h2.kept kk (fun hq => by
      rcases hq with hq | hq
      · exact h2.notCells ⟨_, h.blk⟩ hq.symm
      · exact h2.notCells (h.erow.ty hq) rfl)⟩
  · rintro q (hq | hq | hq | hq | hq | hq | hq | hq)
    · exact .inl (.inl hq)
    · exact .inl (.inr (.inl hq))
    · exact .inl (.inr (.inr (.inl hq)))
    · exact .inl (.inr (.inr (.inr (.inl hq))))
    · exact .inl (.inr (.inr (.inr (.inr (.inl hq)))))
    · exact .inl (.inr (.inr (.inr (.inr (.inr (.inl hq))))))
    · have hq : blkOf EA' = some q := hq
      rcases hE with e | ⟨g, e, hg⟩
      · exact .inl (.inr (.inr (.inr (.inr (.inr (.inr (.inl (e ▸ hq))))))))
      · rw [e] at hq
        injection hq with hq
        exact .inr (hq ▸ hg)
    · exact .inl (.inr (.inr (.inr (.inr (.inr (.inr (.inr hq)))))))
theorem evcs_snoc (l : List (Int × Int × Int)) (e : Int × Int × Int) : evcs (l ++ [e]) = evcs l ++ evc e := by simp [evcs]
theorem nlook_any (h : IsNet w base b m k s) (hs : Nt.Inv N s) (hbase : base ≤ w.heap.size) (hN : N ≤ 1000000000000) : Calls Tryz.prog 61 #[.pointer (some ⟨b, 0, none⟩)] w fun e w' => e = .returned (.tuple #[]) ∧ NTo base b m k (Nt.look s) w w' := by
  obtain ⟨i0, hi0, hza, hzb, hzc⟩ := info_parts info_ev
  have ST := Lib.hid (state_any h.st hs.st)
  have c23 : w.cell? ⟨b, 23, none⟩ = some (.pointer (some ⟨m.sb, 0, none⟩)) := blk_cell h.blk 23 rfl
  have c24 : w.cell? ⟨b, 24, none⟩ = some (.int .i64 s.ss) := blk_cell h.blk 24 rfl
  have f24 := blk_free h.blk 24
  have HH := Lib.hid h
  have hev := hs.ev
  have hbl := lt_of_block h.blk
  clear hs
  obtain ⟨x, hx⟩ : ∃ x, x = s.st.st := ⟨_, rfl⟩
  rw [← hx] at ST
  have HX := Lib.hid hx
  by_cases he : x = s.ss
  · have zE : (x != s.ss) = false := by simp [he]
    have E := Lib.hid (show Nt.look s = s by unfold Nt.look; rw [if_pos (by rw [← hx]; exact he)])
    clear h he hx
    go_enter Tryz.func61, Tryz.ntmps61
    go_wp2_with (refine ST.out.mono ?_; rintro e w' ⟨rfl, rfl⟩)
    exact bodyPost_end (results_none rfl _ _ _) rfl ⟨rfl, by rw [E.out]; exact NTo.refl HH.out⟩
  · have zE : (x != s.ss) = true := by simp [he]
    have E := Lib.hid (show Nt.look s = { s with ss := s.st.st, ev := s.ev ++ [(s.now, 0, s.st.st)] } by unfold Nt.look; rw [if_neg (by rw [← hx]; exact he)])
    have hB := h.blk
    clear h he hx
    go_enter Tryz.func61, Tryz.ntmps61
    go_wp2_with (refine ST.out.mono ?_; rintro e w' ⟨rfl, rfl⟩)
    have HB1 := blk_set hB 24 (.int .i64 x)
    have ER := Lib.hid (HH.out.erow.far (p := ⟨b, 24, none⟩) (fun g hg => by
      have := (HH.out.erow.ty hg).ne ⟨_, HH.out.blk⟩ C8
      exact this) (.int .i64 x))
    have KW := Lib.hid ((Keeps.refl (fun q => q = b ∨ blkOf m.EA = some q) w).setCell (p := ⟨b, 24, none⟩) (.inl (.inl rfl)) (.int .i64 x))
    have hzw : (w.setCell ⟨b, 24, none⟩ (.int .i64 x)).heap.size = w.heap.size := by simp
    obtain ⟨s1, hs1⟩ : ∃ s1 : Nt.St, s1 = { s with ss := x } := ⟨_, rfl⟩
    have hB1 : (w.setCell ⟨b, 24, none⟩ (.int .i64 x)).heap[b]? = some (.cells (ncl m s1).toArray 86 (0, 0)) := by
      rw [List.setIfInBounds_toArray] at HB1
      rw [hs1]
      exact HB1
    have HS1 := Lib.hid hs1
    clear hB c23 c24 f24 HB1 hs1
    generalize w.setCell ⟨b, 24, none⟩ (.int .i64 x) = W1 at *
    have c27 : W1.cell? ⟨b, 27, none⟩ = some (.slice m.EA s.ev.length m.ec) := by
      have : W1.cell? ⟨b, 27, none⟩ = some (.slice m.EA s1.ev.length m.ec) := blk_cell hB1 27 rfl
      rw [this, HS1.out]
    have c21 : W1.cell? ⟨b, 21, none⟩ = some (.int .i64 s.now) := by
      have : W1.cell? ⟨b, 21, none⟩ = some (.int .i64 s1.now) := blk_cell hB1 21 rfl
      rw [this, HS1.out]
    have f27 := blk_free hB1 27
    have HEB := Lib.hid (show ∀ g, blkOf m.EA = some g → g ≠ b from fun g hg => (HH.out.erow.ty hg).ne ⟨_, HH.out.blk⟩ C8)
    have hbl1 : b < W1.heap.size := by omega
    have hbs1 : base ≤ W1.heap.size := by omega
    have HZW := Lib.hid hzw
    have HB1 := Lib.hid hB1
    clear hB1 hzw
    obtain ⟨n, hn⟩ : ∃ n, n = s.ev.length := ⟨_, rfl⟩
    rw [← hn] at c27 ER hev
    have HN := Lib.hid hn
    clear hn
    go_region_law (first | (refine step_append_row rfl (.tmp 22) (.tmp 29) 45 rfl base 58 i0 _ 3 24 Tryz.underlying45 hi0 hza hzb hzc rfl m.EA n m.ec (evcs s.ev) rfl Ar ⟨W1.heap.size, 0, none⟩ 1 1 [.int .i64 s.now, .int .i64 0, .int .i64 x] rfl rfl (fun j u hu => by rw [addr_add, Nat.zero_add]; exact blk_cell (l := [_, _, _]) Aw j hu) Bt Cb Bn Cb (by simp; try omega) ?_; intro EA2 ec2 w6 hrow hg hat; have K6 := Lib.hid (show Keeps (fun i => blkOf m.EA = some i) W1 w6 from Keeps.trans (S' := fun i => blkOf m.EA = some i) Ak (Keeps.of_grown hg (fun g e => e)) (fun _ _ h => h)); have kp := Lib.hid (blk_keep HB1.out K6.out (fun e => HEB.out b e rfl)); have f6 := blk_free kp.out 27; have c6 := (show w6.cell? ⟨b, 27, none⟩ = some (.slice m.EA s1.ev.length m.ec) from blk_cell kp.out 27 rfl); have AT := Lib.hid (show blkOf EA2 = blkOf m.EA ∨ ∃ g, blkOf EA2 = some g ∧ W1.heap.size ≤ g from hat.imp id (fun e => ⟨_, e, by simp⟩)); have RO := Lib.hid hrow; clear hrow hg hat))
    all_goals
      have HSb := blk_set kp.out 27 (.slice EA2 (n + 1) ec2)
      refine bodyPost_end (results_none rfl _ _ _) rfl ⟨rfl, ?_⟩
      rw [E.out, ← HX.out]
      refine HH.out.toOwn (EA' := EA2) (ec' := ec2) rfl rfl rfl rfl ((KW.out.trans K6.out (fun i _ hi => .inr hi)).setCell (p := ⟨b, 27, none⟩) (.inl (.inl rfl)) _) ?_ ?_ (AT.out.imp id (fun ⟨g, e, hg⟩ => ⟨g, e, by have := HZW.out; omega⟩))
      · rw [List.setIfInBounds_toArray] at HSb
        rw [HSb, HS1.out, HN.out]
        simp [ncl]
      · rw [evcs_snoc, List.length_append, List.length_singleton, ← HN.out]
        exact RO.out.far (p := ⟨b, 27, none⟩) (fun g hg e => by
          rcases AT.out with h1 | ⟨q, h1, h2⟩
          · exact HEB.out g (h1 ▸ hg) e
          · rw [h1] at hg
            injection hg with hg
            have e : g = b := e
            omega) _
end
end Go.Proofs.YtdocdgcdldpagaaGreat

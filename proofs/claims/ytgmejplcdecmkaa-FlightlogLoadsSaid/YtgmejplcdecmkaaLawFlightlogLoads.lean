/- The law of loading logs holds: 'skylanternlaw39.FlightlogLoads' returns true at every input. No conditions. -/
import Derived.Test.YtgmejplcdecmkaaLgOw
namespace Go.Proofs.Ytgmejplcdecmkaa.lawFlightlogLoads
open Go.ChangeShapes Go.WideShapes Go.ChangeAt Go.RowKit Go.Joins
set_option linter.unusedVariables false
set_option linter.unusedSimpArgs false
attribute [local go_sem ↓] Go.wp_at_zero Go.wp_at_succ
set_option maxHeartbeats 8000000
set_option maxRecDepth 100000
theorem ld_goodR : ∀ (l out : List Lg.Rc), Lg.Good out → Lg.Good (Lg.ld out l).1
  | [], out, h => h
  | r :: l, out, h => by
    rw [Lg.ld]
    split
    · simp only
      have := ld_goodR l (Lg.add out r) (Lg.good_add h r)
      split
      · exact this
      · exact this
    · exact h
/-- the bytes of records lie in blocks of S; they may be any -/
def Mb (S : Nat → Prop) (us : List Lg.RV) (W : World) : Prop := ∀ y ∈ us, 0 < y.x.f.d.length → ∃ b o, y.A = some ⟨b, o, none⟩ ∧ S b ∧ Ty W b 5 ∧ ∀ j, j < y.x.f.d.length → ∃ u : Int, W.cell? ⟨b, o + j, none⟩ = some (.int .u8 u) ∧ 0 ≤ u ∧ u < 256
theorem Mb.put {S : Nat → Prop} {us : List Lg.RV} {W : World} (h : Mb S us W) (b k : Nat) (u : Int) (hu : 0 ≤ u ∧ u < 256) : Mb S us (W.setCell ⟨b, k, none⟩ (.int .u8 u)) := by
  intro y hy hn
  obtain ⟨b', o, e, s, ⟨cs, hc⟩, f⟩ := h y hy hn
  by_cases hb : b' = b
  · subst hb
    have hc2 := blk_set hc k (.int .u8 u)
    refine ⟨b', o, e, s, ⟨_, hc2⟩, fun j hj => ?_⟩
    obtain ⟨u0, hu0, hr⟩ := f j hj
    have h0 : cs[o + j]? = some (.int .u8 u0) := by simpa [World.cell?, hc] using hu0
    have hlt : o + j < cs.size := by
      rcases Nat.lt_or_ge (o + j) cs.size with h | h
      · exact h
      · rw [Array.getElem?_eq_none h] at h0; cases h0
    by_cases hk : k = o + j
    · refine ⟨u, arr_cell hc2 ?_, hu⟩
      rw [Array.getElem?_setIfInBounds, if_pos hk, if_pos (by omega)]
    · refine ⟨u0, arr_cell hc2 ?_, hr⟩
      rw [Array.getElem?_setIfInBounds, if_neg hk]
      exact h0
  · refine ⟨b', o, e, s, ⟨cs, blk_far hc (by show b' ≠ b; exact hb) _⟩, fun j hj => ?_⟩
    obtain ⟨u0, hu0, hr⟩ := f j hj
    refine ⟨u0, ?_, hr⟩
    have h0 : cs[o + j]? = some (.int .u8 u0) := by simpa [World.cell?, hc] using hu0
    exact arr_cell (blk_far hc (by show b' ≠ b; exact hb) _) h0
theorem walk (a0 : Option Addr) (len0 cap0 : Nat) (l0 : List Lg.RV) (w : World) (w0 : Lg.Rr w w.heap.size a0 len0 l0) (r0 : Room a0 len0 cap0) (f0 : ∀ y ∈ l0, RcOk y.x) :
    Calls Try.prog 4 #[.slice a0 len0 cap0] w fun e w' => e = .returned (.bool true) ∧ Below w.heap.size w w' := by
  have H := Lib.hid w0
  have HLv := Lib.hid w0.len
  have hcap0 := room_len r0
  clear w0 r0 f0
  by_cases hn : 30 < len0
  · go_enter Try.func4, Try.ntmps4
    go_wp2_with fail
    refine (known_true _).mono ?_
    rintro _ w1 ⟨rfl, hb1⟩
    go_wp2_with fail
    go_ret
    exact ⟨rfl, hb1⟩
  · have hn30 : len0 ≤ 30 := by omega
    go_enter Try.func4, Try.ntmps4
    go_wp2_with fail
    go_loop [3] (fun s => ∃ i : Nat, s = .int .i64 i ∧ i ≤ len0 ∧ Hid (∀ k, k < i → (l0.getD k Lg.rv0).x.f.d.length ≤ 100)) (fun s => len0 - (intOf s).toNat)
    case atStart => exact ⟨0, by go_num, by omega, Lib.hid (fun k hk => absurd hk (by omega))⟩
    case round =>
      obtain ⟨i, rfl, hi, HA⟩ := hrel
      by_cases hlt : i < len0
      · have ik : (i : Int) < (len0 : Int) := by omega
        obtain ⟨b, o, rfl, hbl, hcl, hok⟩ := (H.out.at_ hlt)
        have c11 := hcl 11 _ rfl
        have hl1 := hok.2.1
        have hl2 := hok.2.2.1
        unfold maxLen at hl2
        obtain ⟨m, hm⟩ : ∃ m, m = (l0.getD i Lg.rv0).x.f.d.length := ⟨_, rfl⟩
        rw [← hm] at c11 hl1
        have HM := Lib.hid hm
        clear hcl hok hm
        by_cases h2 : 100 < m
        · go_wp2_with fail
          refine (known_true _).mono ?_
          rintro _ w1 ⟨rfl, hb1⟩
          go_wp2_with fail
          go_ret
          exact ⟨rfl, hb1⟩
        · have hm2 : m ≤ 100 := by omega
          go_wp2_with fail
          go_round
          case rel => exact ⟨i + 1, by go_num, by omega, Lib.hid (fun k hk => by
            rcases Nat.lt_or_ge k i with h | h
            · exact HA.out k h
            · obtain rfl : k = i := by omega
              rw [← HM.out]; exact hm2)⟩
          case measure => simp [intOf]; omega
      · obtain rfl : i = len0 := by omega
        have ik : ¬ ((i : Int) < (i : Int)) := by omega
        have hd : ∀ y ∈ l0, y.x.f.d.length ≤ 1000 := fun y hy => by
          obtain ⟨k, hk, rfl⟩ := List.getElem_of_mem hy
          have := HA.out k (by rw [← HLv.out]; exact hk)
          rw [List.getD, List.getElem?_eq_getElem hk] at this
          exact Nat.le_trans this (by omega)
        have HD := Lib.hid hd
        have OW := Lib.hid (rown_any a0 i cap0 l0 w H.out (by omega) hd)
        clear hd HA
        go_wp2_with fail
        refine OW.out.mono ?_
        rintro _ wa ⟨A', c', us, rfl, hrow, hxs, hdt, hba⟩
        have hul : us.length = i := by have := congrArg List.length hxs; rw [Lg.xs_len, Lg.xs_len, HLv.out] at this; exact this
        have hud : ∀ y ∈ us, y.x.f.d.length ≤ 1000 := fun y hy => by
          have hm : y.x ∈ Lg.xs l0 := by rw [← hxs]; exact List.mem_map_of_mem hy
          obtain ⟨z, hz, e⟩ := List.mem_map.1 hm
          rw [← e]; exact HD.out z hz
        have RRa := Lib.hid (show Lg.Rr wa wa.heap.size A' i us from ⟨Rds.of_row hrow, fun y hy => (hdt y hy).ok⟩)
        obtain ⟨Q, hQ⟩ : ∃ Q, Q = Lg.ld [] (Lg.xs l0) := ⟨_, rfl⟩
        have LD := Lib.hid (lload_any A' i c' us wa (by omega) RRa.out hud)
        have LR := Lib.hid (fun (W : World) (hW : Below w.heap.size w W) => rload_any a0 i cap0 l0 W (by omega) (H.out.up hW) HD.out)
        have HGQ := Lib.hid (show Lg.Good Q.1 by rw [hQ]; exact ld_goodR _ _ Lg.Good.nil)
        unfold LoadPost at LD
        unfold RLoadPost at LR
        rw [hxs, ← hQ] at LD
        rw [← hQ] at LR
        have HROW := Lib.hid hrow
        have HDT := Lib.hid hdt
        have HXS := Lib.hid hxs
        have HUL := Lib.hid hul
        have HBA := Lib.hid hba
        have SR := Lib.hid (show ∀ W : World, Below wa.heap.size wa W → Calls Try.prog 17 #[.slice A' i c', .slice a0 i cap0] W (fun e w' => e = .returned (.bool true) ∧ Below W.heap.size W w') from fun W hW => by
          have := rsameall_any A' a0 i i c' cap0 us l0 W (by omega) (by omega) (RRa.out.up hW) ((H.out.up hba).up hW)
          rw [HXS.out, Lg.sameRs_iff.2 rfl] at this
          exact this)
        clear hQ hrow hdt hxs hul hba OW RRa
        obtain ⟨Q1, Q2, Q3⟩ := Q
        simp only at LD LR HGQ
        go_wp2_with fail
        refine LD.out.mono ?_
        rintro _ wb ⟨hbb, hpb⟩
        have HBB := Lib.hid hbb
        have hab : Below w.heap.size w wb := HBA.out.trans (hbb.mono HBA.out.size)
        have LRb := Lib.hid (LR.out wb hab)
        clear LD LR hbb hab
        rcases hpb with ⟨hne, rfl⟩ | ⟨rfl, p, Ap, cp, vs, rfl, hlg, hvx⟩
        · have zq : (Q3 == 0) = false := by simp [hne]
          have zq2 : (Q3 != 0) = true := by simp [hne]
          have HNE := Lib.hid hne
          clear hne
          go_wp2_with fail
          refine LRb.out.mono ?_
          rintro _ wc ⟨hbc, hpc⟩
          rcases hpc with ⟨_, rfl⟩ | ⟨h0, _⟩
          · have hac : Below wa.heap.size wa wc := HBB.out.trans (hbc.mono HBB.out.size)
            clear LRb hbc
            go_wp2_with fail
            refine (SR.out wc hac).mono ?_
            rintro _ wd ⟨rfl, hbd⟩
            have had := hac.trans (hbd.mono hac.size)
            go_wp2_with fail
            refine (known_true _).mono ?_
            rintro _ we ⟨rfl, hbe⟩
            have hae := had.trans (hbe.mono had.size)
            have BZ := HBA.out.trans (hae.mono HBA.out.size)
            go_wp2_with fail
            go_ret
            exact ⟨rfl, BZ⟩
          · exact absurd h0 HNE.out
        · have HLG := Lib.hid hlg
          have HVX := Lib.hid hvx
          clear hlg hvx
          go_wp2_with fail
          refine LRb.out.mono ?_
          rintro _ wc ⟨hbc, hpc⟩
          rcases hpc with ⟨h0, _⟩ | ⟨_, A3, c3, us3, rfl, hj3, hx3⟩
          · exact absurd rfl h0
          have LJc : Lg.LJ wc wa.heap.size p Ap cp vs (fun i => wa.heap.size ≤ i) A3 us3 (fun i => wb.heap.size ≤ i) := ⟨HLG.out.below hbc, hj3, fun k hk hh => by have := (HLG.out.two_lt hh).2; omega, by rw [hx3, HVX.out], by rw [HVX.out]; exact HGQ.out⟩
          have hac : Below wa.heap.size wa wc := HBB.out.trans (hbc.mono HBB.out.size)
          have LJ := Lib.hid LJc
          clear LRb hbc hj3 hx3 LJc HLG HVX HGQ
          go_wp2_with fail
          refine (SR.out wc hac).mono ?_
          rintro _ wd ⟨rfl, hbd⟩
          have had := hac.trans (hbd.mono hac.size)
          have LJd := Lib.hid (LJ.out.below hbd)
          obtain ⟨S, hS⟩ : ∃ S : Nat → Prop, S = fun k => w.heap.size ≤ k ∧ k < wa.heap.size ∧ Ty wd k 5 := ⟨_, rfl⟩
          have HS := Lib.hid hS
          have M0 := Lib.hid (show Mb S us wd from fun y hy hn => by
            have hD := (HDT.out y hy).below had
            obtain ⟨b, o, e, hb, ht, hc⟩ := hD.2.2.2.2 hn
            obtain ⟨b2, o2, e2, _, ht2, _⟩ := (HDT.out y hy).2.2.2.2 hn
            rw [e] at e2
            injection e2 with e2; injection e2 with e2 e3
            refine ⟨b, o, e, by rw [hS]; exact ⟨hb, by rw [e2]; exact ht2.lt, ht⟩, ht, fun j hj => ⟨_, hc j hj, ?_⟩⟩
            rw [List.getD, List.getElem?_eq_getElem hj]
            exact hD.1 _ (List.getElem_mem hj))
          have ROWd := Lib.hid (HROW.out.kept (Keeps.of_below (S := fun _ => False) had) (fun _ _ h => h))
          have RK := Lib.hid (show ∀ W : World, Keeps S wd W → ∀ q, q < i → ∃ g o, A' = some ⟨g, o, none⟩ ∧ W.cell? ⟨g, o + q * 13 + 11, none⟩ = some (.slice (us.getD q Lg.rv0).A (us.getD q Lg.rv0).x.f.d.length (us.getD q Lg.rv0).cap) from fun W hk q hq => by
            have hR := ROWd.out.kept hk (fun g hg hs => by rw [hS] at hs; exact (ROWd.out.ty hg).ne hs.2.2 (by decide) rfl)
            obtain ⟨g, o, cur, e, _, _, _, _, _, _, _, hc, _⟩ := hR.some_ (by omega)
            refine ⟨g, o, e, ?_⟩
            have := hc (q * 13 + 11) (.slice (us.getD q Lg.rv0).A (us.getD q Lg.rv0).x.f.d.length (us.getD q Lg.rv0).cap) (by rw [Lg.cs_at us q 11 (by rw [HUL.out]; exact hq) (by omega)]; rfl)
            rw [← Nat.add_assoc] at this
            exact this)
          have UL := Lib.hid (fun (q : Nat) (hq : q < i) => (show (us.getD q Lg.rv0) ∈ us ∧ (us.getD q Lg.rv0).x.f.d.length ≤ 1000 from by
            have hm : us.getD q Lg.rv0 ∈ us := by rw [List.getD, List.getElem?_eq_getElem (by rw [HUL.out]; exact hq)]; exact List.getElem_mem _
            refine ⟨hm, ?_⟩
            have hm2 : (us.getD q Lg.rv0).x ∈ Lg.xs l0 := by rw [← HXS.out]; exact List.mem_map_of_mem hm
            obtain ⟨z, hz, e⟩ := List.mem_map.1 hm2
            rw [← e]; exact HD.out z hz))
          clear hS SR hbd hac LJ ROWd HROW HDT
          go_wp2_with fail
          go_loopw [11] (fun s11 wr => ∃ (q : Nat), s11 = .int .i64 q ∧ q ≤ i ∧ Hid (Mb S us wr) ∧ Keeps S wd wr) (fun s11 _ => i - (intOf s11).toNat)
          case atStart => exact ⟨0, by go_num, by omega, M0, Keeps.refl _ _⟩
          case round =>
            obtain ⟨q, rfl, hq, MB, hk⟩ := hrel
            by_cases hlq : q < i
            · have qk : (q : Int) < (i : Int) := by omega
              obtain ⟨hym, hyl⟩ := UL.out q hlq
              have RKq := Lib.hid (fun W hW => RK.out W hW q hlq)
              obtain ⟨y, hy⟩ : ∃ y, y = us.getD q Lg.rv0 := ⟨_, rfl⟩
              rw [← hy] at hym hyl RKq
              obtain ⟨m, hm⟩ : ∃ m, m = y.x.f.d.length := ⟨_, rfl⟩
              rw [← hm] at hyl RKq
              have HM := Lib.hid hm
              have HYM := Lib.hid hym
              clear hy hm hym
              obtain ⟨g, o, rfl, _⟩ := RKq.out wr hk
              go_wp2_with fail
              go_loopw [12] (fun s12 wr2 => ∃ (k : Nat), s12 = .int .i64 k ∧ k ≤ m ∧ Hid (Mb S us wr2) ∧ Keeps S wd wr2) (fun s12 _ => m - (intOf s12).toNat)
              case atStart => exact ⟨0, by go_num, by omega, MB, hk⟩
              case round =>
                clear MB hk
                obtain ⟨k, rfl, hkm, MB, hk⟩ := hrel
                obtain ⟨g', o', e', c11⟩ := RKq.out wr hk
                obtain ⟨rfl, rfl⟩ : g = g' ∧ o = o' := by injection e' with e'; injection e' with e1 e2; exact ⟨e1, e2⟩
                clear e'
                by_cases hlk : k < m
                · obtain ⟨b, o2, eA, hSb, ⟨cs, hcs⟩, hcell⟩ := MB.out y HYM.out (by rw [← HM.out]; omega)
                  obtain ⟨u, hu, hu0, hu1⟩ := hcell k (by rw [← HM.out]; exact hlk)
                  rw [eA] at c11
                  have fb := blk_free hcs (o2 + k)
                  have kk : (k : Int) < (m : Int) := by omega
                  have hrange : 0 ≤ IntKind.u8.wrap (u + 1) ∧ IntKind.u8.wrap (u + 1) < 256 := by rw [IntKind.wrap_u8]; omega
                  have HR := Lib.hid hrange
                  have HSb := Lib.hid hSb
                  clear hcell hrange eA hcs hSb
                  go_wp2_with fail
                  go_roundw
                  case rel => exact ⟨k + 1, by go_num, by omega, Lib.hid (MB.out.put b (o2 + k) _ HR.out), hk.setCell (p := ⟨b, o2 + k, none⟩) (.inl HSb.out) _⟩
                  case measure => simp [intOf]; omega
                · obtain rfl : k = m := by omega
                  have kk : ¬ ((k : Int) < (k : Int)) := by omega
                  have hyA : y.A = none ∨ ∃ a, y.A = some a := by cases y.A <;> simp
                  go_wp2_with fail
                  go_roundw
                  case rel => exact ⟨q + 1, by go_num, by omega, MB, hk⟩
                  case measure => simp [intOf]; omega
            · obtain rfl : q = i := by omega
              have qk : ¬ ((q : Int) < (q : Int)) := by omega
              have hSlt : ∀ k, S k → k < wa.heap.size := fun k hs => by rw [HS.out] at hs; exact hs.2.1
              have hSge : ∀ k, S k → w.heap.size ≤ k := fun k hs => by rw [HS.out] at hs; exact hs.1
              have LF := Lib.hid (show Lg.LJ wr wa.heap.size p Ap cp vs (fun i => wa.heap.size ≤ i) A3 us3 (fun i => wb.heap.size ≤ i) from ⟨LJd.out.lg.kept hk (fun k h1 h2 => by have := (LJd.out.lg.two_lt h1).1; have := hSlt k h2; omega) (fun k h1 _ h2 => by have := hSlt k h2; omega), LJd.out.j.keep hk (fun k h1 h2 => by have := hSlt k h2; have := HBB.out.size; omega), LJd.out.dis, LJd.out.eq, LJd.out.good⟩)
              have BF : Below w.heap.size w wr := (HBA.out.trans (had.mono HBA.out.size)).trans (hk.below (fun k _ hs => hSge k hs) (by have := had.size; have := HBA.out.size; omega))
              have SH := Lib.hid (shows_yes (c2 := c3) LF.out.lg LF.out.j.rr LF.out.eq (Lg.good_vs LF.out.good) (Lg.good_rd LF.out.good))
              clear hSlt hSge MB
              go_wp2_with fail
              refine SH.out.mono ?_
              rintro _ we ⟨rfl, hbe⟩
              have BG := BF.trans (hbe.mono BF.size)
              clear SH
              go_wp2_with fail
              refine (known_true _).mono ?_
              rintro _ wf ⟨rfl, hbf⟩
              have BH := BG.trans (hbf.mono BG.size)
              go_wp2_with fail
              go_ret
              exact ⟨rfl, BH⟩
theorem own : ownKnob Try.prog.godebug = none := by kernel_rfl
theorem laidOut : laidOutB Try.prog = true := by kernel_rfl
set_option maxRecDepth 100000 in
theorem lifted (os : Os) (started : os.Started) (H : Type) (enc : TypeId × Value → H) :
    ReturnsInHanded {} Try.checked os 4 .any (Rows.flightlogLoadsSpec.pre6 enc Try.prog Try.f4 Rows.flightlogLoadsRow.domain false) (Rows.flightlogLoadsSpec.post enc Try.prog Try.f4 false true false false) := by
  refine returnsInHanded_of_change (C := Try.checked) own started (by kernel_rfl) Try.func4
    (ChangeSpec.witness6 (enc := enc) (C := Try.checked) false ⟨#[], #[.slice none 0 0], []⟩ 8 (by kernel_rfl) (by kernel_rfl) (by kernel_rfl) (by kernel_rfl)) ?_
  intro W base args ds gs before hval0 hW hcnd _
  have hval : ∀ (j : Nat) t v, Try.f4.params[j]? = some t → args[j]? = some v → Value.okWide Try.prog W .any base t v := hval0
  have hW' := hW
  obtain ⟨p, q, hA0, hV, rfl, hfz, hnd⟩ := hW
  have hA : DataW.TrodAll enc Try.prog W 0 (fun _ => true) true Try.f4.params.toList args.toList ds p := hA0
  rw [Try.params4] at hA hval
  obtain ⟨v0, vs0, d0, ds0, p0, q0, hargs, rfl, rfl, h0, r0⟩ := trodAll_cons hA
  obtain ⟨rfl, rfl, rfl⟩ := trodAll_nil r0
  obtain rfl : args = #[v0] := by cases args; simp_all
  obtain ⟨rfl, rfl⟩ := trodVars_none hV
  have k0 := h0
  have lt0 : ∀ x ∈ p0, x.block < W.heap.size := by obtain ⟨m, hm⟩ := k0; exact DataW.trod_lt m _ _ _ hm
  obtain ⟨a0, len0, cap0, rfl⟩ := okWide_slice Try.underlying40 (hval 0 40 v0 rfl rfl)
  obtain ⟨fuel0, hf0⟩ := h0
  obtain ⟨xa0, xlen0, xcap0, l0, xe0, ro0, wo0, fo0⟩ := recs_of hf0
  obtain ⟨rfl, rfl, rfl⟩ : a0 = xa0 ∧ len0 = xlen0 ∧ cap0 = xcap0 := by injection xe0 with e1 e2 e3; exact ⟨e1, e2, e3⟩
  clear hA0 hval0
  refine (walk a0 len0 cap0 l0 W wo0 ro0 fo0).mono fun e W' ⟨he, bel⟩ => ?_
  subst he
  exact ⟨_, rfl, _, _, _, [], _, [], hW', trodAll_mk1 (shut_bool Try.underlying4 _), (trodAll_cons_mk (Below.trod laidOut (by kernel_rfl) (of_decide_eq_true (by kernel_rfl)) k0 bel lt0) trodAll_mk0), rfl, bel.frame _, fun h => by cases h⟩
theorem over : Rows.flightlogLoadsRow.holds Try.pinned (OpenSpec.ofChange Rows.flightlogLoadsSpec) :=
  OpenClaim.holds_of_wide 4 Try.f4 rfl rfl rfl rfl rfl rfl rfl ⟨rfl, rfl, rfl, rfl, rfl⟩ rfl rfl rfl rfl rfl (by kernel_rfl) Try.func4 (by kernel_rfl)
    (of_decide_eq_true (by kernel_rfl)) (by unfold Func.isWrapper; first | (rw [if_pos (by decide +kernel)]; kernel_rfl) | (rw [if_neg (by decide +kernel)]; exact ⟨rfl, rfl⟩))
    (fun os started H enc _ => lifted os started H enc)
theorem proved : Rows.FlightlogLoadsSaid := over
end Go.Proofs.Ytgmejplcdecmkaa.lawFlightlogLoads

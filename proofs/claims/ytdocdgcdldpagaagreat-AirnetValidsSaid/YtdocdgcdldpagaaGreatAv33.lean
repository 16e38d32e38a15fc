import Derived.Test.YtdocdgcdldpagaaGreatAp
import Derived.Test.YtdocdgcdldpagaaGreatAv32
import Derived.Test.YtdocdgcdldpagaaGreatAv17
import Derived.Laws.EntriesVeiled
namespace Go.Proofs.YtdocdgcdldpagaaGreat
open Go.RowKit
set_option maxHeartbeats 8000000
set_option maxRecDepth 100000
set_option linter.unusedSimpArgs false
set_option linter.unusedVariables false
attribute [local go_sem ↓] Go.wp_at_zero Go.wp_at_succ
namespace Nt
theorem step0_ok {N : Nat} {s : St} (h : Inv N s) (he : stepE s = 0) : Inv N { s with steps := s.steps + 1, now := s.now + s.r.step, st := Stn.tick s.st (s.now + s.r.step) } ∧ (∀ g ∈ Stn.tickF s.st (s.now + s.r.step), FOk s.cr.length g) ∧ (Stn.tickF s.st (s.now + s.r.step)).length ≤ 64 := by
  have ok := tickF_ok s.st h.st (s.now + s.r.step)
  exact ⟨h.stepA he, fun g hg => by have := ok.1 g hg; rw [h.sn] at this; exact this, ok.2⟩
def pt (s : St) : Nat → St
  | 0 => s
  | 1 => look (hears s s.cr.length)
  | _ => flies (look (hears s s.cr.length)) s.cr.length
end Nt
section
variable {w w' w0 : World} {base b k N fb : Nat} {m m1 : NM} {s s' : Nt.St} {v : Value} {L : List Fr}
theorem hmf_run : ∀ (fn : Fn) (first cap : Array Value) (w : World), (Instr.makeFunc fn first cap).run Tryz.prog w = .ok (.func fn first cap) w := fun _ _ _ _ => rfl
theorem Ee {p : Prop} (h : p := by
  go_wp2_with fail
  go_ret
  exact ⟨rfl, NTo.of_below HH.out (by first | exact below_drewN (Below.refl _ _) _ | exact Below.refl _ _)⟩
 ) : p := h
theorem nstep_no (h : IsNet w base b m k s) (hs : Nt.Inv N s) {e : Int} (he : Nt.stepE s = e) (h0 : e ≠ 0) :
    Calls Tryz.prog 24 #[.pointer (some ⟨b, 0, none⟩)] w fun x w' => x = .returned (.int .i64 e) ∧ NTo base b m k s w w' := by
  have NO := Lib.hid (nnone_any h hs.n.1)
  have c21 : w.cell? ⟨b, 21, none⟩ = some (.int .i64 s.now) := blk_cell h.blk 21 rfl
  have c22 : w.cell? ⟨b, 22, none⟩ = some (.int .i64 s.steps) := blk_cell h.blk 22 rfl
  have c2 : w.cell? ⟨b, 2, none⟩ = some (.int .i64 s.r.step) := blk_cell h.blk 2 rfl
  have hnw := hs.now
  have hst := hs.step
  have zw : IntKind.i64.wrap (s.now + s.r.step) = s.now + s.r.step := IntWalk.i64_in _ Cb
  obtain ⟨a, ha⟩ : ∃ a, a = s.now + s.r.step := ⟨_, rfl⟩
  rw [← ha] at zw
  have HH := Lib.hid h
  by_cases h1 : 3600000 < a
  · have ee : e = 3 := by rw [← he]; unfold Nt.stepE; rw [if_pos Cb]
    have z1 : decide (3600000 < a) = true := by simp [h1]
    subst ee
    clear h hs he h0 h1 hnw hst c22
    go_enter Tryz.func24, Tryz.ntmps24
    go_wp2_with (refine NO.out.mono ?_; rintro e w' ⟨rfl, rfl⟩)
    rw [ha] at zw z1
    go_quiet (fail)
    exact Ee
  · have h7 : s.steps = 100000 := by
      unfold Nt.stepE at he
      rw [if_neg Cb] at he
      split at he
      · assumption
      · exact absurd he.symm h0
    have ee : e = 7 := by rw [← he]; unfold Nt.stepE; rw [if_neg Cb, if_pos h7]
    have z1 : decide (3600000 < a) = false := by simp; omega
    rw [h7] at c22
    subst ee
    clear h hs he h0 h1 hnw hst h7
    go_enter Tryz.func24, Tryz.ntmps24
    go_wp2_with (refine NO.out.mono ?_; rintro e w' ⟨rfl, rfl⟩)
    rw [ha] at zw z1
    go_quiet (fail)
    have bq := below_drewN (Below.refl w.heap.size w)
    exact Ee
theorem hs_stick (h : HS base b k m w0 fb v L s w m1) (hst : Stn.Inv s.st) (hbase : base ≤ w.heap.size) (W : World) (hW : Below w.heap.size w W) :
    Calls Tryz.prog 57 #[.pointer (some ⟨m1.sb, 0, none⟩), .int .i64 s.now] W fun e w' => ∃ (v1 : Value) (er : Int) (m3 : NM), e = .returned (.tuple #[v1, .int .i64 er]) ∧ Rof w' W.heap.size v1 (Stn.tickF s.st s.now) ∧ HS base b k m w0 fb v L { s with st := Stn.tick s.st s.now } w' m3 := by
  have h1 := h.below hW
  refine (tick_any h1.1.st hst s.now (Nat.le_trans hbase hW.size)).mono ?_
  rintro e w' ⟨v1, MA', mc', e1, g1, g2, g3, g4⟩
  obtain ⟨m3, h3⟩ := h1.to (h1.1.toSt g1 g2 g4)
  exact ⟨v1, _, m3, e1, g3, h3⟩
theorem Ed {p : Prop} (h : p := by
  clear hsm
  go_wp2_with (refine CL.out.mono ?_; rintro e w8 ⟨rfl, hto⟩; obtain ⟨m8, h8⟩ := HI.out.to hto; have H8 := Lib.hid h8; have hz8 := h8.2.1.size; have YA := Lib.hid (let ⟨_, _, kk, _⟩ := hto; blk_keep Y8.out kk (HI.out.1.away ⟨_, Y8.out⟩ Bw)); have YB := Lib.hid (let ⟨_, _, kk, _⟩ := hto; blk_keep Y9.out kk (HI.out.1.away ⟨_, Y9.out⟩ Bw)); clear h8 hto)
  go_roundw
  case rel => exact ⟨j + 1, m8, by go_num, by omega, hz8, YA, YB, H8⟩
  case measure => simp [intOf]; omega
 ) : p := h
theorem nstep_yes (h : IsNet w base b m k s) (hs : Nt.Inv N s) (he : Nt.stepE s = 0) (hbase : base ≤ w.heap.size) (hN : N + 200000 ≤ 1000000000000) :
    Calls Tryz.prog 24 #[.pointer (some ⟨b, 0, none⟩)] w fun x w' => x = .returned (.int .i64 0) ∧ NTo base b m k (Nt.step s) w w' := by
  have hmf := @hmf_run
  have NO := Lib.hid (nnone_any h hs.n.1)
  have c21 : w.cell? ⟨b, 21, none⟩ = some (.int .i64 s.now) := blk_cell h.blk 21 rfl
  have c22 : w.cell? ⟨b, 22, none⟩ = some (.int .i64 s.steps) := blk_cell h.blk 22 rfl
  have c2 : w.cell? ⟨b, 2, none⟩ = some (.int .i64 s.r.step) := blk_cell h.blk 2 rfl
  have f21 := blk_free h.blk 21
  have f22 := blk_free h.blk 22
  have hnw := hs.now
  have hst := hs.step
  have hsp := hs.steps
  have hn64 := hs.n.2
  have hsE := Nt.stepE_ok he
  have zw : IntKind.i64.wrap (s.now + s.r.step) = s.now + s.r.step := IntWalk.i64_in _ Cb
  have zw2 : IntKind.i64.wrap (s.steps + 1) = s.steps + 1 := IntWalk.i64_in _ Cb
  have z1 : decide (3600000 < s.now + s.r.step) = false := by simp; omega
  have z2 : (s.steps == 100000) = false := by simp [hsE.2]
  have HH := Lib.hid h
  have HSV := Lib.hid hs
  obtain ⟨n, hn⟩ : ∃ n, n = s.cr.length := ⟨_, rfl⟩
  have HN := Lib.hid hn
  have hok := Nt.step0_ok hs he
  have E0 := Lib.hid (show Nt.step0 s = Nt.sndL { s with steps := s.steps + 1, now := s.now + s.r.step, st := Stn.tick s.st (s.now + s.r.step) } (Stn.tickF s.st (s.now + s.r.step)) from rfl)
  have ES := Lib.hid (show Nt.step s = Nt.pt (Nt.step0 s) 2 from by unfold Nt.step; rw [if_pos he]; show _ = Nt.flies (Nt.look (Nt.hears (Nt.step0 s) (Nt.step0 s).cr.length)) (Nt.step0 s).cr.length; rw [Nt.step0_len])
  have IV0 := Lib.hid (hs.step0 he Cb)
  have hB := h.blk
  clear h hs hnw hst hsp he hsE hn
  go_enter Tryz.func24, Tryz.ntmps24
  go_wp2_with (refine NO.out.mono ?_; rintro e w' ⟨rfl, rfl⟩)
  go_quiet (fail)
  go_upto_region 7 with fail
  generalize hW1 : World.drewN _ _ = W1
  have b1 : Below w.heap.size w W1 := by rw [← hW1]; exact below_drewN (Below.refl _ _) _
  have hB1 := blk_below hB b1 (lt_of_block hB)
  have H1 := Lib.hid (HH.out.below b1)
  have HB1 := Lib.hid b1
  have c21 : W1.cell? ⟨b, 21, none⟩ = some (.int .i64 s.now) := blk_cell hB1 21 rfl
  have c22 : W1.cell? ⟨b, 22, none⟩ = some (.int .i64 s.steps) := blk_cell hB1 22 rfl
  have c2 : W1.cell? ⟨b, 2, none⟩ = some (.int .i64 s.r.step) := blk_cell hB1 2 rfl
  have f21 := blk_free hB1 21
  have f22 := blk_free hB1 22
  clear hW1 b1 hB NO
  go_upto_region 8 with fail
  have hB2 := blk_set hB1 22 (.int .i64 (s.steps + 1))
  rw [List.setIfInBounds_toArray] at hB2
  have K2 := Lib.hid ((Keeps.refl (fun q => q = b) W1).setCell (p := ⟨b, 22, none⟩) (.inl rfl) (.int .i64 (s.steps + 1)))
  generalize W1.setCell ⟨b, 22, none⟩ (.int .i64 (s.steps + 1)) = W2 at *
  have hB2' : W2.heap[b]? = some (.cells (ncl m { s with steps := s.steps + 1 }).toArray 86 (0, 0)) := hB2
  have d21 : W2.cell? ⟨b, 21, none⟩ = some (.int .i64 s.now) := blk_cell hB2' 21 rfl
  have d2 : W2.cell? ⟨b, 2, none⟩ = some (.int .i64 s.r.step) := blk_cell hB2' 2 rfl
  have e21 := blk_free hB2' 21
  clear hB2 c21 c22 c2 f21 f22
  go_cut [0] from 36 to 93 (fun s0 wx => s0 = .pointer (some ⟨b, 0, none⟩) ∧ wx.heap[b]? = some (.cells (ncl m { s with steps := s.steps + 1, now := s.now + s.r.step }).toArray 86 (0, 0)) ∧ Keeps (fun q => q = b) W2 wx)
  case first =>
    go_region
    go_wp2_with fail
    go_meet
    refine ⟨rfl, ?_, ?_⟩
    · have := blk_set hB2' 21 (.int .i64 (s.now + s.r.step))
      rw [List.setIfInBounds_toArray] at this
      exact this
    · first | exact ((Keeps.refl (fun q => q = b) W2).setCell (p := ⟨b, 21, none⟩) (.inl rfl) (.int .i64 (s.now + s.r.step))).drew | exact (Keeps.refl (fun q => q = b) W2).setCell (p := ⟨b, 21, none⟩) (.inl rfl) (.int .i64 (s.now + s.r.step))
  case rest =>
    obtain ⟨rfl, hB3, hK3⟩ := hcut
    obtain ⟨sA, hsA⟩ : ∃ sA : Nt.St, sA = { s with steps := s.steps + 1, now := s.now + s.r.step, st := Stn.tick s.st (s.now + s.r.step) } := ⟨_, rfl⟩
    have hne : ∀ q, blkOf m.EA = some q → ¬ q = b := fun q hq => (H1.out.erow.ty hq).ne ⟨_, H1.out.blk⟩ C8
    have k3 := K2.out.trans hK3 (fun i _ hi => hi)
    have nt := H1.out.toOwn (s' := { s with steps := s.steps + 1, now := s.now + s.r.step }) (EA' := m.EA) (ec' := m.ec) rfl rfl rfl rfl (k3.mono (fun q _ h => .inl h)) hB3 (H1.out.erow.kept k3 hne) (.inl rfl)
    obtain ⟨m3, h3⟩ := HS.to (w0 := w) (fb := 0) (v := .slice none 0 0) (L := []) (m := m) ⟨H1.out, Keeps.of_below HB1.out, NG.refl, Rof.nil _ _⟩ nt
    have TK := Lib.hid (hs_stick h3 HSV.out.st (Nat.le_trans hbase h3.2.1.size))
    have e23 : wc.cell? ⟨b, 23, none⟩ = some (.pointer (some ⟨m3.sb, 0, none⟩)) := blk_cell h3.1.blk 23 rfl
    have e21 : wc.cell? ⟨b, 21, none⟩ = some (.int .i64 (s.now + s.r.step)) := blk_cell h3.1.blk 21 rfl
    rw [← hsA] at hok E0
    obtain ⟨fr, hfr⟩ : ∃ fr, fr = Stn.tickF s.st (s.now + s.r.step) := ⟨_, rfl⟩
    rw [← hfr] at hok E0
    have OK1 := Lib.hid hok.1
    have OK2 := Lib.hid (show ∀ g ∈ fr, Nt.FOk sA.cr.length g from by rw [hsA]; exact hok.2.1)
    have hol := hok.2.2
    have TK2 := Lib.hid (show ∀ W : World, Below wc.heap.size wc W → Calls Tryz.prog 57 #[.pointer (some ⟨m3.sb, 0, none⟩), .int .i64 (s.now + s.r.step)] W fun e w' => ∃ (v1 : Value) (er : Int) (m4 : NM), e = .returned (.tuple #[v1, .int .i64 er]) ∧ Rof w' 0 v1 fr ∧ HS base b k m w 0 (.slice none 0 0) [] sA w' m4 from fun W hW => (TK.out W hW).mono (fun e w' ⟨v1, er, m4, h1, h2, h3⟩ => ⟨v1, er, m4, h1, by rw [hfr]; exact h2.more (Nat.zero_le _), by rw [hsA]; exact h3⟩))
    clear hok hsA hfr nt k3 hne h3 TK hB3 hK3 hB2' H1 K2 HSV d21 d2 zw zw2 z1 z2
    go_upto_region 9 with fail
    go_cut [3] from 3 to 93 (fun v3 wx => ∃ m4 : NM, Hid (Rof wx 0 v3 fr) ∧ Hid (HS base b k m w 0 (.slice none 0 0) [] sA wx m4))
    case first =>
      go_region_with (first | (go_at_call 57; refine (TK2.out _ (by first | exact below_drewN (Below.refl _ wc) _ | exact (Below.refl _ wc).drew | exact Below.refl _ wc)).mono ?_; rintro e w5 ⟨v5, er, m5, rfl, hr5, h5⟩; have R5 := Lib.hid hr5; have H5 := Lib.hid h5; clear hr5 h5))
      all_goals (go_wp2_with fail; go_meet; exact ⟨m5, R5, H5⟩)
    case rest =>
      obtain ⟨m4, R4, H4⟩ := hcut
      have SD := Lib.hid (nsend_any H4.out.1 OK1.out OK2.out R4.out (Nat.le_trans hbase H4.out.2.1.size) Cb Cb)
      rw [← E0.out] at SD
      clear TK2 e23 e21 OK2 hol
      go_wp2_with (refine SD.out.mono ?_; rintro e w5 ⟨rfl, hto⟩; obtain ⟨m5, h5⟩ := H4.out.to hto; have H5 := Lib.hid h5; have hz5 := h5.2.1.size; clear h5 hto)
      generalize hW6 : World.alloc _ _ = W6
      have b6 : Below w5.heap.size w5 W6 := by rw [← hW6]; exact (Below.refl _ w5).alloc (Nat.le_refl _) _
      have y6 : W6.heap[w5.heap.size]? = some (.cells #[.func (Fn.func 59) #[.pointer (some ⟨b, 0, none⟩)] #[], .func (Fn.func 60) #[.pointer (some ⟨b, 0, none⟩)] #[]] 119 (0, 0)) := by rw [← hW6]; exact heap_new _ _
      obtain ⟨s0, hs0⟩ : ∃ s0, s0 = Nt.step0 s := ⟨_, rfl⟩
      have hn0 : s0.cr.length = n := by rw [hs0, Nt.step0_len, HN.out]
      rw [← hs0] at H5 IV0 ES
      have H6 := Lib.hid (show HS base b k m5 W6 0 (.slice none 0 0) [] (Nt.pt s0 0) W6 m5 from ⟨H5.out.1.below b6, Keeps.refl _ _, NG.refl, Rof.nil _ _⟩)
      have HB6 := Lib.hid b6
      have Y0 := Lib.hid y6
      have hz6 : w.heap.size ≤ W6.heap.size := Nat.le_trans hz5 b6.size
      have IV := IV0
      have HN0 := Lib.hid hn0
      obtain ⟨sL, hsL⟩ : ∃ sL, sL = Nt.look (Nt.hears s0 n) := ⟨_, rfl⟩
      have hn64' : n ≤ 64 := by rw [HN.out]; exact hn64
      have IVL := Lib.hid (show Nt.Inv (N + 70000) sL ∧ sL.cr.length = n from by
        rw [hsL]
        have h1 := (IV.out.hears Cb n (by rw [hn0]; exact Nat.le_refl _)).look
        refine ⟨h1.mono Cb, ?_⟩
        have e : ∀ t : Nt.St, (Nt.look t).cr.length = t.cr.length := by
          intro t
          unfold Nt.look
          split <;> rfl
        rw [e, (Nt.hears_same s0 n).1, hn0])
      have HL := Lib.hid hsL
      have E1 := Lib.hid (show Nt.pt s0 1 = sL from by rw [hsL, ← hn0]; rfl)
      clear hW6 b6 y6 hs0 hsL hn0 SD E0 OK1 R4 H4 IV0 hn64
      go_loopw [71] (fun s71 wr => ∃ (x : Int) (q : Nat) (m6 : NM), s71 = .int .i64 x ∧ x = (q : Int) ∧ q ≤ 2 ∧ W6.heap.size ≤ wr.heap.size ∧ Hid (wr.heap[w5.heap.size]? = some (.cells #[.func (Fn.func 59) #[.pointer (some ⟨b, 0, none⟩)] #[], .func (Fn.func 60) #[.pointer (some ⟨b, 0, none⟩)] #[]] 119 (0, 0))) ∧ Hid (HS base b k m5 W6 0 (.slice none 0 0) [] (Nt.pt s0 q) wr m6)) (fun s71 _ => 2 - (intOf s71).toNat)
      case atStart => exact ⟨0, 0, m5, rfl, rfl, by omega, Nat.le_refl _, Y0, H6⟩
      case round =>
        obtain ⟨x, q, m6, rfl, hx, hq, hzr, Y6, HR⟩ := hrel
        clear Y0 H6
        obtain rfl | rfl | rfl : q = 0 ∨ q = 1 ∨ q = 2 := by omega
        · obtain rfl : x = 0 := by omega
          clear hx hq
          have HR : Hid (HS base b k m5 W6 0 (.slice none 0 0) [] (Nt.hears s0 0) wr m6) := HR
          have c25 : wr.cell? ⟨b, 25, none⟩ = some (.slice m6.CA n m6.cc) := by
            have := blk_cell HR.out.1.blk 25 rfl
            rw [this, show (Nt.hears s0 0).cr.length = n from HN0.out]
          have g0 : wr.cell? ⟨w5.heap.size, 0, none⟩ = some (.func (Fn.func 59) #[.pointer (some ⟨b, 0, none⟩)] #[]) := blk_cell (l := [_, _]) Y6.out 0 rfl
          have hbl := lt_of_block HR.out.1.blk
          go_upto_region 14 with fail
          generalize hWa : World.alloc _ _ = Wa
          have bA : Below wr.heap.size wr Wa := by rw [← hWa]; exact (Below.refl _ wr).alloc (Nat.le_refl _) _
          have yP : Wa.heap[wr.heap.size]? = some (.cells #[.func (Fn.func 59) #[.pointer (some ⟨b, 0, none⟩)] #[]] 119 (0, 0)) := by rw [← hWa]; exact heap_new _ _
          have YP := Lib.hid yP
          have Y7 := Lib.hid (blk_below Y6.out bA (lt_of_block Y6.out))
          have HA := Lib.hid (HR.out.below bA)
          have a25 := (bA.cell (p := ⟨b, 25, none⟩) hbl).trans c25
          have hza := Nat.le_trans hzr bA.size
          clear hWa bA yP c25 g0 hbl Y6 HR hzr
          go_wp2_with fail
          go_loopw [81] (fun s81 ws => ∃ (j : Nat) (m7 : NM), s81 = .int .i64 j ∧ j ≤ n ∧ W6.heap.size ≤ ws.heap.size ∧ Hid (ws.heap[wr.heap.size]? = some (.cells #[.func (Fn.func 59) #[.pointer (some ⟨b, 0, none⟩)] #[]] 119 (0, 0))) ∧ Hid (ws.heap[w5.heap.size]? = some (.cells #[.func (Fn.func 59) #[.pointer (some ⟨b, 0, none⟩)] #[], .func (Fn.func 60) #[.pointer (some ⟨b, 0, none⟩)] #[]] 119 (0, 0))) ∧ Hid (HS base b k m5 W6 0 (.slice none 0 0) [] (Nt.hears s0 j) ws m7)) (fun s81 _ => n - (intOf s81).toNat)
          case atStart => exact ⟨0, m6, by go_num, by omega, hza, YP, Y7, HA⟩
          case round =>
            obtain ⟨j, m7, rfl, hj, hzs, Y8, Y9, HI⟩ := hrel
            by_cases hlt : j < n
            · have hji : (j : Int) < (n : Int) := by omega
              have g1 := blk_cell (l := [_]) Y8.out 0 rfl
              have hsm := And.intro (IV.out.hears Cb j (by rw [HN0.out]; omega)) ((Nt.hears_same s0 j).1.trans HN0.out)
              have CL := Lib.hid (nhear_any HI.out.1 hsm.1 (i := j) (by rw [hsm.2]; exact hlt) (Nat.le_trans hbase (Nat.le_trans hz6 hzs)) Cb)
              exact Ed
            · have hj' : j = n := by omega
              subst hj'
              have ik : ¬ ((j : Int) < (j : Int)) := by omega
              have hsm := And.intro (IV.out.hears Cb j (by rw [HN0.out]; exact Nat.le_refl _)) (Nt.hears_same s0 j).1
              have LK := Lib.hid (nlook_any HI.out.1 hsm.1 (Nat.le_trans hbase (Nat.le_trans hz6 hzs)) Cb)
              clear hsm
              go_wp2_with (refine LK.out.mono ?_; rintro e w8 ⟨rfl, hto⟩; obtain ⟨m8, h8⟩ := HI.out.to hto; have H8 := Lib.hid h8; have hz8 := h8.2.1.size; have YB := Lib.hid (let ⟨_, _, kk, _⟩ := hto; blk_keep Y9.out kk (HI.out.1.away ⟨_, Y9.out⟩ Bw)); clear h8 hto)
              go_roundw
              case rel => exact ⟨1, 1, m8, rfl, rfl, by omega, hz8, YB, Lib.hid (by show HS _ _ _ _ _ _ _ _ (Nt.look (Nt.hears s0 s0.cr.length)) _ _; rw [HN0.out]; exact H8.out)⟩
              case measure => simp [intOf]
        · obtain rfl : x = 1 := by omega
          clear hx hq
          have HR : Hid (HS base b k m5 W6 0 (.slice none 0 0) [] (Nt.flies sL 0) wr m6) := Lib.hid (by have := HR.out; rw [E1.out] at this; exact this)
          have c25 : wr.cell? ⟨b, 25, none⟩ = some (.slice m6.CA n m6.cc) := by
            have := blk_cell HR.out.1.blk 25 rfl
            rw [this, show (Nt.flies sL 0).cr.length = n from IVL.out.2]
          have g0 : wr.cell? ⟨w5.heap.size, 1, none⟩ = some (.func (Fn.func 60) #[.pointer (some ⟨b, 0, none⟩)] #[]) := blk_cell (l := [_, _]) Y6.out 1 rfl
          have hbl := lt_of_block HR.out.1.blk
          go_upto_region 14 with fail
          generalize hWa : World.alloc _ _ = Wa
          have bA : Below wr.heap.size wr Wa := by rw [← hWa]; exact (Below.refl _ wr).alloc (Nat.le_refl _) _
          have yP : Wa.heap[wr.heap.size]? = some (.cells #[.func (Fn.func 60) #[.pointer (some ⟨b, 0, none⟩)] #[]] 119 (0, 0)) := by rw [← hWa]; exact heap_new _ _
          have YP := Lib.hid yP
          have Y7 := Lib.hid (blk_below Y6.out bA (lt_of_block Y6.out))
          have HA := Lib.hid (HR.out.below bA)
          have a25 := (bA.cell (p := ⟨b, 25, none⟩) hbl).trans c25
          have hza := Nat.le_trans hzr bA.size
          clear hWa bA yP c25 g0 hbl Y6 HR hzr
          go_wp2_with fail
          go_loopw [81] (fun s81 ws => ∃ (j : Nat) (m7 : NM), s81 = .int .i64 j ∧ j ≤ n ∧ W6.heap.size ≤ ws.heap.size ∧ Hid (ws.heap[wr.heap.size]? = some (.cells #[.func (Fn.func 60) #[.pointer (some ⟨b, 0, none⟩)] #[]] 119 (0, 0))) ∧ Hid (ws.heap[w5.heap.size]? = some (.cells #[.func (Fn.func 59) #[.pointer (some ⟨b, 0, none⟩)] #[], .func (Fn.func 60) #[.pointer (some ⟨b, 0, none⟩)] #[]] 119 (0, 0))) ∧ Hid (HS base b k m5 W6 0 (.slice none 0 0) [] (Nt.flies sL j) ws m7)) (fun s81 _ => n - (intOf s81).toNat)
          case atStart => exact ⟨0, m6, by go_num, by omega, hza, YP, Y7, HA⟩
          case round =>
            obtain ⟨j, m7, rfl, hj, hzs, Y8, Y9, HI⟩ := hrel
            by_cases hlt : j < n
            · have hji : (j : Int) < (n : Int) := by omega
              have g1 := blk_cell (l := [_]) Y8.out 0 rfl
              have hsm := And.intro (IVL.out.1.flies Cb j (by rw [IVL.out.2]; omega)) ((Nt.flies_same sL j).1.trans IVL.out.2)
              have CL := Lib.hid (nfly_any HI.out.1 hsm.1 (i := j) (by rw [hsm.2]; exact hlt) (Nat.le_trans hbase (Nat.le_trans hz6 hzs)) Cb)
              exact Ed
            · have hj' : j = n := by omega
              subst hj'
              have ik : ¬ ((j : Int) < (j : Int)) := by omega
              go_wp2_with fail
              go_roundw
              case rel => exact ⟨2, 2, m7, rfl, rfl, by omega, hzs, Y9, Lib.hid (by show HS _ _ _ _ _ _ _ _ (Nt.flies (Nt.look (Nt.hears s0 s0.cr.length)) s0.cr.length) _ _; rw [HN0.out]; exact HL.out ▸ HI.out)⟩
              case measure => simp [intOf]
        · obtain rfl : x = 2 := by omega
          clear hx hq
          go_wp2_with fail
          go_ret
          exact ⟨rfl, by rw [ES.out]; exact NTo.trans H5.out.2.1 H5.out.2.2.1 (NTo.trans (m := m5) (m1 := m5) (Keeps.of_below HB6.out) NG.refl ⟨m6, HR.out.1, HR.out.2.1, HR.out.2.2.1⟩)⟩
theorem nstep_any (h : IsNet w base b m k s) (hs : Nt.Inv N s) (hbase : base ≤ w.heap.size) (hN : N + 200000 ≤ 1000000000000) :
    Calls Tryz.prog 24 #[.pointer (some ⟨b, 0, none⟩)] w fun x w' => x = .returned (.int .i64 (Nt.stepE s)) ∧ NTo base b m k (Nt.step s) w w' := by
  by_cases he : Nt.stepE s = 0
  · rw [he]
    exact nstep_yes h hs he hbase hN
  · have e : Nt.step s = s := by unfold Nt.step; rw [if_neg he]
    rw [e]
    exact nstep_no h hs rfl he
end
end Go.Proofs.YtdocdgcdldpagaaGreat

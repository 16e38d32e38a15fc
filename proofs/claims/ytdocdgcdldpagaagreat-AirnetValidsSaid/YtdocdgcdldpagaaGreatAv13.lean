import Derived.Test.YtdocdgcdldpagaaGreatAp
import Derived.Test.YtdocdgcdldpagaaGreatAv12
import Derived.Test.YtdocdgcdldpagaaGreatAv01
import Derived.Test.YtdocdgcdldpagaaGreatAv10
import Derived.Lib.ConvBytes
namespace Go.Proofs.YtdocdgcdldpagaaGreat
open Go.RowKit
set_option maxHeartbeats 8000000
set_option maxRecDepth 100000
set_option linter.unusedSimpArgs false
set_option linter.unusedVariables false
attribute [local go_sem ↓] Go.wp_at_zero Go.wp_at_succ
def LkTo (base b : Nat) (A : Option Addr) (r : Lnk.Ru) (s' : Lnk.St) (w w' : World) : Prop :=
  ∃ A' c', IsLk w' base b A' c' r s' ∧ Keeps (Two b A) w w' ∧ (blkOf A' = blkOf A ∨ ∃ g, blkOf A' = some g ∧ w.heap.size ≤ g)
def SendPost (base b : Nat) (A : Option Addr) (r : Lnk.Ru) (s' : Lnk.St) (x : Int) (w : World) (e : Ending) (w' : World) : Prop := e = .returned (.int .i64 x) ∧ LkTo base b A r s' w w'
theorem Cu {p : Prop} (h : p := by
  rw [List.setIfInBounds_toArray] at this
  exact this
 ) : p := h
theorem IsLk.set7 {w : World} {base b c : Nat} {A : Option Addr} {r : Lnk.Ru} {s : Lnk.St} (h : IsLk w base b A c r s) (x : Int) : IsLk (w.setCell ⟨b, 7, none⟩ (.int .i64 x)) base b A c r { s with now := x } := by
  refine ⟨?_, h.row.far (fun g hg => h.ne hg) _, h.ge⟩
  have := blk_set h.blk 7 (.int .i64 x)
  exact Cu
theorem IsLk.set9 {w : World} {base b c : Nat} {A : Option Addr} {r : Lnk.Ru} {s : Lnk.St} (h : IsLk w base b A c r s) (x : Int) : IsLk (w.setCell ⟨b, 9, none⟩ (.int .i64 x)) base b A c r { s with sent := x } := by
  refine ⟨?_, h.row.far (fun g hg => h.ne hg) _, h.ge⟩
  have := blk_set h.blk 9 (.int .i64 x)
  exact Cu
theorem IsLk.set10 {w : World} {base b c : Nat} {A : Option Addr} {r : Lnk.Ru} {s : Lnk.St} (h : IsLk w base b A c r s) (x : Int) : IsLk (w.setCell ⟨b, 10, none⟩ (.int .i64 x)) base b A c r { s with lost := x } := by
  refine ⟨?_, h.row.far (fun g hg => h.ne hg) _, h.ge⟩
  have := blk_set h.blk 10 (.int .i64 x)
  exact Cu
theorem IsLk.set11 {w : World} {base b c : Nat} {A : Option Addr} {r : Lnk.Ru} {s : Lnk.St} (h : IsLk w base b A c r s) (x : Int) : IsLk (w.setCell ⟨b, 11, none⟩ (.int .i64 x)) base b A c r { s with dbl := x } := by
  refine ⟨?_, h.row.far (fun g hg => h.ne hg) _, h.ge⟩
  have := blk_set h.blk 11 (.int .i64 x)
  exact Cu
theorem draw_k (base b c : Nat) (A : Option Addr) (r : Lnk.Ru) (s : Lnk.St) (lim : Int) (w : World) (h : IsLk w base b A c r s) (hl : 0 < lim) (hl2 : lim ≤ 1000000) :
    Calls Tryz.prog 152 #[.pointer (some ⟨b, 0, none⟩), .int .i64 lim] w fun e w' => e = .returned (.int .i64 (Lnk.dr s.x % lim)) ∧ IsLk w' base b A c r { s with x := Lnk.nx s.x } ∧ Keeps (Two b A) w w' := by
  refine (draw_lk base b c A r s lim w h hl hl2).mono ?_
  rintro e w' ⟨rfl, rfl, h2⟩
  exact ⟨rfl, h2, Ad⟩
theorem LkTo.same {base b c : Nat} {A : Option Addr} {r : Lnk.Ru} {s : Lnk.St} {w w' : World} (h : IsLk w' base b A c r s) (k : Keeps (Two b A) w w') : LkTo base b A r s w w' := ⟨A, c, h, k, .inl rfl⟩
theorem two_new {b : Nat} {A A' : Option Addr} {n : Nat} (h : blkOf A' = blkOf A ∨ ∃ g, blkOf A' = some g ∧ n ≤ g) : ∀ i, i < n → Two b A' i → Two b A i := by
  rintro i hi (rfl | hi')
  · exact .inl rfl
  · rcases h with h | ⟨g, h, hg⟩
    · exact .inr (by rw [← h]; exact hi')
    · rw [h] at hi'
      injection hi' with hi'
      omega
theorem new_new {A A1 A2 : Option Addr} {n n1 : Nat} (h1 : blkOf A1 = blkOf A ∨ ∃ g, blkOf A1 = some g ∧ n ≤ g) (h2 : blkOf A2 = blkOf A1 ∨ ∃ g, blkOf A2 = some g ∧ n1 ≤ g) (hn : n ≤ n1) : blkOf A2 = blkOf A ∨ ∃ g, blkOf A2 = some g ∧ n ≤ g := by
  rcases h2 with h2 | ⟨g, h2, hg⟩
  · rw [h2]; exact h1
  · exact .inr ⟨g, h2, by omega⟩
theorem LkTo.trans {base b : Nat} {A A1 : Option Addr} {r r' : Lnk.Ru} {s2 : Lnk.St} {w w1 w2 : World} (k : Keeps (Two b A) w w1) (hat : blkOf A1 = blkOf A ∨ ∃ g, blkOf A1 = some g ∧ w.heap.size ≤ g) (h : LkTo base b A1 r s2 w1 w2) : LkTo base b A r s2 w w2 := by
  obtain ⟨A2, c2, h2, k2, hat2⟩ := h
  exact ⟨A2, c2, h2, k.trans k2 (two_new hat), new_new hat hat2 k.size⟩
theorem Rd.kept {S : Nat → Prop} {w w' : World} {B : Nat} {A : Option Addr} {n : Nat} {l : List Int} (h : Rd w B A n l) (k : Keeps S w w') (hB : B ≤ w.heap.size) (hS : ∀ a, A = some a → ¬ S a.block) : Rd w' B A n l :=
  ⟨h.1, h.2.1, fun hn => by
    obtain ⟨b, o, e, hb, hc⟩ := h.2.2 hn
    exact ⟨b, o, e, hb, fun i hi => (World.cell?_of_block (k.block b Cb (hS _ e))).trans (hc i hi)⟩⟩
theorem send_no (base b c : Nat) (A : Option Addr) (r : Lnk.Ru) (s : Lnk.St) (now : Int) (D : Option Addr) (n cap : Nat) (w : World) (h : IsLk w base b A c r s) (hn : n ≤ 140737488355328) (he : Lnk.sendE s now n ≠ 0) :
    Calls Tryz.prog 130 #[.pointer (some ⟨b, 0, none⟩), .int .i64 now, .slice D n cap] w fun e w' => e = .returned (.int .i64 (Lnk.sendE s now n)) ∧ w = w' := by
  have N := Lib.hid (none_made b _ w h.blk rfl)
  have c7 : w.cell? ⟨b, 7, none⟩ = some (.int .i64 s.now) := blk_cell h.blk 7 rfl
  have c8 : w.cell? ⟨b, 8, none⟩ = some (.slice A s.u.length c) := blk_cell h.blk 8 rfl
  clear h
  by_cases h1 : 1 ≤ n ∧ n ≤ 128
  · by_cases h2 : s.now ≤ now ∧ now ≤ 1073741824
    · by_cases h3 : 999 ≤ s.u.length
      · have E := Lib.hid (show Lnk.sendE s now n = 7 by unfold Lnk.sendE; rw [if_neg C2, if_neg (by simpa using h2), if_pos h3])
        clear he
        go_enter Tryz.func130, Tryz.ntmps130
        go_wp2_with (first | (refine N.out.mono ?_; rintro e w' ⟨rfl, rfl⟩) | (refine (lwithin_yes _ _ _ _ Cb).mono ?_; rintro e w' ⟨rfl, rfl⟩))
        go_ret
        exact ⟨ret_int E.out.symm, rfl⟩
      · exact absurd (by unfold Lnk.sendE; rw [if_neg C2, if_neg (by simpa using h2), if_neg h3]) he
    · have E := Lib.hid (show Lnk.sendE s now n = 3 by unfold Lnk.sendE; rw [if_neg C2, if_pos h2])
      clear he
      go_enter Tryz.func130, Tryz.ntmps130
      go_wp2_with (first | (refine N.out.mono ?_; rintro e w' ⟨rfl, rfl⟩) | (refine (lwithin_yes _ _ _ _ Cb).mono ?_; rintro e w' ⟨rfl, rfl⟩) | (refine (lwithin_no _ _ _ _ Cb).mono ?_; rintro e w' ⟨rfl, rfl⟩))
      go_ret
      exact ⟨ret_int E.out.symm, rfl⟩
  · have E := Lib.hid (show Lnk.sendE s now n = 2 by unfold Lnk.sendE; rw [if_pos h1])
    clear he
    go_enter Tryz.func130, Tryz.ntmps130
    go_wp2_with (first | (refine N.out.mono ?_; rintro e w' ⟨rfl, rfl⟩) | (refine (lwithin_no _ _ _ _ Cb).mono ?_; rintro e w' ⟨rfl, rfl⟩))
    go_ret
    exact ⟨ret_int E.out.symm, rfl⟩
theorem send_yes (base b c : Nat) (A : Option Addr) (r : Lnk.Ru) (s : Lnk.St) (now : Int) (D : Option Addr) (n cap : Nat) (d : List Int) (w : World) (h : IsLk w base b A c r s) (hr : Lnk.vld r = true) (hs : Lnk.Inv s) (hsent : s.sent < 1000000000000000) (hbase : base ≤ w.heap.size)
    (hd : Rd w w.heap.size D n d) (hD : ∀ a, D = some a → ¬ Two b A a.block) (he : Lnk.sendE s now n = 0) :
    Calls Tryz.prog 130 #[.pointer (some ⟨b, 0, none⟩), .int .i64 now, .slice D n cap] w (SendPost base b A r (Lnk.send r s now d) 0 w) := by
  have hdl := hd.1
  have h1 : 1 ≤ n ∧ n ≤ 128 := by
    by_cases h1 : 1 ≤ n ∧ n ≤ 128
    · exact h1
    · unfold Lnk.sendE at he; rw [if_pos h1] at he; omega
  have h2 : s.now ≤ now ∧ now ≤ 1073741824 := by
    by_cases h2 : s.now ≤ now ∧ now ≤ 1073741824
    · exact h2
    · unfold Lnk.sendE at he; rw [if_neg C2, if_pos h2] at he; omega
  have h3 : s.u.length < 999 := by
    rcases Nat.lt_or_ge s.u.length 999 with h3 | h3
    · exact h3
    · unfold Lnk.sendE at he; rw [if_neg C2, if_neg (by simpa using h2), if_pos h3] at he; omega
  have N := Lib.hid (none_made b _ w h.blk rfl)
  have c7 : w.cell? ⟨b, 7, none⟩ = some (.int .i64 s.now) := blk_cell h.blk 7 rfl
  have f7 := blk_free h.blk 7
  have c8 : w.cell? ⟨b, 8, none⟩ = some (.slice A s.u.length c) := blk_cell h.blk 8 rfl
  have c9 : w.cell? ⟨b, 9, none⟩ = some (.int .i64 s.sent) := blk_cell h.blk 9 rfl
  have f9 := blk_free h.blk 9
  have HL := Lib.hid h
  have HR := Lib.hid hr
  have HS := Lib.hid hs
  have HD := Lib.hid hd
  have HDN := Lib.hid hD
  have HE := Lib.hid (show Lnk.sendE s now d.length = 0 by rw [hdl]; exact he)
  obtain ⟨_, ⟨n1, n2⟩, _, _, ⟨s1, s2⟩, ⟨l1, l2⟩, d1, d2⟩ := hs
  rw [Lnk.vld_iff] at hr
  obtain ⟨⟨r1, r2⟩, ⟨r3, r4⟩, _⟩ := hr
  clear h hd hD he hdl
  go_enter Tryz.func130, Tryz.ntmps130
  go_wp2_with (first | (refine N.out.mono ?_; rintro e w' ⟨rfl, rfl⟩) | (refine (lwithin_yes _ _ _ _ Cb).mono ?_; rintro e w' ⟨rfl, rfl⟩))
  obtain ⟨W1, hW1⟩ : ∃ W : World, W = (w.setCell ⟨b, 7, none⟩ (.int .i64 now)).setCell ⟨b, 9, none⟩ (.int .i64 (s.sent + 1)) := ⟨_, rfl⟩
  rw [← hW1]
  have hL1 : IsLk W1 base b A c r { s with now := now, sent := s.sent + 1 } := by rw [hW1]; exact (HL.out.set7 now).set9 (s.sent + 1)
  have hK1 : Keeps (Two b A) w W1 := by rw [hW1]; exact Ad
  have hz1 := hK1.size
  have HL1 := Lib.hid hL1
  have HK1 := Lib.hid hK1
  have k1 : W1.cell? ⟨b, 1, none⟩ = some (.int .i64 r.loss) := blk_cell hL1.blk 1 rfl
  clear hW1 hL1 hK1 c7 f7 c8 c9 f9
  have hDR := Lib.hid (fun (W : World) (hW : IsLk W base b A c r { s with now := now, sent := s.sent + 1 }) => draw_k base b c A r { s with now := now, sent := s.sent + 1 } 1000 W hW Cb Cb)
  obtain ⟨v, hv⟩ : ∃ v, v = Lnk.dr s.x % 1000 := ⟨_, rfl⟩
  simp only [← hv] at hDR
  have HV := Lib.hid hv
  clear hv
  by_cases hlost : v < r.loss
  · have HLO := Lib.hid (show Lnk.sendL r s = true by unfold Lnk.sendL; rw [← HV.out]; exact decide_eq_true hlost)
    go_region_held3 (fun w' => w'.cell? ⟨b, 1, none⟩ = some (.int .i64 r.loss)) (first | (simp [go_sem, *]; done) | go_keep) (first | (go_at_call 152; refine (hDR.out _ (by first | exact HL1.out | exact HL1.out.drew)).mono ?_; rintro e w2 ⟨rfl, hL2, hK2⟩; have k2 : w2.cell? ⟨b, 1, none⟩ = some (.int .i64 r.loss) := blk_cell hL2.blk 1 rfl; have HL2 := Lib.hid hL2; have HK2 := Lib.hid (show Keeps (Two b A) W1 w2 from ⟨hK2.os, hK2.tape, hK2.output, hK2.size, hK2.block⟩); clear hL2 hK2))
    have c10 : w2.cell? ⟨b, 10, none⟩ = some (.int .i64 s.lost) := blk_cell HL2.out.blk 10 rfl
    have f10 := blk_free HL2.out.blk 10
    go_wp2_with fail
    go_ret
    refine ⟨rfl, LkTo.same (c := c) ?_ ?_⟩
    · have e : Lnk.send r s now d = { s with now := now, sent := s.sent + 1, x := Lnk.nx s.x, lost := s.lost + 1 } := by
        unfold Lnk.send
        rw [if_pos HE.out, if_pos HLO.out]
        rfl
      rw [e]
      exact HL2.out.set10 (s.lost + 1)
    · exact (HK1.out.trans HK2.out (fun _ _ h => h)).setCell (.inl (Or.inl rfl)) _
  · have HLO := Lib.hid (show Lnk.sendL r s = false by unfold Lnk.sendL; rw [← HV.out]; exact decide_eq_false hlost)
    have HI2 := Lib.hid (Lnk.inv_send0 HS.out h2 hsent)
    have HI3 := Lib.hid (show Lnk.Inv (Lnk.send1 r s now d) from Lnk.inv_put HR.out HI2.out HD.out.2.1 (by rw [HD.out.1]; exact h1.2) (show s.u.length < 1000 by omega))
    go_region_held3 (fun w' => w'.cell? ⟨b, 1, none⟩ = some (.int .i64 r.loss)) (first | (simp [go_sem, *]; done) | go_keep) (first | (go_at_call 152; refine (hDR.out _ (by first | exact HL1.out | exact HL1.out.drew)).mono ?_; rintro e w2 ⟨rfl, hL2, hK2⟩; have k2 : w2.cell? ⟨b, 1, none⟩ = some (.int .i64 r.loss) := blk_cell hL2.blk 1 rfl; have HL2 := Lib.hid hL2; have HK2 := Lib.hid (show Keeps (Two b A) W1 w2 from ⟨hK2.os, hK2.tape, hK2.output, hK2.size, hK2.block⟩); clear hL2 hK2))
    have HKA := Lib.hid (HK1.out.trans HK2.out (fun _ _ h => h))
    have hzA := HKA.out.size
    have cv := str_of (HD.out.kept HKA.out (Nat.le_refl _) HDN.out) cap
    have hL2' : IsLk w2 base b A c r (Lnk.send0 s now) := HL2.out
    have HP := Lib.hid (lkput_any base b c A r (Lnk.send0 s now) d w2 hL2' HR.out HI2.out (show s.u.length < 1000 by omega) Cb)
    clear hL2' k1 k2 HL1 HK1 HK2 HL2 hDR
    go_wp2_with (go_at_call 153; refine HP.out.mono ?_; rintro e w3 ⟨rfl, A3, c3, hL3, hK3, hat3⟩)
    clear cv
    obtain ⟨s3, hs3⟩ : ∃ s3, s3 = Lnk.send1 r s now d := ⟨_, rfl⟩
    have hL3' : IsLk w3 base b A3 c3 r s3 := by rw [hs3]; exact hL3
    have hz3 := hK3.size
    have hu3 : s3.u.length = s.u.length + 1 := by rw [hs3]; simp [Lnk.send1, Lnk.put, Lnk.send0]
    have hd3 : s3.dbl = s.dbl ∧ s3.sent = s.sent + 1 := by rw [hs3]; exact ⟨rfl, rfl⟩
    have hI3 : Lnk.Inv s3 := by rw [hs3]; exact HI3.out
    have HS3 := Lib.hid (show Lnk.send r s now d = if Lnk.sendT r s3 then Lnk.send2 r s3 d else { s3 with x := Lnk.nx s3.x } by
      unfold Lnk.send
      rw [if_pos HE.out, if_neg (by rw [HLO.out]; simp), hs3])
    clear hs3
    have HL3 := Lib.hid hL3'
    have HK3 := Lib.hid (HKA.out.trans hK3 (fun _ _ h => h))
    have hat3 : blkOf A3 = blkOf A ∨ ∃ g, blkOf A3 = some g ∧ w.heap.size ≤ g := hat3.imp id (fun ⟨g, h, hg⟩ => ⟨g, h, by omega⟩)
    have HAT3 := Lib.hid hat3
    have HTW := Lib.hid (two_new (b := b) hat3)
    have HI3' := Lib.hid hI3
    have HU3 := Lib.hid hu3
    have HD3 := Lib.hid hd3
    clear hL3 hL3' hK3 hat3 HP HI2 hI3 hu3 hd3
    have k2 : w3.cell? ⟨b, 2, none⟩ = some (.int .i64 r.twice) := blk_cell HL3.out.blk 2 rfl
    have hDR := Lib.hid (fun (W : World) (hW : IsLk W base b A3 c3 r s3) => draw_k base b c3 A3 r s3 1000 W hW Cb Cb)
    obtain ⟨v3, hv3⟩ : ∃ v, v = Lnk.dr s3.x % 1000 := ⟨_, rfl⟩
    simp only [← hv3] at hDR
    have HV3 := Lib.hid hv3
    clear hv3
    by_cases htw : v3 < r.twice
    · have HTT := Lib.hid (show Lnk.sendT r s3 = true by unfold Lnk.sendT; rw [← HV3.out]; exact decide_eq_true htw)
      go_region_held3 (fun w' => w'.cell? ⟨b, 2, none⟩ = some (.int .i64 r.twice)) (first | (simp [go_sem, *]; done) | go_keep) (first | (go_at_call 152; refine (hDR.out _ (by first | exact HL3.out | exact HL3.out.drew)).mono ?_; rintro e w4 ⟨rfl, hL4, hK4⟩; have k3 : w4.cell? ⟨b, 2, none⟩ = some (.int .i64 r.twice) := blk_cell hL4.blk 2 rfl; have HL4 := Lib.hid hL4; have HK4 := Lib.hid (show Keeps (Two b A3) w3 w4 from ⟨hK4.os, hK4.tape, hK4.output, hK4.size, hK4.block⟩); clear hL4 hK4))
      have c11 : w4.cell? ⟨b, 11, none⟩ = some (.int .i64 s3.dbl) := blk_cell HL4.out.blk 11 rfl
      have f11 := blk_free HL4.out.blk 11
      have HKB := Lib.hid (HK3.out.trans (S' := Two b A3) HK4.out HTW.out)
      have hdb : 0 ≤ s3.dbl ∧ s3.dbl ≤ 1000000000000000 := by have := HI3'.out; obtain ⟨_, _, _, _, a, b', c'⟩ := this; omega
      have HL5 := Lib.hid (HL4.out.set11 (s3.dbl + 1))
      have HKC := Lib.hid (HKB.out.setCell (p := ⟨b, 11, none⟩) (.inl (Or.inl rfl)) (.int .i64 (s3.dbl + 1)))
      have hzC := HKC.out.size
      have cv5 := str_of (HD.out.kept HKC.out (Nat.le_refl _) HDN.out) cap
      have HI5 := Lib.hid (show Lnk.Inv { s3 with x := Lnk.nx s3.x, dbl := s3.dbl + 1 } from by
        obtain ⟨a1, a2, a3, a4, a5, a6, a7⟩ := HI3'.out
        obtain ⟨e1, e2⟩ := HD3.out
        exact ⟨Lnk.nx_bd _, a2, a3, a4, a5, a6, by constructor <;> simp only <;> omega⟩)
      have HP := Lib.hid (fun (W : World) (hW : IsLk W base b A3 c3 r { s3 with x := Lnk.nx s3.x, dbl := s3.dbl + 1 }) (hzW : base ≤ W.heap.size) => lkput_any base b c3 A3 r { s3 with x := Lnk.nx s3.x, dbl := s3.dbl + 1 } d W hW HR.out HI5.out (show s3.u.length < 1000 by rw [HU3.out]; omega) hzW)
      go_wp2_with (go_at_call 153; refine (HP.out _ HL5.out Cb).mono ?_; rintro e w6 ⟨rfl, A6, c6, hL6, hK6, hat6⟩)
      go_ret
      refine ⟨rfl, A6, c6, ?_, HKC.out.trans hK6 HTW.out, new_new HAT3.out hat6 Cb⟩
      rw [HS3.out, if_pos HTT.out]
      exact hL6
    · have HTT := Lib.hid (show Lnk.sendT r s3 = false by unfold Lnk.sendT; rw [← HV3.out]; exact decide_eq_false htw)
      go_region_held3 (fun w' => w'.cell? ⟨b, 2, none⟩ = some (.int .i64 r.twice)) (first | (simp [go_sem, *]; done) | go_keep) (first | (go_at_call 152; refine (hDR.out _ (by first | exact HL3.out | exact HL3.out.drew)).mono ?_; rintro e w4 ⟨rfl, hL4, hK4⟩; have k3 : w4.cell? ⟨b, 2, none⟩ = some (.int .i64 r.twice) := blk_cell hL4.blk 2 rfl; have HL4 := Lib.hid hL4; have HK4 := Lib.hid (show Keeps (Two b A3) w3 w4 from ⟨hK4.os, hK4.tape, hK4.output, hK4.size, hK4.block⟩); clear hL4 hK4))
      go_wp2_with fail
      go_ret
      refine ⟨rfl, A3, c3, ?_, HK3.out.trans (S' := Two b A3) HK4.out HTW.out, HAT3.out.imp id (fun ⟨g, h, hg⟩ => ⟨g, h, by omega⟩)⟩
      rw [HS3.out, if_neg (by rw [HTT.out]; simp)]
      exact HL4.out
end Go.Proofs.YtdocdgcdldpagaaGreat
namespace Go.Proofs.YtdocdgcdldpagaaGreat
open Go.RowKit
set_option linter.unusedSimpArgs false
set_option linter.unusedVariables false
set_option maxRecDepth 100000
def Rds (w : World) (B size : Nat) (A : Option Addr) (n : Nat) (xs : List Value) : Prop :=
  xs.length = n * size ∧ (0 < n → ∃ b o, A = some ⟨b, o, none⟩ ∧ b < B ∧ ∀ j u, xs[j]? = some u → w.cell? ⟨b, o + j, none⟩ = some u)
section
variable {w w' : World} {B B' size n : Nat} {A : Option Addr} {xs : List Value}
theorem Rds.nil (w : World) (B size : Nat) (A : Option Addr) : Rds w B size A 0 [] := ⟨by simp, fun h => absurd h Cb⟩
theorem Rds.keep {S : Nat → Prop} (h : Rds w B size A n xs) (k : Keeps S w w') (hB : B ≤ w.heap.size) (hS : ∀ a, A = some a → ¬ S a.block) : Rds w' B size A n xs :=
  ⟨h.1, fun hn => by
    obtain ⟨b, o, e, hb, hc⟩ := h.2 hn
    exact ⟨b, o, e, hb, fun j u hu => (World.cell?_of_block (k.block b Cb (hS _ e))).trans (hc j u hu)⟩⟩
theorem Rds.below (h : Rds w B size A n xs) (k : Below B' w w') (hB : B ≤ B') : Rds w' B size A n xs :=
  ⟨h.1, fun hn => by
    obtain ⟨b, o, e, hb, hc⟩ := h.2 hn
    exact ⟨b, o, e, hb, fun j u hu => (World.cell?_of_block (k.block b Cb)).trans (hc j u hu)⟩⟩
theorem Rds.more (h : Rds w B size A n xs) (hB : B ≤ B') : Rds w B' size A n xs :=
  ⟨h.1, fun hn => by
    obtain ⟨b, o, e, hb, hc⟩ := h.2 hn
    exact ⟨b, o, e, by omega, hc⟩⟩
theorem Rds.drew (h : Rds w B size A n xs) : Rds w.drew B size A n xs := h
theorem Rds.drewN (h : Rds w B size A n xs) (k : Nat) : Rds (w.drewN k) B size A n xs := h
theorem Rds.alloc (h : Rds w B size A n xs) (hB : B ≤ w.heap.size) (o : Obj) : Rds (w.alloc o) B size A n xs := h.below ((Below.refl _ _).alloc (Nat.le_refl _) o) hB
theorem Rds.reads (h : Rds w B size A n xs) : Reads w B size A n xs :=
  ⟨h.1, fun hn => by
    obtain ⟨b, o, e, hb, hc⟩ := h.2 hn
    exact ⟨_, e, hb, fun j u hu => by rw [addr_add]; exact hc j u hu⟩⟩
theorem Rds.of_row {base : Nat} {e : TypeId} {c : Nat} (h : Row w base e size A n c xs) : Rds w w.heap.size size A n xs :=
  ⟨h.1, fun hn => by
    obtain ⟨g, o, cur, rfl, _, hlt, _, _, _, _, _, hc, _⟩ := h.some_ hn
    exact ⟨g, o, rfl, hlt, hc⟩⟩
theorem Rds.of_own {base : Nat} {e : TypeId} {c : Nat} (h : w.ownsRow base e size (.slice A n c) n xs) : Rds w w.heap.size size A n xs := by
  refine ⟨h.1, fun hn => ?_⟩
  obtain ⟨g, cap, hv, _, hlt⟩ := h.form hn
  have hA : A = some ⟨g, 0, none⟩ := by injection hv
  subst hA
  exact ⟨g, 0, rfl, hlt, fun j u hu => by rw [← addr_add]; exact h.cells (g := g) rfl j u hu⟩
theorem Rds.cut (h : Rds w B size A n xs) {k cap : Nat} (hk : k ≤ n) (hc : n ≤ cap) : Rds w B size (if cap = k then A else A.map (·.add (k * size))) (n - k) (xs.drop (k * size)) := by
  refine ⟨by rw [List.length_drop, h.1, Nat.sub_mul], fun hn => ?_⟩
  obtain ⟨b, o, rfl, hb, hcell⟩ := h.2 Cb
  rw [if_neg Cb]
  refine ⟨b, o + k * size, by simp [addr_add], hb, fun j u hu => ?_⟩
  rw [Nat.add_assoc]
  exact hcell _ u (by rw [← hu, List.getElem?_drop])
theorem Rds.take (h : Rds w B size A n xs) {k : Nat} (hk : k ≤ n) : Rds w B size A k (xs.take (k * size)) := by
  have : k * size ≤ n * size := Nat.mul_le_mul_right _ hk
  refine ⟨by rw [List.length_take, h.1]; omega, fun hn => ?_⟩
  obtain ⟨b, o, rfl, hb, hcell⟩ := h.2 Cb
  refine ⟨b, o, rfl, hb, fun j u hu => hcell j u ?_⟩
  rw [List.getElem?_take] at hu
  split at hu
  · exact hu
  · cases hu
end
structure LRB where
  A : Option Addr
  c : Nat
  d : List Int
def rbc (x : LRB) : Value := .slice x.A x.d.length x.c
def rbcs (l : List LRB) : List Value := l.map rbc
def BGood (w : World) (lo B : Nat) (l : List LRB) : Prop := ∀ x ∈ l, Rd w B x.A x.d.length x.d ∧ (∀ a, x.A = some a → lo ≤ a.block) ∧ x.d.length ≤ x.c ∧ x.c ≤ maxLen ∧ (x.A = none → x.d.length = 0)
def Rb (w : World) (lo B : Nat) (A : Option Addr) (n : Nat) (l : List (List Int)) : Prop := ∃ rl : List LRB, rl.map (·.d) = l ∧ Rds w B 1 A n (rbcs rl) ∧ BGood w lo B rl ∧ (∀ a, A = some a → 0 < n → lo ≤ a.block)
section
variable {w w' : World} {lo B B' n : Nat} {A : Option Addr} {l : List (List Int)} {rl : List LRB}
theorem BGood.keep {S : Nat → Prop} (h : BGood w lo B rl) (k : Keeps S w w') (hB : B ≤ w.heap.size) (hS : ∀ i, lo ≤ i → i < B → ¬ S i) : BGood w' lo B rl := fun x hx => by
  obtain ⟨h1, h2, h3⟩ := h x hx
  refine ⟨⟨h1.1, h1.2.1, fun hn => ?_⟩, h2, h3⟩
  obtain ⟨b, o, e, hb, hc⟩ := h1.2.2 hn
  exact ⟨b, o, e, hb, fun i hi => (World.cell?_of_block (k.block b Cb (hS b (h2 _ e) hb))).trans (hc i hi)⟩
theorem BGood.kept {S : Nat → Prop} (h : BGood w lo B rl) (k : Keeps S w w') (hB : B ≤ w.heap.size) (hS : ∀ x ∈ rl, ∀ a, x.A = some a → ¬ S a.block) : BGood w' lo B rl := fun x hx => by
  obtain ⟨h1, h2, h3⟩ := h x hx
  refine ⟨⟨h1.1, h1.2.1, fun hn => ?_⟩, h2, h3⟩
  obtain ⟨b, o, e, hb, hc⟩ := h1.2.2 hn
  exact ⟨b, o, e, hb, fun i hi => (World.cell?_of_block (k.block b Cb (hS x hx _ e))).trans (hc i hi)⟩
theorem BGood.more (h : BGood w lo B rl) (hB : B ≤ B') : BGood w lo B' rl := fun x hx => ⟨(h x hx).1.more hB, (h x hx).2⟩
theorem BGood.below (h : BGood w lo B rl) (k : Below B' w w') (hB : B ≤ B') : BGood w' lo B rl := fun x hx => ⟨(h x hx).1.below k hB, (h x hx).2⟩
theorem BGood.nil (w : World) (lo B : Nat) : BGood w lo B [] := fun x hx => by cases hx
theorem BGood.snoc {x : LRB} (h : BGood w lo B rl) (hx : Rd w B x.A x.d.length x.d ∧ (∀ a, x.A = some a → lo ≤ a.block) ∧ x.d.length ≤ x.c ∧ x.c ≤ maxLen ∧ (x.A = none → x.d.length = 0)) : BGood w lo B (rl ++ [x]) := fun y hy => by
  rcases List.mem_append.1 hy with hy | hy
  · exact h y hy
  · rw [List.mem_singleton.1 hy]; exact hx
theorem rbcs_one (rl : List LRB) : ∀ v ∈ rbcs rl, v.oneCell' = true := by
  intro v hv
  simp only [rbcs, List.mem_map] at hv
  obtain ⟨x, _, rfl⟩ := hv
  rfl
theorem length_rbcs (rl : List LRB) : (rbcs rl).length = rl.length := by simp [rbcs]
theorem rbcs_snoc (rl : List LRB) (x : LRB) : rbcs (rl ++ [x]) = rbcs rl ++ [rbc x] := by simp [rbcs]
theorem Rb.below (h : Rb w lo B A n l) (k : Below B' w w') (hB : B ≤ B') : Rb w' lo B A n l := by
  obtain ⟨rl, h1, h2, h3, h4⟩ := h
  exact ⟨rl, h1, h2.below k hB, h3.below k hB, h4⟩
theorem Rb.more (h : Rb w lo B A n l) (hB : B ≤ B') : Rb w lo B' A n l := by
  obtain ⟨rl, h1, h2, h3, h4⟩ := h
  exact ⟨rl, h1, h2.more hB, h3.more hB, h4⟩
theorem Rb.len (h : Rb w lo B A n l) : l.length = n := by
  obtain ⟨rl, h1, h2, h3, _⟩ := h
  have := h2.1
  rw [length_rbcs] at this
  rw [← h1, List.length_map]; omega
theorem Rb.nil (w : World) (lo B : Nat) (A : Option Addr) : Rb w lo B A 0 [] := ⟨[], rfl, ⟨rfl, fun h => absurd h Cb⟩, BGood.nil w lo B, fun _ _ h => absurd h Cb⟩
theorem Rb.keep {S : Nat → Prop} (h : Rb w lo B A n l) (k : Keeps S w w') (hB : B ≤ w.heap.size) (hS : ∀ i, lo ≤ i → ¬ S i) : Rb w' lo B A n l := by
  obtain ⟨rl, h1, h2, h3, h4⟩ := h
  refine ⟨rl, h1, ⟨h2.1, fun hn => ?_⟩, h3.keep k hB (fun i hi _ => hS i hi), h4⟩
  obtain ⟨b, o, e, hb, hc⟩ := h2.2 hn
  exact ⟨b, o, e, hb, fun j u hu => (World.cell?_of_block (k.block b Cb (hS _ (h4 _ e hn)))).trans (hc j u hu)⟩
theorem Rb.at_ (h : Rb w lo B A n l) {j : Nat} (hj : j < n) : ∃ b o A' c', A = some ⟨b, o, none⟩ ∧ b < B ∧ w.cell? ⟨b, o + j, none⟩ = some (.slice A' (l.getD j []).length c') ∧ Rd w B A' (l.getD j []).length (l.getD j []) ∧ (l.getD j []).length ≤ c' ∧ c' ≤ maxLen ∧ (A' = none → (l.getD j []).length = 0) ∧ (∀ a, A' = some a → lo ≤ a.block) := by
  obtain ⟨rl, h1, h2, h3, _⟩ := h
  have hlen := h2.1
  rw [length_rbcs, Nat.mul_one] at hlen
  obtain ⟨b, o, rfl, hb, hc⟩ := h2.2 Cb
  have hx : rl[j]? = some rl[j] := List.getElem?_eq_getElem Cb
  have hl : l.getD j [] = rl[j].d := by rw [← h1]; simp [List.getD, hx]
  obtain ⟨g1, g2, g3, g4, g5⟩ := h3 rl[j] (List.getElem_mem _)
  refine ⟨b, o, rl[j].A, rl[j].c, rfl, hb, ?_, ?_, ?_, g4, ?_, g2⟩
  · rw [hl, hc j (rbc rl[j]) (by rw [rbcs, List.getElem?_map, hx]; rfl)]; rfl
  · rw [hl]; exact g1
  · rw [hl]; exact g3
  · rw [hl]; exact g5
end
theorem conv_bytes (d : List Int) (hd : By d) (w : World) (hl : d.length ≤ 1000000) : ∃ w' c, (convert 9 47 (.string (strOfNums d))).run Tryz.prog w = .ok (.slice (some ⟨w.heap.size, 0, none⟩) d.length c) w' ∧
    Rd w' (w.heap.size + 1) (some ⟨w.heap.size, 0, none⟩) d.length d ∧ Below w.heap.size w w' ∧ w'.heap.size = w.heap.size + 1 ∧ d.length ≤ c ∧ c ≤ maxLen := by
  have hs : (strOfNums d).size = d.length := by
    show (strOfNums d).data.size = _
    rw [← Array.length_toList, strOfNums_data]; simp
  have hr := Lib.run_convert_string_bytes (P := Tryz.prog) w 9 47 5 (strOfNums d) Tryz.underlying9 Tryz.underlying47 Tryz.underlying5
  rw [hs] at hr
  refine ⟨_, _, hr, ⟨rfl, hd, fun hn => ⟨_, 0, rfl, by omega, fun i hi => ?_⟩⟩, ?_, Lib.bytesWorld_size _ _ _, grownCap_ge _ _ _ _, grownCap_le_maxLen _ _ _ _ Bv⟩
  · rw [Nat.zero_add, Lib.bytesWorld_cell _ _ _ _ Cb]
    have h0 := hd.at_ i
    have : (strOfNums d).data.toList.getD i 0 = UInt8.ofNat (d.getD i 0).toNat := by
      rw [strOfNums_data]
      simp [List.getD, List.getElem?_map, List.getElem?_eq_getElem hi]
    rw [this]
    clear this
    generalize d.getD i 0 = x at h0 ⊢
    congr 2
    simp
    omega
  · refine ⟨rfl, rfl, rfl, ?_, fun j hj => Lib.bytesWorld_at_old _ _ _ j hj⟩
    rw [Lib.bytesWorld_size]; omega
end Go.Proofs.YtdocdgcdldpagaaGreat

/- Send. -/
import Derived.Test.YtgdpoiapkaahfaaLkB
import Derived.Test.YtgdpoiapkaahfaaSame
import Derived.Test.YtgdpoiapkaahfaaLinkQ
namespace Go.Proofs.Ytgdpoiapkaahfaa
open Go.RowKit
set_option maxHeartbeats 8000000
set_option maxRecDepth 100000
set_option linter.unusedSimpArgs false
set_option linter.unusedVariables false
attribute [local go_sem ↓] Go.wp_at_zero Go.wp_at_succ
/-- the link is s' now, and only its blocks have turned -/
def LkTo (base b : Nat) (A : Option Addr) (r : Lnk.Ru) (s' : Lnk.St) (w w' : World) : Prop :=
  ∃ A' c', IsLk w' base b A' c' r s' ∧ Keeps (Two b A) w w' ∧ (blkOf A' = blkOf A ∨ ∃ g, blkOf A' = some g ∧ w.heap.size ≤ g)
def SendPost (base b : Nat) (A : Option Addr) (r : Lnk.Ru) (s' : Lnk.St) (x : Int) (w : World) (e : Ending) (w' : World) : Prop := e = .returned (.int .i64 x) ∧ LkTo base b A r s' w w'
theorem IsLk.set7 {w : World} {base b c : Nat} {A : Option Addr} {r : Lnk.Ru} {s : Lnk.St} (h : IsLk w base b A c r s) (x : Int) : IsLk (w.setCell ⟨b, 7, none⟩ (.int .i64 x)) base b A c r { s with now := x } := by
  refine ⟨?_, h.row.far (fun g hg => h.ne hg) _, h.ge⟩
  have := blk_set h.blk 7 (.int .i64 x)
  rw [List.setIfInBounds_toArray] at this
  exact this
theorem IsLk.set9 {w : World} {base b c : Nat} {A : Option Addr} {r : Lnk.Ru} {s : Lnk.St} (h : IsLk w base b A c r s) (x : Int) : IsLk (w.setCell ⟨b, 9, none⟩ (.int .i64 x)) base b A c r { s with sent := x } := by
  refine ⟨?_, h.row.far (fun g hg => h.ne hg) _, h.ge⟩
  have := blk_set h.blk 9 (.int .i64 x)
  rw [List.setIfInBounds_toArray] at this
  exact this
theorem IsLk.set10 {w : World} {base b c : Nat} {A : Option Addr} {r : Lnk.Ru} {s : Lnk.St} (h : IsLk w base b A c r s) (x : Int) : IsLk (w.setCell ⟨b, 10, none⟩ (.int .i64 x)) base b A c r { s with lost := x } := by
  refine ⟨?_, h.row.far (fun g hg => h.ne hg) _, h.ge⟩
  have := blk_set h.blk 10 (.int .i64 x)
  rw [List.setIfInBounds_toArray] at this
  exact this
theorem IsLk.set11 {w : World} {base b c : Nat} {A : Option Addr} {r : Lnk.Ru} {s : Lnk.St} (h : IsLk w base b A c r s) (x : Int) : IsLk (w.setCell ⟨b, 11, none⟩ (.int .i64 x)) base b A c r { s with dbl := x } := by
  refine ⟨?_, h.row.far (fun g hg => h.ne hg) _, h.ge⟩
  have := blk_set h.blk 11 (.int .i64 x)
  rw [List.setIfInBounds_toArray] at this
  exact this
theorem draw_k (base b c : Nat) (A : Option Addr) (r : Lnk.Ru) (s : Lnk.St) (lim : Int) (w : World) (h : IsLk w base b A c r s) (hl : 0 < lim) (hl2 : lim ≤ 1000000) :
    Calls Try.prog 38 #[.pointer (some ⟨b, 0, none⟩), .int .i64 lim] w fun e w' => e = .returned (.int .i64 (Lnk.dr s.x % lim)) ∧ IsLk w' base b A c r { s with x := Lnk.nx s.x } ∧ Keeps (Two b A) w w' := by
  refine (draw_lk base b c A r s lim w h hl hl2).mono ?_
  rintro e w' ⟨rfl, rfl, h2⟩
  exact ⟨rfl, h2, (by repeat (first | (with_reducible exact Keeps.refl _ _) | (with_reducible assumption) | (with_reducible refine Keeps.drew ?_) | (with_reducible refine Keeps.drewN ?_ _) | (with_reducible refine Keeps.alloc ?_ _) | ((with_reducible refine Keeps.setCell ?_ ?_ _); rotate_left; (first | (left; exact Or.inl rfl) | (right; (first | omega | (simp <;> omega)))); rotate_right)))⟩
theorem LkTo.same {base b c : Nat} {A : Option Addr} {r : Lnk.Ru} {s : Lnk.St} {w w' : World} (h : IsLk w' base b A c r s) (k : Keeps (Two b A) w w') : LkTo base b A r s w w' := ⟨A, c, h, k, .inl rfl⟩
theorem two_new {b : Nat} {A A' : Option Addr} {n : Nat} (h : blkOf A' = blkOf A ∨ ∃ g, blkOf A' = some g ∧ n ≤ g) : ∀ i, i < n → Two b A' i → Two b A i := by
  rintro i hi (rfl | hi')
  · exact .inl rfl
  · rcases h with h | ⟨g, h, hg⟩
    · exact .inr (by rw [← h]; exact hi')
    · rw [h] at hi'
      injection hi' with hi'
      omega
theorem new_new {A A1 A2 : Option Addr} {n n1 : Nat} (h1 : blkOf A1 = blkOf A ∨ ∃ g, blkOf A1 = some g ∧ n ≤ g) (h2 : blkOf A2 = blkOf A1 ∨ ∃ g, blkOf A2 = some g ∧ n1 ≤ g) (hn : n ≤ n1) : blkOf A2 = blkOf A ∨ ∃ g, blkOf A2 = some g ∧ n ≤ g := by
  rcases h2 with h2 | ⟨g, h2, hg⟩
  · rw [h2]; exact h1
  · exact .inr ⟨g, h2, by omega⟩
theorem LkTo.trans {base b : Nat} {A A1 : Option Addr} {r r' : Lnk.Ru} {s2 : Lnk.St} {w w1 w2 : World} (k : Keeps (Two b A) w w1) (hat : blkOf A1 = blkOf A ∨ ∃ g, blkOf A1 = some g ∧ w.heap.size ≤ g) (h : LkTo base b A1 r s2 w1 w2) : LkTo base b A r s2 w w2 := by
  obtain ⟨A2, c2, h2, k2, hat2⟩ := h
  exact ⟨A2, c2, h2, k.trans k2 (two_new hat), new_new hat hat2 k.size⟩
theorem Rd.kept {S : Nat → Prop} {w w' : World} {B : Nat} {A : Option Addr} {n : Nat} {l : List Int} (h : Rd w B A n l) (k : Keeps S w w') (hB : B ≤ w.heap.size) (hS : ∀ a, A = some a → ¬ S a.block) : Rd w' B A n l :=
  ⟨h.1, h.2.1, fun hn => by
    obtain ⟨b, o, e, hb, hc⟩ := h.2.2 hn
    exact ⟨b, o, e, hb, fun i hi => (World.cell?_of_block (k.block b (by omega) (hS _ e))).trans (hc i hi)⟩⟩
theorem send_no (base b c : Nat) (A : Option Addr) (r : Lnk.Ru) (s : Lnk.St) (now : Int) (D : Option Addr) (n cap : Nat) (w : World) (h : IsLk w base b A c r s) (hn : n ≤ 140737488355328) (he : Lnk.sendE s now n ≠ 0) :
    Calls Try.prog 16 #[.pointer (some ⟨b, 0, none⟩), .int .i64 now, .slice D n cap] w fun e w' => e = .returned (.int .i64 (Lnk.sendE s now n)) ∧ w = w' := by
  have N := Lib.hid (none_made b _ w h.blk rfl)
  have c7 : w.cell? ⟨b, 7, none⟩ = some (.int .i64 s.now) := blk_cell h.blk 7 rfl
  have c8 : w.cell? ⟨b, 8, none⟩ = some (.slice A s.u.length c) := blk_cell h.blk 8 rfl
  clear h
  by_cases h1 : 1 ≤ n ∧ n ≤ 128
  · by_cases h2 : s.now ≤ now ∧ now ≤ 1073741824
    · by_cases h3 : 999 ≤ s.u.length
      · have E := Lib.hid (show Lnk.sendE s now n = 7 by unfold Lnk.sendE; rw [if_neg (by simpa using h1), if_neg (by simpa using h2), if_pos h3])
        clear he
        go_enter Try.func16, Try.ntmps16
        go_wp2_with (first | (refine N.out.mono ?_; rintro e w' ⟨rfl, rfl⟩) | (refine (lwithin_yes _ _ _ _ (by omega)).mono ?_; rintro e w' ⟨rfl, rfl⟩))
        go_ret
        exact ⟨ret_int E.out.symm, rfl⟩
      · exact absurd (by unfold Lnk.sendE; rw [if_neg (by simpa using h1), if_neg (by simpa using h2), if_neg h3]) he
    · have E := Lib.hid (show Lnk.sendE s now n = 3 by unfold Lnk.sendE; rw [if_neg (by simpa using h1), if_pos h2])
      clear he
      go_enter Try.func16, Try.ntmps16
      go_wp2_with (first | (refine N.out.mono ?_; rintro e w' ⟨rfl, rfl⟩) | (refine (lwithin_yes _ _ _ _ (by omega)).mono ?_; rintro e w' ⟨rfl, rfl⟩) | (refine (lwithin_no _ _ _ _ (by omega)).mono ?_; rintro e w' ⟨rfl, rfl⟩))
      go_ret
      exact ⟨ret_int E.out.symm, rfl⟩
  · have E := Lib.hid (show Lnk.sendE s now n = 2 by unfold Lnk.sendE; rw [if_pos h1])
    clear he
    go_enter Try.func16, Try.ntmps16
    go_wp2_with (first | (refine N.out.mono ?_; rintro e w' ⟨rfl, rfl⟩) | (refine (lwithin_no _ _ _ _ (by omega)).mono ?_; rintro e w' ⟨rfl, rfl⟩))
    go_ret
    exact ⟨ret_int E.out.symm, rfl⟩
theorem send_yes (base b c : Nat) (A : Option Addr) (r : Lnk.Ru) (s : Lnk.St) (now : Int) (D : Option Addr) (n cap : Nat) (d : List Int) (w : World) (h : IsLk w base b A c r s) (hr : Lnk.vld r = true) (hs : Lnk.Inv s) (hsent : s.sent < 1000000000) (hbase : base ≤ w.heap.size)
    (hd : Rd w w.heap.size D n d) (hD : ∀ a, D = some a → ¬ Two b A a.block) (he : Lnk.sendE s now n = 0) :
    Calls Try.prog 16 #[.pointer (some ⟨b, 0, none⟩), .int .i64 now, .slice D n cap] w (SendPost base b A r (Lnk.send r s now d) 0 w) := by
  have hdl := hd.1
  have h1 : 1 ≤ n ∧ n ≤ 128 := by
    by_cases h1 : 1 ≤ n ∧ n ≤ 128
    · exact h1
    · unfold Lnk.sendE at he; rw [if_pos h1] at he; omega
  have h2 : s.now ≤ now ∧ now ≤ 1073741824 := by
    by_cases h2 : s.now ≤ now ∧ now ≤ 1073741824
    · exact h2
    · unfold Lnk.sendE at he; rw [if_neg (by simpa using h1), if_pos h2] at he; omega
  have h3 : s.u.length < 999 := by
    rcases Nat.lt_or_ge s.u.length 999 with h3 | h3
    · exact h3
    · unfold Lnk.sendE at he; rw [if_neg (by simpa using h1), if_neg (by simpa using h2), if_pos h3] at he; omega
  have N := Lib.hid (none_made b _ w h.blk rfl)
  have c7 : w.cell? ⟨b, 7, none⟩ = some (.int .i64 s.now) := blk_cell h.blk 7 rfl
  have f7 := blk_free h.blk 7
  have c8 : w.cell? ⟨b, 8, none⟩ = some (.slice A s.u.length c) := blk_cell h.blk 8 rfl
  have c9 : w.cell? ⟨b, 9, none⟩ = some (.int .i64 s.sent) := blk_cell h.blk 9 rfl
  have f9 := blk_free h.blk 9
  have HL := Lib.hid h
  have HR := Lib.hid hr
  have HS := Lib.hid hs
  have HD := Lib.hid hd
  have HDN := Lib.hid hD
  have HE := Lib.hid (show Lnk.sendE s now d.length = 0 by rw [hdl]; exact he)
  obtain ⟨_, ⟨n1, n2⟩, _, _, ⟨s1, s2⟩, ⟨l1, l2⟩, d1, d2⟩ := hs
  rw [Lnk.vld_iff] at hr
  obtain ⟨⟨r1, r2⟩, ⟨r3, r4⟩, _⟩ := hr
  clear h hd hD he hdl
  go_enter Try.func16, Try.ntmps16
  go_wp2_with (first | (refine N.out.mono ?_; rintro e w' ⟨rfl, rfl⟩) | (refine (lwithin_yes _ _ _ _ (by omega)).mono ?_; rintro e w' ⟨rfl, rfl⟩))
  obtain ⟨W1, hW1⟩ : ∃ W : World, W = (w.setCell ⟨b, 7, none⟩ (.int .i64 now)).setCell ⟨b, 9, none⟩ (.int .i64 (s.sent + 1)) := ⟨_, rfl⟩
  rw [← hW1]
  have hL1 : IsLk W1 base b A c r { s with now := now, sent := s.sent + 1 } := by rw [hW1]; exact (HL.out.set7 now).set9 (s.sent + 1)
  have hK1 : Keeps (Two b A) w W1 := by rw [hW1]; exact (by repeat (first | (with_reducible exact Keeps.refl _ _) | (with_reducible assumption) | (with_reducible refine Keeps.drew ?_) | (with_reducible refine Keeps.drewN ?_ _) | (with_reducible refine Keeps.alloc ?_ _) | ((with_reducible refine Keeps.setCell ?_ ?_ _); rotate_left; (first | (left; exact Or.inl rfl) | (right; (first | omega | (simp <;> omega)))); rotate_right)))
  have hz1 := hK1.size
  have HL1 := Lib.hid hL1
  have HK1 := Lib.hid hK1
  have k1 : W1.cell? ⟨b, 1, none⟩ = some (.int .i64 r.loss) := blk_cell hL1.blk 1 rfl
  clear hW1 hL1 hK1 c7 f7 c8 c9 f9
  have hDR := Lib.hid (fun (W : World) (hW : IsLk W base b A c r { s with now := now, sent := s.sent + 1 }) => draw_k base b c A r { s with now := now, sent := s.sent + 1 } 1000 W hW (by omega) (by omega))
  obtain ⟨v, hv⟩ : ∃ v, v = Lnk.dr s.x % 1000 := ⟨_, rfl⟩
  simp only [← hv] at hDR
  have HV := Lib.hid hv
  clear hv
  by_cases hlost : v < r.loss
  · have HLO := Lib.hid (show Lnk.sendL r s = true by unfold Lnk.sendL; rw [← HV.out]; exact decide_eq_true hlost)
    go_region_held3 (fun w' => w'.cell? ⟨b, 1, none⟩ = some (.int .i64 r.loss)) (first | (simp [go_sem, *]; done) | go_keep) (first | (go_at_call 38; refine (hDR.out _ (by first | exact HL1.out | exact HL1.out.drew)).mono ?_; rintro e w2 ⟨rfl, hL2, hK2⟩; have k2 : w2.cell? ⟨b, 1, none⟩ = some (.int .i64 r.loss) := blk_cell hL2.blk 1 rfl; have HL2 := Lib.hid hL2; have HK2 := Lib.hid (show Keeps (Two b A) W1 w2 from ⟨hK2.os, hK2.tape, hK2.output, hK2.size, hK2.block⟩); clear hL2 hK2))
    have c10 : w2.cell? ⟨b, 10, none⟩ = some (.int .i64 s.lost) := blk_cell HL2.out.blk 10 rfl
    have f10 := blk_free HL2.out.blk 10
    go_wp2_with fail
    go_ret
    refine ⟨rfl, LkTo.same (c := c) ?_ ?_⟩
    · have e : Lnk.send r s now d = { s with now := now, sent := s.sent + 1, x := Lnk.nx s.x, lost := s.lost + 1 } := by
        unfold Lnk.send
        rw [if_pos HE.out, if_pos HLO.out]
        rfl
      rw [e]
      exact HL2.out.set10 (s.lost + 1)
    · exact (HK1.out.trans HK2.out (fun _ _ h => h)).setCell (.inl (Or.inl rfl)) _
  · have HLO := Lib.hid (show Lnk.sendL r s = false by unfold Lnk.sendL; rw [← HV.out]; exact decide_eq_false hlost)
    have HI2 := Lib.hid (Lnk.inv_send0 HS.out h2 hsent)
    have HI3 := Lib.hid (show Lnk.Inv (Lnk.send1 r s now d) from Lnk.inv_put HR.out HI2.out HD.out.2.1 (by rw [HD.out.1]; exact h1.2) (show s.u.length < 1000 by omega))
    go_region_held3 (fun w' => w'.cell? ⟨b, 1, none⟩ = some (.int .i64 r.loss)) (first | (simp [go_sem, *]; done) | go_keep) (first | (go_at_call 38; refine (hDR.out _ (by first | exact HL1.out | exact HL1.out.drew)).mono ?_; rintro e w2 ⟨rfl, hL2, hK2⟩; have k2 : w2.cell? ⟨b, 1, none⟩ = some (.int .i64 r.loss) := blk_cell hL2.blk 1 rfl; have HL2 := Lib.hid hL2; have HK2 := Lib.hid (show Keeps (Two b A) W1 w2 from ⟨hK2.os, hK2.tape, hK2.output, hK2.size, hK2.block⟩); clear hL2 hK2))
    have HKA := Lib.hid (HK1.out.trans HK2.out (fun _ _ h => h))
    have hzA := HKA.out.size
    have cv := str_of (HD.out.kept HKA.out (Nat.le_refl _) HDN.out) cap
    have hL2' : IsLk w2 base b A c r (Lnk.send0 s now) := HL2.out
    have HP := Lib.hid (put_any base b c A r (Lnk.send0 s now) d w2 hL2' HR.out HI2.out (show s.u.length < 1000 by omega) (by omega))
    clear hL2' k1 k2 HL1 HK1 HK2 HL2 hDR
    go_wp2_with (go_at_call 39; refine HP.out.mono ?_; rintro e w3 ⟨rfl, A3, c3, hL3, hK3, hat3⟩)
    clear cv
    obtain ⟨s3, hs3⟩ : ∃ s3, s3 = Lnk.send1 r s now d := ⟨_, rfl⟩
    have hL3' : IsLk w3 base b A3 c3 r s3 := by rw [hs3]; exact hL3
    have hz3 := hK3.size
    have hu3 : s3.u.length = s.u.length + 1 := by rw [hs3]; simp [Lnk.send1, Lnk.put, Lnk.send0]
    have hd3 : s3.dbl = s.dbl ∧ s3.sent = s.sent + 1 := by rw [hs3]; exact ⟨rfl, rfl⟩
    have hI3 : Lnk.Inv s3 := by rw [hs3]; exact HI3.out
    have HS3 := Lib.hid (show Lnk.send r s now d = if Lnk.sendT r s3 then Lnk.send2 r s3 d else { s3 with x := Lnk.nx s3.x } by
      unfold Lnk.send
      rw [if_pos HE.out, if_neg (by rw [HLO.out]; simp), hs3])
    clear hs3
    have HL3 := Lib.hid hL3'
    have HK3 := Lib.hid (HKA.out.trans hK3 (fun _ _ h => h))
    have hat3 : blkOf A3 = blkOf A ∨ ∃ g, blkOf A3 = some g ∧ w.heap.size ≤ g := hat3.imp id (fun ⟨g, h, hg⟩ => ⟨g, h, by omega⟩)
    have HAT3 := Lib.hid hat3
    have HTW := Lib.hid (two_new (b := b) hat3)
    have HI3' := Lib.hid hI3
    have HU3 := Lib.hid hu3
    have HD3 := Lib.hid hd3
    clear hL3 hL3' hK3 hat3 HP HI2 hI3 hu3 hd3
    have k2 : w3.cell? ⟨b, 2, none⟩ = some (.int .i64 r.twice) := blk_cell HL3.out.blk 2 rfl
    have hDR := Lib.hid (fun (W : World) (hW : IsLk W base b A3 c3 r s3) => draw_k base b c3 A3 r s3 1000 W hW (by omega) (by omega))
    obtain ⟨v3, hv3⟩ : ∃ v, v = Lnk.dr s3.x % 1000 := ⟨_, rfl⟩
    simp only [← hv3] at hDR
    have HV3 := Lib.hid hv3
    clear hv3
    by_cases htw : v3 < r.twice
    · have HTT := Lib.hid (show Lnk.sendT r s3 = true by unfold Lnk.sendT; rw [← HV3.out]; exact decide_eq_true htw)
      go_region_held3 (fun w' => w'.cell? ⟨b, 2, none⟩ = some (.int .i64 r.twice)) (first | (simp [go_sem, *]; done) | go_keep) (first | (go_at_call 38; refine (hDR.out _ (by first | exact HL3.out | exact HL3.out.drew)).mono ?_; rintro e w4 ⟨rfl, hL4, hK4⟩; have k3 : w4.cell? ⟨b, 2, none⟩ = some (.int .i64 r.twice) := blk_cell hL4.blk 2 rfl; have HL4 := Lib.hid hL4; have HK4 := Lib.hid (show Keeps (Two b A3) w3 w4 from ⟨hK4.os, hK4.tape, hK4.output, hK4.size, hK4.block⟩); clear hL4 hK4))
      have c11 : w4.cell? ⟨b, 11, none⟩ = some (.int .i64 s3.dbl) := blk_cell HL4.out.blk 11 rfl
      have f11 := blk_free HL4.out.blk 11
      have HKB := Lib.hid (HK3.out.trans (S' := Two b A3) HK4.out HTW.out)
      have hdb : 0 ≤ s3.dbl ∧ s3.dbl ≤ 1000000000 := by have := HI3'.out; obtain ⟨_, _, _, _, a, b', c'⟩ := this; omega
      have HL5 := Lib.hid (HL4.out.set11 (s3.dbl + 1))
      have HKC := Lib.hid (HKB.out.setCell (p := ⟨b, 11, none⟩) (.inl (Or.inl rfl)) (.int .i64 (s3.dbl + 1)))
      have hzC := HKC.out.size
      have cv5 := str_of (HD.out.kept HKC.out (Nat.le_refl _) HDN.out) cap
      have HI5 := Lib.hid (show Lnk.Inv { s3 with x := Lnk.nx s3.x, dbl := s3.dbl + 1 } from by
        obtain ⟨a1, a2, a3, a4, a5, a6, a7⟩ := HI3'.out
        obtain ⟨e1, e2⟩ := HD3.out
        exact ⟨Lnk.nx_bd _, a2, a3, a4, a5, a6, by constructor <;> simp only <;> omega⟩)
      have HP := Lib.hid (fun (W : World) (hW : IsLk W base b A3 c3 r { s3 with x := Lnk.nx s3.x, dbl := s3.dbl + 1 }) (hzW : base ≤ W.heap.size) => put_any base b c3 A3 r { s3 with x := Lnk.nx s3.x, dbl := s3.dbl + 1 } d W hW HR.out HI5.out (show s3.u.length < 1000 by rw [HU3.out]; omega) hzW)
      go_wp2_with (go_at_call 39; refine (HP.out _ HL5.out (by omega)).mono ?_; rintro e w6 ⟨rfl, A6, c6, hL6, hK6, hat6⟩)
      go_ret
      refine ⟨rfl, A6, c6, ?_, HKC.out.trans hK6 HTW.out, new_new HAT3.out hat6 (by omega)⟩
      rw [HS3.out, if_pos HTT.out]
      exact hL6
    · have HTT := Lib.hid (show Lnk.sendT r s3 = false by unfold Lnk.sendT; rw [← HV3.out]; exact decide_eq_false htw)
      go_region_held3 (fun w' => w'.cell? ⟨b, 2, none⟩ = some (.int .i64 r.twice)) (first | (simp [go_sem, *]; done) | go_keep) (first | (go_at_call 38; refine (hDR.out _ (by first | exact HL3.out | exact HL3.out.drew)).mono ?_; rintro e w4 ⟨rfl, hL4, hK4⟩; have k3 : w4.cell? ⟨b, 2, none⟩ = some (.int .i64 r.twice) := blk_cell hL4.blk 2 rfl; have HL4 := Lib.hid hL4; have HK4 := Lib.hid (show Keeps (Two b A3) w3 w4 from ⟨hK4.os, hK4.tape, hK4.output, hK4.size, hK4.block⟩); clear hL4 hK4))
      go_wp2_with fail
      go_ret
      refine ⟨rfl, A3, c3, ?_, HK3.out.trans (S' := Two b A3) HK4.out HTW.out, HAT3.out.imp id (fun ⟨g, h, hg⟩ => ⟨g, h, by omega⟩)⟩
      rw [HS3.out, if_neg (by rw [HTT.out]; simp)]
      exact HL4.out
end Go.Proofs.Ytgdpoiapkaahfaa

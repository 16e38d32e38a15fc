import Derived.Test.YtdocdgcdldpagaaGreatAp
import Derived.Test.YtdocdgcdldpagaaGreatAv33
import Derived.Test.YtdocdgcdldpagaaGreatAv17
namespace Go.Proofs.YtdocdgcdldpagaaGreat
open Go.RowKit
set_option maxHeartbeats 8000000
set_option maxRecDepth 100000
set_option linter.unusedSimpArgs false
set_option linter.unusedVariables false
attribute [local go_sem ↓] Go.wp_at_zero Go.wp_at_succ
namespace Nt
theorem give_x (s : Stn.St) (k now x : Int) (h1 : k ≠ 1) (h3 : k ≠ 3) : Stn.giveE s k now x = Stn.giveE s k now 0 ∧ Stn.give s k now x = Stn.give s k now 0 ∧ Stn.giveF s k now x = Stn.giveF s k now 0 := by
  have e1 : Stn.giveE s k now x = Stn.giveE s k now 0 := by unfold Stn.giveE; simp only [h1, h3, false_and, if_false]
  have e2 : Stn.give0 s k now x = Stn.give0 s k now 0 := by unfold Stn.give0; simp only [h1, h3, if_false]
  refine ⟨e1, ?_, ?_⟩
  · unfold Stn.give; rw [e1, e2]
  · unfold Stn.giveF; rw [e1, e2]
theorem doS_no {s : St} {k x : Int} (h : doE s k x ≠ 0) : doS s k x = s := by unfold doS; rw [if_neg h]
theorem doS_yes {s : St} {k x : Int} (h : doE s k x = 0) : doS s k x = look (sndL { s with st := Stn.give s.st k s.now x } (Stn.giveF s.st k s.now x)) := by unfold doS; rw [if_pos h]
theorem doE_is {s : St} {k x : Int} (h : 1 ≤ k ∧ k ≤ 6) : doE s k x = Stn.giveE s.st k s.now x := by unfold doE; rw [if_pos h]
theorem give_no {s : Stn.St} {k now x : Int} (h : Stn.giveE s k now x ≠ 0) : Stn.give s k now x = s := by unfold Stn.give; rw [if_neg h]
theorem giveF_ok' {N : Nat} {s : St} (h : Inv N s) (k x : Int) (hk : 1 ≤ k ∧ k ≤ 6) : Inv N { s with st := Stn.give s.st k s.now x } ∧ (∀ g ∈ Stn.giveF s.st k s.now x, FOk s.cr.length g) ∧ (Stn.giveF s.st k s.now x).length ≤ 64 := by
  have ok := giveF_ok s.st h.st k s.now x hk
  exact ⟨h.setSt (t := Stn.give s.st k s.now x) (Stn.inv_give h.st hk) (give_n _ _ _ _), fun g hg => by have := ok.1 g hg; rw [h.sn] at this; exact this, ok.2⟩
end Nt
section
variable {w w' w0 : World} {base b k N fb : Nat} {m m1 : NM} {s s' : Nt.St} {v : Value} {L : List Fr}
def GvPost (base b k : Nat) (m : NM) (w0 : World) (s : Nt.St) (c x : Int) (e : Ending) (w' : World) : Prop :=
  ∃ (v1 : Value) (m3 : NM), e = .returned (.tuple #[v1, .int .i64 (Stn.giveE s.st c s.now x)]) ∧ Rof w' 0 v1 (Stn.giveF s.st c s.now x) ∧ HS base b k m w0 0 (.slice none 0 0) [] { s with st := Stn.give s.st c s.now x } w' m3
theorem gv_of (h : IsNet w base b m k s) {W w' : World} (hW : Below w.heap.size w W) {c x : Int} {e : Ending} (g : StPost base m.sb m.MA m.RA m.rc (Stn.give s.st c s.now x) (Stn.giveF s.st c s.now x) (Stn.giveE s.st c s.now x) W e w') : GvPost base b k m w s c x e w' := by
  obtain ⟨v1, MA', mc', e1, g1, g2, g3, g4⟩ := g
  have h1 : HS base b k m w 0 (.slice none 0 0) [] s W m := ⟨h.below hW, Keeps.of_below hW, NG.refl, Rof.nil _ _⟩
  obtain ⟨m3, h3⟩ := h1.to (h1.1.toSt g1 g2 g4)
  exact ⟨v1, m3, e1, g3.more (Nat.zero_le _), h3⟩
theorem Ef {p : Prop} (h : p := by
  by_cases he : er = 0
  · have SD := Lib.hid (nsend_any H4.out.1 OK1.out OK2.out R4.out (Nat.le_trans hbase H4.out.2.1.size) Cb Cb)
    have EY := Lib.hid (DY.out he)
    have IV := Lib.hid (OK1.out.sndL OK2.out Cb)
    subst he
    go_wp2_with fail
    refine SD.out.mono ?_
    rintro e w5 ⟨rfl, hto⟩
    obtain ⟨m5, h5⟩ := H4.out.to hto
    have LK := Lib.hid (nlook_any h5.1 IV.out (Nat.le_trans hbase h5.2.1.size) Cb)
    have H5 := Lib.hid h5
    clear hto h5
    go_wp2_with (refine LK.out.mono ?_; rintro e w6 ⟨rfl, hto⟩; obtain ⟨m6, h6⟩ := H5.out.to hto; have H6 := Lib.hid h6; clear hto h6)
    go_ret
    exact ⟨rfl, by rw [EY.out]; exact ⟨m6, H6.out.1, H6.out.2.1, H6.out.2.2.1⟩⟩
  · have zE : (er != 0) = true := by simp [he]
    have EN := Lib.hid (DN.out he)
    clear he
    go_wp2_with fail
    go_ret
    exact ⟨rfl, by rw [EN.out]; exact ⟨m4, H4.out.1, H4.out.2.1, H4.out.2.2.1⟩⟩
 ) : p := h
theorem ndo_1 (h : IsNet w base b m k s) (hs : Nt.Inv N s) (hbase : base ≤ w.heap.size) (hN : N + 200000 ≤ 1000000000000) (x : Int) :
    Calls Tryz.prog 28 #[.pointer (some ⟨b, 0, none⟩), .int .i64 1, .int .i64 x] w fun e w' => e = .returned (.int .i64 (Nt.doE s 1 x)) ∧ NTo base b m k (Nt.doS s 1 x) w w' := by
  have NO := Lib.hid (nnone_any h hs.n.1)
  have c21 : w.cell? ⟨b, 21, none⟩ = some (.int .i64 s.now) := blk_cell h.blk 21 rfl
  have c23 : w.cell? ⟨b, 23, none⟩ = some (.pointer (some ⟨m.sb, 0, none⟩)) := blk_cell h.blk 23 rfl
  have GV := Lib.hid (show ∀ W : World, Below w.heap.size w W → Calls Tryz.prog 66 #[.pointer (some ⟨m.sb, 0, none⟩), .int .i64 s.now, .int .i64 x] W (GvPost base b k m w s 1 x) from fun W hW => ((sload_any (h.below hW).st hs.st s.now x (Nat.le_trans hbase hW.size)).mono (fun e w' g => gv_of h hW g)))
  have hok := Nt.giveF_ok' hs 1 x C8
  have OK1 := Lib.hid hok.1
  have OK2 := Lib.hid hok.2.1
  have hol := hok.2.2
  have DE := Lib.hid (Nt.doE_is (s := s) (k := 1) (x := x) C8)
  obtain ⟨er, her⟩ : ∃ er, er = Stn.giveE s.st 1 s.now x := ⟨_, rfl⟩
  have HE := Lib.hid her
  obtain ⟨fr, hfr⟩ : ∃ fr, fr = Stn.giveF s.st 1 s.now x := ⟨_, rfl⟩
  obtain ⟨s1, hs1⟩ : ∃ s1 : Nt.St, s1 = { s with st := Stn.give s.st 1 s.now x } := ⟨_, rfl⟩
  unfold GvPost at GV
  rw [← her, ← hfr, ← hs1] at GV
  rw [← hfr] at OK2 hol
  rw [← hs1] at OK1
  have OK2 := Lib.hid (show ∀ g ∈ fr, Nt.FOk s1.cr.length g from by rw [hs1]; exact OK2.out)
  have DN := Lib.hid (show er ≠ 0 → Nt.doS s 1 x = s1 from fun h0 => by rw [Nt.doS_no Bf, hs1, Nt.give_no Bs])
  have DY := Lib.hid (show er = 0 → Nt.doS s 1 x = Nt.look (Nt.sndL s1 fr) from fun h0 => by rw [Nt.doS_yes Bf, hs1, hfr])
  rw [DE.out, ← her]
  clear h hs hok her hfr hs1 DE HE
  go_enter Tryz.func28, Tryz.ntmps28
  go_wp2_with (refine NO.out.mono ?_; rintro e w' ⟨rfl, rfl⟩)
  go_upto_region 8 with fail
  go_region_with (first | (go_at_call 66; refine (GV.out _ Ap).mono ?_; rintro e w5 ⟨v5, m4, rfl, hr5, h5⟩; have R4 := Lib.hid hr5; have H4 := Lib.hid h5; clear hr5 h5))
  all_goals
    exact Ef
theorem ndo_2 (h : IsNet w base b m k s) (hs : Nt.Inv N s) (hbase : base ≤ w.heap.size) (hN : N + 200000 ≤ 1000000000000) (x : Int) :
    Calls Tryz.prog 28 #[.pointer (some ⟨b, 0, none⟩), .int .i64 2, .int .i64 x] w fun e w' => e = .returned (.int .i64 (Nt.doE s 2 x)) ∧ NTo base b m k (Nt.doS s 2 x) w w' := by
  have NO := Lib.hid (nnone_any h hs.n.1)
  have c21 : w.cell? ⟨b, 21, none⟩ = some (.int .i64 s.now) := blk_cell h.blk 21 rfl
  have c23 : w.cell? ⟨b, 23, none⟩ = some (.pointer (some ⟨m.sb, 0, none⟩)) := blk_cell h.blk 23 rfl
  have GV := Lib.hid (show ∀ W : World, Below w.heap.size w W → Calls Tryz.prog 67 #[.pointer (some ⟨m.sb, 0, none⟩), .int .i64 s.now] W (GvPost base b k m w s 2 x) from fun W hW => ((sarm_any (h.below hW).st hs.st s.now (Nat.le_trans hbase hW.size)).mono (fun e w' g => gv_of h hW (c := 2) (x := x) (by obtain ⟨e1, e2, e3⟩ := Nt.give_x s.st 2 s.now x C8 C8; rw [e1, e2, e3]; exact g))))
  have hok := Nt.giveF_ok' hs 2 x C8
  have OK1 := Lib.hid hok.1
  have OK2 := Lib.hid hok.2.1
  have hol := hok.2.2
  have DE := Lib.hid (Nt.doE_is (s := s) (k := 2) (x := x) C8)
  obtain ⟨er, her⟩ : ∃ er, er = Stn.giveE s.st 2 s.now x := ⟨_, rfl⟩
  have HE := Lib.hid her
  obtain ⟨fr, hfr⟩ : ∃ fr, fr = Stn.giveF s.st 2 s.now x := ⟨_, rfl⟩
  obtain ⟨s1, hs1⟩ : ∃ s1 : Nt.St, s1 = { s with st := Stn.give s.st 2 s.now x } := ⟨_, rfl⟩
  unfold GvPost at GV
  rw [← her, ← hfr, ← hs1] at GV
  rw [← hfr] at OK2 hol
  rw [← hs1] at OK1
  have OK2 := Lib.hid (show ∀ g ∈ fr, Nt.FOk s1.cr.length g from by rw [hs1]; exact OK2.out)
  have DN := Lib.hid (show er ≠ 0 → Nt.doS s 2 x = s1 from fun h0 => by rw [Nt.doS_no Bf, hs1, Nt.give_no Bs])
  have DY := Lib.hid (show er = 0 → Nt.doS s 2 x = Nt.look (Nt.sndL s1 fr) from fun h0 => by rw [Nt.doS_yes Bf, hs1, hfr])
  rw [DE.out, ← her]
  clear h hs hok her hfr hs1 DE HE
  go_enter Tryz.func28, Tryz.ntmps28
  go_wp2_with (refine NO.out.mono ?_; rintro e w' ⟨rfl, rfl⟩)
  go_upto_region 10 with fail
  go_region_with (first | (go_at_call 67; refine (GV.out _ Ap).mono ?_; rintro e w5 ⟨v5, m4, rfl, hr5, h5⟩; have R4 := Lib.hid hr5; have H4 := Lib.hid h5; clear hr5 h5))
  all_goals
    exact Ef
theorem ndo_3 (h : IsNet w base b m k s) (hs : Nt.Inv N s) (hbase : base ≤ w.heap.size) (hN : N + 200000 ≤ 1000000000000) (x : Int) :
    Calls Tryz.prog 28 #[.pointer (some ⟨b, 0, none⟩), .int .i64 3, .int .i64 x] w fun e w' => e = .returned (.int .i64 (Nt.doE s 3 x)) ∧ NTo base b m k (Nt.doS s 3 x) w w' := by
  have NO := Lib.hid (nnone_any h hs.n.1)
  have c21 : w.cell? ⟨b, 21, none⟩ = some (.int .i64 s.now) := blk_cell h.blk 21 rfl
  have c23 : w.cell? ⟨b, 23, none⟩ = some (.pointer (some ⟨m.sb, 0, none⟩)) := blk_cell h.blk 23 rfl
  have GV := Lib.hid (show ∀ W : World, Below w.heap.size w W → Calls Tryz.prog 68 #[.pointer (some ⟨m.sb, 0, none⟩), .int .i64 s.now, .int .i64 x] W (GvPost base b k m w s 3 x) from fun W hW => ((sstart_any (h.below hW).st hs.st s.now x (Nat.le_trans hbase hW.size)).mono (fun e w' g => gv_of h hW g)))
  have hok := Nt.giveF_ok' hs 3 x C8
  have OK1 := Lib.hid hok.1
  have OK2 := Lib.hid hok.2.1
  have hol := hok.2.2
  have DE := Lib.hid (Nt.doE_is (s := s) (k := 3) (x := x) C8)
  obtain ⟨er, her⟩ : ∃ er, er = Stn.giveE s.st 3 s.now x := ⟨_, rfl⟩
  have HE := Lib.hid her
  obtain ⟨fr, hfr⟩ : ∃ fr, fr = Stn.giveF s.st 3 s.now x := ⟨_, rfl⟩
  obtain ⟨s1, hs1⟩ : ∃ s1 : Nt.St, s1 = { s with st := Stn.give s.st 3 s.now x } := ⟨_, rfl⟩
  unfold GvPost at GV
  rw [← her, ← hfr, ← hs1] at GV
  rw [← hfr] at OK2 hol
  rw [← hs1] at OK1
  have OK2 := Lib.hid (show ∀ g ∈ fr, Nt.FOk s1.cr.length g from by rw [hs1]; exact OK2.out)
  have DN := Lib.hid (show er ≠ 0 → Nt.doS s 3 x = s1 from fun h0 => by rw [Nt.doS_no Bf, hs1, Nt.give_no Bs])
  have DY := Lib.hid (show er = 0 → Nt.doS s 3 x = Nt.look (Nt.sndL s1 fr) from fun h0 => by rw [Nt.doS_yes Bf, hs1, hfr])
  rw [DE.out, ← her]
  clear h hs hok her hfr hs1 DE HE
  go_enter Tryz.func28, Tryz.ntmps28
  go_wp2_with (refine NO.out.mono ?_; rintro e w' ⟨rfl, rfl⟩)
  go_upto_region 12 with fail
  go_region_with (first | (go_at_call 68; refine (GV.out _ Ap).mono ?_; rintro e w5 ⟨v5, m4, rfl, hr5, h5⟩; have R4 := Lib.hid hr5; have H4 := Lib.hid h5; clear hr5 h5))
  all_goals
    exact Ef
theorem ndo_4 (h : IsNet w base b m k s) (hs : Nt.Inv N s) (hbase : base ≤ w.heap.size) (hN : N + 200000 ≤ 1000000000000) (x : Int) :
    Calls Tryz.prog 28 #[.pointer (some ⟨b, 0, none⟩), .int .i64 4, .int .i64 x] w fun e w' => e = .returned (.int .i64 (Nt.doE s 4 x)) ∧ NTo base b m k (Nt.doS s 4 x) w w' := by
  have NO := Lib.hid (nnone_any h hs.n.1)
  have c21 : w.cell? ⟨b, 21, none⟩ = some (.int .i64 s.now) := blk_cell h.blk 21 rfl
  have c23 : w.cell? ⟨b, 23, none⟩ = some (.pointer (some ⟨m.sb, 0, none⟩)) := blk_cell h.blk 23 rfl
  have GV := Lib.hid (show ∀ W : World, Below w.heap.size w W → Calls Tryz.prog 69 #[.pointer (some ⟨m.sb, 0, none⟩), .int .i64 s.now] W (GvPost base b k m w s 4 x) from fun W hW => ((shold_any (h.below hW).st hs.st s.now (Nat.le_trans hbase hW.size)).mono (fun e w' g => gv_of h hW (c := 4) (x := x) (by obtain ⟨e1, e2, e3⟩ := Nt.give_x s.st 4 s.now x C8 C8; rw [e1, e2, e3]; exact g))))
  have hok := Nt.giveF_ok' hs 4 x C8
  have OK1 := Lib.hid hok.1
  have OK2 := Lib.hid hok.2.1
  have hol := hok.2.2
  have DE := Lib.hid (Nt.doE_is (s := s) (k := 4) (x := x) C8)
  obtain ⟨er, her⟩ : ∃ er, er = Stn.giveE s.st 4 s.now x := ⟨_, rfl⟩
  have HE := Lib.hid her
  obtain ⟨fr, hfr⟩ : ∃ fr, fr = Stn.giveF s.st 4 s.now x := ⟨_, rfl⟩
  obtain ⟨s1, hs1⟩ : ∃ s1 : Nt.St, s1 = { s with st := Stn.give s.st 4 s.now x } := ⟨_, rfl⟩
  unfold GvPost at GV
  rw [← her, ← hfr, ← hs1] at GV
  rw [← hfr] at OK2 hol
  rw [← hs1] at OK1
  have OK2 := Lib.hid (show ∀ g ∈ fr, Nt.FOk s1.cr.length g from by rw [hs1]; exact OK2.out)
  have DN := Lib.hid (show er ≠ 0 → Nt.doS s 4 x = s1 from fun h0 => by rw [Nt.doS_no Bf, hs1, Nt.give_no Bs])
  have DY := Lib.hid (show er = 0 → Nt.doS s 4 x = Nt.look (Nt.sndL s1 fr) from fun h0 => by rw [Nt.doS_yes Bf, hs1, hfr])
  rw [DE.out, ← her]
  clear h hs hok her hfr hs1 DE HE
  go_enter Tryz.func28, Tryz.ntmps28
  go_wp2_with (refine NO.out.mono ?_; rintro e w' ⟨rfl, rfl⟩)
  go_upto_region 14 with fail
  go_region_with (first | (go_at_call 69; refine (GV.out _ Ap).mono ?_; rintro e w5 ⟨v5, m4, rfl, hr5, h5⟩; have R4 := Lib.hid hr5; have H4 := Lib.hid h5; clear hr5 h5))
  all_goals
    exact Ef
theorem ndo_5 (h : IsNet w base b m k s) (hs : Nt.Inv N s) (hbase : base ≤ w.heap.size) (hN : N + 200000 ≤ 1000000000000) (x : Int) :
    Calls Tryz.prog 28 #[.pointer (some ⟨b, 0, none⟩), .int .i64 5, .int .i64 x] w fun e w' => e = .returned (.int .i64 (Nt.doE s 5 x)) ∧ NTo base b m k (Nt.doS s 5 x) w w' := by
  have NO := Lib.hid (nnone_any h hs.n.1)
  have c21 : w.cell? ⟨b, 21, none⟩ = some (.int .i64 s.now) := blk_cell h.blk 21 rfl
  have c23 : w.cell? ⟨b, 23, none⟩ = some (.pointer (some ⟨m.sb, 0, none⟩)) := blk_cell h.blk 23 rfl
  have GV := Lib.hid (show ∀ W : World, Below w.heap.size w W → Calls Tryz.prog 70 #[.pointer (some ⟨m.sb, 0, none⟩), .int .i64 s.now] W (GvPost base b k m w s 5 x) from fun W hW => ((sresume_any (h.below hW).st hs.st s.now (Nat.le_trans hbase hW.size)).mono (fun e w' g => gv_of h hW (c := 5) (x := x) (by obtain ⟨e1, e2, e3⟩ := Nt.give_x s.st 5 s.now x C8 C8; rw [e1, e2, e3]; exact g))))
  have hok := Nt.giveF_ok' hs 5 x C8
  have OK1 := Lib.hid hok.1
  have OK2 := Lib.hid hok.2.1
  have hol := hok.2.2
  have DE := Lib.hid (Nt.doE_is (s := s) (k := 5) (x := x) C8)
  obtain ⟨er, her⟩ : ∃ er, er = Stn.giveE s.st 5 s.now x := ⟨_, rfl⟩
  have HE := Lib.hid her
  obtain ⟨fr, hfr⟩ : ∃ fr, fr = Stn.giveF s.st 5 s.now x := ⟨_, rfl⟩
  obtain ⟨s1, hs1⟩ : ∃ s1 : Nt.St, s1 = { s with st := Stn.give s.st 5 s.now x } := ⟨_, rfl⟩
  unfold GvPost at GV
  rw [← her, ← hfr, ← hs1] at GV
  rw [← hfr] at OK2 hol
  rw [← hs1] at OK1
  have OK2 := Lib.hid (show ∀ g ∈ fr, Nt.FOk s1.cr.length g from by rw [hs1]; exact OK2.out)
  have DN := Lib.hid (show er ≠ 0 → Nt.doS s 5 x = s1 from fun h0 => by rw [Nt.doS_no Bf, hs1, Nt.give_no Bs])
  have DY := Lib.hid (show er = 0 → Nt.doS s 5 x = Nt.look (Nt.sndL s1 fr) from fun h0 => by rw [Nt.doS_yes Bf, hs1, hfr])
  rw [DE.out, ← her]
  clear h hs hok her hfr hs1 DE HE
  go_enter Tryz.func28, Tryz.ntmps28
  go_wp2_with (refine NO.out.mono ?_; rintro e w' ⟨rfl, rfl⟩)
  go_upto_region 16 with fail
  go_region_with (first | (go_at_call 70; refine (GV.out _ Ap).mono ?_; rintro e w5 ⟨v5, m4, rfl, hr5, h5⟩; have R4 := Lib.hid hr5; have H4 := Lib.hid h5; clear hr5 h5))
  all_goals
    exact Ef
theorem ndo_6 (h : IsNet w base b m k s) (hs : Nt.Inv N s) (hbase : base ≤ w.heap.size) (hN : N + 200000 ≤ 1000000000000) (x : Int) :
    Calls Tryz.prog 28 #[.pointer (some ⟨b, 0, none⟩), .int .i64 6, .int .i64 x] w fun e w' => e = .returned (.int .i64 (Nt.doE s 6 x)) ∧ NTo base b m k (Nt.doS s 6 x) w w' := by
  have NO := Lib.hid (nnone_any h hs.n.1)
  have c21 : w.cell? ⟨b, 21, none⟩ = some (.int .i64 s.now) := blk_cell h.blk 21 rfl
  have c23 : w.cell? ⟨b, 23, none⟩ = some (.pointer (some ⟨m.sb, 0, none⟩)) := blk_cell h.blk 23 rfl
  have GV := Lib.hid (show ∀ W : World, Below w.heap.size w W → Calls Tryz.prog 71 #[.pointer (some ⟨m.sb, 0, none⟩), .int .i64 s.now] W (GvPost base b k m w s 6 x) from fun W hW => ((sabort_any (h.below hW).st hs.st s.now (Nat.le_trans hbase hW.size)).mono (fun e w' g => gv_of h hW (c := 6) (x := x) (by obtain ⟨e1, e2, e3⟩ := Nt.give_x s.st 6 s.now x C8 C8; rw [e1, e2, e3]; exact g))))
  have hok := Nt.giveF_ok' hs 6 x C8
  have OK1 := Lib.hid hok.1
  have OK2 := Lib.hid hok.2.1
  have hol := hok.2.2
  have DE := Lib.hid (Nt.doE_is (s := s) (k := 6) (x := x) C8)
  obtain ⟨er, her⟩ : ∃ er, er = Stn.giveE s.st 6 s.now x := ⟨_, rfl⟩
  have HE := Lib.hid her
  obtain ⟨fr, hfr⟩ : ∃ fr, fr = Stn.giveF s.st 6 s.now x := ⟨_, rfl⟩
  obtain ⟨s1, hs1⟩ : ∃ s1 : Nt.St, s1 = { s with st := Stn.give s.st 6 s.now x } := ⟨_, rfl⟩
  unfold GvPost at GV
  rw [← her, ← hfr, ← hs1] at GV
  rw [← hfr] at OK2 hol
  rw [← hs1] at OK1
  have OK2 := Lib.hid (show ∀ g ∈ fr, Nt.FOk s1.cr.length g from by rw [hs1]; exact OK2.out)
  have DN := Lib.hid (show er ≠ 0 → Nt.doS s 6 x = s1 from fun h0 => by rw [Nt.doS_no Bf, hs1, Nt.give_no Bs])
  have DY := Lib.hid (show er = 0 → Nt.doS s 6 x = Nt.look (Nt.sndL s1 fr) from fun h0 => by rw [Nt.doS_yes Bf, hs1, hfr])
  rw [DE.out, ← her]
  clear h hs hok her hfr hs1 DE HE
  go_enter Tryz.func28, Tryz.ntmps28
  go_wp2_with (refine NO.out.mono ?_; rintro e w' ⟨rfl, rfl⟩)
  go_upto_region 18 with fail
  go_region_with (first | (go_at_call 71; refine (GV.out _ Ap).mono ?_; rintro e w5 ⟨v5, m4, rfl, hr5, h5⟩; have R4 := Lib.hid hr5; have H4 := Lib.hid h5; clear hr5 h5))
  all_goals
    exact Ef
theorem ndo_other (h : IsNet w base b m k s) (hs : Nt.Inv N s) (c x : Int) (hc : ¬ (1 ≤ c ∧ c ≤ 6)) :
    Calls Tryz.prog 28 #[.pointer (some ⟨b, 0, none⟩), .int .i64 c, .int .i64 x] w fun e w' => e = .returned (.int .i64 (Nt.doE s c x)) ∧ NTo base b m k (Nt.doS s c x) w w' := by
  have NO := Lib.hid (nnone_any h hs.n.1)
  have HH := Lib.hid h
  have e1 : Nt.doE s c x = 2 := by unfold Nt.doE; rw [if_neg hc]
  have E2 := Lib.hid (Nt.doS_no (s := s) (k := c) (x := x) (by rw [e1]; decide))
  rw [e1]
  have z1 : (c == 1) = false := by rw [beq_eq_false_iff_ne]; omega
  have z2 : (c == 2) = false := by rw [beq_eq_false_iff_ne]; omega
  have z3 : (c == 3) = false := by rw [beq_eq_false_iff_ne]; omega
  have z4 : (c == 4) = false := by rw [beq_eq_false_iff_ne]; omega
  have z5 : (c == 5) = false := by rw [beq_eq_false_iff_ne]; omega
  have z6 : (c == 6) = false := by rw [beq_eq_false_iff_ne]; omega
  clear h hs hc e1
  go_enter Tryz.func28, Tryz.ntmps28
  go_wp2_with (refine NO.out.mono ?_; rintro e w' ⟨rfl, rfl⟩)
  go_ret
  exact ⟨rfl, by rw [E2.out]; exact NTo.refl HH.out⟩
theorem ndo_any (h : IsNet w base b m k s) (hs : Nt.Inv N s) (hbase : base ≤ w.heap.size) (hN : N + 200000 ≤ 1000000000000) (c x : Int) :
    Calls Tryz.prog 28 #[.pointer (some ⟨b, 0, none⟩), .int .i64 c, .int .i64 x] w fun e w' => e = .returned (.int .i64 (Nt.doE s c x)) ∧ NTo base b m k (Nt.doS s c x) w w' := by
  by_cases hc : 1 ≤ c ∧ c ≤ 6
  · obtain rfl | rfl | rfl | rfl | rfl | rfl : c = 1 ∨ c = 2 ∨ c = 3 ∨ c = 4 ∨ c = 5 ∨ c = 6 := by omega
    · exact ndo_1 h hs hbase hN x
    · exact ndo_2 h hs hbase hN x
    · exact ndo_3 h hs hbase hN x
    · exact ndo_4 h hs hbase hN x
    · exact ndo_5 h hs hbase hN x
    · exact ndo_6 h hs hbase hN x
  · exact ndo_other h hs c x hc
end
end Go.Proofs.YtdocdgcdldpagaaGreat
namespace Go.Proofs.YtdocdgcdldpagaaGreat
open Go.RowKit
set_option maxHeartbeats 8000000
set_option maxRecDepth 100000
set_option linter.unusedSimpArgs false
set_option linter.unusedVariables false
attribute [local go_sem ↓] Go.wp_at_zero Go.wp_at_succ
namespace Nt
theorem look_same (s : St) : (look s).cr.length = s.cr.length ∧ (look s).now = s.now ∧ (look s).steps = s.steps ∧ (look s).r = s.r := by
  unfold look
  split <;> exact ⟨rfl, rfl, rfl, rfl⟩
theorem step_same {s : St} (he : stepE s = 0) : (step s).now = s.now + s.r.step ∧ (step s).steps = s.steps + 1 ∧ (step s).r = s.r ∧ (step s).cr.length = s.cr.length := by
  unfold step
  rw [if_pos he]
  have h0 := sndL_same (Stn.tickF s.st (s.now + s.r.step)) { s with steps := s.steps + 1, now := s.now + s.r.step, st := Stn.tick s.st (s.now + s.r.step) }
  have e0 : step0 s = sndL { s with steps := s.steps + 1, now := s.now + s.r.step, st := Stn.tick s.st (s.now + s.r.step) } (Stn.tickF s.st (s.now + s.r.step)) := rfl
  rw [← e0] at h0
  have h1 := hears_same (step0 s) s.cr.length
  have h2 := look_same (hears (step0 s) s.cr.length)
  have h3 := flies_same (look (hears (step0 s) s.cr.length)) s.cr.length
  refine ⟨?_, ?_, ?_, ?_⟩
  · rw [h3.2.1, h2.2.1, h1.2.1, h0.1]
  · rw [h3.2.2.1, h2.2.2.1, h1.2.2.1, h0.2.1]
  · rw [h3.2.2.2, h2.2.2.2, h1.2.2.2, h0.2.2.1]
  · rw [h3.1, h2.1, h1.1, step0_len]
end Nt
def nowOf (b : Nat) (w : World) : Nat := match w.cell? ⟨b, 21, none⟩ with | some (.int _ x) => (4000000 - x).toNat | _ => 0
section
variable {w w' w0 : World} {base b k N fb : Nat} {m m1 : NM} {s s' : Nt.St} {v : Value} {L : List Fr}
theorem nowOf_eq {x : Int} {kd : IntKind} (h : w.cell? ⟨b, 21, none⟩ = some (.int kd x)) : nowOf b w = (4000000 - x).toNat := by unfold nowOf; rw [h]
theorem nrun_any (h : IsNet w base b m k s) (hs : Nt.Inv N s) (hbase : base ≤ w.heap.size) (hN : N + 200000 * 100001 ≤ 1000000000000) (u : Int) :
    Calls Tryz.prog 27 #[.pointer (some ⟨b, 0, none⟩), .int .i64 u] w fun e w' => e = .returned (.int .i64 (Nt.run s u).2) ∧ NTo base b m k (Nt.run s u).1 w w' := by
  have NO := Lib.hid (nnone_any h hs.n.1)
  have c21 : w.cell? ⟨b, 21, none⟩ = some (.int .i64 s.now) := blk_cell h.blk 21 rfl
  have HH := Lib.hid h
  by_cases hu : s.now ≤ u ∧ u ≤ 3600000
  · have WI := Lib.hid (nwithin_yes u s.now 3600000 w hu)
    have RE := Lib.hid (show Nt.run s u = Nt.runK 3600001 s u from by unfold Nt.run; rw [if_pos (by unfold Nt.runE0; rw [if_pos hu])])
    rw [RE.out]
    have HS0 := Lib.hid (show HS base b k m w 0 (.slice none 0 0) [] s w m from ⟨h, Keeps.refl _ _, NG.refl, Rof.nil _ _⟩)
    have HI0 := Lib.hid hs
    have hnw := hs.now
    have hsp := hs.steps
    have zi : ∀ x : Int, x = s.steps → (100000 - s.steps).toNat ≤ 100000 := fun _ _ => by omega
    clear h hs
    go_enter Tryz.func27, Tryz.ntmps27
    go_wp2_with (first | (refine NO.out.mono ?_; rintro e w' ⟨rfl, rfl⟩) | (refine WI.out.mono ?_; rintro e w' ⟨rfl, rfl⟩))
    go_loopw [5] (fun s5 wr => ∃ (t : Nt.St) (m1 : NM) (M kf : Nat), M + 200000 * (100001 - t.steps).toNat ≤ 1000000000000 ∧ t.now ≤ u ∧ u - t.now < (kf : Int) ∧ w.heap.size ≤ wr.heap.size ∧ Hid (Nt.Inv M t) ∧ Hid (Nt.runK kf t u = Nt.runK 3600001 s u) ∧ Hid (HS base b k m w 0 (.slice none 0 0) [] t wr m1)) (fun s5 wr => nowOf b wr)
    case atStart => exact ⟨s, m, N, 3600001, by omega, hu.1, by omega, Nat.le_refl _, HI0, Lib.hid rfl, HS0⟩
    case round =>
      obtain ⟨t, m1, M, kf, hM, htu, hkf, hzr, IV, RK, HI⟩ := hrel
      have c21 : wr.cell? ⟨b, 21, none⟩ = some (.int .i64 t.now) := blk_cell HI.out.1.blk 21 rfl
      have c2 : wr.cell? ⟨b, 2, none⟩ = some (.int .i64 t.r.step) := blk_cell HI.out.1.blk 2 rfl
      obtain ⟨kg, rfl⟩ : ∃ kg, kf = kg + 1 := ⟨kf - 1, by omega⟩
      have hst := IV.out.step
      have htn := IV.out.now
      have htp := IV.out.steps
      have zw : IntKind.i64.wrap (t.now + t.r.step) = t.now + t.r.step := IntWalk.i64_in _ Cb
      by_cases hc : t.now + t.r.step ≤ u
      · have z1 : decide (t.now + t.r.step ≤ u) = true := by simp [hc]
        have hM2 : M + 200000 ≤ 1000000000000 := by omega
        have ST := Lib.hid (show ∀ W : World, Below wr.heap.size wr W → Calls Tryz.prog 24 #[.pointer (some ⟨b, 0, none⟩)] W fun x w' => x = .returned (.int .i64 (Nt.stepE t)) ∧ ∃ m5, HS base b k m w 0 (.slice none 0 0) [] (Nt.step t) w' m5 from fun W hW => (nstep_any (HI.out.1.below hW) IV.out (Nat.le_trans hbase (Nat.le_trans hzr hW.size)) hM2).mono (fun e w' ⟨h1, h2⟩ => ⟨h1, (HI.out.below hW).to h2⟩))
        obtain ⟨er, her⟩ : ∃ er, er = Nt.stepE t := ⟨_, rfl⟩
        have hnn := nowOf_eq c21
        rw [← her] at ST
        by_cases h0 : er = 0
        · have he : Nt.stepE t = 0 := by rw [← her]; exact h0
          have hsm := Nt.step_same he
          have hiv := IV.out.stepS Cb
          have hrk : Nt.runK (kg + 1) t u = Nt.runK kg (Nt.step t) u := by
            show (if t.now + t.r.step ≤ u then (if Nt.stepE t = 0 then Nt.runK kg (Nt.step t) u else (t, Nt.stepE t)) else (t, 0)) = _
            rw [if_pos hc, if_pos he]
          obtain ⟨t1, ht1⟩ : ∃ t1, t1 = Nt.step t := ⟨_, rfl⟩
          rw [← ht1] at hsm hiv hrk ST
          rw [hrk] at RK
          have IV1 := Lib.hid hiv
          have e1 := hsm.1
          have e2 := hsm.2.1
          have SM := Lib.hid (show M + 200000 + 200000 * (100001 - t1.steps).toNat ≤ 1000000000000 ∧ t1.now ≤ u ∧ u - t1.now < (kg : Int) ∧ (4000000 - t1.now).toNat < (4000000 - t.now).toNat from by omega)
          subst h0
          clear her he hsm hiv hrk ht1 e1 e2 hM hkf htp IV
          go_upto_region 5 with fail
          go_quiet (fail)
          go_wp2_with (refine (ST.out _ (by first | exact below_drewN (Below.refl _ wr) _ | exact Below.refl _ wr)).mono ?_; rintro e w5 ⟨rfl, m5, h5⟩; have H5 := Lib.hid h5; have hz5 := h5.2.1.size; have d21 := Lib.hid (show w5.cell? ⟨b, 21, none⟩ = some (.int .i64 t1.now) from blk_cell h5.1.blk 21 rfl); clear h5)
          go_roundw
          case rel => exact ⟨t1, m5, M + 200000, kg, SM.out.1, SM.out.2.1, SM.out.2.2.1, hz5, IV1, RK, H5⟩
          case measure => rw [hnn, nowOf_eq d21.out]; exact SM.out.2.2.2
        · have he : Nt.stepE t ≠ 0 := by rw [← her]; exact h0
          have hrk : Nt.runK (kg + 1) t u = (t, er) := by
            show (if t.now + t.r.step ≤ u then (if Nt.stepE t = 0 then Nt.runK kg (Nt.step t) u else (t, Nt.stepE t)) else (t, 0)) = _
            rw [if_pos hc, if_neg he, her]
          have hstp : Nt.step t = t := by unfold Nt.step; rw [if_neg he]
          rw [hstp] at ST
          rw [hrk] at RK
          have zE : (er != 0) = true := by simp [h0]
          clear her he hrk hstp hM hkf htp IV h0 hnn
          go_upto_region 5 with fail
          go_quiet (fail)
          go_wp2_with (refine (ST.out _ (by first | exact below_drewN (Below.refl _ wr) _ | exact Below.refl _ wr)).mono ?_; rintro e w5 ⟨rfl, m5, h5⟩; have H5 := Lib.hid h5; clear h5)
          go_ret
          rw [← RK.out]
          exact ⟨rfl, m5, H5.out.1, H5.out.2.1, H5.out.2.2.1⟩
      · have z1 : decide (t.now + t.r.step ≤ u) = false := by simp; omega
        have hrk : Nt.runK (kg + 1) t u = (t, 0) := by
          show (if t.now + t.r.step ≤ u then (if Nt.stepE t = 0 then Nt.runK kg (Nt.step t) u else (t, Nt.stepE t)) else (t, 0)) = _
          rw [if_neg hc]
        rw [hrk] at RK
        clear hrk hM hkf htp IV
        go_upto_region 5 with fail
        go_quiet (fail)
        go_wp2_with fail
        go_ret
        rw [← RK.out]
        have hb : ∀ q, Below wr.heap.size wr (wr.drewN q) := fun q => below_drewN (Below.refl _ wr) q
        have h6 := fun q => HI.out.below (hb q)
        exact ⟨rfl, m1, (h6 _).1, (h6 _).2.1, HI.out.2.2.1⟩
  · have WI := Lib.hid (nwithin_no u s.now 3600000 w hu)
    have RE := Lib.hid (show Nt.run s u = (s, 3) from by unfold Nt.run; rw [if_neg (by unfold Nt.runE0; rw [if_neg hu]; decide)])
    rw [RE.out]
    clear h hs hu
    go_enter Tryz.func27, Tryz.ntmps27
    go_wp2_with (first | (refine NO.out.mono ?_; rintro e w' ⟨rfl, rfl⟩) | (refine WI.out.mono ?_; rintro e w' ⟨rfl, rfl⟩))
    go_ret
    exact ⟨rfl, NTo.refl HH.out⟩
end
end Go.Proofs.YtdocdgcdldpagaaGreat
namespace Go.Proofs.YtdocdgcdldpagaaGreat
open Go.RowKit
set_option maxHeartbeats 8000000
set_option maxRecDepth 100000
set_option linter.unusedSimpArgs false
set_option linter.unusedVariables false
attribute [local go_sem ↓] Go.wp_at_zero Go.wp_at_succ
section
variable {w w' w0 : World} {base b k N fb : Nat} {m m1 : NM} {s s' : Nt.St} {v : Value} {L : List Fr}
theorem IsNet.toCut (h : IsNet w base b m k s) {k' : Nat} (hk : k ≤ k') {c : List Bool} (kk : Keeps (fun q => q = m.mb) w w') (hc : ∃ q, q ≤ k' ∧ IsCut w' m.mb q c) : NTo base b m k' { s with cut := c } w w' := by
  have hn : ∀ (q : Nat) (e : TypeId), Ty w q e → ¬ q = m.mb := fun q e g hq => by
    obtain ⟨_, _, h2⟩ := h.cut
    exact h2.notCells g hq
  refine ⟨m, ⟨blk_keep h.blk kk (hn _ _ ⟨_, h.blk⟩), h.st.kept kk (fun q hq => by rcases h.st.three hq with t | t | t <;> exact hn _ _ t), h.offs.kept kk (fun q hq => hn _ _ (h.offs.ty hq)), h.rates.kept kk (fun q hq => hn _ _ (h.rates.ty hq)), h.crow.kept kk (fun q hq => hn _ _ (h.crow.ty hq)), h.erow.kept kk (fun q hq => hn _ _ (h.erow.ty hq)), ?_, h.len, h.dis, hc, h.ge, h.so⟩, kk.mono (fun q _ hq => .inr (.inr (.inr (.inr (.inr (.inl hq)))))), NG.refl⟩
  intro i hi
  exact (h.cr i hi).kept kk (fun q hq => by rcases (h.cr i hi).ty hq with t | t | t | t <;> exact hn _ _ t)
theorem Eg {p : Prop} (h : p := by
  clear h hs hk2 hc2 hg2 hcl hi hn TC
  go_enter Tryz.func23, Tryz.ntmps23
  go_wp2_with (refine CH.out.mono ?_; rintro e w' ⟨rfl, rfl⟩)
  go_ret
  exact ⟨rfl, T2.out⟩
 ) : p := h
theorem ncut_yes (h : IsNet w base b m k s) (hs : Nt.Inv N s) (i : Nat) (x : Bool) (hi : 1 ≤ i ∧ i ≤ s.cr.length) (hk : k < maxLen) :
    Calls Tryz.prog 23 #[.pointer (some ⟨b, 0, none⟩), .int .i64 i, .bool x] w fun e w' => e = .returned (.int .i64 0) ∧ NTo base b m (k + 1) (Nt.cutS s i x) w w' := by
  have CH := Lib.hid (ncheck_yes h hs i Cb)
  have HH := Lib.hid h
  have c26 : w.cell? ⟨b, 26, none⟩ = some (.map (some m.mb)) := blk_cell h.blk 26 rfl
  obtain ⟨k', hk1, hk2⟩ := h.cut
  have hcl := hs.cut
  have hn := hs.n.2
  have TC := Lib.hid (show ∀ (w2 : World), w.grownBy w2 (some m.mb) → ∀ q, q ≤ k + 1 → IsCut w2 m.mb q (s.cut.set i x) → NTo base b m (k + 1) (Nt.cutS s i x) w w2 from fun w2 hg q hq hc => h.toCut Cb (Keeps.of_grown hg (fun g e => by injection e with e; exact e.symm)) ⟨q, hq, hc⟩)
  cases x
  · obtain ⟨w2, hrun, hc2, hg2⟩ := hk2.del i Cb 0
    have T2 := Lib.hid (TC.out w2 hg2 k' Cb hc2)
    exact Eg
  · obtain ⟨w2, hrun, hc2, hg2⟩ := hk2.put i Cb Cb Cb
    have T2 := Lib.hid (TC.out w2 hg2 (k' + 1) Cb hc2)
    exact Eg
end
end Go.Proofs.YtdocdgcdldpagaaGreat

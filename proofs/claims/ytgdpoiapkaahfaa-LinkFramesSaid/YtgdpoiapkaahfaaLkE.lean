/- SendFrame, Copy. -/
import Derived.Test.YtgdpoiapkaahfaaLkD
import Derived.Test.YtgdpoiapkaahfaaEnc
namespace Go.Proofs.Ytgdpoiapkaahfaa
open Go.RowKit
set_option maxHeartbeats 8000000
set_option maxRecDepth 100000
set_option linter.unusedSimpArgs false
set_option linter.unusedVariables false
attribute [local go_sem ↓] Go.wp_at_zero Go.wp_at_succ
theorem send_is {r : Lnk.Ru} {s : Lnk.St} {now : Int} {d : List Int} (h : Lnk.sendE s now d.length ≠ 0) : Lnk.send r s now d = s := by unfold Lnk.send; rw [if_neg h]
theorem send_any (base b c : Nat) (A : Option Addr) (r : Lnk.Ru) (s : Lnk.St) (now : Int) (D : Option Addr) (n cap : Nat) (d : List Int) (w : World) (h : IsLk w base b A c r s) (hr : Lnk.vld r = true) (hs : Lnk.Inv s) (hsent : s.sent < 1000000000) (hbase : base ≤ w.heap.size)
    (hn : n ≤ 140737488355328) (hd : Rd w w.heap.size D n d) (hD : ∀ a, D = some a → ¬ Two b A a.block) :
    Calls Try.prog 16 #[.pointer (some ⟨b, 0, none⟩), .int .i64 now, .slice D n cap] w (SendPost base b A r (Lnk.send r s now d) (Lnk.sendE s now n) w) := by
  by_cases he : Lnk.sendE s now n = 0
  · rw [he]
    exact send_yes base b c A r s now D n cap d w h hr hs hsent hbase hd hD he
  · refine (send_no base b c A r s now D n cap w h hn he).mono ?_
    rintro e w' ⟨rfl, rfl⟩
    refine ⟨rfl, ?_⟩
    rw [send_is (by rw [hd.1]; exact he)]
    exact LkTo.same h (Keeps.refl _ _)
/-- SendFrame -/
def sfE (s : Lnk.St) (now k f t q : Int) (n : Nat) : Int := if Frm.vd k f t q n = true then Lnk.sendE s now (n + 10) else 2
def sfS (r : Lnk.Ru) (s : Lnk.St) (now k f t q : Int) (d : List Int) : Lnk.St := if Frm.vd k f t q d.length = true then Lnk.send r s now (Frm.enc k f t q d) else s
theorem len_enc (k f t q : Int) (d : List Int) : (Frm.enc k f t q d).length = d.length + 10 := by simp [Frm.enc, Frm.body]
theorem sendf_any (base b c : Nat) (A : Option Addr) (r : Lnk.Ru) (s : Lnk.St) (now : Int) (k f t q : Int) (D : Option Addr) (n cap : Nat) (d : List Int) (w : World) (h : IsLk w base b A c r s) (hr : Lnk.vld r = true) (hs : Lnk.Inv s) (hsent : s.sent < 1000000000) (hbase : base ≤ w.heap.size)
    (hn : n ≤ 140737488355328) (hd : Rd w w.heap.size D n d) :
    Calls Try.prog 21 #[.pointer (some ⟨b, 0, none⟩), .int .i64 now, .agg #[.int .i64 k, .int .i64 f, .int .i64 t, .int .i64 q, .slice D n cap]] w (SendPost base b A r (sfS r s now k f t q d) (sfE s now k f t q n) w) := by
  have HT := Lib.hid h.two
  have HL := Lib.hid h
  have hdl := hd.1
  have N := Lib.hid (fun (W : World) (hW : IsLk W base b A c r s) => none_made b _ W hW.blk rfl)
  have hlt := h.lt
  cases hv : Frm.vd k f t q n
  · have EN := Lib.hid (fun W : World => enc_no k f t q D n cap W hn hv)
    have E1 := Lib.hid (show sfE s now k f t q n = 2 by unfold sfE; rw [if_neg (by rw [hv]; simp)])
    have E2 := Lib.hid (show sfS r s now k f t q d = s by unfold sfS; rw [if_neg (by rw [hdl, hv]; simp)])
    clear hv h hd hs hr hdl
    go_enter Try.func21, Try.ntmps21
    go_wp2_with fail
    refine (N.out _ (HL.out.alloc _)).mono ?_
    rintro e w' ⟨rfl, rfl⟩
    go_wp2_with fail
    refine (EN.out _).mono ?_
    rintro e w1 ⟨rfl, hb1⟩
    have hz1 := hb1.size; try simp at hz1
    go_wp2_with fail
    go_ret
    rw [E1.out, E2.out]
    have hB : Below w.heap.size w w1 := (by repeat (first | (with_reducible exact Below.refl _ _) | (with_reducible refine Below.drew ?_) | (with_reducible refine below_drewN ?_ _) | ((with_reducible refine Below.alloc ?_ ?_ _); rotate_left; (first | omega | (simp <;> omega)); rotate_right) | ((with_reducible refine Below.setCell ?_ ?_ _); rotate_left; (first | omega | (simp <;> omega)); rotate_right) | (with_reducible assumption) | (refine Below.trans ?_ (Below.mono (by assumption) ?_); rotate_left; (first | omega | (simp <;> omega)); rotate_right)))
    exact ⟨rfl, LkTo.same (HL.out.below hB (Nat.le_refl _)) (Keeps.of_below hB)⟩
  · have hn64 : n ≤ 64 := (Frm.vd_bd hv).2.2.2.2
    have EN := Lib.hid (fun (W : World) (hW : Rd W W.heap.size D n d) => enc_yes k f t q D n cap d W hv hW)
    have E1 := Lib.hid (show sfE s now k f t q n = Lnk.sendE s now (n + 10) by unfold sfE; rw [if_pos hv])
    have E2 := Lib.hid (show sfS r s now k f t q d = Lnk.send r s now (Frm.enc k f t q d) by unfold sfS; rw [if_pos (by rw [hdl]; exact hv)])
    have HD := Lib.hid hd
    have HS := Lib.hid hs
    have HR := Lib.hid hr
    clear hv h hd hs hr hdl
    go_enter Try.func21, Try.ntmps21
    go_wp2_with fail
    refine (N.out _ (HL.out.alloc _)).mono ?_
    rintro e w' ⟨rfl, rfl⟩
    go_wp2_with fail
    refine (EN.out _ ((HD.out.alloc (Nat.le_refl _) _).more (by simp))).mono ?_
    rintro e w1 ⟨A', cap', rfl, hO, hb1⟩
    have hz1 := hb1.size; try simp at hz1
    have hB : Below w.heap.size w w1 := (by repeat (first | (with_reducible exact Below.refl _ _) | (with_reducible refine Below.drew ?_) | (with_reducible refine below_drewN ?_ _) | ((with_reducible refine Below.alloc ?_ ?_ _); rotate_left; (first | omega | (simp <;> omega)); rotate_right) | ((with_reducible refine Below.setCell ?_ ?_ _); rotate_left; (first | omega | (simp <;> omega)); rotate_right) | (with_reducible assumption) | (refine Below.trans ?_ (Below.mono (by assumption) ?_); rotate_left; (first | omega | (simp <;> omega)); rotate_right)))
    have HB := Lib.hid hB
    have HO := Lib.hid hO
    have hA' : ∀ a, A' = some a → w.heap.size + 1 ≤ a.block := by
      intro a ha
      rcases HO.out.form with ⟨h1, _⟩ | ⟨g, h1, h2, _⟩
      · rw [h1] at ha; cases ha
      · rw [h1] at ha; injection ha with ha; rw [← ha]; simpa using h2
    have HA := Lib.hid hA'
    clear hb1 hB hO hA'
    go_wp2_with fail
    refine (send_any base b c A r s now A' (n + 10) cap' (Frm.enc k f t q d) w1 (HL.out.below HB.out (Nat.le_refl _)) HR.out HS.out hsent (by omega) (by omega) HO.out.rd (fun a ha hT => by have := HA.out a ha; have := HT.out _ hT; omega)).mono ?_
    rintro e w2 ⟨rfl, hTo⟩
    have HTo := Lib.hid hTo
    clear hTo
    go_wp2_with fail
    go_ret
    rw [E1.out, E2.out]
    exact ⟨rfl, LkTo.trans (r' := r) (Keeps.of_below HB.out) (.inl rfl) HTo.out⟩
theorem Row.of_own {w : World} {base : Nat} {e : TypeId} {size n c : Nat} {A : Option Addr} {xs : List Value} (h : w.ownsRow base e size (.slice A n c) n xs) : Row w base e size A n c xs := by
  refine ⟨h.1, ?_⟩
  rcases h.2 with ⟨h1, h2⟩ | ⟨g, cap, cur, h1, h2, h3, h4, h5, h6, h7⟩
  · injection h1 with e1 e2 e3
    exact .inl ⟨e1, h2, e3⟩
  · injection h1 with e1 e2 e3
    subst e3
    exact .inr ⟨g, 0, cur, e1, h2, h3, h4, h5, by omega, by simpa using h7⟩
theorem own_formS {w : World} {base : Nat} {e : TypeId} {size n : Nat} {v : Value} {xs : List Value} (h : w.ownsRow base e size v n xs) : ∃ A cap, v = .slice A n cap := by
  rcases h.2 with ⟨rfl, rfl⟩ | ⟨g, c, cur, rfl, _⟩
  · exact ⟨_, _, rfl⟩
  · exact ⟨_, _, rfl⟩
def ClonePost (n : Nat) (xs : List Value) (w : World) (e : Ending) (w' : World) : Prop := ∃ A' c', e = .returned (.slice A' n c') ∧ Row w' w.heap.size 87 2 A' n c' xs ∧ Below w.heap.size w w'
theorem mclone_any (A : Option Addr) (n c base : Nat) (xs : List Value) (w : World) (hn : n ≤ 1000000) (h : Row w base 87 2 A n c xs) (h1 : ∀ v ∈ xs, v.oneCell' = true) :
    Calls Try.prog 40 #[.slice A n c] w (ClonePost n xs w) := by
  obtain ⟨i0, hi0, hz0, hz1, hz2⟩ := info_parts msg_info
  have hr := h.reads
  cases A with
  | none =>
    rcases h.2 with ⟨_, h0, h00⟩ | ⟨g, o, cur, he, _⟩
    · subst h0; subst h00
      have hx : xs = [] := List.eq_nil_of_length_eq_zero (by simpa using h.1)
      subst hx
      have kn := fun (W : World) => Lib.run_eql_slice_nil (P := Try.prog) W 75 87 none 0 0 0 0 Try.underlying75
      simp only [Option.isNone] at kn
      clear h hr
      go_enter Try.func40, Try.ntmps40
      go_wp2_with fail
      go_ret
      exact ⟨none, 0, rfl, Row.nil _ _ _ _, (by repeat (first | (with_reducible exact Below.refl _ _) | (with_reducible refine Below.drew ?_) | (with_reducible refine below_drewN ?_ _) | ((with_reducible refine Below.alloc ?_ ?_ _); rotate_left; (first | omega | (simp <;> omega)); rotate_right) | ((with_reducible refine Below.setCell ?_ ?_ _); rotate_left; (first | omega | (simp <;> omega)); rotate_right) | (with_reducible assumption) | (refine Below.trans ?_ (Below.mono (by assumption) ?_); rotate_left; (first | omega | (simp <;> omega)); rotate_right)))⟩
    · cases he
  | some a =>
    have kn := fun (W : World) => Lib.run_eql_slice_nil (P := Try.prog) W 75 87 (some a) n c 0 0 Try.underlying75
    simp only [Option.isNone] at kn
    clear h
    go_enter Try.func40, Try.ntmps40
    go_wp2_with (at_builtin; refine wpList_append_any _ rfl (.tmp 5) (.tmp 6) _ rfl w.heap.size 87 i0 _ 2 24 Try.underlying75 hi0 hz0 hz1 hz2 rfl (by omega) (.slice (some ⟨w.heap.size, 0, none⟩) 0 0) 0 [] rfl (World.ownsRow_lit w #[] 0 (Nat.le_refl _) (by unfold maxLen; omega) rfl) w.heap.size (some a) n c xs rfl (hr.alloc (Nat.le_refl _) _) h1 (by simp only [maxLen]; omega) (by omega) (by simp) ?_; intro v1 w1 hown1 hg1 hat1)
    go_ret
    simp only [Nat.zero_add, List.nil_append] at hown1
    obtain ⟨A', cap', rfl⟩ := own_formS hown1
    exact ⟨A', cap', rfl, Row.of_own hown1, ((Below.refl _ _).alloc (Nat.le_refl _) _).grown hg1 (by simp) (fun k hk => by simp [Value.ownBlock] at hk; omega)⟩
theorem lcopy_nil (w : World) : Calls Try.prog 19 #[.pointer none] w fun e w' => e = .returned (.pointer none) ∧ w = w' := by
  go_enter Try.func19, Try.ntmps19
  go_wp2_with fail
  go_ret
  exact ⟨rfl, rfl⟩
def CopyPost (r : Lnk.Ru) (s : Lnk.St) (w : World) (e : Ending) (w' : World) : Prop := ∃ b A c, e = .returned (.pointer (some ⟨b, 0, none⟩)) ∧ IsLk w' w.heap.size b A c r s ∧ Below w.heap.size w w'
theorem lcopy_any (base b c : Nat) (A : Option Addr) (r : Lnk.Ru) (s : Lnk.St) (w : World) (h : IsLk w base b A c r s) (hn : s.u.length ≤ 1000) :
    Calls Try.prog 19 #[.pointer (some ⟨b, 0, none⟩)] w (CopyPost r s w) := by
  have hB := h.blk
  unfold lkl at hB
  have ca_0 := blk_cell hB 0 rfl; have fa_0 := blk_free hB 0; have ca_1 := blk_cell hB 1 rfl; have fa_1 := blk_free hB 1; have ca_2 := blk_cell hB 2 rfl; have fa_2 := blk_free hB 2; have ca_3 := blk_cell hB 3 rfl; have fa_3 := blk_free hB 3; have ca_4 := blk_cell hB 4 rfl; have fa_4 := blk_free hB 4; have ca_5 := blk_cell hB 5 rfl; have fa_5 := blk_free hB 5; have ca_6 := blk_cell hB 6 rfl; have fa_6 := blk_free hB 6; have ca_7 := blk_cell hB 7 rfl; have fa_7 := blk_free hB 7; have ca_8 := blk_cell hB 8 rfl; have fa_8 := blk_free hB 8; have ca_9 := blk_cell hB 9 rfl; have fa_9 := blk_free hB 9; have ca_10 := blk_cell hB 10 rfl; have fa_10 := blk_free hB 10; have ca_11 := blk_cell hB 11 rfl; have fa_11 := blk_free hB 11; have la := lt_of_block hB
  have HL := Lib.hid h
  have hlt := h.lt
  clear h hB
  go_enter Try.func19, Try.ntmps19
  go_wp2_with fail
  refine (mclone_any A s.u.length c base (mcells (Lnk.srt s.u)) _ (by omega) (HL.out.row.alloc _) (mcells_one _)).mono ?_
  rintro e w1 ⟨A1, c1, rfl, hr1, hb1⟩
  have hz1 := hb1.size; try simp at hz1
  have h1 := blk_below (q := w.heap.size) (heap_new _ _) hb1 (by first | omega | (simp; done) | (simp; omega))
  have cb_0 := blk_cell h1 0 rfl; have fb_0 := blk_free h1 0; have cb_1 := blk_cell h1 1 rfl; have fb_1 := blk_free h1 1; have cb_2 := blk_cell h1 2 rfl; have fb_2 := blk_free h1 2; have cb_3 := blk_cell h1 3 rfl; have fb_3 := blk_free h1 3; have cb_4 := blk_cell h1 4 rfl; have fb_4 := blk_free h1 4; have cb_5 := blk_cell h1 5 rfl; have fb_5 := blk_free h1 5; have cb_6 := blk_cell h1 6 rfl; have fb_6 := blk_free h1 6; have cb_7 := blk_cell h1 7 rfl; have fb_7 := blk_free h1 7; have cb_8 := blk_cell h1 8 rfl; have fb_8 := blk_free h1 8; have cb_9 := blk_cell h1 9 rfl; have fb_9 := blk_free h1 9; have cb_10 := blk_cell h1 10 rfl; have fb_10 := blk_free h1 10; have cb_11 := blk_cell h1 11 rfl; have fb_11 := blk_free h1 11; have lb := lt_of_block h1
  have HR := Lib.hid hr1
  have HB1 := Lib.hid hb1
  clear hr1 hb1
  go_wp2_with fail
  go_ret
  have hlt1 : ∀ g, blkOf A1 = some g → w.heap.size + 1 ≤ g := fun g hg => by have := (HR.out.lt hg).1; simpa using this
  have hblk := blk_set (cs := (lkl r s A c).toArray) h1 8 (.slice A1 s.u.length c1)
  rw [lkl, List.setIfInBounds_toArray] at hblk
  refine ⟨w.heap.size, A1, c1, rfl, ⟨by simpa [lkl] using hblk, ?_, Nat.le_refl _⟩, ?_⟩
  · exact (HR.out.far (p := ⟨w.heap.size, 8, none⟩) (fun g hg => by have := hlt1 g hg; show g ≠ w.heap.size; omega) _).more (by simp)
  · have HB := HB1.out
    exact Below.setCell (((Below.refl _ w).alloc (Nat.le_refl _) _).trans (HB.mono (by simp))) (by simp) _
end Go.Proofs.Ytgdpoiapkaahfaa

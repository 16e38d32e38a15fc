/- A pilot lets time pass. -/
import Derived.Test.YtjidchaejicjaaaPlB
namespace Go.Proofs.Ytjidchaejicjaaa
open Go.RowKit
set_option maxHeartbeats 4000000
set_option maxRecDepth 100000
set_option linter.unusedSimpArgs false
set_option linter.unusedVariables false
attribute [local go_sem ↓] Go.wp_at_zero Go.wp_at_succ
section
variable {w w' : World} {base b c : Nat} {s : Plt.St}
/-- how far the events have come -/
def PassRel (base b c : Nat) (w : World) (l : Int) (R : Plt.St) (kx : Nat) (wr : World) : Prop :=
  ∃ t, Plt.rank t.st ≤ kx ∧ IsP wr base b c t ∧ Plt.Inv t ∧ Plt.run 4 t l = R ∧ Keeps (fun i => i = b) w wr
theorem pass_any (h : IsP w base b c s) (hs : Plt.Inv s) {l : Int} (hl : -1073741824 ≤ l ∧ l ≤ 1073741824) :
    Calls Try.prog 37 #[.pointer (some ⟨b, 0, none⟩), .int .i64 l] w fun e w' => e = .returned (.tuple #[]) ∧ IsP w' base b c (Plt.pas s l) ∧ Keeps (fun i => i = b) w w' := by
  have H := Lib.hid h
  have hk := h.blk
  have HS := Lib.hid (Plt.beg_inv hs hl)
  obtain ⟨R, hR⟩ : ∃ R, R = Plt.pas s l := ⟨_, rfl⟩
  have HR := Lib.hid hR
  rw [← hR]
  unfold Plt.pas at hR
  have HR2 := Lib.hid hR
  simp only [pcl] at hk
  clear h hs hR
  have ca_0 := blk_cell hk 0 rfl; have fa_0 := blk_free hk 0; have ca_1 := blk_cell hk 1 rfl; have fa_1 := blk_free hk 1; have ca_2 := blk_cell hk 2 rfl; have fa_2 := blk_free hk 2; have ca_3 := blk_cell hk 3 rfl; have fa_3 := blk_free hk 3; have ca_4 := blk_cell hk 4 rfl; have fa_4 := blk_free hk 4; have ca_5 := blk_cell hk 5 rfl; have fa_5 := blk_free hk 5; have ca_6 := blk_cell hk 6 rfl; have fa_6 := blk_free hk 6; have ca_7 := blk_cell hk 7 rfl; have fa_7 := blk_free hk 7; have ca_8 := blk_cell hk 8 rfl; have fa_8 := blk_free hk 8; have ca_9 := blk_cell hk 9 rfl; have fa_9 := blk_free hk 9; have ca_10 := blk_cell hk 10 rfl; have fa_10 := blk_free hk 10; have ca_11 := blk_cell hk 11 rfl; have fa_11 := blk_free hk 11; have ca_12 := blk_cell hk 12 rfl; have fa_12 := blk_free hk 12; have ca_13 := blk_cell hk 13 rfl; have fa_13 := blk_free hk 13; have ca_14 := blk_cell hk 14 rfl; have fa_14 := blk_free hk 14; have ca_15 := blk_cell hk 15 rfl; have fa_15 := blk_free hk 15; have ca_16 := blk_cell hk 16 rfl; have fa_16 := blk_free hk 16; have ca_17 := blk_cell hk 17 rfl; have fa_17 := blk_free hk 17; have ca_18 := blk_cell hk 18 rfl; have fa_18 := blk_free hk 18; have la := lt_of_block hk
  have key : ∀ t, t = Plt.beg s l → ∀ w1 : World, IsP w1 base b c { t with now := l } → Keeps (fun i => i = b) w w1 → Hid (PassRel base b c w l R 5 w1) := fun t ht w1 h1 h2 =>
    Lib.hid ⟨{ t with now := l }, by have := Plt.rank_le t.st; simp only; omega, h1, by rw [ht]; exact HS.out, by rw [ht]; exact HR2.out.symm, h2⟩
  have KEY := Lib.hid key
  clear key
  cases hb : s.begun
  · have HB := Lib.hid (show Plt.beg s l = { s with begun := true, heard := l, since := l } by unfold Plt.beg; rw [hb]; rfl)
    rw [hb] at hk ca_8
    clear hb
    go_enter Try.func37, Try.ntmps37
    go_wp2_with fail
    generalize hW : World.setCell _ _ _ = W
    have HS0 := KEY.out _ HB.out.symm W ⟨by simp only [pcl]; rw [← hW]; exact (by apply Eq.trans; (repeat (first | (with_reducible assumption) | (with_reducible apply blk_set) | ((with_reducible apply blk_far); rotate_left; (first | omega | (simp <;> omega)); rotate_right) | (with_reducible apply blk_drew) | (with_reducible apply blk_drewN) | ((with_reducible apply heap_new'); (first | rfl | (simp <;> fail))) | (with_reducible apply blk_alloc))); (first | with_reducible rfl | (simp <;> fail) | rfl)), H.out.clk_kept (by rw [← hW]; (repeat (first | with_reducible exact Keeps.refl _ _ | (with_reducible refine Keeps.set1 ?_ _ _) | (with_reducible refine Keeps.drew ?_) | (with_reducible refine Keeps.drewN ?_ _) | (with_reducible refine Keeps.alloc ?_ _)))), H.out.ge⟩ (by rw [← hW]; (repeat (first | with_reducible exact Keeps.refl _ _ | (with_reducible refine Keeps.set1 ?_ _ _) | (with_reducible refine Keeps.drew ?_) | (with_reducible refine Keeps.drewN ?_ _) | (with_reducible refine Keeps.alloc ?_ _))))
    clear ca_0 fa_0 ca_1 fa_1 ca_2 fa_2 ca_3 fa_3 ca_4 fa_4 ca_5 fa_5 ca_6 fa_6 ca_7 fa_7 ca_8 fa_8 ca_9 fa_9 ca_10 fa_10 ca_11 fa_11 ca_12 fa_12 ca_13 fa_13 ca_14 fa_14 ca_15 fa_15 ca_16 fa_16 ca_17 fa_17 ca_18 fa_18
    clear hW hk
    go_loopg [4, 5, 6] 5 (fun kx v4 v5 v6 wr => Hid (PassRel base b c w l R kx wr))
    case atStart => exact HS0
    case round =>
      obtain ⟨t, hrk, ht, hti, htr, htk⟩ := hrel.out
      have HT := Lib.hid ht
      have HTI := Lib.hid hti
      have HTR := Lib.hid htr
      have HTK := Lib.hid htk
      have EV := Lib.hid (event_any ht hti)
      obtain ⟨a, ha⟩ : ∃ a, a = (Plt.evt t).1 := ⟨_, rfl⟩
      obtain ⟨x, hx⟩ : ∃ x, x = (Plt.evt t).2.1 := ⟨_, rfl⟩
      rw [← ha, ← hx] at EV
      have EN := Lib.hid (fun (W : World) (hW : Below wr.heap.size wr W) => enter_any (ht.below hW (Nat.le_refl _)) x a)
      have HA := Lib.hid (show Plt.adv t = Plt.ent t x a by rw [ha, hx]; rfl)
      clear ht hti htr htk hrel HS0
      cases hf : (Plt.evt t).2.2
      · have HD := Lib.hid (show Plt.due t l = false by unfold Plt.due; rw [hf]; rfl)
        rw [hf] at EV
        clear hf ha hx EN
        go_wp2_with fail
        refine EV.out.mono ?_
        rintro e w1 ⟨rfl, hb1⟩
        go_wp2_with fail
        go_returns
        exact ⟨rfl, by rw [← HTR.out, Plt.run_stop HD.out]; exact HT.out.below hb1 (Nat.le_refl _), HTK.out.trans (Keeps.of_below hb1) (fun _ _ h => h)⟩
      by_cases hle : a ≤ l
      · have HD := Lib.hid (show Plt.due t l = true by unfold Plt.due; rw [hf, ← ha, decide_eq_true hle]; rfl)
        have z : decide (l < a) = false := decide_eq_false (by omega)
        rw [hf] at EV
        clear hf ha hx hle
        go_wp2_with fail
        refine EV.out.mono ?_
        rintro e w1 ⟨rfl, hb1⟩
        have HB1 := Lib.hid hb1
        clear hb1
        go_wp2_with fail
        refine (EN.out _ HB1.out).mono ?_
        rintro e w2 ⟨rfl, hp2, hk2⟩
        go_wp2_with fail
        go_roundg (Plt.rank (Plt.adv t).st)
        case rel => exact Lib.hid ⟨Plt.adv t, Nat.le_refl _, by rw [HA.out]; exact hp2, Plt.adv_inv HTI.out hl.2 HD.out, by rw [Plt.run_due HD.out]; exact HTR.out, (HTK.out.trans (Keeps.of_below HB1.out) (fun _ _ h => h)).trans hk2 (fun _ _ h => h)⟩
        case measure => have := Plt.due_rank HD.out; omega
      · have HD := Lib.hid (show Plt.due t l = false by unfold Plt.due; rw [hf, ← ha, decide_eq_false hle]; rfl)
        have z : decide (l < a) = true := decide_eq_true (by omega)
        rw [hf] at EV
        clear hf ha hx hle EN
        go_wp2_with fail
        refine EV.out.mono ?_
        rintro e w1 ⟨rfl, hb1⟩
        go_wp2_with fail
        go_returns
        exact ⟨rfl, by rw [← HTR.out, Plt.run_stop HD.out]; exact HT.out.below hb1 (Nat.le_refl _), HTK.out.trans (Keeps.of_below hb1) (fun _ _ h => h)⟩
  · have HB := Lib.hid (show Plt.beg s l = s by unfold Plt.beg; rw [hb]; rfl)
    rw [hb] at hk ca_8
    have HBB := Lib.hid hb
    clear hb
    go_enter Try.func37, Try.ntmps37
    go_wp2_with fail
    generalize hW : World.setCell _ _ _ = W
    have HS0 := KEY.out _ HB.out.symm W ⟨by simp only [pcl]; rw [HBB.out, ← hW]; exact (by apply Eq.trans; (repeat (first | (with_reducible assumption) | (with_reducible apply blk_set) | ((with_reducible apply blk_far); rotate_left; (first | omega | (simp <;> omega)); rotate_right) | (with_reducible apply blk_drew) | (with_reducible apply blk_drewN) | ((with_reducible apply heap_new'); (first | rfl | (simp <;> fail))) | (with_reducible apply blk_alloc))); (first | with_reducible rfl | (simp <;> fail) | rfl)), H.out.clk_kept (by rw [← hW]; (repeat (first | with_reducible exact Keeps.refl _ _ | (with_reducible refine Keeps.set1 ?_ _ _) | (with_reducible refine Keeps.drew ?_) | (with_reducible refine Keeps.drewN ?_ _) | (with_reducible refine Keeps.alloc ?_ _)))), H.out.ge⟩ (by rw [← hW]; (repeat (first | with_reducible exact Keeps.refl _ _ | (with_reducible refine Keeps.set1 ?_ _ _) | (with_reducible refine Keeps.drew ?_) | (with_reducible refine Keeps.drewN ?_ _) | (with_reducible refine Keeps.alloc ?_ _))))
    clear ca_0 fa_0 ca_1 fa_1 ca_2 fa_2 ca_3 fa_3 ca_4 fa_4 ca_5 fa_5 ca_6 fa_6 ca_7 fa_7 ca_8 fa_8 ca_9 fa_9 ca_10 fa_10 ca_11 fa_11 ca_12 fa_12 ca_13 fa_13 ca_14 fa_14 ca_15 fa_15 ca_16 fa_16 ca_17 fa_17 ca_18 fa_18
    clear hW hk
    go_loopg [4, 5, 6] 5 (fun kx v4 v5 v6 wr => Hid (PassRel base b c w l R kx wr))
    case atStart => exact HS0
    case round =>
      obtain ⟨t, hrk, ht, hti, htr, htk⟩ := hrel.out
      have HT := Lib.hid ht
      have HTI := Lib.hid hti
      have HTR := Lib.hid htr
      have HTK := Lib.hid htk
      have EV := Lib.hid (event_any ht hti)
      obtain ⟨a, ha⟩ : ∃ a, a = (Plt.evt t).1 := ⟨_, rfl⟩
      obtain ⟨x, hx⟩ : ∃ x, x = (Plt.evt t).2.1 := ⟨_, rfl⟩
      rw [← ha, ← hx] at EV
      have EN := Lib.hid (fun (W : World) (hW : Below wr.heap.size wr W) => enter_any (ht.below hW (Nat.le_refl _)) x a)
      have HA := Lib.hid (show Plt.adv t = Plt.ent t x a by rw [ha, hx]; rfl)
      clear ht hti htr htk hrel HS0
      cases hf : (Plt.evt t).2.2
      · have HD := Lib.hid (show Plt.due t l = false by unfold Plt.due; rw [hf]; rfl)
        rw [hf] at EV
        clear hf ha hx EN
        go_wp2_with fail
        refine EV.out.mono ?_
        rintro e w1 ⟨rfl, hb1⟩
        go_wp2_with fail
        go_returns
        exact ⟨rfl, by rw [← HTR.out, Plt.run_stop HD.out]; exact HT.out.below hb1 (Nat.le_refl _), HTK.out.trans (Keeps.of_below hb1) (fun _ _ h => h)⟩
      by_cases hle : a ≤ l
      · have HD := Lib.hid (show Plt.due t l = true by unfold Plt.due; rw [hf, ← ha, decide_eq_true hle]; rfl)
        have z : decide (l < a) = false := decide_eq_false (by omega)
        rw [hf] at EV
        clear hf ha hx hle
        go_wp2_with fail
        refine EV.out.mono ?_
        rintro e w1 ⟨rfl, hb1⟩
        have HB1 := Lib.hid hb1
        clear hb1
        go_wp2_with fail
        refine (EN.out _ HB1.out).mono ?_
        rintro e w2 ⟨rfl, hp2, hk2⟩
        go_wp2_with fail
        go_roundg (Plt.rank (Plt.adv t).st)
        case rel => exact Lib.hid ⟨Plt.adv t, Nat.le_refl _, by rw [HA.out]; exact hp2, Plt.adv_inv HTI.out hl.2 HD.out, by rw [Plt.run_due HD.out]; exact HTR.out, (HTK.out.trans (Keeps.of_below HB1.out) (fun _ _ h => h)).trans hk2 (fun _ _ h => h)⟩
        case measure => have := Plt.due_rank HD.out; omega
      · have HD := Lib.hid (show Plt.due t l = false by unfold Plt.due; rw [hf, ← ha, decide_eq_false hle]; rfl)
        have z : decide (l < a) = true := decide_eq_true (by omega)
        rw [hf] at EV
        clear hf ha hx hle EN
        go_wp2_with fail
        refine EV.out.mono ?_
        rintro e w1 ⟨rfl, hb1⟩
        go_wp2_with fail
        go_returns
        exact ⟨rfl, by rw [← HTR.out, Plt.run_stop HD.out]; exact HT.out.below hb1 (Nat.le_refl _), HTK.out.trans (Keeps.of_below hb1) (fun _ _ h => h)⟩
end
end Go.Proofs.Ytjidchaejicjaaa

/- Load of the reference. -/
import Derived.Test.YtgmejplcdecmkaaLgV
namespace Go.Proofs.Ytgmejplcdecmkaa
open Go.RowKit
set_option maxHeartbeats 16000000
set_option maxRecDepth 100000
set_option linter.unusedSimpArgs false
set_option linter.unusedVariables false
attribute [local go_sem ↓] Go.wp_at_zero Go.wp_at_succ
theorem rjapp_any {w : World} {X : Nat → Prop} {A : Option Addr} {n c : Nat} {vs : List Lg.RV} (h : Lg.IsJ w X A n vs) (hn : n ≤ 1000000) (v : Lg.RV) (hv : Lg.Ok w w.heap.size v) (hd : v.x.f.d.length ≤ 1000) :
    Calls Try.prog 50 #[.slice A n c, v.val] w fun e w' => RAppPost vs X v.x w e w' := by
  by_cases he : Lg.addE (Lg.xs vs) v.x = 0
  · exact rjapp_yes h v hv he hd
  · refine (rjapp_no h.rr hn v hv he).mono ?_
    rintro e w' ⟨rfl, hb⟩
    have hl := h.len
    subst hl
    refine ⟨A, c, vs, rfl, (h.below hb).mono (fun i _ hi => .inl hi), ?_, hb⟩
    unfold Lg.add
    rw [if_neg he]
/-- behind the reference's Load -/
def RLoadPost (L : List Lg.Rc) (w : World) (e : Ending) (w' : World) : Prop :=
  Below w.heap.size w w' ∧ (((Lg.ld [] L).2.2 ≠ 0 ∧ e = .returned (.tuple #[.slice none 0 0, .int .i64 ((Lg.ld [] L).2.1 : Nat), .int .i64 (Lg.ld [] L).2.2])) ∨
    ((Lg.ld [] L).2.2 = 0 ∧ ∃ A c vs, e = .returned (.tuple #[.slice A vs.length c, .int .i64 0, .int .i64 0]) ∧ Lg.IsJ w' (fun i => w.heap.size ≤ i) A vs.length vs ∧ Lg.xs vs = (Lg.ld [] L).1))
theorem RLoadPost.no {L : List Lg.Rc} {w w' : World} {out : List Lg.Rc} {j : Nat} {er : Int} (h : Lg.ld [] L = (out, j, er)) (he : er ≠ 0) (hb : Below w.heap.size w w') : RLoadPost L w (.returned (.tuple #[.slice none 0 0, .int .i64 (j : Nat), .int .i64 er])) w' := by
  unfold RLoadPost
  rw [h]
  exact ⟨hb, .inl ⟨he, rfl⟩⟩
open Lg (IsJ)
theorem rload_any (A : Option Addr) (n cap : Nat) (ws : List Lg.RV) (w : World) (hn : n ≤ 100000) (h : Lg.Rr w w.heap.size A n ws) (hd : ∀ y ∈ ws, y.x.f.d.length ≤ 1000) :
    Calls Try.prog 16 #[.slice A n cap] w fun e w' => RLoadPost (Lg.xs ws) w e w' := by
  have H := Lib.hid h
  have HL := Lib.hid h.len
  have HD := Lib.hid hd
  clear h hd
  go_enter Try.func16, Try.ntmps16
  go_wp2_with fail
  go_loopw [5, 6] (fun s5 s6 wr => ∃ (j : Nat) (A' : Option Addr) (m c' : Nat) (vs : List Lg.RV), s6 = .int .i64 j ∧ s5 = .slice A' m c' ∧ j ≤ n ∧ m ≤ j ∧ Hid (IsJ wr (fun i => w.heap.size ≤ i) A' m vs) ∧ Hid (Lg.LdI (Lg.xs ws) (Lg.xs vs) j) ∧ Hid (Below w.heap.size w wr)) (fun _ s _ => n - (intOf s).toNat)
  case atStart => exact ⟨0, none, 0, 0, [], by go_num, rfl, by omega, by omega, Lib.hid (IsJ.nil _ _), Lib.hid (Lg.LdI.zero _), Lib.hid (by repeat (first | (with_reducible exact Below.refl _ _) | (with_reducible refine Below.drew ?_) | (with_reducible refine below_drewN ?_ _) | ((with_reducible refine Below.alloc ?_ ?_ _); rotate_left; (first | omega | (simp <;> omega)); rotate_right) | ((with_reducible refine Below.setCell ?_ ?_ _); rotate_left; (first | omega | (simp <;> omega)); rotate_right) | (with_reducible assumption) | (refine Below.trans ?_ (Below.mono (by assumption) ?_); rotate_left; (first | omega | (simp <;> omega)); rotate_right)))⟩
  case round =>
    obtain ⟨j, A', m', c', vs, rfl, rfl, hj, hmj, LG, LI, HB⟩ := hrel
    have hzr := HB.out.size
    by_cases hlt : j < n
    · obtain ⟨b, o, rfl, hbl, hcl, hok⟩ := (H.out.up HB.out).at_ hlt
      have HX := Lib.hid (Lg.xs_at (l := ws) (i := j) (by rw [HL.out]; exact hlt))
      have hjw := Lib.hid (show j < (Lg.xs ws).length by rw [Lg.xs_len, HL.out]; exact hlt)
      have hdl := HD.out (ws.getD j Lg.rv0) (by simp [List.getD, List.getElem?_eq_getElem (show j < ws.length by rw [HL.out]; exact hlt)])
      have l1 := Lg.RV.len (ws.getD j Lg.rv0)
      generalize ws.getD j Lg.rv0 = v at *
      have hvn : m' ≤ 1000000 := by omega
      have MY := Lib.hid (fun (W : World) (hW : Below wr.heap.size wr W) => rjmay_any (c := c') (LG.out.rr.up hW) hvn v (hok.up hW))
      have EN := Lib.hid (fun (W : World) (hW : Below wr.heap.size wr W) => rjend_any (c := c') (LG.out.rr.up hW) hvn)
      have SU := Lib.hid (fun (b : Int) (W : World) (hW : Below wr.heap.size wr W) => rlsum_any b v W (hok.up hW))
      have AD := Lib.hid (fun (W : World) (hW : Below wr.heap.size wr W) => rjapp_any (c := c') (LG.out.below hW) hvn v (hok.up hW) hdl)
      have jn : (j : Int) < (n : Int) := by omega
      have BAD := Lib.hid (fun (he : Lg.ldE (Lg.xs vs) v.x ≠ 0) => show Lg.ld [] (Lg.xs ws) = (Lg.xs vs, j, Lg.ldE (Lg.xs vs) v.x) from by have := LI.out.bad hjw.out (by rw [HX.out]; exact he); rw [HX.out] at this; exact this)
      have GO := Lib.hid (fun (he : Lg.ldE (Lg.xs vs) v.x = 0) => show Lg.LdI (Lg.xs ws) (Lg.add (Lg.xs vs) v.x) (j + 1) from by have := LI.out.go hjw.out (by rw [HX.out]; exact he); rw [HX.out] at this; exact this)
      have HCL := Lib.hid hcl
      clear hok HX hjw LI HD
      obtain ⟨m, hm⟩ : ∃ m, m = Lg.mayE (Lg.xs vs) v.x := ⟨_, rfl⟩
      rw [← hm] at MY
      have HM := Lib.hid hm
      clear hm
      go_wp2_with (refine wpList_load_at rfl 32 _ rfl b (o + j * 13) rfl _ _ hcl Try.underlying32 rfl (by rw [l1]; kernel_rfl) ?_)
      refine (MY.out _ (Below.refl _ _)).mono ?_
      rintro e w2 ⟨rfl, B2⟩
      have hcl2 := (fun i u hu => ((bcell B2).1 b _ hbl).trans (HCL.out i u hu))
      clear hcl
      by_cases h0 : m = 0
      rotate_left
      · have hmz : (m != 0) = true := by simp [h0]
        have E := Lib.hid (show Lg.ldE (Lg.xs vs) v.x = m by unfold Lg.ldE; rw [if_pos (by rw [← HM.out]; exact h0), ← HM.out])
        have H0 := Lib.hid h0
        clear h0
        go_wp2_with fail
        go_ret3
        exact RLoadPost.no (by have := BAD.out (by rw [E.out]; exact H0.out); rw [E.out] at this; exact this) H0.out (HB.out.trans (B2.mono hzr))
      subst h0
      obtain ⟨S0, hS0⟩ : ∃ S0, S0 = Lg.endS (Lg.xs vs) := ⟨_, rfl⟩
      rw [← hS0] at EN
      obtain ⟨N0, hN0⟩ : ∃ N0, N0 = Lg.sumO S0 v.x := ⟨_, rfl⟩
      have SU0 := Lib.hid (fun (W : World) (hW : Below wr.heap.size wr W) => hN0 ▸ SU.out S0 W hW)
      have HN := Lib.hid (show N0 = Lg.sumO (Lg.endS (Lg.xs vs)) v.x by rw [hN0, hS0])
      clear hS0 hN0 SU MY
      go_upto_region 8 with fail
      refine wp_region_held_drew (S := fun w' => (∀ i u, v.cells[i]? = some u → w'.cell? ⟨b, o + j * 13 + i, none⟩ = some u) ∧ True) (by kernel_rfl) ?_ (fun h0 => ?_)
      · exact ⟨hcl2, trivial⟩
      refine wpAnyH_take (i := 0) (v := ?_) rfl (by kernel_rfl) (by kernel_rfl) (by kernel_rfl) (fun _ _ _ h => h) (Or.inl ⟨by rfl, ?_⟩) h0 ?_
      rotate_left
      focus (intro w' hSw; skip; go_simp; (try with_reducible rfl))
      (try simp only [List.getElem_toArray, List.getElem_cons_succ, List.getElem_cons_zero, Act.put, List.setIfInBounds_toArray, List.set_cons_zero, List.set_cons_succ])
      refine wpAnyH_take (i := 2) (v := ?_) rfl (by kernel_rfl) (by kernel_rfl) (by kernel_rfl) (fun _ _ _ h => h) (Or.inl ⟨by rfl, ?_⟩) h0 ?_
      rotate_left
      focus (intro w' hSw; skip; go_simp; (try with_reducible rfl))
      (try simp only [List.getElem_toArray, List.getElem_cons_succ, List.getElem_cons_zero, Act.put, List.setIfInBounds_toArray, List.set_cons_zero, List.set_cons_succ])
      refine wpAnyH_take (i := 3) (v := ?_) rfl (by kernel_rfl) (by kernel_rfl) (by kernel_rfl) (fun _ _ _ h => h) (Or.inl ⟨by rfl, ?_⟩) h0 ?_
      rotate_left
      focus (intro w' hSw; skip; go_simp; (try with_reducible rfl))
      (try simp only [List.getElem_toArray, List.getElem_cons_succ, List.getElem_cons_zero, Act.put, List.setIfInBounds_toArray, List.set_cons_zero, List.set_cons_succ])
      refine wpAnyH_take (i := 4) (v := ?_) rfl (by kernel_rfl) (by kernel_rfl) (by kernel_rfl) (fun _ _ _ h => h) (Or.inl ⟨by rfl, ?_⟩) h0 ?_
      rotate_left
      focus (intro w' hSw; skip; go_simp; (try with_reducible rfl))
      (try simp only [List.getElem_toArray, List.getElem_cons_succ, List.getElem_cons_zero, Act.put, List.setIfInBounds_toArray, List.set_cons_zero, List.set_cons_succ])
      refine wpAnyH_take (i := 5) (v := .agg v.cells.toArray) rfl (by kernel_rfl) (by kernel_rfl) (by kernel_rfl) (fun _ _ _ h => h) (yields_load_at (by rfl) 32 _ rfl b (o + j * 13) rfl _ _ (fun w' hS => hS.1) Try.underlying32 rfl (by rw [l1]; kernel_rfl)) h0 ?_
      (try simp only [List.getElem_toArray, List.getElem_cons_succ, List.getElem_cons_zero, Act.put, List.setIfInBounds_toArray, List.set_cons_zero, List.set_cons_succ])
      refine wpAnyH_ready (rs := [1]) (by kernel_rfl) (by simp) ?_
      refine AllReadyH.cons rfl (fun K hK => ?_) AllReadyH.nil
      go_simp
      refine (EN.out _ B2.drew).mono ?_
      rintro e W5 ⟨rfl, rfl⟩
      go_wp2_with fail
      have B5 := below_drewN B2 1
      refine hK.out _ _ ?_ (fun h1 => ?_)
      · exact ⟨hcl2, trivial⟩
      clear hK K
      (try simp only [List.getElem_toArray, List.getElem_cons_succ, List.getElem_cons_zero, Act.put, List.setIfInBounds_toArray, List.set_cons_zero, List.set_cons_succ])
      refine wpAnyH_ready (rs := [6]) (by kernel_rfl) (by simp) ?_
      refine AllReadyH.cons rfl (fun K hK => ?_) AllReadyH.nil
      go_simp
      refine (SU0.out _ (below_drewN B2 1)).mono ?_
      rintro e W6 ⟨rfl, hb6⟩
      go_wp2_with fail
      have B6 := B5.trans (hb6.mono B5.size)
      have hcl6 := (fun i u hu => ((bcell B6).1 b _ hbl).trans (HCL.out i u hu))
      refine hK.out _ _ ?_ (fun h2 => ?_)
      · exact ⟨hcl6, trivial⟩
      clear hK K
      (try simp only [List.getElem_toArray, List.getElem_cons_succ, List.getElem_cons_zero, Act.put, List.setIfInBounds_toArray, List.set_cons_zero, List.set_cons_succ])
      refine wpAnyH_take (i := 7) (v := ?_) rfl (by kernel_rfl) (by kernel_rfl) (by kernel_rfl) (fun _ _ _ h => h) (Or.inl ⟨by rfl, ?_⟩) h2 ?_
      rotate_left
      focus (intro w' hSw; skip; go_simp; (try with_reducible rfl))
      (try simp only [List.getElem_toArray, List.getElem_cons_succ, List.getElem_cons_zero, Act.put, List.setIfInBounds_toArray, List.set_cons_zero, List.set_cons_succ])
      refine wpAnyH_take (i := 8) (v := ?_) rfl (by kernel_rfl) (by kernel_rfl) (by kernel_rfl) (fun _ _ _ h => h) (Or.inl ⟨by rfl, ?_⟩) h2 ?_
      rotate_left
      focus (intro w' hSw; skip; go_simp; (try with_reducible rfl))
      (try simp only [List.getElem_toArray, List.getElem_cons_succ, List.getElem_cons_zero, Act.put, List.setIfInBounds_toArray, List.set_cons_zero, List.set_cons_succ])
      refine wpAnyH_take (i := 9) (v := ?_) rfl (by kernel_rfl) (by kernel_rfl) (by kernel_rfl) (fun _ _ _ h => h) (Or.inl ⟨by rfl, ?_⟩) h2 ?_
      rotate_left
      focus (intro w' hSw; skip; go_simp; (try with_reducible rfl))
      (try simp only [List.getElem_toArray, List.getElem_cons_succ, List.getElem_cons_zero, Act.put, List.setIfInBounds_toArray, List.set_cons_zero, List.set_cons_succ])
      refine wpAnyH_take (i := 10) (v := ?_) rfl (by kernel_rfl) (by kernel_rfl) (by kernel_rfl) (fun _ _ _ h => h) (Or.inl ⟨by rfl, ?_⟩) h2 ?_
      rotate_left
      focus (intro w' hSw; skip; go_simp; (try with_reducible rfl))
      (try simp only [List.getElem_toArray, List.getElem_cons_succ, List.getElem_cons_zero, Act.put, List.setIfInBounds_toArray, List.set_cons_zero, List.set_cons_succ])
      refine wpAnyH_take (i := 11) (v := ?_) rfl (by kernel_rfl) (by kernel_rfl) (by kernel_rfl) (fun _ _ _ h => h) (Or.inl ⟨by rfl, ?_⟩) h2 ?_
      rotate_left
      focus (intro w' hSw; skip; go_simp; (try with_reducible rfl))
      (try simp only [List.getElem_toArray, List.getElem_cons_succ, List.getElem_cons_zero, Act.put, List.setIfInBounds_toArray, List.set_cons_zero, List.set_cons_succ])
      refine wpAnyH_done (by kernel_rfl) ?_ _
      clear h0 h1 h2 hb6 B5 B2 hcl2
      have c12 : W6.cell? ⟨b, o + j * 13 + 12, none⟩ = some (.int .u32 v.x.sum) := hcl6 12 _ rfl
      have HCL6 := Lib.hid hcl6
      clear hcl6
      by_cases hs : N0 = v.x.sum
      rotate_left
      · have hz : (N0 != v.x.sum) = true := by simp [hs]
        have E := Lib.hid (show Lg.ldE (Lg.xs vs) v.x = 400 by unfold Lg.ldE; rw [if_neg (by rw [← HM.out]; simp), if_pos (by rw [← HN.out]; exact hs)])
        clear hs
        go_wp2_with fail
        go_ret3
        exact RLoadPost.no (by have := BAD.out (by rw [E.out]; decide); rw [E.out] at this; exact this) (by decide) (HB.out.trans (B6.mono hzr))
      have hz : (N0 != v.x.sum) = false := by simp [hs]
      have E := Lib.hid (show Lg.ldE (Lg.xs vs) v.x = Lg.addE (Lg.xs vs) v.x by unfold Lg.ldE; rw [if_neg (by rw [← HM.out]; simp), if_neg (by rw [← HN.out]; simp [hs])])
      clear hs
      go_wp2_with (refine wpList_load_at rfl 32 _ rfl b (o + j * 13) rfl _ _ HCL6.out Try.underlying32 rfl (by rw [l1]; kernel_rfl) ?_)
      refine (AD.out _ B6).mono ?_
      rintro e w7 ⟨A7, c7, vs7, rfl, hl7, hx7, hb7⟩
      have B7 := Lib.hid (show Below w.heap.size w w7 from (HB.out.trans (B6.mono hzr)).trans (hb7.mono (Nat.le_trans hzr B6.size)))
      have LG7 := Lib.hid (hl7.mono (X' := fun i => w.heap.size ≤ i) (fun i _ hi => hi.elim id (fun h => Nat.le_trans (Nat.le_trans hzr B6.size) h)))
      by_cases h0 : Lg.addE (Lg.xs vs) v.x = 0
      · have X7 := Lib.hid (show Lg.LdI (Lg.xs ws) (Lg.xs vs7) (j + 1) by rw [hx7]; exact GO.out (E.out.trans h0))
        have V7 : vs7.length ≤ j + 1 := by
          have : (Lg.xs vs7).length = _ := congrArg List.length hx7
          rw [Lg.xs_len] at this
          rw [this]
          unfold Lg.add
          rw [if_pos h0, List.length_append, Lg.xs_len]
          have := LG.out.len
          show vs.length + 1 ≤ j + 1
          omega
        rw [h0]
        clear h0 hx7 hl7 hb7
        generalize vs7.length = m7 at *
        go_wp2_with fail
        go_roundw
        case rel => exact ⟨j + 1, A7, m7, c7, vs7, by go_num, rfl, by omega, V7, LG7, X7, B7⟩
        case measure => simp [intOf]; omega
      · have hmz : (Lg.addE (Lg.xs vs) v.x != 0) = true := by simp [h0]
        have H0 := Lib.hid h0
        clear h0 hx7 hl7 hb7
        generalize Lg.addE (Lg.xs vs) v.x = m2 at *
        go_wp2_with fail
        go_ret3
        exact RLoadPost.no (by have := BAD.out (by rw [E.out]; exact H0.out); rw [E.out] at this; exact this) H0.out B7.out
    · obtain rfl : j = n := by omega
      have E := Lib.hid (show Lg.ld [] (Lg.xs ws) = (Lg.xs vs, 0, 0) from LI.out.end_ (by rw [Lg.xs_len, HL.out]))
      have HLn := LG.out.len
      subst HLn
      go_wp2_with fail
      go_ret3
      refine ⟨HB.out, .inr ⟨by rw [E.out], A', c', vs, rfl, LG.out, by rw [E.out]⟩⟩
end Go.Proofs.Ytgmejplcdecmkaa

/- Load: a log out of its records. -/
import Derived.Test.YtgmejplcdecmkaaLgU
import Derived.Test.YtgmejplcdecmkaaLgN
namespace Go.Proofs.Ytgmejplcdecmkaa
open Go.RowKit
set_option maxHeartbeats 16000000
set_option maxRecDepth 100000
set_option linter.unusedSimpArgs false
set_option linter.unusedVariables false
attribute [local go_sem ↓] Go.wp_at_zero Go.wp_at_succ
namespace Lg
/-- where the loading stands behind j records -/
def LdI (L out : List Rc) (j : Nat) : Prop := ld [] L = (let q := ld out (L.drop j); if q.2.2 = 0 then q else (q.1, q.2.1 + j, q.2.2))
theorem LdI.zero (L : List Rc) : LdI L [] 0 := by
  unfold LdI
  rw [List.drop_zero]
  simp only [Nat.add_zero]
  split <;> rfl
theorem LdI.go {L out : List Rc} {j : Nat} (h : LdI L out j) (hj : j < L.length) (he : ldE out (L.getD j r0) = 0) : LdI L (add out (L.getD j r0)) (j + 1) := by
  have e : L.getD j r0 = L[j] := by simp [List.getD, List.getElem?_eq_getElem hj]
  unfold LdI at h ⊢
  rw [h, List.drop_eq_getElem_cons hj, ← e]
  have : ld out (L.getD j r0 :: L.drop (j + 1)) = (let q := ld (add out (L.getD j r0)) (L.drop (j + 1)); if q.2.2 = 0 then q else (q.1, q.2.1 + 1, q.2.2)) := by
    rw [ld, if_pos he]
  rw [this]
  simp only
  by_cases h0 : (ld (add out (L.getD j r0)) (L.drop (j + 1))).2.2 = 0
  · rw [if_pos h0, if_pos h0, if_pos h0]
  · rw [if_neg h0, if_neg h0, if_neg h0, Nat.add_assoc, Nat.add_comm 1 j]
theorem LdI.bad {L out : List Rc} {j : Nat} (h : LdI L out j) (hj : j < L.length) (he : ldE out (L.getD j r0) ≠ 0) : ld [] L = (out, j, ldE out (L.getD j r0)) := by
  have e : L.getD j r0 = L[j] := by simp [List.getD, List.getElem?_eq_getElem hj]
  unfold LdI at h
  rw [h, List.drop_eq_getElem_cons hj, ← e]
  have : ld out (L.getD j r0 :: L.drop (j + 1)) = (out, 0, ldE out (L.getD j r0)) := by
    rw [ld, if_neg he]
  rw [this]
  simp only
  rw [if_neg he, Nat.zero_add]
theorem LdI.end_ {L out : List Rc} {j : Nat} (h : LdI L out j) (hj : j = L.length) : ld [] L = (out, 0, 0) := by
  unfold LdI at h
  rw [h, hj, List.drop_length]
  rfl
end Lg
/-- behind Load -/
def LoadPost (L : List Lg.Rc) (w : World) (e : Ending) (w' : World) : Prop :=
  Below w.heap.size w w' ∧ (((Lg.ld [] L).2.2 ≠ 0 ∧ e = .returned (.tuple #[.pointer none, .int .i64 ((Lg.ld [] L).2.1 : Nat), .int .i64 (Lg.ld [] L).2.2])) ∨
    ((Lg.ld [] L).2.2 = 0 ∧ ∃ p A c vs, e = .returned (.tuple #[.pointer (some ⟨p, 0, none⟩), .int .i64 0, .int .i64 0]) ∧ Lg.IsLg w' w.heap.size p A c vs (fun i => w.heap.size ≤ i) ∧ Lg.xs vs = (Lg.ld [] L).1))
open Lg (IsLg)
theorem LoadPost.no {L : List Lg.Rc} {w w' : World} {out : List Lg.Rc} {j : Nat} {er : Int} (h : Lg.ld [] L = (out, j, er)) (he : er ≠ 0) (hb : Below w.heap.size w w') : LoadPost L w (.returned (.tuple #[.pointer none, .int .i64 (j : Nat), .int .i64 er])) w' := by
  unfold LoadPost
  rw [h]
  exact ⟨hb, .inl ⟨he, rfl⟩⟩
theorem lload_any (A : Option Addr) (n cap : Nat) (ws : List Lg.RV) (w : World) (hn : n ≤ 100000) (h : Lg.Rr w w.heap.size A n ws) (hd : ∀ y ∈ ws, y.x.f.d.length ≤ 1000) :
    Calls Try.prog 15 #[.slice A n cap] w fun e w' => LoadPost (Lg.xs ws) w e w' := by
  have H := Lib.hid h
  have HL := Lib.hid h.len
  have HD := Lib.hid hd
  have NW := Lib.hid (new_any w)
  clear h hd
  go_enter Try.func15, Try.ntmps15
  go_wp2_with fail
  refine NW.out.mono ?_
  rintro e w0 ⟨p, rfl, hlg, hb0⟩
  have LG0 := Lib.hid hlg
  clear hlg NW
  go_wp2_with fail
  go_loopw [15] (fun s wr => ∃ (j : Nat) (A' : Option Addr) (c' : Nat) (vs : List Lg.RV), s = .int .i64 j ∧ j ≤ n ∧ Hid (IsLg wr w.heap.size p A' c' vs (fun i => w.heap.size ≤ i)) ∧ Hid (Lg.LdI (Lg.xs ws) (Lg.xs vs) j) ∧ Hid (Below w.heap.size w wr) ∧ Hid (vs.length ≤ j)) (fun s _ => n - (intOf s).toNat)
  case atStart => exact ⟨0, none, 0, [], by go_num, by omega, LG0, Lib.hid (Lg.LdI.zero _), Lib.hid hb0, Lib.hid (Nat.le_refl _)⟩
  case round =>
    obtain ⟨j, A', c', vs, rfl, hj, LG, LI, HB, HV⟩ := hrel
    clear LG0 hb0
    have hzr := HB.out.size
    by_cases hlt : j < n
    · obtain ⟨b, o, rfl, hbl, hcl, hok⟩ := (H.out.up HB.out).at_ hlt
      have HX := Lib.hid (Lg.xs_at (l := ws) (i := j) (by rw [HL.out]; exact hlt))
      have hjw := Lib.hid (show j < (Lg.xs ws).length by rw [Lg.xs_len, HL.out]; exact hlt)
      have hdl := HD.out (ws.getD j Lg.rv0) (by simp [List.getD, List.getElem?_eq_getElem (show j < ws.length by rw [HL.out]; exact hlt)])
      have l1 := Lg.RV.len (ws.getD j Lg.rv0)
      have on1 := rv_ones (ws.getD j Lg.rv0)
      generalize ws.getD j Lg.rv0 = v at *
      have z1 : v.cells.toArray.size = 13 := l1
      have hvn : vs.length ≤ 1000000 := by have := HV.out; omega
      have MY := Lib.hid (fun (W : World) (hW : Below wr.heap.size wr W) => lmay_any (LG.out.below hW) hvn v (hok.up hW))
      have EN := Lib.hid (fun (W : World) (hW : Below wr.heap.size wr W) => lend_any (LG.out.below hW) hvn)
      have SU := Lib.hid (fun (b : Int) (W : World) (hW : Below wr.heap.size wr W) => lsum_any b v W (hok.up hW))
      have AD := Lib.hid (fun (W : World) (hW : Below wr.heap.size wr W) => ladd_any (LG.out.below hW) (Nat.le_trans hzr hW.size) hvn v (hok.up hW) hdl)
      have jn : (j : Int) < (n : Int) := by omega
      have BAD := Lib.hid (fun (he : Lg.ldE (Lg.xs vs) v.x ≠ 0) => show Lg.ld [] (Lg.xs ws) = (Lg.xs vs, j, Lg.ldE (Lg.xs vs) v.x) from by have := LI.out.bad hjw.out (by rw [HX.out]; exact he); rw [HX.out] at this; exact this)
      have GO := Lib.hid (fun (he : Lg.ldE (Lg.xs vs) v.x = 0) => show Lg.LdI (Lg.xs ws) (Lg.add (Lg.xs vs) v.x) (j + 1) from by have := LI.out.go hjw.out (by rw [HX.out]; exact he); rw [HX.out] at this; exact this)
      clear hok HX hjw LI HD
      go_upto_region 5 with (first | (refine wpList_load_at rfl 32 _ rfl b (o + j * 13) rfl _ _ hcl Try.underlying32 rfl (by rw [l1]; kernel_rfl) ?_) | (refine wpList_store_row rfl 32 _ _ rfl _ _ rfl rfl 32 _ (heap_new wr (.cells #[.int .i64 0, .int .i64 0, .int .i64 0, .int .i64 0, .int .i64 0, .int .i64 0, .int .i64 0, .int .i64 0, .int .i64 0, .int .i64 0, .int .i64 0, .slice none 0 0, .int .u32 0] 32 (0, 0))) (by rw [z1]; kernel_rfl) z1.symm on1 ?_))
      generalize hW1 : World.setRow _ _ _ = W1
      have k1 : W1.heap[wr.heap.size]? = some (.cells v.cells.toArray 32 (0, 0)) := by rw [← hW1]; exact setRow_heap _ _ _ _ _ _ (heap_new wr (.cells #[.int .i64 0, .int .i64 0, .int .i64 0, .int .i64 0, .int .i64 0, .int .i64 0, .int .i64 0, .int .i64 0, .int .i64 0, .int .i64 0, .int .i64 0, .slice none 0 0, .int .u32 0] 32 (0, 0)))
      have B1 : Below wr.heap.size wr W1 := by rw [← hW1]; exact below_setRow (by exact (by repeat (first | (with_reducible exact Below.refl _ _) | (with_reducible refine Below.drew ?_) | (with_reducible refine below_drewN ?_ _) | ((with_reducible refine Below.alloc ?_ ?_ _); rotate_left; (first | omega | (simp <;> omega)); rotate_right) | ((with_reducible refine Below.setCell ?_ ?_ _); rotate_left; (first | omega | (simp <;> omega)); rotate_right) | (with_reducible assumption) | (refine Below.trans ?_ (Below.mono (by assumption) ?_); rotate_left; (first | omega | (simp <;> omega)); rotate_right)))) (Nat.le_refl _) _
      clear hW1 hcl l1
      obtain ⟨m, hm⟩ : ∃ m, m = Lg.mayE (Lg.xs vs) v.x := ⟨_, rfl⟩
      rw [← hm] at MY
      have HM := Lib.hid hm
      clear hm
      go_wp2_with (refine wpList_load_row rfl 32 _ rfl _ rfl 32 _ (0, 0) _ k1 Try.underlying32 rfl (by rw [z1]; kernel_rfl) ?_)
      refine (MY.out _ B1).mono ?_
      rintro e w2 ⟨rfl, hb2⟩
      have B2 := B1.trans (hb2.mono B1.size)
      have k2 := blk_below k1 hb2 (lt_of_block k1)
      clear hb2 B1 k1
      by_cases h0 : m = 0
      rotate_left
      · have hmz : (m != 0) = true := by simp [h0]
        have E := Lib.hid (show Lg.ldE (Lg.xs vs) v.x = m by unfold Lg.ldE; rw [if_pos (by rw [← HM.out]; exact h0), ← HM.out])
        have H0 := Lib.hid h0
        clear h0
        go_wp2_with fail
        go_ret3
        exact LoadPost.no (by have := BAD.out (by rw [E.out]; exact H0.out); rw [E.out] at this; exact this) H0.out (HB.out.trans (B2.mono hzr))
      subst h0
      obtain ⟨S0, hS0⟩ : ∃ S0, S0 = Lg.endS (Lg.xs vs) := ⟨_, rfl⟩
      rw [← hS0] at EN
      obtain ⟨N0, hN0⟩ : ∃ N0, N0 = Lg.sumO S0 v.x := ⟨_, rfl⟩
      have SU0 := Lib.hid (fun (W : World) (hW : Below wr.heap.size wr W) => hN0 ▸ SU.out S0 W hW)
      have HN := Lib.hid (show N0 = Lg.sumO (Lg.endS (Lg.xs vs)) v.x by rw [hN0, hS0])
      have HE2 := Lib.hid (show Lg.sumE v.x = 0 by unfold Lg.sumE; rw [if_pos (Lg.mayE_fine HM.out.symm)])
      clear hS0 hN0 SU MY
      go_upto_region 8 with fail
      refine wp_region_held_drew (S := fun w' => w'.heap[wr.heap.size]? = some (.cells v.cells.toArray 32 (0, 0)) ∧ True) (by kernel_rfl) ?_ (fun h0 => ?_)
      · exact ⟨k2, trivial⟩
      refine wpAnyH_take (i := 0) (v := ?_) rfl (by kernel_rfl) (by kernel_rfl) (by kernel_rfl) (fun _ _ _ h => h) (Or.inl ⟨by rfl, ?_⟩) h0 ?_
      rotate_left
      focus (intro w' hSw; skip; go_simp; (try with_reducible rfl))
      (try simp only [List.getElem_toArray, List.getElem_cons_succ, List.getElem_cons_zero, Act.put, List.setIfInBounds_toArray, List.set_cons_zero, List.set_cons_succ])
      refine wpAnyH_take (i := 2) (v := .agg v.cells.toArray) rfl (by kernel_rfl) (by kernel_rfl) (by kernel_rfl) (fun _ _ _ h => h) (yields_load_row (by rfl) 32 _ rfl wr.heap.size rfl 32 _ (0, 0) _ (fun w' hS => hS.1) Try.underlying32 rfl (by rw [z1]; kernel_rfl)) h0 ?_
      (try simp only [List.getElem_toArray, List.getElem_cons_succ, List.getElem_cons_zero, Act.put, List.setIfInBounds_toArray, List.set_cons_zero, List.set_cons_succ])
      refine wpAnyH_ready (rs := [1]) (by kernel_rfl) (by simp) ?_
      refine AllReadyH.cons rfl (fun K hK => ?_) AllReadyH.nil
      go_simp
      refine (EN.out _ B2.drew).mono ?_
      rintro e W5 ⟨rfl, q5, rfl⟩
      go_wp2_with fail
      have B5 := below_drewN B2 (1 + q5)
      refine hK.out _ _ ?_ (fun h1 => ?_)
      · exact ⟨k2, trivial⟩
      clear hK K
      (try simp only [List.getElem_toArray, List.getElem_cons_succ, List.getElem_cons_zero, Act.put, List.setIfInBounds_toArray, List.set_cons_zero, List.set_cons_succ])
      refine wpAnyH_ready (rs := [3]) (by kernel_rfl) (by simp) ?_
      refine AllReadyH.cons rfl (fun K hK => ?_) AllReadyH.nil
      go_simp
      refine (SU0.out _ B5).mono ?_
      rintro e W6 ⟨rfl, hb6⟩
      go_wp2_with fail
      have B6 := B5.trans (hb6.mono B5.size)
      have k6 := blk_below (show (w2.drewN (1 + q5)).heap[wr.heap.size]? = _ from k2) hb6 (lt_of_block k2)
      refine hK.out _ _ ?_ (fun h2 => ?_)
      · exact ⟨k6, trivial⟩
      clear hK K
      (try simp only [List.getElem_toArray, List.getElem_cons_succ, List.getElem_cons_zero, Act.put, List.setIfInBounds_toArray, List.set_cons_zero, List.set_cons_succ])
      refine wpAnyH_take (i := 4) (v := ?_) rfl (by kernel_rfl) (by kernel_rfl) (by kernel_rfl) (fun _ _ _ h => h) (Or.inl ⟨by rfl, ?_⟩) h2 ?_
      rotate_left
      focus (intro w' hSw; skip; go_simp; (try with_reducible rfl))
      (try simp only [List.getElem_toArray, List.getElem_cons_succ, List.getElem_cons_zero, Act.put, List.setIfInBounds_toArray, List.set_cons_zero, List.set_cons_succ])
      refine wpAnyH_take (i := 5) (v := ?_) rfl (by kernel_rfl) (by kernel_rfl) (by kernel_rfl) (fun _ _ _ h => h) (Or.inl ⟨by rfl, ?_⟩) h2 ?_
      rotate_left
      focus (intro w' hSw; skip; go_simp; (try with_reducible rfl))
      (try simp only [List.getElem_toArray, List.getElem_cons_succ, List.getElem_cons_zero, Act.put, List.setIfInBounds_toArray, List.set_cons_zero, List.set_cons_succ])
      refine wpAnyH_take (i := 6) (v := ?_) rfl (by kernel_rfl) (by kernel_rfl) (by kernel_rfl) (fun _ _ _ h => h) (Or.inl ⟨by rfl, ?_⟩) h2 ?_
      rotate_left
      focus (intro w' hSw; skip; go_simp; (try with_reducible rfl))
      (try simp only [List.getElem_toArray, List.getElem_cons_succ, List.getElem_cons_zero, Act.put, List.setIfInBounds_toArray, List.set_cons_zero, List.set_cons_succ])
      refine wpAnyH_take (i := 7) (v := ?_) rfl (by kernel_rfl) (by kernel_rfl) (by kernel_rfl) (fun _ _ _ h => h) (Or.inl ⟨by rfl, ?_⟩) h2 ?_
      rotate_left
      focus (intro w' hSw; skip; go_simp; (try with_reducible rfl))
      (try simp only [List.getElem_toArray, List.getElem_cons_succ, List.getElem_cons_zero, Act.put, List.setIfInBounds_toArray, List.set_cons_zero, List.set_cons_succ])
      refine wpAnyH_take (i := 8) (v := ?_) rfl (by kernel_rfl) (by kernel_rfl) (by kernel_rfl) (fun _ _ _ h => h) (Or.inl ⟨by rfl, ?_⟩) h2 ?_
      rotate_left
      focus (intro w' hSw; skip; go_simp; (try with_reducible rfl))
      (try simp only [List.getElem_toArray, List.getElem_cons_succ, List.getElem_cons_zero, Act.put, List.setIfInBounds_toArray, List.set_cons_zero, List.set_cons_succ])
      refine wpAnyH_done (by kernel_rfl) ?_ _
      clear h0 h1 h2 hb6 B5 B2 k2
      have c12 : W6.cell? ⟨wr.heap.size, 12, none⟩ = some (.int .u32 v.x.sum) := arr_cell k6 rfl
      by_cases hs : N0 = v.x.sum
      rotate_left
      · have hz : (N0 != v.x.sum) = true := by simp [hs]
        have E := Lib.hid (show Lg.ldE (Lg.xs vs) v.x = 400 by unfold Lg.ldE; rw [if_neg (by rw [← HM.out]; simp), if_pos (by rw [← HN.out]; exact hs)])
        clear hs
        go_wp2_with fail
        go_ret3
        exact LoadPost.no (by have := BAD.out (by rw [E.out]; decide); rw [E.out] at this; exact this) (by decide) (HB.out.trans (B6.mono hzr))
      have hz : (N0 != v.x.sum) = false := by simp [hs]
      have E := Lib.hid (show Lg.ldE (Lg.xs vs) v.x = Lg.addE (Lg.xs vs) v.x by unfold Lg.ldE; rw [if_neg (by rw [← HM.out]; simp), if_neg (by rw [← HN.out]; simp [hs])])
      clear hs
      go_wp2_with (refine wpList_load_row rfl 32 _ rfl _ rfl 32 _ (0, 0) _ k6 Try.underlying32 rfl (by rw [z1]; kernel_rfl) ?_)
      refine (AD.out _ B6).mono ?_
      rintro e w7 ⟨A7, c7, vs7, rfl, hl7, hx7, hk7, ha7, hr7, hg7⟩
      have hT := fun i (hi : Lg.Two p A' i) => (LG.out.two_lt hi).1
      have B7 := Lib.hid (show Below w.heap.size w w7 from (HB.out.trans (B6.mono hzr)).trans ((hk7.below (B := w.heap.size) (fun i _ hi => hT i hi) (Nat.le_trans hzr B6.size))))
      have LG7 := Lib.hid (hl7.mono (X' := fun i => w.heap.size ≤ i) (fun i _ hi => hi.elim id (fun h => Nat.le_trans (Nat.le_trans hzr B6.size) h)))
      by_cases h0 : Lg.addE (Lg.xs vs) v.x = 0
      · have X7 := Lib.hid (show Lg.LdI (Lg.xs ws) (Lg.xs vs7) (j + 1) by rw [hx7]; exact GO.out (E.out.trans h0))
        have V7 := Lib.hid (show vs7.length ≤ j + 1 by
          have : (Lg.xs vs7).length = _ := congrArg List.length hx7
          rw [Lg.xs_len] at this
          rw [this]
          unfold Lg.add
          rw [if_pos h0, List.length_append, Lg.xs_len]
          have := HV.out
          show vs.length + 1 ≤ j + 1
          omega)
        rw [h0]
        clear h0 hx7 hk7 ha7 hr7 hg7 hl7 hT
        go_wp2_with fail
        go_roundw
        case rel => exact ⟨j + 1, A7, c7, vs7, by go_num, by omega, LG7, X7, B7, V7⟩
        case measure => simp [intOf]; omega
      · have hmz : (Lg.addE (Lg.xs vs) v.x != 0) = true := by simp [h0]
        have H0 := Lib.hid h0
        clear h0 hx7 hk7 ha7 hr7 hg7 hl7 hT
        generalize Lg.addE (Lg.xs vs) v.x = m2 at *
        go_wp2_with fail
        go_ret3
        exact LoadPost.no (by have := BAD.out (by rw [E.out]; exact H0.out); rw [E.out] at this; exact this) H0.out B7.out
    · obtain rfl : j = n := by omega
      have E := Lib.hid (show Lg.ld [] (Lg.xs ws) = (Lg.xs vs, 0, 0) from LI.out.end_ (by rw [Lg.xs_len, HL.out]))
      go_wp2_with fail
      go_ret3
      refine ⟨HB.out, .inr ⟨by rw [E.out], p, A', c', vs, rfl, LG.out, by rw [E.out]⟩⟩
end Go.Proofs.Ytgmejplcdecmkaa

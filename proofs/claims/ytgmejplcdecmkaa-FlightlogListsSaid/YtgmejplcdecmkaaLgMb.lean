/- The law's shows of the logs: what a log shows is what the reference has. -/
import Derived.Test.YtgmejplcdecmkaaLgMa
import Derived.Test.YtgmejplcdecmkaaLgT
import Derived.Test.YtgmejplcdecmkaaLgW
import Derived.Test.YtgmejplcdecmkaaLgS
namespace Go.Proofs.Ytgmejplcdecmkaa
open Go.RowKit
set_option maxHeartbeats 4000000
set_option maxRecDepth 100000
set_option linter.unusedSimpArgs false
set_option linter.unusedVariables false
attribute [local go_sem ↓] Go.wp_at_zero Go.wp_at_succ
theorem shows_yes {w : World} {base p c c2 : Nat} {X : Nat → Prop} {A A2 : Option Addr} {vs us : List Lg.RV} {n : Nat} (h : Lg.IsLg w base p A c vs X) (hr : Lg.Rr w w.heap.size A2 n us) (hx : Lg.xs us = Lg.xs vs) (hn : vs.length ≤ 1000000) (hd : ∀ y ∈ vs, y.x.f.d.length ≤ 1000) :
    Calls Try.prog 18 #[.pointer (some ⟨p, 0, none⟩), .slice A2 n c2] w fun e w' => e = .returned (.bool true) ∧ Below w.heap.size w w' := by
  have hul : us.length = n := hr.len
  have hvl : vs.length = n := by have := congrArg List.length hx; rw [Lg.xs_len, Lg.xs_len] at this; omega
  rw [hvl] at hn
  have LE := Lib.hid (fun (W : World) (hW : Below w.heap.size w W) => hvl ▸ llen_any (h.below hW))
  have EN := Lib.hid (fun (W : World) (hW : Below w.heap.size w W) => lend_any (h.below hW) (by omega))
  have RE := Lib.hid (fun (W : World) (hW : Below w.heap.size w W) => hx ▸ rjend_any (c := c2) (hr.up hW) hn)
  have AT := Lib.hid (fun (i : Nat) (hi : i < n) (W : World) (hW : Below w.heap.size w W) => lat_yes (h.below hW) i (by omega) (by omega) (hd _ (by rw [List.getD, List.getElem?_eq_getElem (by omega)]; exact List.getElem_mem _)))
  have AN := Lib.hid (fun (W : World) (hW : Below w.heap.size w W) => lat_no (h.below hW) (n : Int) (.inr (by rw [hvl]; exact Int.le_refl _)))
  have HR := Lib.hid hr
  have HX := Lib.hid (fun (i : Nat) (hi : i < n) => (show (us.getD i Lg.rv0).x = (vs.getD i Lg.rv0).x by rw [← Lg.xs_at (by omega), ← Lg.xs_at (by omega), hx]))
  obtain ⟨ES, hES⟩ : ∃ ES, ES = Lg.endS (Lg.xs vs) := ⟨_, rfl⟩
  rw [← hES] at EN RE
  clear h hr hx hvl hd hES hul
  go_enter Try.func18, Try.ntmps18
  go_wp2_with fail
  refine (LE.out _ (Below.refl _ _)).mono ?_
  rintro _ _ ⟨rfl, rfl⟩
  go_wp2_with fail
  refine (EN.out _ (Below.refl _ _)).mono ?_
  rintro _ _ ⟨rfl, q, rfl⟩
  have HBq := below_drewN (Below.refl w.heap.size w) q
  generalize w.drewN q = W1 at *
  go_wp2_with fail
  refine (RE.out _ HBq).mono ?_
  rintro _ _ ⟨rfl, rfl⟩
  go_wp2_with fail
  go_loopw [5] (fun s5 wr => ∃ (i : Nat), s5 = .int .i64 i ∧ i ≤ n ∧ Below w.heap.size w wr) (fun s5 _ => n - (intOf s5).toNat)
  case atStart => exact ⟨0, by go_num, by omega, HBq⟩
  case round =>
    obtain ⟨i, rfl, hi, hB⟩ := hrel
    have hzr := hB.size
    by_cases hlt : i < n
    · have ik : (i : Int) < (n : Int) := by omega
      go_wp2_with fail
      refine (AT.out i hlt _ hB).mono ?_
      rintro _ w1 ⟨A1, c1, rfl, o1, hb1⟩
      have hz1 := hb1.size
      obtain ⟨x, hx⟩ : ∃ x : Lg.RV, x = ⟨(vs.getD i Lg.rv0).x, A1, c1⟩ := ⟨_, rfl⟩
      have ox : Lg.Ok w1 w1.heap.size x := by rw [hx]; exact Lg.Dt.ok (Lg.Dt.of_own (X := fun _ => True) (x := (vs.getD i Lg.rv0).x) o1 (fun _ _ => trivial))
      have hxx : x.x = (us.getD i Lg.rv0).x := by rw [hx, HX.out i hlt]
      rw [← hx]
      have HB1 : Below w.heap.size w w1 := hB.trans (hb1.mono hzr)
      obtain ⟨b, o, rfl, hbl, hcl, hok⟩ := ((HR.out.below HB1 (Nat.le_refl _)).at_ hlt)
      obtain ⟨y, hy⟩ : ∃ y, y = us.getD i Lg.rv0 := ⟨_, rfl⟩
      rw [← hy] at hcl hok hxx
      have OKX := Lib.hid ox
      have OKY := Lib.hid (hok.more HB1.size)
      have SX := Lib.hid hxx
      obtain ⟨C, hval, hC, hCs⟩ := rv_opaque x
      have hC1 : C.all (·.oneCell') = true := by rw [← hC]; exact rv_ones x
      rw [hval]
      have HVAL := Lib.hid hval
      have j2 := heap_new w1 (.cells #[.int .i64 0, .int .i64 0, .int .i64 0, .int .i64 0, .int .i64 0, .int .i64 0, .int .i64 0, .int .i64 0, .int .i64 0, .int .i64 0, .int .i64 0, .slice none 0 0, .int .u32 0] 32 (0, 0))
      have HCL := Lib.hid hcl
      clear hx ox hxx hy hok hb1 hB o1 hC hval hcl
      go_upto_region 7 with (refine wpList_store_row rfl 32 _ _ rfl w1.heap.size C rfl rfl 32 _ j2 (by rw [hCs]; kernel_rfl) hCs.symm hC1 ?_)
      generalize hW : World.setRow _ _ _ = W2
      have gx : W2.heap[w1.heap.size]? = some (.cells C 32 (0, 0)) := by rw [← hW]; exact setRow_heap _ _ _ _ _ _ j2
      have bW : Below w1.heap.size w1 W2 := by rw [← hW]; exact below_setRow ((Below.refl _ w1).alloc (Nat.le_refl _) _) (Nat.le_refl _) _
      have HB2 : Below w1.heap.size w1 W2 := bW
      have HY := Lib.hid (show ∀ (j : Nat) (u : Value), y.cells[j]? = some u → W2.cell? ⟨b, o + i * 13 + j, none⟩ = some u from fun j u hu => (bW.cell (p := ⟨b, o + i * 13 + j, none⟩) (by show b < w1.heap.size; have := HB1.size; omega)).trans (HCL.out j u hu))
      have SM := Lib.hid (show ∀ W : World, Below w1.heap.size w1 W → Calls Try.prog 36 #[.agg C, .agg y.cells.toArray] W fun e w' => e = .returned (.bool true) ∧ Below W.heap.size W w' from fun W hW => by
        have := rsameR_any x y W (OKX.out.up hW) (OKY.out.up hW)
        rw [HVAL.out, SX.out, Lg.sameR_refl] at this
        exact this)
      have hbl : b < W2.drew.heap.size := by show b < W2.heap.size; have := HB1.size; have := bW.size; omega
      obtain ⟨g, hg⟩ : ∃ g, g = w1.heap.size := ⟨_, rfl⟩
      have HBW : Below w.heap.size w W2 := HB1.trans (bW.mono HB1.size)
      have hzg : w.heap.size ≤ g := by rw [hg]; exact HB1.size
      rw [← hg] at gx ⊢
      clear hW j2 HCL bW hg
      refine wp_region_held_drew (S := fun w' => w'.heap[g]? = some (.cells C 32 (0, 0)) ∧ (∀ (j : Nat) (u : Value), y.cells[j]? = some u → w'.cell? ⟨b, o + i * 13 + j, none⟩ = some u)) (by kernel_rfl) ?_ (fun h0 => ?_)
      · exact ⟨gx, HY.out⟩
      refine wpAnyH_take (i := 0) (v := ?_) rfl (by kernel_rfl) (by kernel_rfl) (by kernel_rfl) (fun _ _ _ h => h) (Or.inl ⟨by rfl, ?_⟩) h0 ?_
      rotate_left
      focus (intro w' hSw; skip; go_simp; (try with_reducible rfl))
      (try simp only [List.getElem_toArray, List.getElem_cons_succ, List.getElem_cons_zero, Act.put, List.setIfInBounds_toArray, List.set_cons_zero, List.set_cons_succ])
      refine wpAnyH_take (i := 1) (v := ?_) rfl (by kernel_rfl) (by kernel_rfl) (by kernel_rfl) (fun _ _ _ h => h) (Or.inl ⟨by rfl, ?_⟩) h0 ?_
      rotate_left
      focus (intro w' hSw; skip; go_simp; (try with_reducible rfl))
      (try simp only [List.getElem_toArray, List.getElem_cons_succ, List.getElem_cons_zero, Act.put, List.setIfInBounds_toArray, List.set_cons_zero, List.set_cons_succ])
      refine wpAnyH_take (i := 2) (v := ?_) rfl (by kernel_rfl) (by kernel_rfl) (by kernel_rfl) (fun _ _ _ h => h) (Or.inl ⟨by rfl, ?_⟩) h0 ?_
      rotate_left
      focus (intro w' hSw; skip; go_simp; (try with_reducible rfl))
      (try simp only [List.getElem_toArray, List.getElem_cons_succ, List.getElem_cons_zero, Act.put, List.setIfInBounds_toArray, List.set_cons_zero, List.set_cons_succ])
      refine wpAnyH_take (i := 3) (v := .agg C) rfl (by kernel_rfl) (by kernel_rfl) (by kernel_rfl) (fun _ _ _ h => h) (yields_load_row (by rfl) 32 _ rfl g rfl 32 _ (0, 0) _ (fun w' hS => hS.1) Try.underlying32 rfl (by rw [hCs]; kernel_rfl)) h0 ?_
      (try simp only [List.getElem_toArray, List.getElem_cons_succ, List.getElem_cons_zero, Act.put, List.setIfInBounds_toArray, List.set_cons_zero, List.set_cons_succ])
      refine wpAnyH_take (i := 4) (v := ?_) rfl (by kernel_rfl) (by kernel_rfl) (by kernel_rfl) (fun _ _ _ h => h) (Or.inl ⟨by rfl, ?_⟩) h0 ?_
      rotate_left
      focus (intro w' hSw; skip; go_simp; (try with_reducible rfl))
      (try simp only [List.getElem_toArray, List.getElem_cons_succ, List.getElem_cons_zero, Act.put, List.setIfInBounds_toArray, List.set_cons_zero, List.set_cons_succ])
      refine wpAnyH_take (i := 5) (v := ?_) rfl (by kernel_rfl) (by kernel_rfl) (by kernel_rfl) (fun _ _ _ h => h) (Or.inl ⟨by rfl, ?_⟩) h0 ?_
      rotate_left
      focus (intro w' hSw; skip; go_simp; (try with_reducible rfl))
      (try simp only [List.getElem_toArray, List.getElem_cons_succ, List.getElem_cons_zero, Act.put, List.setIfInBounds_toArray, List.set_cons_zero, List.set_cons_succ])
      refine wpAnyH_take (i := 6) (v := ?_) rfl (by kernel_rfl) (by kernel_rfl) (by kernel_rfl) (fun _ _ _ h => h) (Or.inl ⟨by rfl, ?_⟩) h0 ?_
      rotate_left
      focus (intro w' hSw; skip; go_simp; (try with_reducible rfl))
      (try simp only [List.getElem_toArray, List.getElem_cons_succ, List.getElem_cons_zero, Act.put, List.setIfInBounds_toArray, List.set_cons_zero, List.set_cons_succ])
      refine wpAnyH_take (i := 7) (v := .agg y.cells.toArray) rfl (by kernel_rfl) (by kernel_rfl) (by kernel_rfl) (fun _ _ _ h => h) (yields_load_at (by rfl) 32 _ rfl b (o + i * 13) rfl _ _ (fun w' hS => hS.2) Try.underlying32 rfl (by rw [Lg.RV.len]; kernel_rfl)) h0 ?_
      (try simp only [List.getElem_toArray, List.getElem_cons_succ, List.getElem_cons_zero, Act.put, List.setIfInBounds_toArray, List.set_cons_zero, List.set_cons_succ])
      refine wpAnyH_ready (rs := [8]) (by kernel_rfl) (by simp) ?_
      refine AllReadyH.cons rfl (fun K hK => ?_) AllReadyH.nil
      go_simp
      refine (SM.out _ (HB2.drew)).mono ?_
      rintro e w3 ⟨rfl, hb3⟩
      go_wp2_with fail
      refine hK.out _ _ ?_ (fun h1 => ?_)
      · exact ⟨(hb3.block g (lt_of_block gx)).trans gx, fun j u hj => (hb3.cell (p := ⟨b, o + i * 13 + j, none⟩) hbl).trans (HY.out j u hj)⟩
      clear hK K
      (try simp only [List.getElem_toArray, List.getElem_cons_succ, List.getElem_cons_zero, Act.put, List.setIfInBounds_toArray, List.set_cons_zero, List.set_cons_succ])
      refine wpAnyH_take (i := 9) (v := ?_) rfl (by kernel_rfl) (by kernel_rfl) (by kernel_rfl) (fun _ _ _ h => h) (Or.inl ⟨by rfl, ?_⟩) h1 ?_
      rotate_left
      focus (intro w' hSw; skip; go_simp; (try with_reducible rfl))
      (try simp only [List.getElem_toArray, List.getElem_cons_succ, List.getElem_cons_zero, Act.put, List.setIfInBounds_toArray, List.set_cons_zero, List.set_cons_succ])
      refine wpAnyH_take (i := 10) (v := ?_) rfl (by kernel_rfl) (by kernel_rfl) (by kernel_rfl) (fun _ _ _ h => h) (Or.inl ⟨by rfl, ?_⟩) h1 ?_
      rotate_left
      focus (intro w' hSw; skip; go_simp; (try with_reducible rfl))
      (try simp only [List.getElem_toArray, List.getElem_cons_succ, List.getElem_cons_zero, Act.put, List.setIfInBounds_toArray, List.set_cons_zero, List.set_cons_succ])
      refine wpAnyH_done (by kernel_rfl) ?_ _
      have HB3 : Below w.heap.size w w3 := HBW.drew.trans (hb3.mono HBW.size)
      clear h0 h1 gx HY SM
      go_wp2_with fail
      go_roundw
      case rel => exact ⟨i + 1, by go_num, by omega, HB3⟩
      case measure => simp [intOf]; omega
    · obtain rfl : i = n := by omega
      have ik : ¬ ((i : Int) < (i : Int)) := by omega
      go_wp2_with fail
      refine (AN.out _ hB).mono ?_
      rintro _ w1 ⟨rfl, hb1⟩
      have HB1 : Below w.heap.size w w1 := hB.trans (hb1.mono hzr)
      have hz1 := HB1.size
      have j2 := heap_new w1 (.cells #[.int .i64 0, .int .i64 0, .int .i64 0, .int .i64 0, .int .i64 0, .int .i64 0, .int .i64 0, .int .i64 0, .int .i64 0, .int .i64 0, .int .i64 0, .slice none 0 0, .int .u32 0] 32 (0, 0))
      have HB3 := Lib.hid (below_setRow (g := w1.heap.size) (HB1.alloc hz1 (.cells #[.int .i64 0, .int .i64 0, .int .i64 0, .int .i64 0, .int .i64 0, .int .i64 0, .int .i64 0, .int .i64 0, .int .i64 0, .int .i64 0, .int .i64 0, .slice none 0 0, .int .u32 0] 32 (0, 0))) hz1 Lg.rv0.cells.toArray)
      go_wp2_with (refine wpList_store_row rfl 32 _ _ rfl w1.heap.size Lg.rv0.cells.toArray rfl rfl 32 _ j2 (by kernel_rfl) rfl (rv_ones _) ?_)
      go_ret
      exact ⟨rfl, HB3.out⟩
end Go.Proofs.Ytgmejplcdecmkaa
/- The law's act and made of the logs: a log and the reference's, call by call. -/
namespace Go.Proofs.Ytgmejplcdecmkaa
open Go.RowKit
set_option maxHeartbeats 4000000
set_option maxRecDepth 100000
set_option linter.unusedSimpArgs false
set_option linter.unusedVariables false
attribute [local go_sem ↓] Go.wp_at_zero Go.wp_at_succ
namespace Lg
theorem fine_len {r : Rc} (h : fine r = true) : r.f.d.length ≤ 100 := by
  rcases fine_kind h with h1 | h1 | h1
  · have h2 := fine_fk h
    rw [fineK1 h1] at h2
    simp only [Bool.and_eq_true] at h2
    have h3 := h2.2
    unfold zF at h3
    rw [(of_decide_eq_true h3).2.2.2.2]
    exact Nat.zero_le _
  · have h2 := fine_fk h
    rw [fineK2 h1] at h2
    simp only [Bool.and_eq_true] at h2
    have h3 := h2.2
    unfold zF at h3
    rw [(of_decide_eq_true h3).2.2.2.2]
    exact Nat.zero_le _
  · have h2 := content_len h
    have h3 : (Frm.enc r.f.k r.f.f r.f.t r.f.s r.f.d).length ≤ (content r).length := by
      unfold content
      rw [if_neg (by omega), if_neg (by omega)]
      simp only [List.length_cons, List.length_append]
      omega
    rw [enc_len] at h3
    omega
theorem good_fine {l : List Rc} (h : Good l) : ∀ r ∈ l, fine r = true := by
  intro r hr
  obtain ⟨i, hi, rfl⟩ := List.getElem_of_mem hr
  have := (good_at h i hi).2.2
  rw [List.getD, List.getElem?_eq_getElem hi] at this
  exact this
theorem good_len {l : List Rc} (h : Good l) : l.length ≤ 10000 := by
  induction h with
  | nil => exact Nat.zero_le _
  | snoc _ _ hl _ => simp; omega
theorem good_rv {vs : List RV} (h : Good (xs vs)) : ∀ y ∈ vs, fine y.x = true := fun y hy => good_fine h _ (List.mem_map_of_mem hy)
theorem good_rd {vs : List RV} (h : Good (xs vs)) : ∀ y ∈ vs, y.x.f.d.length ≤ 1000 := fun y hy => Nat.le_trans (fine_len (good_rv h y hy)) (by omega)
theorem good_vs {vs : List RV} (h : Good (xs vs)) : vs.length ≤ 1000000 := by
  have := good_len h
  rw [xs_len] at this
  omega
/-- a log and the reference's of the same records -/
structure LJ (w : World) (base p : Nat) (A : Option Addr) (c : Nat) (vs : List RV) (X : Nat → Prop) (A2 : Option Addr) (us : List RV) (XJ : Nat → Prop) : Prop where
  lg : IsLg w base p A c vs X
  j : IsJ w XJ A2 us.length us
  dis : ∀ i, XJ i → ¬ Two p A i
  eq : xs us = xs vs
  good : Good (xs vs)
theorem LJ.below {w w' : World} {base p c : Nat} {A A2 : Option Addr} {vs us : List RV} {X XJ : Nat → Prop} (h : LJ w base p A c vs X A2 us XJ) (k : Below w.heap.size w w') : LJ w' base p A c vs X A2 us XJ := ⟨h.lg.below k, h.j.below k, h.dis, h.eq, h.good⟩
end Lg
theorem AvOk.keep {S : Nat → Prop} {w w' : World} {B : Nat} {y : AV} (h : AvOk w B y) (k : Keeps S w w') (hB : B ≤ w.heap.size) (hS : ∀ i, i < B → ¬ S i) : AvOk w' B y := ⟨k.rd h.1 hB hS, h.2⟩
theorem recG_len {a : GAct} (hd : a.f.d.length ≤ 1000) : (Lg.recG a).f.d.length ≤ 1000 := by
  unfold Lg.recG
  split
  · simp [Lg.posR, fr0]
  · split
    · simp [Lg.stR, fr0]
    · exact hd
/-- behind an act -/
def ActPost (w : World) (base p : Nat) (A : Option Addr) (vs : List Lg.RV) (X XJ : Nat → Prop) (x : Lg.Rc) (e : Ending) (w' : World) : Prop :=
  ∃ A' c' vs' X' A2' c2' us' XJ', e = .returned (.tuple #[.slice A2' us'.length c2', .bool true]) ∧ Lg.LJ w' base p A' c' vs' X' A2' us' XJ' ∧ Lg.xs vs' = Lg.add (Lg.xs vs) x ∧ Keeps (Lg.Two p A) w w' ∧ (A' = A ∨ ∃ g, blkOf A' = some g ∧ w.heap.size ≤ g) ∧ Lg.Rr w' w'.heap.size A vs.length vs ∧ (∀ i, X' i → X i ∨ w.heap.size ≤ i) ∧ (∀ i, XJ' i → XJ i ∨ w.heap.size ≤ i)
theorem act_any {w : World} {base p c c2 : Nat} {A A2 : Option Addr} {vs us : List Lg.RV} {X XJ : Nat → Prop} (h : Lg.LJ w base p A c vs X A2 us XJ) (hbase : base ≤ w.heap.size) (v : AV) (hv : AvOk w base v) (hd : v.x.f.d.length ≤ 1000) :
    Calls Try.prog 29 #[.pointer (some ⟨p, 0, none⟩), .slice A2 us.length c2, v.val] w fun e w' => ActPost w base p A vs X XJ (Lg.recG v.x) e w' := by
  have hn := Lg.good_vs h.good
  have CA := Lib.hid (fun (W : World) (hW : Below w.heap.size w W) => call_any (h.lg.below hW) (Nat.le_trans hbase hW.size) hn v ((hv.below hW hbase).more (Nat.le_trans hbase hW.size)) hd)
  have HH := Lib.hid h
  have HV := Lib.hid hv
  have hul : (us.length) = vs.length := by have := congrArg List.length h.eq; rw [Lg.xs_len, Lg.xs_len] at this; exact this
  have hrn : us.length ≤ 1000000 := by omega
  have RC := Lib.hid (fun (W : World) => record_any v W)
  have hrd := recG_len hd
  have RA := Lib.hid (fun (W : World) (XJ' : Nat → Prop) (hj : Lg.IsJ W XJ' A2 us.length us) (hk : Lg.Ok W W.heap.size v.rcd) => rjapp_any (c := c2) hj hrn v.rcd hk (by rw [AV.rcd_x]; exact hrd))
  have EQ := Lib.hid h.eq
  have RX := Lib.hid (AV.rcd_x v)
  clear h hv hul
  obtain ⟨C, hval, hC, hCs⟩ := av_opaque v
  obtain ⟨D, hvalD, hD, hDs⟩ := rv_opaque v.rcd
  rw [hval] at CA RC ⊢
  rw [hvalD] at RC RA
  clear hC hD hval hvalD
  have hbx := heap_new w (.cells C 83 (0, 0))
  have hz0 : (w.alloc (.cells C 83)).heap.size = w.heap.size + 1 := by simp
  have HB0 : Below w.heap.size w (w.alloc (.cells C 83)) := (Below.refl _ w).alloc (Nat.le_refl _) _
  go_enter Try.func29, Try.ntmps29
  go_upto_region 1 with fail
  generalize World.alloc _ _ = W0 at *
  go_wp2_with (refine wpList_load_row rfl 83 (.tmp 5) rfl w.heap.size rfl 83 C (0, 0) _ hbx Try.underlying83 rfl (by rw [hCs]; kernel_rfl) ?_)
  refine (CA.out W0 HB0).mono ?_
  rintro _ w1 hp
  have HP := Lib.hid (hp.up HB0)
  obtain ⟨A', c', vs', rfl, _, _, hk1, _⟩ := hp
  have hbx1 := blk_keep hbx hk1 (fun hh => by have := (HH.out.lg.two_lt hh).2; omega)
  have hz1 := hk1.size
  clear CA hbx hk1
  go_wp2_with (refine wpList_load_row rfl 83 (.tmp 5) rfl w.heap.size rfl 83 C (0, 0) _ hbx1 Try.underlying83 rfl (by rw [hCs]; kernel_rfl) ?_)
  refine (RC.out w1).mono ?_
  rintro _ w2 ⟨rfl, hb2⟩
  have hz2 := hb2.size
  obtain ⟨A', c', vs', he, hlg, hxs, hkk, hAA, hrr, _⟩ := HP.out
  have hp0 := HH.out.lg.lt
  have J2 : Lg.IsJ w2 (fun i => XJ i ∧ i < w.heap.size) A2 us.length us := ((HH.out.j.mono (X' := fun i => XJ i ∧ i < w.heap.size) (fun i hi hx => ⟨hx, hi⟩)).keep hkk (fun i hi => HH.out.dis i hi.1)).below hb2
  have V2 : Lg.Ok w2 w2.heap.size v.rcd := ((AV.rcd_ok (HV.out.keep hkk hbase (fun i hi hh => by have := (HH.out.lg.two_lt hh).1; omega))).below hb2 (by omega)).more (by omega)
  have RA2 := RA.out w2 _ J2 V2
  have HLG := Lib.hid (hlg.below hb2)
  have HXS := Lib.hid hxs
  have HKK := Lib.hid (hkk.trans (Keeps.of_below (S := Lg.Two p A) hb2) (fun _ _ h => h))
  have HAA := Lib.hid hAA
  have HRR := Lib.hid (hrr.up hb2)
  clear he hlg hxs hkk hAA hrr J2 V2 RC RA HP
  go_wp2_with fail
  refine RA2.mono ?_
  rintro _ w3 ⟨A3, c3, us3, rfl, hj3, hx3, hb3⟩
  have hE : ((Lg.addE (Lg.xs vs) (Lg.recG v.x)) == Lg.addE (Lg.xs us) v.rcd.x) = true := by rw [EQ.out, RX.out]; simp
  have hx3' : Lg.xs us3 = Lg.add (Lg.xs vs) (Lg.recG v.x) := by rw [hx3, EQ.out, RX.out]
  have P := Lib.hid (show ActPost w base p A vs X XJ (Lg.recG v.x) (.returned (.tuple #[.slice A3 us3.length c3, .bool true])) w3 from ⟨A', c', vs', _, A3, c3, us3, _, rfl, ⟨HLG.out.below hb3, hj3, fun i hi hh => by
      rcases hi with hi | hi
      · rcases hh with rfl | hh
        · exact HH.out.dis _ hi.1 (.inl rfl)
        · rcases HAA.out with e | ⟨g, e, hg⟩
          · rw [e] at hh; exact HH.out.dis i hi.1 (.inr hh)
          · rw [e] at hh; injection hh with hh; omega
      · rcases hh with rfl | hh
        · omega
        · have := (HLG.out.row.lt hh).2
          omega, by rw [hx3', HXS.out], by rw [HXS.out]; exact Lg.good_add HH.out.good _⟩, HXS.out, HKK.out.trans (Keeps.of_below (S := Lg.Two p A) hb3) (fun _ _ h => h), HAA.out, HRR.out.up hb3, fun i hi => hi, fun i hi => hi.imp (fun h => h.1) (fun h => by omega)⟩)
  clear hj3 hx3 hx3' hb3 RA2
  go_wp2_with fail
  go_ret2
  exact P.out
theorem add_len (l : List Lg.Rc) (r : Lg.Rc) : l.length ≤ (Lg.add l r).length ∧ (Lg.add l r).length ≤ l.length + 1 := by
  unfold Lg.add
  split
  · simp
  · omega
/-- behind made -/
def MadePost (l : List AV) (w : World) (e : Ending) (w' : World) : Prop :=
  ∃ p A c vs X A2 c2 us XJ, e = .returned (.tuple #[.pointer (some ⟨p, 0, none⟩), .slice A2 us.length c2, .bool true]) ∧ Lg.LJ w' w.heap.size p A c vs X A2 us XJ ∧ vs.length ≤ l.length ∧ Below w.heap.size w w'
theorem made_any (A0 : Option Addr) (n cap : Nat) (l : List AV) (w : World) (h : Ra w w.heap.size A0 n l) (hn : n ≤ 1000) (hd : ∀ y ∈ l, y.x.f.d.length ≤ 1000) :
    Calls Try.prog 30 #[.slice A0 n cap] w fun e w' => MadePost l w e w' := by
  have hll := h.1
  have H := Lib.hid h
  have HD := Lib.hid (fun (i : Nat) (hi : i < n) => hd (l.getD i av0) (by rw [List.getD, List.getElem?_eq_getElem (by omega)]; exact List.getElem_mem _))
  have HLL := Lib.hid hll
  have NW := Lib.hid (new_any w)
  clear h hd hll
  go_enter Try.func30, Try.ntmps30
  go_wp2_with fail
  refine NW.out.mono ?_
  rintro _ w1 ⟨p, rfl, hlg, hb1⟩
  have L0 := Lib.hid (show Lg.LJ w1 w.heap.size p none 0 [] (fun i => w.heap.size ≤ i) none [] (fun _ => False) from ⟨hlg, Lg.IsJ.nil _ _, fun _ h => h.elim, rfl, Lg.Good.nil⟩)
  clear hlg
  go_wp2_with fail
  go_loopw [6, 7] (fun s6 s7 wr => ∃ (i : Nat) (A : Option Addr) (c : Nat) (vs : List Lg.RV) (X : Nat → Prop) (A2 : Option Addr) (c2 : Nat) (us : List Lg.RV) (XJ : Nat → Prop), s6 = .slice A2 us.length c2 ∧ s7 = .int .i64 i ∧ i ≤ n ∧ vs.length ≤ i ∧ Hid (Lg.LJ wr w.heap.size p A c vs X A2 us XJ) ∧ Below w.heap.size w wr) (fun _ s7 _ => n - (intOf s7).toNat)
  case atStart => exact ⟨0, none, 0, [], _, none, 0, [], _, rfl, by go_num, by omega, by simp, L0, hb1⟩
  case round =>
    obtain ⟨i, A, c, vs, X, A2, c2, us, XJ, rfl, rfl, hi, hvl, LJ, hB⟩ := hrel
    have hzr := hB.size
    clear L0 hb1
    by_cases hlt : i < n
    · have ik : (i : Int) < (n : Int) := by omega
      obtain ⟨b, o, rfl, hbl, hcl⟩ := (H.out.below hB (Nat.le_refl _)).2.1 (by omega)
      have hcl := hcl i hlt
      have hok := (H.out.below hB (Nat.le_refl _)).ok hlt
      have hdl := HD.out i hlt
      generalize l.getD i av0 = v at hcl hok hdl
      have AC := Lib.hid (act_any (c2 := c2) LJ.out hzr v hok hdl)
      have HC := Lib.hid hcl
      clear hcl hok hdl
      obtain ⟨C, hC⟩ : ∃ C : List Value, C = v.cells := ⟨_, rfl⟩
      have hCl : C.length = 12 := by rw [hC]; rfl
      have hval : v.val = .agg C.toArray := by rw [hC]; rfl
      rw [← hC] at HC
      rw [hval] at AC
      clear hC hval
      go_wp2_with (refine wpList_load_at rfl 83 (.tmp 24) rfl b (o + i * 12) rfl C _ HC.out Try.underlying83 rfl (by rw [hCl]; kernel_rfl) ?_)
      refine AC.out.mono ?_
      rintro _ w3 ⟨A', c', vs', X', A2', c2', us', XJ', rfl, hlj, hx, hk, hA, hr, _⟩
      have hl2 := (add_len (Lg.xs vs) (Lg.recG v.x)).2
      rw [← hx, Lg.xs_len, Lg.xs_len] at hl2
      have HLJ := Lib.hid hlj
      have HB3 : Below w.heap.size w w3 := hB.trans (hk.below (fun i _ hh => (LJ.out.lg.two_lt hh).1) hzr)
      clear hlj hx hk hA hr AC HC
      go_wp2_with fail
      go_roundw
      case rel => exact ⟨i + 1, A', c', vs', X', A2', c2', us', XJ', rfl, by go_num, by omega, by omega, HLJ, HB3⟩
      case measure => simp [intOf]; omega
    · obtain rfl : i = n := by omega
      have ik : ¬ ((i : Int) < (i : Int)) := by omega
      have P := Lib.hid (show MadePost l w (.returned (.tuple #[.pointer (some ⟨p, 0, none⟩), .slice A2 us.length c2, .bool true])) wr from ⟨p, A, c, vs, X, A2, c2, us, XJ, rfl, LJ.out, by rw [HLL.out]; exact hvl, hB⟩)
      go_wp2_with fail
      exact bodyPost_ret (results_tmp3 (t := 2) (u := 3) (v := 4) rfl _ _ _) rfl P.out
end Go.Proofs.Ytgmejplcdecmkaa

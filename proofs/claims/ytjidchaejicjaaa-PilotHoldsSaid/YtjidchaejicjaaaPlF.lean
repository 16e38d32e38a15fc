/- The reference's pilot lets time pass. -/
import Derived.Test.YtjidchaejicjaaaPlE
namespace Go.Proofs.Ytjidchaejicjaaa
open Go.RowKit
set_option maxHeartbeats 8000000
set_option maxRecDepth 100000
set_option linter.unusedSimpArgs false
set_option linter.unusedVariables false
attribute [local go_sem ↓] Go.wp_at_zero Go.wp_at_succ
/-- box n holds t, box m what follows it, box n + 1 nothing yet -/
def RPassRel (n m : Nat) (w : World) (l : Int) (R : Plt.St) (kx : Nat) (v5 v7 : Value) (wr : World) : Prop :=
  ∃ t, Plt.rank t.st ≤ kx ∧ v5 = .int .i64 (Plt.evt t).1 ∧ v7 = .bool (Plt.evt t).2.2 ∧ RB wr n t ∧ RB wr (n + 1) rzero ∧ RB wr m (rnx t) ∧ n + 1 < m ∧ Plt.Inv t ∧ Plt.run 4 t l = R ∧ Below n w wr
theorem rpass_any (s : Plt.St) (hs : Plt.Inv s) {l : Int} (hl : -1073741824 ≤ l ∧ l ≤ 1073741824) (w : World) :
    Calls Try.prog 64 #[.agg (rag s).toArray, .int .i64 l] w fun e w' => e = .returned (.agg (rag (Plt.pas s l)).toArray) ∧ Below w.heap.size w w' := by
  obtain ⟨u, hu⟩ : ∃ u, u = (if s.begun then s else { s with begun := true, now := l, heard := l, since := l }) := ⟨_, rfl⟩
  have hiu : Plt.Inv u := by
    rw [hu]
    split
    · exact hs
    · rename_i hb
      have h := Plt.beg_inv hs hl
      unfold Plt.beg at h
      rw [if_neg hb] at h
      exact h
  have hpu : Plt.pas s l = { Plt.run 4 u l with now := l } := by
    unfold Plt.pas Plt.beg
    rw [Plt.run_setnow, hu]
    split
    · rfl
    · have := Plt.run_setnow 4 { s with begun := true, heard := l, since := l } l l
      rw [show ({ s with begun := true, now := l, heard := l, since := l } : Plt.St) = { ({ s with begun := true, heard := l, since := l } : Plt.St) with now := l } from rfl, this]
  obtain ⟨R, hR⟩ : ∃ R, R = Plt.run 4 u l := ⟨_, rfl⟩
  rw [← hR] at hpu
  have HIU := Lib.hid hiu
  have HR := Lib.hid hR
  have EV := Lib.hid (revent_any u hiu)
  rw [hpu]
  clear hpu hR hiu
  have key : ∀ (V : World) (m : Nat), RB V w.heap.size u → RB V (w.heap.size + 1) rzero → RB V m (rnx u) → w.heap.size + 1 < m → Below w.heap.size w V → Hid (RPassRel w.heap.size m w l R 5 (.int .i64 (Plt.evt u).1) (.bool (Plt.evt u).2.2) V) := fun V m k0 k1 k2 hm hV =>
    Lib.hid ⟨u, by have := Plt.rank_le u.st; omega, rfl, rfl, k0, k1, k2, hm, HIU.out, HR.out.symm, hV⟩
  have KEY := Lib.hid key
  clear key
  cases hb : s.begun
  case' false =>
    rw [if_neg (by rw [hb]; simp)] at hu
    have HU := Lib.hid hu
    have HBB := Lib.hid hb
    clear hu
    go_enter Try.func64, Try.ntmps64
    go_upto_region 1 with fail
    generalize hV : World.alloc _ _ = V
    have k0 : RB V w.heap.size s := by rw [← hV]; exact blk_alloc (heap_new _ _) _
    have k1 : RB V (w.heap.size + 1) rzero := by rw [← hV]; exact heap_new' _ _ _ (by simp)
    have HB := Lib.hid (show Below w.heap.size w V from by rw [← hV]; exact (by repeat (first | (with_reducible exact Below.refl _ _) | (with_reducible refine Below.drew ?_) | (with_reducible refine below_drewN ?_ _) | ((with_reducible refine Below.alloc ?_ ?_ _); rotate_left; (first | omega | (simp <;> omega)); rotate_right) | ((with_reducible refine Below.setCell ?_ ?_ _); rotate_left; (first | omega | (simp <;> omega)); rotate_right) | (with_reducible assumption) | (refine Below.trans ?_ (Below.mono (by assumption) ?_); rotate_left; (first | omega | (simp <;> omega)); rotate_right))))
    clear hV
    have c12 : V.cell? ⟨w.heap.size, 12, none⟩ = some (.bool false) := by rw [← hb]; exact blk_cell k0 12 rfl
    have f12 := blk_free k0 12
    have c16 := blk_cell k0 16 rfl
    have f16 := blk_free k0 16
    have c17 := blk_cell k0 17 rfl
    have f17 := blk_free k0 17
    have c18 := blk_cell k0 18 rfl
    have f18 := blk_free k0 18
    clear hb
    go_upto_region 3 with fail
    generalize hW : World.setCell _ _ _ = W
    have j0 : RB W w.heap.size u := by rw [← hW, HU.out]; exact blk_set (blk_set (blk_set (blk_set k0 12 _) 16 _) 17 _) 18 _
    have j1 : RB W (w.heap.size + 1) rzero := by rw [← hW]; exact blk_far (blk_far (blk_far (blk_far k1 (by simp) _) (by simp) _) (by simp) _) (by simp) _
    have HBW := Lib.hid (show Below w.heap.size w W from by rw [← hW]; have := HB.out; exact (by repeat (first | (with_reducible exact Below.refl _ _) | (with_reducible refine Below.drew ?_) | (with_reducible refine below_drewN ?_ _) | ((with_reducible refine Below.alloc ?_ ?_ _); rotate_left; (first | omega | (simp <;> omega)); rotate_right) | ((with_reducible refine Below.setCell ?_ ?_ _); rotate_left; (first | omega | (simp <;> omega)); rotate_right) | (with_reducible assumption) | (refine Below.trans ?_ (Below.mono (by assumption) ?_); rotate_left; (first | omega | (simp <;> omega)); rotate_right))))
    clear hW HB k0 k1 c12 f12 c16 f16 c17 f17 c18 f18 HBB HU
    (go_wp2_with (first | (refine wpList_load_row rfl 54 _ rfl _ rfl 54 _ (0, 0) _ j0 Try.underlying54 rfl (by kernel_rfl) ?_)))
    refine (EV.out _).mono ?_
    rintro e w1 ⟨rfl, hb1⟩
    have i0 := blk_alloc (blk_below j0 hb1 (lt_of_block j0)) (.cells (rag rzero).toArray 54 (0, 0))
    have i1 := blk_alloc (blk_below j1 hb1 (lt_of_block j1)) (.cells (rag rzero).toArray 54 (0, 0))
    have i2 := heap_new w1 (.cells (rag rzero).toArray 54 (0, 0))
    have hz1 : w.heap.size + 1 < w1.heap.size := lt_of_block (blk_below j1 hb1 (lt_of_block j1))
    have HB6 := Lib.hid ((HBW.out.trans (hb1.mono HBW.out.size)).alloc (by omega) (.cells (rag rzero).toArray 54 (0, 0)))
    clear j0 j1 HBW hb1 EV
    go_wp2_with (first | (refine wpList_store_row rfl 54 _ _ rfl _ _ rfl rfl 54 _ i2 (by kernel_rfl) rfl (rag_one _) ?_))
    generalize hV6 : World.setRow _ _ _ = V6
    have q0 : RB V6 w.heap.size u := by rw [← hV6]; exact (setRow_other _ _ _ _ (by omega)).trans i0
    have q1 : RB V6 (w.heap.size + 1) rzero := by rw [← hV6]; exact (setRow_other _ _ _ _ (by omega)).trans i1
    have q2 : RB V6 w1.heap.size (rnx u) := by rw [← hV6]; exact setRow_heap _ _ _ _ _ _ i2
    have HB7 := Lib.hid (show Below w.heap.size w V6 from by rw [← hV6]; exact below_setRow HB6.out (by omega) _)
    clear hV6 i0 i1 i2 HB6
    obtain ⟨m, hm⟩ : ∃ m, m = w1.heap.size := ⟨_, rfl⟩
    rw [← hm] at q2 hz1 ⊢
    have S0 := KEY.out V6 m q0 q1 q2 hz1 HB7.out
    clear q0 q1 q2 HB7 KEY hm
    go_loopg [5, 7] 5 (fun kx v5 v7 wr => Hid (RPassRel w.heap.size m w l R kx v5 v7 wr))
    case atStart => exact S0
    case round =>
      obtain ⟨t, hrk, rfl, rfl, k0, k1, k2, hm, hti, htr, htb⟩ := hrel.out
      have HTI := Lib.hid hti
      have HTR := Lib.hid htr
      have HTB := Lib.hid htb
      obtain ⟨a, ha⟩ : ∃ a, a = (Plt.evt t).1 := ⟨_, rfl⟩
      rw [← ha]
      have hrz := htb.size
      clear hti htr htb hrel S0
      cases hf : (Plt.evt t).2.2
      case false =>
        have HD := Lib.hid (show Plt.due t l = false by unfold Plt.due; rw [hf]; rfl)
        have c16 := blk_cell k0 16 rfl
        have f16 := blk_free k0 16
        have HE := Lib.hid (show Plt.run 4 t l = t from Plt.run_stop HD.out)
        clear hf ha HTI k2
        go_upto_region 8 with fail
        generalize hW : World.setCell _ _ _ = W8
        have g0 : RB W8 w.heap.size { t with now := l } := by rw [← hW]; exact blk_set k0 16 _
        have g1 : RB W8 (w.heap.size + 1) rzero := by rw [← hW]; exact blk_far k1 (by simp) _
        have HB8 := Lib.hid (show Below w.heap.size w W8 from by rw [← hW]; have := HTB.out; exact (by repeat (first | (with_reducible exact Below.refl _ _) | (with_reducible refine Below.drew ?_) | (with_reducible refine below_drewN ?_ _) | ((with_reducible refine Below.alloc ?_ ?_ _); rotate_left; (first | omega | (simp <;> omega)); rotate_right) | ((with_reducible refine Below.setCell ?_ ?_ _); rotate_left; (first | omega | (simp <;> omega)); rotate_right) | (with_reducible assumption) | (refine Below.trans ?_ (Below.mono (by assumption) ?_); rotate_left; (first | omega | (simp <;> omega)); rotate_right))))
        clear hW k0 k1 c16 f16 HTB
        go_wp2_with (first | (refine wpList_load_row rfl 54 _ rfl _ rfl 54 _ (0, 0) _ g0 Try.underlying54 rfl (by kernel_rfl) ?_) | (refine wpList_store_row rfl 54 _ _ rfl _ _ rfl rfl 54 _ g1 (by kernel_rfl) rfl (rag_one _) ?_))
        exact bodyPost_ret (results_cell_row rfl _ _ _ _ _ (0, 0) _ rfl (setRow_heap _ _ _ _ _ _ g1) Try.underlying54 rfl (by kernel_rfl)) rfl ⟨by rw [← HTR.out, HE.out], below_setRow HB8.out (by omega) _⟩
      case true =>
        by_cases hle : a ≤ l
        case neg =>
          have HD := Lib.hid (show Plt.due t l = false by unfold Plt.due; rw [hf, ← ha, decide_eq_false hle]; rfl)
          have hle' : l < a := by omega
          clear hle
          have c16 := blk_cell k0 16 rfl
          have f16 := blk_free k0 16
          have HE := Lib.hid (show Plt.run 4 t l = t from Plt.run_stop HD.out)
          clear hf ha HTI k2
          go_upto_region 8 with fail
          generalize hW : World.setCell _ _ _ = W8
          have g0 : RB W8 w.heap.size { t with now := l } := by rw [← hW]; exact blk_set k0 16 _
          have g1 : RB W8 (w.heap.size + 1) rzero := by rw [← hW]; exact blk_far k1 (by simp) _
          have HB8 := Lib.hid (show Below w.heap.size w W8 from by rw [← hW]; have := HTB.out; exact (by repeat (first | (with_reducible exact Below.refl _ _) | (with_reducible refine Below.drew ?_) | (with_reducible refine below_drewN ?_ _) | ((with_reducible refine Below.alloc ?_ ?_ _); rotate_left; (first | omega | (simp <;> omega)); rotate_right) | ((with_reducible refine Below.setCell ?_ ?_ _); rotate_left; (first | omega | (simp <;> omega)); rotate_right) | (with_reducible assumption) | (refine Below.trans ?_ (Below.mono (by assumption) ?_); rotate_left; (first | omega | (simp <;> omega)); rotate_right))))
          clear hW k0 k1 c16 f16 HTB
          go_wp2_with (first | (refine wpList_load_row rfl 54 _ rfl _ rfl 54 _ (0, 0) _ g0 Try.underlying54 rfl (by kernel_rfl) ?_) | (refine wpList_store_row rfl 54 _ _ rfl _ _ rfl rfl 54 _ g1 (by kernel_rfl) rfl (rag_one _) ?_))
          exact bodyPost_ret (results_cell_row rfl _ _ _ _ _ (0, 0) _ rfl (setRow_heap _ _ _ _ _ _ g1) Try.underlying54 rfl (by kernel_rfl)) rfl ⟨by rw [← HTR.out, HE.out], below_setRow HB8.out (by omega) _⟩
        case pos =>
          have HD := Lib.hid (show Plt.due t l = true by unfold Plt.due; rw [hf, ← ha, decide_eq_true hle]; rfl)
          have HX := Lib.hid (show rnx t = Plt.adv t by unfold rnx; rw [hf]; rfl)
          have EVA := Lib.hid (revent_any (Plt.adv t) (Plt.adv_inv HTI.out hl.2 HD.out))
          have HRK := Lib.hid (Plt.due_rank HD.out)
          have HRD := Lib.hid (show Plt.run 4 (Plt.adv t) l = Plt.run 4 t l from Plt.run_due HD.out)
          have HIA := Lib.hid (Plt.adv_inv HTI.out hl.2 HD.out)
          rw [HX.out] at k2
          obtain ⟨t', ht'⟩ : ∃ t', t' = Plt.adv t := ⟨_, rfl⟩
          rw [← ht'] at k2 EVA HRK HRD HIA
          have zz : (a ≤ l) = True := by simp only [hle]
          clear zz
          clear hf ha HTI HX ht'
          go_upto_region 6 with (first | (refine wpList_load_row rfl 54 _ rfl _ rfl 54 _ (0, 0) _ k2 Try.underlying54 rfl (by kernel_rfl) ?_) | (refine wpList_store_row rfl 54 _ _ rfl _ _ rfl rfl 54 _ k0 (by kernel_rfl) rfl (rag_one _) ?_))
          generalize hW : World.setRow _ _ _ = W5
          have g0 : RB W5 w.heap.size t' := by rw [← hW]; exact setRow_heap _ _ _ _ _ _ k0
          have g1 : RB W5 (w.heap.size + 1) rzero := by rw [← hW]; exact (setRow_other _ _ _ _ (by omega)).trans k1
          have g2 : RB W5 m t' := by rw [← hW]; exact (setRow_other _ _ _ _ (by omega)).trans k2
          have HB5 := Lib.hid (show Below w.heap.size w W5 from by rw [← hW]; exact below_setRow HTB.out (Nat.le_refl _) _)
          clear hW k0 k1 k2 HTB
          go_wp2_with (first | (refine wpList_load_row rfl 54 _ rfl _ rfl 54 _ (0, 0) _ g0 Try.underlying54 rfl (by kernel_rfl) ?_))
          refine (EVA.out _).mono ?_
          rintro e w7 ⟨rfl, hb7⟩
          have i0 := blk_below g0 hb7 (lt_of_block g0)
          have i1 := blk_below g1 hb7 (lt_of_block g1)
          have i2 := blk_below g2 hb7 (lt_of_block g2)
          have HB7 := Lib.hid (HB5.out.trans (hb7.mono HB5.out.size))
          clear g0 g1 g2 hb7 HB5
          go_wp2_with (first | (refine wpList_store_row rfl 54 _ _ rfl _ _ rfl rfl 54 _ i2 (by kernel_rfl) rfl (rag_one _) ?_))
          go_roundg (Plt.rank t'.st)
          case rel => exact Lib.hid ⟨t', Nat.le_refl _, rfl, rfl, (setRow_other _ _ _ _ (by omega)).trans i0, (setRow_other _ _ _ _ (by omega)).trans i1, setRow_heap _ _ _ _ _ _ i2, hm, HIA.out, HRD.out.trans HTR.out, below_setRow HB7.out (by omega) _⟩
          case measure => have := HRK.out; omega
  case' true =>
    rw [if_pos (by rw [hb])] at hu
    have HU := Lib.hid hu
    clear hu
    go_enter Try.func64, Try.ntmps64
    go_upto_region 1 with fail
    generalize hV : World.alloc _ _ = W
    have k0 : RB W w.heap.size s := by rw [← hV]; exact blk_alloc (heap_new _ _) _
    have j0 : RB W w.heap.size u := by rw [HU.out]; exact k0
    have j1 : RB W (w.heap.size + 1) rzero := by rw [← hV]; exact heap_new' _ _ _ (by simp)
    have HBW := Lib.hid (show Below w.heap.size w W from by rw [← hV]; exact (by repeat (first | (with_reducible exact Below.refl _ _) | (with_reducible refine Below.drew ?_) | (with_reducible refine below_drewN ?_ _) | ((with_reducible refine Below.alloc ?_ ?_ _); rotate_left; (first | omega | (simp <;> omega)); rotate_right) | ((with_reducible refine Below.setCell ?_ ?_ _); rotate_left; (first | omega | (simp <;> omega)); rotate_right) | (with_reducible assumption) | (refine Below.trans ?_ (Below.mono (by assumption) ?_); rotate_left; (first | omega | (simp <;> omega)); rotate_right))))
    clear hV
    have c12 : W.cell? ⟨w.heap.size, 12, none⟩ = some (.bool true) := by rw [← hb]; exact blk_cell k0 12 rfl
    clear hb k0 HU
    go_upto_region 3 with fail
    clear c12
    (go_wp2_with (first | (refine wpList_load_row rfl 54 _ rfl _ rfl 54 _ (0, 0) _ j0 Try.underlying54 rfl (by kernel_rfl) ?_)))
    refine (EV.out _).mono ?_
    rintro e w1 ⟨rfl, hb1⟩
    have i0 := blk_alloc (blk_below j0 hb1 (lt_of_block j0)) (.cells (rag rzero).toArray 54 (0, 0))
    have i1 := blk_alloc (blk_below j1 hb1 (lt_of_block j1)) (.cells (rag rzero).toArray 54 (0, 0))
    have i2 := heap_new w1 (.cells (rag rzero).toArray 54 (0, 0))
    have hz1 : w.heap.size + 1 < w1.heap.size := lt_of_block (blk_below j1 hb1 (lt_of_block j1))
    have HB6 := Lib.hid ((HBW.out.trans (hb1.mono HBW.out.size)).alloc (by omega) (.cells (rag rzero).toArray 54 (0, 0)))
    clear j0 j1 HBW hb1 EV
    go_wp2_with (first | (refine wpList_store_row rfl 54 _ _ rfl _ _ rfl rfl 54 _ i2 (by kernel_rfl) rfl (rag_one _) ?_))
    generalize hV6 : World.setRow _ _ _ = V6
    have q0 : RB V6 w.heap.size u := by rw [← hV6]; exact (setRow_other _ _ _ _ (by omega)).trans i0
    have q1 : RB V6 (w.heap.size + 1) rzero := by rw [← hV6]; exact (setRow_other _ _ _ _ (by omega)).trans i1
    have q2 : RB V6 w1.heap.size (rnx u) := by rw [← hV6]; exact setRow_heap _ _ _ _ _ _ i2
    have HB7 := Lib.hid (show Below w.heap.size w V6 from by rw [← hV6]; exact below_setRow HB6.out (by omega) _)
    clear hV6 i0 i1 i2 HB6
    obtain ⟨m, hm⟩ : ∃ m, m = w1.heap.size := ⟨_, rfl⟩
    rw [← hm] at q2 hz1 ⊢
    have S0 := KEY.out V6 m q0 q1 q2 hz1 HB7.out
    clear q0 q1 q2 HB7 KEY hm
    go_loopg [5, 7] 5 (fun kx v5 v7 wr => Hid (RPassRel w.heap.size m w l R kx v5 v7 wr))
    case atStart => exact S0
    case round =>
      obtain ⟨t, hrk, rfl, rfl, k0, k1, k2, hm, hti, htr, htb⟩ := hrel.out
      have HTI := Lib.hid hti
      have HTR := Lib.hid htr
      have HTB := Lib.hid htb
      obtain ⟨a, ha⟩ : ∃ a, a = (Plt.evt t).1 := ⟨_, rfl⟩
      rw [← ha]
      have hrz := htb.size
      clear hti htr htb hrel S0
      cases hf : (Plt.evt t).2.2
      case false =>
        have HD := Lib.hid (show Plt.due t l = false by unfold Plt.due; rw [hf]; rfl)
        have c16 := blk_cell k0 16 rfl
        have f16 := blk_free k0 16
        have HE := Lib.hid (show Plt.run 4 t l = t from Plt.run_stop HD.out)
        clear hf ha HTI k2
        go_upto_region 8 with fail
        generalize hW : World.setCell _ _ _ = W8
        have g0 : RB W8 w.heap.size { t with now := l } := by rw [← hW]; exact blk_set k0 16 _
        have g1 : RB W8 (w.heap.size + 1) rzero := by rw [← hW]; exact blk_far k1 (by simp) _
        have HB8 := Lib.hid (show Below w.heap.size w W8 from by rw [← hW]; have := HTB.out; exact (by repeat (first | (with_reducible exact Below.refl _ _) | (with_reducible refine Below.drew ?_) | (with_reducible refine below_drewN ?_ _) | ((with_reducible refine Below.alloc ?_ ?_ _); rotate_left; (first | omega | (simp <;> omega)); rotate_right) | ((with_reducible refine Below.setCell ?_ ?_ _); rotate_left; (first | omega | (simp <;> omega)); rotate_right) | (with_reducible assumption) | (refine Below.trans ?_ (Below.mono (by assumption) ?_); rotate_left; (first | omega | (simp <;> omega)); rotate_right))))
        clear hW k0 k1 c16 f16 HTB
        go_wp2_with (first | (refine wpList_load_row rfl 54 _ rfl _ rfl 54 _ (0, 0) _ g0 Try.underlying54 rfl (by kernel_rfl) ?_) | (refine wpList_store_row rfl 54 _ _ rfl _ _ rfl rfl 54 _ g1 (by kernel_rfl) rfl (rag_one _) ?_))
        exact bodyPost_ret (results_cell_row rfl _ _ _ _ _ (0, 0) _ rfl (setRow_heap _ _ _ _ _ _ g1) Try.underlying54 rfl (by kernel_rfl)) rfl ⟨by rw [← HTR.out, HE.out], below_setRow HB8.out (by omega) _⟩
      case true =>
        by_cases hle : a ≤ l
        case neg =>
          have HD := Lib.hid (show Plt.due t l = false by unfold Plt.due; rw [hf, ← ha, decide_eq_false hle]; rfl)
          have hle' : l < a := by omega
          clear hle
          have c16 := blk_cell k0 16 rfl
          have f16 := blk_free k0 16
          have HE := Lib.hid (show Plt.run 4 t l = t from Plt.run_stop HD.out)
          clear hf ha HTI k2
          go_upto_region 8 with fail
          generalize hW : World.setCell _ _ _ = W8
          have g0 : RB W8 w.heap.size { t with now := l } := by rw [← hW]; exact blk_set k0 16 _
          have g1 : RB W8 (w.heap.size + 1) rzero := by rw [← hW]; exact blk_far k1 (by simp) _
          have HB8 := Lib.hid (show Below w.heap.size w W8 from by rw [← hW]; have := HTB.out; exact (by repeat (first | (with_reducible exact Below.refl _ _) | (with_reducible refine Below.drew ?_) | (with_reducible refine below_drewN ?_ _) | ((with_reducible refine Below.alloc ?_ ?_ _); rotate_left; (first | omega | (simp <;> omega)); rotate_right) | ((with_reducible refine Below.setCell ?_ ?_ _); rotate_left; (first | omega | (simp <;> omega)); rotate_right) | (with_reducible assumption) | (refine Below.trans ?_ (Below.mono (by assumption) ?_); rotate_left; (first | omega | (simp <;> omega)); rotate_right))))
          clear hW k0 k1 c16 f16 HTB
          go_wp2_with (first | (refine wpList_load_row rfl 54 _ rfl _ rfl 54 _ (0, 0) _ g0 Try.underlying54 rfl (by kernel_rfl) ?_) | (refine wpList_store_row rfl 54 _ _ rfl _ _ rfl rfl 54 _ g1 (by kernel_rfl) rfl (rag_one _) ?_))
          exact bodyPost_ret (results_cell_row rfl _ _ _ _ _ (0, 0) _ rfl (setRow_heap _ _ _ _ _ _ g1) Try.underlying54 rfl (by kernel_rfl)) rfl ⟨by rw [← HTR.out, HE.out], below_setRow HB8.out (by omega) _⟩
        case pos =>
          have HD := Lib.hid (show Plt.due t l = true by unfold Plt.due; rw [hf, ← ha, decide_eq_true hle]; rfl)
          have HX := Lib.hid (show rnx t = Plt.adv t by unfold rnx; rw [hf]; rfl)
          have EVA := Lib.hid (revent_any (Plt.adv t) (Plt.adv_inv HTI.out hl.2 HD.out))
          have HRK := Lib.hid (Plt.due_rank HD.out)
          have HRD := Lib.hid (show Plt.run 4 (Plt.adv t) l = Plt.run 4 t l from Plt.run_due HD.out)
          have HIA := Lib.hid (Plt.adv_inv HTI.out hl.2 HD.out)
          rw [HX.out] at k2
          obtain ⟨t', ht'⟩ : ∃ t', t' = Plt.adv t := ⟨_, rfl⟩
          rw [← ht'] at k2 EVA HRK HRD HIA
          have zz : (a ≤ l) = True := by simp only [hle]
          clear zz
          clear hf ha HTI HX ht'
          go_upto_region 6 with (first | (refine wpList_load_row rfl 54 _ rfl _ rfl 54 _ (0, 0) _ k2 Try.underlying54 rfl (by kernel_rfl) ?_) | (refine wpList_store_row rfl 54 _ _ rfl _ _ rfl rfl 54 _ k0 (by kernel_rfl) rfl (rag_one _) ?_))
          generalize hW : World.setRow _ _ _ = W5
          have g0 : RB W5 w.heap.size t' := by rw [← hW]; exact setRow_heap _ _ _ _ _ _ k0
          have g1 : RB W5 (w.heap.size + 1) rzero := by rw [← hW]; exact (setRow_other _ _ _ _ (by omega)).trans k1
          have g2 : RB W5 m t' := by rw [← hW]; exact (setRow_other _ _ _ _ (by omega)).trans k2
          have HB5 := Lib.hid (show Below w.heap.size w W5 from by rw [← hW]; exact below_setRow HTB.out (Nat.le_refl _) _)
          clear hW k0 k1 k2 HTB
          go_wp2_with (first | (refine wpList_load_row rfl 54 _ rfl _ rfl 54 _ (0, 0) _ g0 Try.underlying54 rfl (by kernel_rfl) ?_))
          refine (EVA.out _).mono ?_
          rintro e w7 ⟨rfl, hb7⟩
          have i0 := blk_below g0 hb7 (lt_of_block g0)
          have i1 := blk_below g1 hb7 (lt_of_block g1)
          have i2 := blk_below g2 hb7 (lt_of_block g2)
          have HB7 := Lib.hid (HB5.out.trans (hb7.mono HB5.out.size))
          clear g0 g1 g2 hb7 HB5
          go_wp2_with (first | (refine wpList_store_row rfl 54 _ _ rfl _ _ rfl rfl 54 _ i2 (by kernel_rfl) rfl (rag_one _) ?_))
          go_roundg (Plt.rank t'.st)
          case rel => exact Lib.hid ⟨t', Nat.le_refl _, rfl, rfl, (setRow_other _ _ _ _ (by omega)).trans i0, (setRow_other _ _ _ _ (by omega)).trans i1, setRow_heap _ _ _ _ _ _ i2, hm, HIA.out, HRD.out.trans HTR.out, below_setRow HB7.out (by omega) _⟩
          case measure => have := HRK.out; omega
end Go.Proofs.Ytjidchaejicjaaa

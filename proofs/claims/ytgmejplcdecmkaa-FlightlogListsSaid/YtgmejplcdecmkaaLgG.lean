/- The check sum of a record: of a log, of the reference. -/
import Derived.Test.YtgmejplcdecmkaaLgF
namespace Go.Proofs.Ytgmejplcdecmkaa
open Go.RowKit
set_option maxHeartbeats 8000000
set_option maxRecDepth 100000
set_option linter.unusedSimpArgs false
set_option linter.unusedVariables false
attribute [local go_sem ↓] Go.wp_at_zero Go.wp_at_succ
theorem u32_in (x : Int) (h : 0 ≤ x ∧ x < 256) : IntKind.u32.wrap x = x := by rw [IntKind.wrap_u32]; omega
namespace Lg
theorem enc_len (k f t s : Int) (d : List Int) : (Frm.enc k f t s d).length = d.length + 10 := by simp [Frm.enc, Frm.body]
theorem content_len {r : Rc} (h : fine r = true) : (content r).length ≤ 100 := by
  unfold content
  simp only [List.length_cons, List.length_append, Frm.pn_len, List.length_nil]
  by_cases h1 : r.k = 1
  · rw [if_pos h1]; simp [Frm.pn_len]
  · rw [if_neg h1]
    by_cases h2 : r.k = 2
    · rw [if_pos h2]; simp
    · rw [if_neg h2, enc_len]
      have h3 := fine_3 h (by have := fine_kind h; omega)
      have := (Frm.vd_bd h3).2.2.2.2
      omega
def h0 (b : Int) : Int := bits .xor .u32 b 2166136261
theorem fold_take (l : List Int) (b : Int) {j : Nat} (h : j < l.length) : (l.take (j + 1)).foldl fh b = IntKind.u32.wrap (bits .xor .u32 ((l.take j).foldl fh b) (l.getD j 0) * 16777619) := by
  have e : l.getD j 0 = l[j] := by simp [List.getD, List.getElem?_eq_getElem h]
  rw [List.take_add_one, List.getElem?_eq_getElem h, List.foldl_append, e]
  rfl
end Lg
theorem lsum_any (b : Int) (v : Lg.RV) (w : World) (hv : Lg.Ok w w.heap.size v) :
    Calls Try.prog 12 #[.int .u32 b, v.val] w fun e w' => e = .returned (.tuple #[.int .u32 (Lg.sumO b v.x), .int .i64 (Lg.sumE v.x)]) ∧ Below w.heap.size w w' := by
  have HV := Lib.hid hv
  cases hf : Lg.fine v.x
  · have F := Lib.hid (fun (W : World) (hW : Below w.heap.size w W) => hf ▸ fine_any v W ((HV.out.below hW (Nat.le_refl _)).more hW.size))
    have E1 := Lib.hid (show Lg.sumO b v.x = 0 by unfold Lg.sumO; rw [hf]; rfl)
    have E2 := Lib.hid (show Lg.sumE v.x = 2 by unfold Lg.sumE; rw [hf]; rfl)
    clear hf hv
    rw [E1.out, E2.out]
    simp only [Lg.RV.val, Lg.RV.cells] at F ⊢
    go_enter Try.func12, Try.ntmps12
    go_wp2_with fail
    refine (F.out _ (by repeat (first | (with_reducible exact Below.refl _ _) | (with_reducible refine Below.drew ?_) | (with_reducible refine below_drewN ?_ _) | ((with_reducible refine Below.alloc ?_ ?_ _); rotate_left; (first | omega | (simp <;> omega)); rotate_right) | ((with_reducible refine Below.setCell ?_ ?_ _); rotate_left; (first | omega | (simp <;> omega)); rotate_right) | (with_reducible assumption) | (refine Below.trans ?_ (Below.mono (by assumption) ?_); rotate_left; (first | omega | (simp <;> omega)); rotate_right)))).mono ?_
    rintro e w1 ⟨rfl, hb1⟩
    have hz1 := hb1.size
    simp only [World.size_alloc] at hz1
    go_wp2_with fail
    go_ret2
    exact ⟨rfl, (by repeat (first | (with_reducible exact Below.refl _ _) | (with_reducible refine Below.drew ?_) | (with_reducible refine below_drewN ?_ _) | ((with_reducible refine Below.alloc ?_ ?_ _); rotate_left; (first | omega | (simp <;> omega)); rotate_right) | ((with_reducible refine Below.setCell ?_ ?_ _); rotate_left; (first | omega | (simp <;> omega)); rotate_right) | (with_reducible assumption) | (refine Below.trans ?_ (Below.mono (by assumption) ?_); rotate_left; (first | omega | (simp <;> omega)); rotate_right)))⟩
  · have F := Lib.hid (fun (W : World) (hW : Below w.heap.size w W) => hf ▸ fine_any v W ((HV.out.below hW (Nat.le_refl _)).more hW.size))
    have C := Lib.hid (fun (W : World) (hW : Below w.heap.size w W) => content_any v W hf ((HV.out.below hW (Nat.le_refl _)).more hW.size))
    have E1 := Lib.hid (show Lg.sumO b v.x = (Lg.content v.x).foldl Lg.fh (Lg.h0 b) by unfold Lg.sumO Lg.sumN; rw [hf]; rfl)
    have E2 := Lib.hid (show Lg.sumE v.x = 0 by unfold Lg.sumE; rw [hf]; rfl)
    have hlen := Lib.hid (Lg.content_len hf)
    clear hf hv
    rw [E1.out, E2.out]
    unfold GivesB at C
    obtain ⟨L, hL⟩ : ∃ L, L = Lg.content v.x := ⟨_, rfl⟩
    rw [← hL] at C hlen ⊢
    clear E1 E2 hL
    obtain ⟨h0, hh0⟩ : ∃ h0, h0 = Lg.h0 b := ⟨_, rfl⟩
    rw [← hh0]
    unfold Lg.h0 at hh0
    have X0 : bits .xor .u32 b 2166136261 = h0 := hh0.symm
    clear hh0
    obtain ⟨n, hn⟩ : ∃ n, n = L.length := ⟨_, rfl⟩
    rw [← hn] at C hlen
    have HN := Lib.hid hn
    have hlen2 := hlen.out
    clear hn hlen
    simp only [Lg.RV.val, Lg.RV.cells] at F C ⊢
    go_enter Try.func12, Try.ntmps12
    go_wp2_with fail
    refine (F.out _ (by repeat (first | (with_reducible exact Below.refl _ _) | (with_reducible refine Below.drew ?_) | (with_reducible refine below_drewN ?_ _) | ((with_reducible refine Below.alloc ?_ ?_ _); rotate_left; (first | omega | (simp <;> omega)); rotate_right) | ((with_reducible refine Below.setCell ?_ ?_ _); rotate_left; (first | omega | (simp <;> omega)); rotate_right) | (with_reducible assumption) | (refine Below.trans ?_ (Below.mono (by assumption) ?_); rotate_left; (first | omega | (simp <;> omega)); rotate_right)))).mono ?_
    rintro e w1 ⟨rfl, hb1⟩
    have hz1 := hb1.size
    have hx1 := blk_below (q := w.heap.size) (heap_new _ _) hb1 (by simp)
    have HB1 := (show Below w.heap.size w w1 from (by repeat (first | (with_reducible exact Below.refl _ _) | (with_reducible refine Below.drew ?_) | (with_reducible refine below_drewN ?_ _) | ((with_reducible refine Below.alloc ?_ ?_ _); rotate_left; (first | omega | (simp <;> omega)); rotate_right) | ((with_reducible refine Below.setCell ?_ ?_ _); rotate_left; (first | omega | (simp <;> omega)); rotate_right) | (with_reducible assumption) | (refine Below.trans ?_ (Below.mono (by assumption) ?_); rotate_left; (first | omega | (simp <;> omega)); rotate_right))))
    simp only [World.size_alloc] at hz1
    have ca_0 := blk_cell hx1 0 rfl; have fa_0 := blk_free hx1 0; have ca_1 := blk_cell hx1 1 rfl; have fa_1 := blk_free hx1 1; have ca_2 := blk_cell hx1 2 rfl; have fa_2 := blk_free hx1 2; have ca_3 := blk_cell hx1 3 rfl; have fa_3 := blk_free hx1 3; have ca_4 := blk_cell hx1 4 rfl; have fa_4 := blk_free hx1 4; have ca_5 := blk_cell hx1 5 rfl; have fa_5 := blk_free hx1 5; have ca_6 := blk_cell hx1 6 rfl; have fa_6 := blk_free hx1 6; have ca_7 := blk_cell hx1 7 rfl; have fa_7 := blk_free hx1 7; have ca_8 := blk_cell hx1 8 rfl; have fa_8 := blk_free hx1 8; have ca_9 := blk_cell hx1 9 rfl; have fa_9 := blk_free hx1 9; have ca_10 := blk_cell hx1 10 rfl; have fa_10 := blk_free hx1 10; have ca_11 := blk_cell hx1 11 rfl; have fa_11 := blk_free hx1 11; have ca_12 := blk_cell hx1 12 rfl; have fa_12 := blk_free hx1 12; have la := lt_of_block hx1
    clear hb1
    go_wp2_with fail
    refine (C.out _ HB1).mono ?_
    rintro e w2 ⟨A2, c2, rfl, o2, hb2⟩
    have hz2 := hb2.size
    have HB2 := (show Below w.heap.size w w2 from (by repeat (first | (with_reducible exact Below.refl _ _) | (with_reducible refine Below.drew ?_) | (with_reducible refine below_drewN ?_ _) | ((with_reducible refine Below.alloc ?_ ?_ _); rotate_left; (first | omega | (simp <;> omega)); rotate_right) | ((with_reducible refine Below.setCell ?_ ?_ _); rotate_left; (first | omega | (simp <;> omega)); rotate_right) | (with_reducible assumption) | (refine Below.trans ?_ (Below.mono (by assumption) ?_); rotate_left; (first | omega | (simp <;> omega)); rotate_right))))
    have rd := o2.rd
    have O2 := Lib.hid o2
    clear ca_0 fa_0 ca_1 fa_1 ca_2 fa_2 ca_3 fa_3 ca_4 fa_4 ca_5 fa_5 ca_6 fa_6 ca_7 fa_7 ca_8 fa_8 ca_9 fa_9 ca_10 fa_10 ca_11 fa_11 ca_12 fa_12
    clear hb2 o2 hx1
    go_wp2_with fail
    go_loop [6, 17] (fun s6 s17 => ∃ (j : Nat) (h : Int), s17 = .int .i64 j ∧ j ≤ n ∧ s6 = .int .u32 h ∧ Hid (h = (L.take j).foldl Lg.fh h0)) (fun _ s17 => n - (intOf s17).toNat)
    case atStart => exact ⟨0, h0, by go_num, by omega, by rfl, Lib.hid rfl⟩
    case round =>
      obtain ⟨j, h, rfl, hj, rfl, HH⟩ := hrel
      by_cases hlt : j < n
      · obtain ⟨bl, o, rfl, hbl, hcl⟩ := rd.2.2 (by omega)
        have hck := hcl j hlt
        have hby := rd.2.1.at_ j
        have FT := Lib.hid (Lg.fold_take L h0 (j := j) (by rw [← HN.out]; exact hlt))
        obtain ⟨y, hy⟩ : ∃ y, L.getD j 0 = y := ⟨_, rfl⟩
        rw [hy] at hck hby FT
        rw [← HH.out] at FT
        have wy : IntKind.u32.wrap y = y := u32_in y hby
        clear hcl hy HH
        go_wp2_with fail
        go_round
        case rel => exact ⟨j + 1, _, by go_num, by omega, rfl, Lib.hid FT.out.symm⟩
        case measure => simp [intOf]; omega
      · obtain rfl : j = n := by omega
        have HE := Lib.hid (show h = L.foldl Lg.fh h0 by rw [HH.out, List.take_of_length_le (by rw [HN.out]; exact Nat.le_refl _)])
        clear HH
        go_wp2_with fail
        go_ret2
        exact ⟨ret_ii HE.out rfl, HB2⟩
end Go.Proofs.Ytgmejplcdecmkaa

/- The reference's Encode. -/
import Derived.Test.YtgmejplcdecmkaaROpen
namespace Go.Proofs.Ytgmejplcdecmkaa
open Go.RowKit
set_option maxHeartbeats 4000000
set_option linter.unusedSimpArgs false
set_option linter.unusedVariables false
namespace Frm
/-- the bytes from the kind on -/
def body (k f t s : Int) (d : List Int) : List Int := [k, f, t, s / 256, s % 256, (d.length : Int)] ++ d
/-- the encoding of a frame -/
def enc (k f t s : Int) (d : List Int) : List Int := [213, 76] ++ body k f t s d ++ [((crcN (body k f t s d) : Nat) : Int) / 256, ((crcN (body k f t s d) : Nat) : Int) % 256]
theorem By.append {l m : List Int} (h : By l) (g : By m) : By (l ++ m) := by
  intro x hx
  rcases List.mem_append.1 hx with h1 | h1
  · exact h x h1
  · exact g x h1
theorem vd_bd {k f t s : Int} {n : Nat} (h : vd k f t s n = true) : (1 ≤ k ∧ k ≤ 9) ∧ (0 ≤ f ∧ f ≤ 64) ∧ (0 ≤ t ∧ t ≤ 64) ∧ (0 ≤ s ∧ s ≤ 65535) ∧ n ≤ 64 := by
  rw [vd_iff] at h; omega
theorem body_by {k f t s : Int} {d : List Int} (h : vd k f t s d.length = true) (hd : By d) : By (body k f t s d) := by
  have := vd_bd h
  refine By.append ?_ hd
  intro x hx
  simp at hx
  omega
theorem head_by {k f t s : Int} {n : Nat} (h : vd k f t s n = true) : By [213, 76, k, f, t, s / 256, s % 256, (n : Int)] := by
  have := vd_bd h
  intro x hx
  simp at hx
  omega
end Frm
theorem renc_no (k f t s : Int) (A : Option Addr) (n cap : Nat) (w : World) (hn : n ≤ 140737488355328) (hv : Frm.vd k f t s n = false) :
    Calls Try.prog 45 #[.agg #[.int .i64 k, .int .i64 f, .int .i64 t, .int .i64 s, .slice A n cap]] w fun e w' => e = .returned (.tuple #[.slice none 0 0, .int .i64 2]) ∧ Below w.heap.size w w' := by
  have V := Lib.hid (fun W : World => hv ▸ rvalid_any k f t s A n cap W (by omega))
  clear hv
  go_enter Try.func45, Try.ntmps45
  go_wp2_with fail
  refine (V.out _).mono ?_
  rintro e w1 ⟨rfl, hb1⟩
  have hz1 := hb1.size; try simp at hz1
  go_wp2_with fail
  go_ret2
  exact ⟨rfl, (by repeat (first | (with_reducible exact Below.refl _ _) | (with_reducible refine Below.drew ?_) | (with_reducible refine below_drewN ?_ _) | ((with_reducible refine Below.alloc ?_ ?_ _); rotate_left; (first | omega | (simp <;> omega)); rotate_right) | ((with_reducible refine Below.setCell ?_ ?_ _); rotate_left; (first | omega | (simp <;> omega)); rotate_right) | (with_reducible assumption) | (refine Below.trans ?_ (Below.mono (by assumption) ?_); rotate_left; (first | omega | (simp <;> omega)); rotate_right)))⟩
theorem renc_yes (k f t s : Int) (A : Option Addr) (n cap : Nat) (d : List Int) (w : World) (hv : Frm.vd k f t s n = true) (h : Rd w w.heap.size A n d) :
    Calls Try.prog 45 #[.agg #[.int .i64 k, .int .i64 f, .int .i64 t, .int .i64 s, .slice A n cap]] w
      fun e w' => ∃ A' cap', e = .returned (.tuple #[.slice A' (n + 10) cap', .int .i64 0]) ∧ Ow w' w.heap.size A' (n + 10) cap' (Frm.enc k f t s d) ∧ Below w.heap.size w w' := by
  obtain ⟨i0, hi0, hz0, hz1, hz2⟩ := info_parts info_u8
  have V := Lib.hid (fun W : World => hv ▸ rvalid_any k f t s A n cap W (by have := Frm.vd_bd hv; omega))
  obtain ⟨⟨k0, k1⟩, ⟨f0, f1⟩, ⟨t0, t1⟩, ⟨s0, s1⟩, hn⟩ := Frm.vd_bd hv
  have HV := Lib.hid hv
  have HD := Lib.hid h
  clear hv
  go_enter Try.func45, Try.ntmps45
  go_wp2_with fail
  refine (V.out _).mono ?_
  rintro e w1 ⟨rfl, hb1⟩
  have hz1' := hb1.size; try simp at hz1'
  have h1 := blk_below (q := w.heap.size) (heap_new _ _) hb1 (by first | omega | (simp; done) | (simp; omega))
  have HB1 := (show Below w.heap.size w w1 from (by repeat (first | (with_reducible exact Below.refl _ _) | (with_reducible refine Below.drew ?_) | (with_reducible refine below_drewN ?_ _) | ((with_reducible refine Below.alloc ?_ ?_ _); rotate_left; (first | omega | (simp <;> omega)); rotate_right) | ((with_reducible refine Below.setCell ?_ ?_ _); rotate_left; (first | omega | (simp <;> omega)); rotate_right) | (with_reducible assumption) | (refine Below.trans ?_ (Below.mono (by assumption) ?_); rotate_left; (first | omega | (simp <;> omega)); rotate_right))))
  have ca_0 := blk_cell h1 0 rfl; have fa_0 := blk_free h1 0; have ca_1 := blk_cell h1 1 rfl; have fa_1 := blk_free h1 1; have ca_2 := blk_cell h1 2 rfl; have fa_2 := blk_free h1 2; have ca_3 := blk_cell h1 3 rfl; have fa_3 := blk_free h1 3; have ca_4 := blk_cell h1 4 rfl; have fa_4 := blk_free h1 4; have la := lt_of_block h1
  go_wp2_with fail
  have hdl := HD.out.1
  go_loopw [4, 5] (fun s4 s5 wr => ∃ j : Nat, s5 = .int .i64 j ∧ j ≤ n ∧ wr.ownsRow (w.heap.size + 1) 5 1 s4 (8 + j) (bv ([213, 76, k, f, t, s / 256, s % 256, (n : Int)] ++ d.take j)) ∧ Below w.heap.size w wr ∧
    wr.heap[w.heap.size]? = some (.cells #[.int .i64 k, .int .i64 f, .int .i64 t, .int .i64 s, .slice A n cap] 30 (0, 0))) (fun _ s5 _ => n - (intOf s5).toNat)
  case atStart =>
    refine ⟨0, by go_num, by omega, ?_, (by repeat (first | (with_reducible exact Below.refl _ _) | (with_reducible refine Below.drew ?_) | (with_reducible refine below_drewN ?_ _) | ((with_reducible refine Below.alloc ?_ ?_ _); rotate_left; (first | omega | (simp <;> omega)); rotate_right) | ((with_reducible refine Below.setCell ?_ ?_ _); rotate_left; (first | omega | (simp <;> omega)); rotate_right) | (with_reducible assumption) | (refine Below.trans ?_ (Below.mono (by assumption) ?_); rotate_left; (first | omega | (simp <;> omega)); rotate_right))), blk_alloc h1 _⟩
    have := World.ownsRow_lit (base := w.heap.size + 1) (e := 5) (size := 1) w1 #[.int .u8 213, .int .u8 76, .int .u8 k, .int .u8 f, .int .u8 t, .int .u8 (s / 256), .int .u8 (s % 256), .int .u8 (n : Int)] 8 (by omega) (by unfold maxLen; omega) rfl
    simpa [bv] using this
  case round =>
    obtain ⟨j, rfl, hj, hown, hB, hF⟩ := hrel
    obtain ⟨A4, cap4, rfl⟩ := own_form hown
    have hzr := hB.size
    have hlF := lt_of_block hF
    have HDr := HD.out.below hB (Nat.le_refl _)
    have cb_0 := blk_cell hF 0 rfl; have fb_0 := blk_free hF 0; have cb_1 := blk_cell hF 1 rfl; have fb_1 := blk_free hF 1; have cb_2 := blk_cell hF 2 rfl; have fb_2 := blk_free hF 2; have cb_3 := blk_cell hF 3 rfl; have fb_3 := blk_free hF 3; have cb_4 := blk_cell hF 4 rfl; have fb_4 := blk_free hF 4; have lb := lt_of_block hF
    clear h1 HB1 hb1 ca_0 fa_0 ca_1 fa_1 ca_2 fa_2 ca_3 fa_3 ca_4 fa_4
    by_cases hlt : j < n
    · obtain ⟨bl, o, rfl, hbl, hcl⟩ := HDr.2.2 (by omega)
      have hck := hcl j hlt
      have E := Lib.hid (take_snoc d j (by omega))
      obtain ⟨y, hy⟩ : ∃ y, d.getD j 0 = y := ⟨_, rfl⟩
      rw [hy] at hck E
      clear hcl HDr hy hdl
      go_wp2_with (at_builtin; refine wpList_append_any _ rfl (.tmp 39) (.tmp 45) _ rfl (w.heap.size + 1) 5 i0 _ 1 1 Try.underlying28 hi0 hz0 hz1 hz2 rfl (by omega) _ (8 + j) _ rfl (hown.alloc _) (wr.heap.size + 1) (some ⟨wr.heap.size, 0, none⟩) 1 1 [.int .u8 y] rfl (Reads.new wr #[.int .u8 y] 5) (by simp [Value.oneCell']) (by simp only [maxLen]; omega) (by omega) (by simp; omega) ?_; intro v1 w2 hown1 hg1 hat1)
      have ET := E.out
      go_roundw
      case rel =>
        refine ⟨j + 1, by go_num, by omega, ?_, (hB.alloc hzr _).grown hg1 (by simp; omega) (fun g hg => by have := (hown.lt g hg).1; omega), blk_only (blk_alloc hF _) hg1 (fun e => by have := (hown.lt _ e.symm).1; omega)⟩
        rw [ET, ← List.append_assoc]
        have := hown1
        simp only [bv, List.map_append, List.map_cons, List.map_nil] at this ⊢
        exact this
      case measure => simp [intOf]; omega
    · obtain rfl : j = n := by omega
      have ET := Lib.hid (show d.take j = d by rw [List.take_of_length_le (by omega)])
      rw [ET.out] at hown
      have hby : By ([213, 76, k, f, t, s / 256, s % 256, (j : Int)] ++ d) := Frm.By.append (Frm.head_by HV.out) HD.out.2.1
      have ow : Ow wr (w.heap.size + 1) A4 (8 + j) cap4 ([213, 76, k, f, t, s / 256, s % 256, (j : Int)] ++ d) := ⟨hown, hby⟩
      obtain ⟨g, rfl, hg1, hg2, hg3, hg4⟩ := ow.form.resolve_left (by omega)
      have hsub := (ow.rd).sub 2 (6 + j) (by omega)
      have hbod : (([213, 76, k, f, t, s / 256, s % 256, (j : Int)] ++ d).drop 2).take (6 + j) = Frm.body k f t s d := by
        have : 6 + j = (([k, f, t, s / 256, s % 256, (j : Int)] : List Int) ++ d).length := by simp; omega
        rw [this, Frm.body, hdl]
        exact List.take_length
      rw [hbod] at hsub
      rw [Nat.zero_add, show 6 + j = 8 + j - 2 by omega] at hsub
      have RS := Lib.hid (fun (W : World) hW => rsum_any (some ⟨g, 2, none⟩) (8 + j - 2) (cap4 - 2) (Frm.body k f t s d) W (by omega) hW)
      have hcl := Frm.crcN_lt (l := Frm.body k f t s d) hsub.2.1
      have EB := Lib.hid (show Frm.enc k f t s d = [213, 76] ++ Frm.body k f t s d ++ [((Frm.crcN (Frm.body k f t s d) : Nat) : Int) / 256, ((Frm.crcN (Frm.body k f t s d) : Nat) : Int) % 256] from rfl)
      generalize Frm.crcN (Frm.body k f t s d) = c at hcl RS EB
      clear hbod hby
      unfold maxLen at hg4
      go_wp2_with fail
      refine (RS.out _ hsub).mono ?_
      rintro e w2 ⟨rfl, q, rfl⟩
      have hcb : By [(c : Int) / 256, (c : Int) % 256] := by intro x hx; simp at hx; omega
      go_wp2_with (at_builtin; refine wpList_append_any _ rfl (.tmp 50) (.tmp 57) _ rfl (w.heap.size + 1) 5 i0 _ 1 1 Try.underlying28 hi0 hz0 hz1 hz2 rfl (by omega) _ (8 + j) _ rfl (own_drewN (World.ownsRow.alloc hown _) q) (wr.heap.size + 1) (some ⟨wr.heap.size, 0, none⟩) 2 2 (bv [(c : Int) / 256, (c : Int) % 256]) rfl ((Reads.new wr #[.int .u8 ((c : Int) / 256), .int .u8 ((c : Int) % 256)] 5).drewN q) (bv_one _) (by simp only [maxLen]; omega) (by omega) (by simp; omega) ?_; intro v1 w2 hown1 hgr1 hat1)
      go_ret2
      obtain ⟨A5, cap5, rfl⟩ := own_form hown1
      have hlen : j + 10 = 8 + j + 2 := by omega
      refine ⟨A5, cap5, by rw [hlen]; rfl, ?_, ?_⟩
      · rw [hlen, EB.out]
        refine Ow.more (base := w.heap.size + 1) ⟨?_, ?_⟩ (by omega)
        · have hx := hown1
          simp only [bv, ← List.map_append, Frm.body, hdl] at hx ⊢
          simpa using hx
        · refine Frm.By.append (Frm.By.append (by intro x hx; simp at hx; omega) hsub.2.1) hcb
      · refine Below.grown (w := (wr.drewN q).alloc (.cells #[.int .u8 ((c : Int) / 256), .int .u8 ((c : Int) % 256)] 5)) (by repeat (first | (with_reducible exact Below.refl _ _) | (with_reducible refine Below.drew ?_) | (with_reducible refine below_drewN ?_ _) | ((with_reducible refine Below.alloc ?_ ?_ _); rotate_left; (first | omega | (simp <;> omega)); rotate_right) | ((with_reducible refine Below.setCell ?_ ?_ _); rotate_left; (first | omega | (simp <;> omega)); rotate_right) | (with_reducible assumption) | (refine Below.trans ?_ (Below.mono (by assumption) ?_); rotate_left; (first | omega | (simp <;> omega)); rotate_right))) hgr1 (by simp; omega) (fun x hx => ?_)
        have := (hown.lt x hx).1
        omega
end Go.Proofs.Ytgmejplcdecmkaa

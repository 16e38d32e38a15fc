/- THE THEOREM OF STAGE 34 holds: 'skylanternlaw34.FrameHolds' returns true at every input. No conditions. -/
import Derived.Test.YteakljjalmgicaaArg
import Derived.Test.YteakljjalmgicaaHoldP
import Derived.Deep.DrawnRows
namespace Go.Proofs.Yteakljjalmgicaa.lawFrameHolds
open Go.ChangeShapes Go.WideShapes Go.ChangeAt Go.RowKit Go.Joins
attribute [local go_sem ↓] Go.wp_at_zero Go.wp_at_succ
set_option linter.unusedVariables false
set_option linter.unusedSimpArgs false
set_option maxHeartbeats 20000000
/-- the bytes between, of piece i, out of the first k -/
def jk (bt : List Int) (N i : Nat) : Nat → List Int
  | 0 => []
  | k + 1 => jk bt N i k ++ (if k % N = i ∧ bt.getD k 0 ≠ 213 then [bt.getD k 0] else [])
theorem jk_ne (bt : List Int) (N i : Nat) : ∀ k, ∀ x ∈ jk bt N i k, x ≠ 213
  | 0, x, h => by cases h
  | k + 1, x, h => by
    rcases List.mem_append.1 h with h | h
    · exact jk_ne bt N i k x h
    · by_cases hc : k % N = i ∧ bt.getD k 0 ≠ 213
      · rw [if_pos hc] at h; rw [List.mem_singleton.1 h]; exact hc.2
      · rw [if_neg hc] at h; cases h
theorem jk_by {bt : List Int} (hb : By bt) (N i : Nat) : ∀ k, By (jk bt N i k)
  | 0 => by intro x h; cases h
  | k + 1 => by
    intro x h
    rcases List.mem_append.1 h with h | h
    · exact jk_by hb N i k x h
    · by_cases hc : k % N = i ∧ bt.getD k 0 ≠ 213
      · rw [if_pos hc] at h; rw [List.mem_singleton.1 h]; exact hb.at_ k
      · rw [if_neg hc] at h; cases h
theorem jk_len (bt : List Int) (N i : Nat) : ∀ k, (jk bt N i k).length ≤ k
  | 0 => Nat.le_refl _
  | k + 1 => by
    have := jk_len bt N i k
    rw [jk, List.length_append]
    split <;> simp <;> omega
/-- the pieces of the stream behind i rounds -/
def ps (l : List Fr) (bt : List Int) (N n i : Nat) : List (List Int × Fr) := (List.range i).map fun q => (jk bt N q n, l.getD q fr0)
theorem ps_succ (l : List Fr) (bt : List Int) (N n i : Nat) : Frm.flat (ps l bt N n (i + 1)) = Frm.flat (ps l bt N n i) ++ (jk bt N i n ++ Frm.encF (l.getD i fr0)) := by
  simp [ps, List.range_succ, Frm.flat]
theorem ps_map (l : List Fr) (bt : List Int) (N n : Nat) : (ps l bt N n l.length).map (·.2) = l := by
  apply List.ext_getElem
  · simp [ps]
  · intro i h1 h2
    simp [ps, List.getD, h2]
theorem flip8' : ∀ (a : Fin 256) (r : Fin 8), 0 ≤ bits .xor .u8 (a.val : Int) (IntKind.u8.wrap (2 ^ r.val)) ∧ bits .xor .u8 (a.val : Int) (IntKind.u8.wrap (2 ^ r.val)) < 256 ∧ bits .xor .u8 (a.val : Int) (IntKind.u8.wrap (2 ^ r.val)) ≠ (a.val : Int) := by decide +kernel
theorem flip8 (y : Int) (h0 : 0 ≤ y) (h1 : y < 256) (r : Nat) (hr : r < 8) : 0 ≤ bits .xor .u8 y (IntKind.u8.wrap (2 ^ r)) ∧ bits .xor .u8 y (IntKind.u8.wrap (2 ^ r)) < 256 ∧ bits .xor .u8 y (IntKind.u8.wrap (2 ^ r)) ≠ y := by
  have h := flip8' ⟨y.toNat, by omega⟩ ⟨r, hr⟩
  simp only at h
  rw [Int.toNat_of_nonneg h0] at h
  exact h
theorem own_ge {w : World} {base : Nat} {A : Option Addr} {n cap : Nat} {l : List Int} (h : Ow w base A n cap l) {g : Nat} (hg : w.heap.size ≤ g) : some g ≠ (Value.slice A n cap).ownBlock := by
  rcases h.form with ⟨e, _⟩ | ⟨q, e, _, h2, _⟩
  · rw [e]; simp [Value.ownBlock]
  · rw [e]; simp [Value.ownBlock]; omega
set_option maxRecDepth 100000 in
theorem walk (a0 : Option Addr) (len0 cap0 : Nat) (l0 : List Fr) (a1 : Option Addr) (len1 cap1 : Nat) (l1 : List Int) (a2 : Int) (w : World) (w0 : Rf w w.heap.size a0 len0 l0) (r0 : Room a0 len0 cap0) (f0 : ∀ y ∈ l0, FrOk y) (w1 : Rd w w.heap.size a1 len1 l1) (r1 : Room a1 len1 cap1) (w2 : (Lit.int .i64 a2).wf = true) :
    Calls Try.prog 9 #[.slice a0 len0 cap0, .slice a1 len1 cap1, .int .i64 a2] w fun e w' => e = .returned (.bool true) ∧ Below w.heap.size w w' := by
  obtain ⟨i0, hi0, hzA, hzB, hzC⟩ := info_parts info_u8
  have hm := i64_wf w2
  obtain ⟨hm0, hm1⟩ := hm
  have H0 := Lib.hid w0
  have H1 := Lib.hid w1
  clear w0 r0 w1 r1 w2 f0
  by_cases hbig : 6 < len0 ∨ 60 < len1
  · rcases Nat.lt_or_ge 6 len0 with hn | hn
    · clear hbig
      go_enter Try.func9, Try.ntmps9
      go_wp2_with fail
      refine (knownf _).mono ?_
      rintro e w1 ⟨rfl, hb⟩
      go_wp2_with fail
      go_ret
      exact ⟨rfl, (by repeat (first | (with_reducible exact Below.refl _ _) | (with_reducible refine Below.drew ?_) | (with_reducible refine below_drewN ?_ _) | ((with_reducible refine Below.alloc ?_ ?_ _); rotate_left; (first | omega | (simp <;> omega)); rotate_right) | ((with_reducible refine Below.setCell ?_ ?_ _); rotate_left; (first | omega | (simp <;> omega)); rotate_right) | (with_reducible assumption) | (refine Below.trans ?_ (Below.mono (by assumption) ?_); rotate_left; (first | omega | (simp <;> omega)); rotate_right)))⟩
    · have h1 : 60 < len1 := by omega
      clear hbig
      go_enter Try.func9, Try.ntmps9
      go_wp2_with fail
      refine (knownf _).mono ?_
      rintro e w1 ⟨rfl, hb⟩
      go_wp2_with fail
      go_ret
      exact ⟨rfl, (by repeat (first | (with_reducible exact Below.refl _ _) | (with_reducible refine Below.drew ?_) | (with_reducible refine below_drewN ?_ _) | ((with_reducible refine Below.alloc ?_ ?_ _); rotate_left; (first | omega | (simp <;> omega)); rotate_right) | ((with_reducible refine Below.setCell ?_ ?_ _); rotate_left; (first | omega | (simp <;> omega)); rotate_right) | (with_reducible assumption) | (refine Below.trans ?_ (Below.mono (by assumption) ?_); rotate_left; (first | omega | (simp <;> omega)); rotate_right)))⟩
  have hn0 : len0 ≤ 6 := by omega
  have hn1 : len1 ≤ 60 := by omega
  clear hbig
  go_enter Try.func9, Try.ntmps9
  go_wp2_with fail
  go_loopw [7, 8] (fun s7 s8 wr => ∃ (i : Nat) (A7 : Option Addr) (n7 c7 : Nat), s8 = .int .i64 i ∧ i ≤ len0 ∧ s7 = .slice A7 n7 c7 ∧ n7 ≤ 200 * i ∧ Hid (Ow wr w.heap.size A7 n7 c7 (Frm.flat (ps l0 l1 len0 len1 i))) ∧ Hid (Below w.heap.size w wr) ∧ Hid (∀ q, q < i → Frm.okF (l0.getD q fr0))) (fun _ s8 _ => len0 - (intOf s8).toNat)
  case atStart => exact ⟨0, none, 0, 0, by go_num, by omega, rfl, by omega, Lib.hid (Ow.nil _ _), Lib.hid (Below.refl _ _), Lib.hid (fun q hq => by omega)⟩
  case round =>
    obtain ⟨i, A7, n7, c7, rfl, hi, rfl, hn7, HO, HB, HV⟩ := hrel
    have hzr := HB.out.size
    by_cases hlt : i < len0
    · have hRf := H0.out.below HB.out (Nat.le_refl _)
      obtain ⟨b, o, rfl, hbl, hcl⟩ := hRf.2 (by omega)
      obtain ⟨A, cap, p0, p1, p2, p3, p4, prd, _, pc1, pc2⟩ := hcl i hlt
      have PS := Lib.hid (ps_succ l0 l1 len0 len1 i)
      obtain ⟨y, hy⟩ : ∃ y, y = l0.getD i fr0 := ⟨_, rfl⟩
      rw [← hy] at p0 p1 p2 p3 p4 prd pc1 PS
      have HY := Lib.hid hy
      have PR := Lib.hid prd
      clear hRf hcl hy prd
      obtain ⟨yk, yf, yt, ys, yd⟩ := y
      simp only at p0 p1 p2 p3 p4 pc1
      unfold maxLen at pc2
      have hbr : b < wr.heap.size := by omega
      rcases Nat.lt_or_ge 64 yd.length with hd | hd
      · clear PS HY PR
        go_wp2_with fail
        refine (knownf _).mono ?_
        rintro e w2 ⟨rfl, hb2⟩
        have HB2 := HB.out.trans (hb2.mono hzr)
        go_wp2_with fail
        go_ret
        exact ⟨rfl, HB2⟩
      cases hv : Frm.vd yk yf yt ys yd.length
      · have V := Lib.hid (fun W => hv ▸ rvalid_any yk yf yt ys A yd.length cap W (by omega))
        clear PS HY PR hv
        go_wp2_with fail
        refine (V.out _).mono ?_
        rintro e w2 ⟨rfl, hb2⟩
        have hz2 := hb2.size
        have HB2 := HB.out.trans (hb2.mono hzr)
        go_wp2_with fail
        refine (knownf _).mono ?_
        rintro e w3 ⟨rfl, hb3⟩
        have HB3 := HB2.trans (hb3.mono (by omega))
        go_wp2_with fail
        go_ret
        exact ⟨rfl, HB3⟩
      have V := Lib.hid (fun W => hv ▸ rvalid_any yk yf yt ys A yd.length cap W (by omega))
      have OKY := Lib.hid (show Frm.okF ⟨yk, yf, yt, ys, yd⟩ from ⟨hv, PR.out.2.1⟩)
      have EN := Lib.hid (fun (W : World) (h : Rd W W.heap.size A yd.length yd) => (show Calls Try.prog 16 #[.agg #[.int .i64 yk, .int .i64 yf, .int .i64 yt, .int .i64 ys, .slice A yd.length cap]] W fun e w' => ∃ A' cap', e = .returned (.tuple #[.slice A' (yd.length + 10) cap', .int .i64 0]) ∧ Ow w' W.heap.size A' (yd.length + 10) cap' (Frm.encF ⟨yk, yf, yt, ys, yd⟩) ∧ Below W.heap.size W w' from enc_yes yk yf yt ys A yd.length cap yd W hv h))
      clear hv
      go_wp2_with fail
      refine (V.out _).mono ?_
      rintro e w2 ⟨rfl, hb2⟩
      have hz2 := hb2.size
      have HB2 := Lib.hid hb2
      have q0 := ((bcell hb2).1 b _ hbr).trans p0
      have q1 := ((bcell hb2).1 b _ hbr).trans p1
      have q2 := ((bcell hb2).1 b _ hbr).trans p2
      have q3 := ((bcell hb2).1 b _ hbr).trans p3
      have q4 := ((bcell hb2).1 b _ hbr).trans p4
      clear hb2
      go_wp2_with fail
      refine (EN.out _ ((PR.out.below HB2.out hzr).more (by omega))).mono ?_
      rintro e w3 ⟨A9, c9, rfl, how, hb3⟩
      have hz3 := hb3.size
      have hrm := how.room
      unfold maxLen at hrm
      obtain ⟨g9, rfl, hg9, hg9', _, _⟩ := how.form.resolve_left (by omega)
      have HOB := Lib.hid how
      have HB3 := Lib.hid (HB2.out.trans (hb3.mono hz2))
      have r0 := ((bcell hb3).1 b _ (by omega)).trans q0
      have r1 := ((bcell hb3).1 b _ (by omega)).trans q1
      have r2 := ((bcell hb3).1 b _ (by omega)).trans q2
      have r3 := ((bcell hb3).1 b _ (by omega)).trans q3
      have r4 := ((bcell hb3).1 b _ (by omega)).trans q4
      have DE := Lib.hid (fun (W : World) (h : Rd W W.heap.size (some ⟨g9, 0, none⟩) (yd.length + 10) (Frm.encF ⟨yk, yf, yt, ys, yd⟩)) => (show Calls Try.prog 19 #[.slice (some ⟨g9, 0, none⟩) (yd.length + 10) c9] W fun e w' => ∃ A cap, e = .returned (.tuple #[.agg #[.int .i64 yk, .int .i64 yf, .int .i64 yt, .int .i64 ys, .slice A yd.length cap], .int .i64 0]) ∧ Ow w' W.heap.size A yd.length cap yd ∧ Below W.heap.size W w' from by
        have := dec_uni (some ⟨g9, 0, none⟩) (yd.length + 10) c9 _ W (by omega) hrm.1 (by omega) h
        unfold UPost Frm.uk Frm.us Frm.ud at this
        rw [Frm.enc_dE OKY.out, Frm.enc_dS OKY.out, Frm.enc_dd] at this
        exact this))
      clear hb3 how q0 q1 q2 q3 q4 EN V
      go_wp2_with fail
      refine (DE.out _ HOB.out.rd).mono ?_
      rintro e w4 ⟨A10, c10, rfl, how, hb4⟩
      have hz4 := hb4.size
      have OF := Lib.hid how.rd
      have HOB4 := Lib.hid (HOB.out.below hb4 (Nat.le_refl _))
      have HB4 := Lib.hid (HB3.out.trans (hb4.mono (by omega)))
      have s0 := ((bcell hb4).1 b _ (by omega)).trans r0
      have s1 := ((bcell hb4).1 b _ (by omega)).trans r1
      have s2 := ((bcell hb4).1 b _ (by omega)).trans r2
      have s3 := ((bcell hb4).1 b _ (by omega)).trans r3
      have s4 := ((bcell hb4).1 b _ (by omega)).trans r4
      clear hb4 how r0 r1 r2 r3 r4 HOB HB3 HB2 DE
      go_upto_region 11 with fail
      obtain ⟨wz, hwz⟩ : ∃ wz : World, wz = w4.alloc (.cells #[.int .i64 yk, .int .i64 yf, .int .i64 yt, .int .i64 ys, .slice A10 yd.length c10] 25) := ⟨_, rfl⟩
      have HBz : Below w4.heap.size w4 wz := by rw [hwz]; exact (Below.refl _ _).alloc (Nat.le_refl _) _
      have hG : wz.heap[w4.heap.size]? = some (.cells #[.int .i64 yk, .int .i64 yf, .int .i64 yt, .int .i64 ys, .slice A10 yd.length c10] 25 (0, 0)) := by rw [hwz]; exact heap_new _ _
      have hzz : w4.heap.size < wz.heap.size := by rw [hwz]; simp
      rw [← hwz]
      clear hwz
      have t0 := ((bcell HBz).1 b _ (by omega)).trans s0
      have t1 := ((bcell HBz).1 b _ (by omega)).trans s1
      have t2 := ((bcell HBz).1 b _ (by omega)).trans s2
      have t3 := ((bcell HBz).1 b _ (by omega)).trans s3
      have t4 := ((bcell HBz).1 b _ (by omega)).trans s4
      have RA := Lib.hid ((OF.out.below HBz (Nat.le_refl _)).more (Nat.le_of_lt hzz))
      have RB := Lib.hid (((PR.out.below HB4.out hzr).below HBz (by omega)).more (B' := wz.heap.size) (by omega))
      have HBzz := Lib.hid (HB4.out.trans (HBz.mono (by omega)))
      have HOBz := Lib.hid (HOB4.out.below HBz (by omega))
      have SM := Lib.hid (fun (W : World) (hW : Below wz.heap.size wz W) => same_yes yk yf yt ys A10 A yd.length yd.length c10 cap yd W ((RA.out.below hW (Nat.le_refl _)).more hW.size) ((RB.out.below hW (Nat.le_refl _)).more hW.size))
      clear s0 s1 s2 s3 s4 RA OF
      have cG_0 := blk_cell hG 0 rfl; have fG_0 := blk_free hG 0; have cG_1 := blk_cell hG 1 rfl; have fG_1 := blk_free hG 1; have cG_2 := blk_cell hG 2 rfl; have fG_2 := blk_free hG 2; have cG_3 := blk_cell hG 3 rfl; have fG_3 := blk_free hG 3; have cG_4 := blk_cell hG 4 rfl; have fG_4 := blk_free hG 4; have lG := lt_of_block hG
      have z1 : (((yd.length + 10 : Nat) : Int) != 10 + (yd.length : Int)) = false := by rw [bne_eq_false_iff_eq]; omega
      have z2 : (((yd.length : Int) + 10) != 10 + (yd.length : Int)) = false := by rw [bne_eq_false_iff_eq]; omega
      have z3 : IntKind.i64.wrap (10 + (yd.length : Int)) = 10 + yd.length := IntWalk.i64_in _ (by omega)
      have hbz : b < wz.heap.size := by omega
      go_region_held3 (fun w' => w'.cell? ⟨b, o + i * 5, none⟩ = some (.int .i64 yk) ∧ w'.cell? ⟨b, o + i * 5 + 1, none⟩ = some (.int .i64 yf) ∧ w'.cell? ⟨b, o + i * 5 + 2, none⟩ = some (.int .i64 yt) ∧ w'.cell? ⟨b, o + i * 5 + 3, none⟩ = some (.int .i64 ys) ∧ w'.cell? ⟨b, o + i * 5 + 4, none⟩ = some (.slice A yd.length cap) ∧ w'.cell? ⟨w4.heap.size, 0, none⟩ = some (.int .i64 yk) ∧ w'.cell? ⟨w4.heap.size, 1, none⟩ = some (.int .i64 yf) ∧ w'.cell? ⟨w4.heap.size, 2, none⟩ = some (.int .i64 yt) ∧ w'.cell? ⟨w4.heap.size, 3, none⟩ = some (.int .i64 ys) ∧ w'.cell? ⟨w4.heap.size, 4, none⟩ = some (.slice A10 yd.length c10)) (refine ⟨?_, ?_, ?_, ?_, ?_, ?_, ?_, ?_, ?_, ?_⟩ <;> (first | (with_reducible assumption) | (simp only [World.cell?_drew]; with_reducible assumption))) (first | (go_at_call 18; refine (SM.out _ (by first | exact Below.refl _ _ | exact (Below.refl _ _).drew)).mono ?_; rintro e w5 ⟨rfl, hb5⟩; have hz5 := hb5.size; (try simp at hz5); have hbz5 := (show Below wz.heap.size wz w5 from by first | exact hb5 | exact ((Below.refl _ wz).drew).trans hb5); have HOB5 := Lib.hid (HOBz.out.below hbz5 (Nat.le_refl _)); have v0 := ((bcell hb5).1 b _ (by first | omega | (simp; done) | (simp; omega))).trans t0; have v1 := ((bcell hb5).1 b _ (by first | omega | (simp; done) | (simp; omega))).trans t1; have v2 := ((bcell hb5).1 b _ (by first | omega | (simp; done) | (simp; omega))).trans t2; have v3 := ((bcell hb5).1 b _ (by first | omega | (simp; done) | (simp; omega))).trans t3; have v4 := ((bcell hb5).1 b _ (by first | omega | (simp; done) | (simp; omega))).trans t4; have x0 := ((bcell hb5).1 w4.heap.size 0 (by first | omega | (simp; done) | (simp; omega))).trans cG_0; have x1 := ((bcell hb5).1 w4.heap.size 1 (by first | omega | (simp; done) | (simp; omega))).trans cG_1; have x2 := ((bcell hb5).1 w4.heap.size 2 (by first | omega | (simp; done) | (simp; omega))).trans cG_2; have x3 := ((bcell hb5).1 w4.heap.size 3 (by first | omega | (simp; done) | (simp; omega))).trans cG_3; have x4 := ((bcell hb5).1 w4.heap.size 4 (by first | omega | (simp; done) | (simp; omega))).trans cG_4; have HB5 := Lib.hid (show Below wr.heap.size wr w5 from HBzz.out.trans (hbz5.mono (by omega)))))
      clear v0 v1 v2 v3 v4 x0 x1 x2 x3 x4 hb5 hbz5
      clear cG_0 fG_0 cG_1 fG_1 cG_2 fG_2 cG_3 fG_3 cG_4 fG_4
      clear t0 t1 t2 t3 t4 z1 z2 z3 hG HBz HBzz HOBz HOB4 RB SM PR HB4 hzz hz5
      have HE5 := Lib.hid (HB.out.trans (HB5.out.mono hzr))
      have HS5 := Lib.hid (HO.out.below HB5.out (Nat.le_refl _))
      have hne5 := own_ge (g := g9) HO.out (by omega)
      have hg9z : g9 < w5.heap.size := by have := HOB5.out.block; obtain ⟨cur, hh, _⟩ := this; exact lt_of_block hh
      have hwz5 := HE5.out.size
      rename_i hHd
      clear hHd
      go_wp2_with fail
      go_loopw [7, 13] (fun s7 s13 wk => ∃ (k : Nat) (A : Option Addr) (n c : Nat), s13 = .int .i64 k ∧ k ≤ len1 ∧ s7 = .slice A n c ∧ n ≤ 200 * i + k ∧ some g9 ≠ (Value.slice A n c).ownBlock ∧ g9 < wk.heap.size ∧ Hid (Ow wk w.heap.size A n c (Frm.flat (ps l0 l1 len0 len1 i) ++ jk l1 len0 i k)) ∧ Hid (Ow wk w2.heap.size (some ⟨g9, 0, none⟩) (yd.length + 10) c9 (Frm.encF ⟨yk, yf, yt, ys, yd⟩)) ∧ Hid (Below w.heap.size w wk)) (fun _ s13 _ => len1 - (intOf s13).toNat)
      case atStart => exact ⟨0, A7, n7, c7, by go_num, by omega, rfl, by omega, hne5, hg9z, Lib.hid (by simpa [jk] using HS5.out), HOB5, HE5⟩
      case round =>
        obtain ⟨k, Ak, nk, ck, rfl, hk, rfl, hnk, hnek, hgk, HOk, HBk, HEk⟩ := hrel
        have hzk := HEk.out.size
        by_cases hkl : k < len1
        · obtain ⟨g1, o1, rfl, hgg, hcl1⟩ := (H1.out.below HEk.out (Nat.le_refl _)).2.2 (by omega)
          have hck := hcl1 k hkl
          have hby1 := H1.out.2.1.at_ k
          have JS := Lib.hid (show jk l1 len0 i (k + 1) = jk l1 len0 i k ++ (if k % len0 = i ∧ l1.getD k 0 ≠ 213 then [l1.getD k 0] else []) from rfl)
          generalize l1.getD k 0 = x at hck hby1 JS
          obtain ⟨q, hq⟩ : ∃ q, q = k % len0 := ⟨_, rfl⟩
          have zt : ((k : Nat) : Int).tmod (len0 : Int) = (q : Int) := by rw [hq]; rfl
          rw [← hq] at JS
          have zw : IntKind.i64.wrap (q : Int) = q := IntWalk.i64_in _ (by have := Nat.mod_lt k (show 0 < len0 by omega); omega)
          have zn : ((len0 : Nat) : Int) ≠ 0 := by omega
          clear hcl1 hq
          by_cases hqi : q = i
          · subst hqi
            by_cases hx : x = 213
            · subst hx
              rw [if_neg (fun h => h.2 rfl), List.append_nil] at JS
              go_wp2_with fail
              go_roundw
              case rel => exact ⟨k + 1, Ak, nk, ck, by go_num, by omega, rfl, by omega, hnek, hgk, by rw [JS.out]; exact HOk, HBk, HEk⟩
              case measure => simp [intOf]; omega
            · rw [if_pos ⟨rfl, hx⟩] at JS
              have zx : (x != 213) = true := by simpa using hx
              have hlk := HOk.out.len
              go_wp2_with (at_builtin; go_loud (refine wpList_append_any _ rfl (.tmp 109) (.tmp 114) _ rfl w.heap.size 5 i0 _ 1 1 Try.underlying23 hi0 hzA hzB hzC rfl (by omega) _ nk _ rfl (World.ownsRow.alloc HOk.out.1 _) (wr.heap.size + 1) (some ⟨wr.heap.size, 0, none⟩) 1 1 [.int .u8 x] rfl (Reads.new wr #[.int .u8 x] 5) (by simp [Value.oneCell']) (by simp only [maxLen]; omega) (by omega) (by simp; omega) ?_); intro v1 w6 hown1 hg1 hat1; obtain ⟨A1, cap1', rfl⟩ := own_form hown1)
              have HE6 := Lib.hid ((HEk.out.alloc hzk (.cells #[.int .u8 x] 5)).grown hg1 (by simp; omega) (fun q hq => (HOk.out.1.lt q hq).1))
              have hne6 : some g9 ≠ (Value.slice A1 (nk + 1) cap1').ownBlock := (by rcases hat1 with e | e; (exact fun h => hnek (h.trans e)); (exact fun h => by have := h.trans e; simp at this; omega))
              have HB6 := Lib.hid ((HBk.out.alloc (.cells #[.int .u8 x] 5)).grown hg1 (fun g e => by injection e with e; injection e with e; rw [← e]; exact hnek))
              have HO6 := Lib.hid (show Ow w6 w.heap.size A1 (nk + 1) cap1' (Frm.flat (ps l0 l1 len0 len1 q) ++ (jk l1 len0 q k ++ [x])) from ⟨by have h := hown1; rw [← List.append_assoc, show bv ((Frm.flat (ps l0 l1 len0 len1 q) ++ jk l1 len0 q k) ++ [x]) = bv (Frm.flat (ps l0 l1 len0 len1 q) ++ jk l1 len0 q k) ++ [.int .u8 x] by simp [bv]]; exact h, by rw [← List.append_assoc]; intro y hy; rcases List.mem_append.1 hy with h | h; exact HOk.out.2 y h; (rw [List.mem_singleton.1 h]; exact hby1)⟩)
              have hgk6 : g9 < w6.heap.size := (by have := hg1.size; simp at this; omega)
              clear hown1 hg1 hat1
              go_roundw
              case rel => exact ⟨k + 1, A1, nk + 1, cap1', by go_num, by omega, rfl, by omega, hne6, hgk6, by rw [JS.out]; exact HO6, HB6, HE6⟩
              case measure => simp [intOf]; omega
          · have zq : ((q : Nat) : Int) ≠ i := by omega
            rw [if_neg (fun h => hqi h.1), List.append_nil] at JS
            go_wp2_with fail
            go_roundw
            case rel => exact ⟨k + 1, Ak, nk, ck, by go_num, by omega, rfl, by omega, hnek, hgk, by rw [JS.out]; exact HOk, HBk, HEk⟩
            case measure => simp [intOf]; omega
        · obtain rfl : k = len1 := by omega
          have hrk := HBk.out.room
          unfold maxLen at hrk
          have hlk := HOk.out.len
          go_wp2_with (at_builtin; go_loud (refine wpList_append_any _ rfl (.tmp 116) (.tmp 117) _ rfl w.heap.size 5 i0 _ 1 1 Try.underlying23 hi0 hzA hzB hzC rfl (by omega) _ nk _ rfl HOk.out.1 wr.heap.size (some ⟨g9, 0, none⟩) (yd.length + 10) c9 (bv (Frm.encF ⟨yk, yf, yt, ys, yd⟩)) rfl HBk.out.rd.reads (bv_one _) (by simp only [maxLen]; omega) (by omega) (by omega) ?_); intro v1 w6 hown1 hg1 hat1; obtain ⟨A1, cap1', rfl⟩ := own_form hown1; have hz6 := hg1.size)
          all_goals have HE6 := Lib.hid (HEk.out.grown hg1 hzk (fun q hq => (HOk.out.1.lt q hq).1))
          all_goals have HB6 := Lib.hid (HBk.out.grown hg1 (fun g e => by injection e with e; injection e with e; rw [← e]; exact hnek))
          all_goals have HO6 := Lib.hid (show Ow w6 w.heap.size A1 (nk + (yd.length + 10)) cap1' (Frm.flat (ps l0 l1 len0 k (i + 1))) from ⟨by rw [PS.out, ← List.append_assoc, show bv ((Frm.flat (ps l0 l1 len0 k i) ++ jk l1 len0 i k) ++ Frm.encF ⟨yk, yf, yt, ys, yd⟩) = bv (Frm.flat (ps l0 l1 len0 k i) ++ jk l1 len0 i k) ++ bv (Frm.encF ⟨yk, yf, yt, ys, yd⟩) by simp [bv]]; exact hown1, by rw [PS.out, ← List.append_assoc]; intro y hy; rcases List.mem_append.1 hy with h | h; exact HOk.out.2 y h; exact Frm.encF_by OKY.out y h⟩)
          all_goals have HV6 := Lib.hid (show ∀ q, q < i + 1 → Frm.okF (l0.getD q fr0) from fun q hq => by rcases Nat.lt_or_ge q i with h | h; exact HV.out q h; (obtain rfl : q = i := (by omega); rw [← HY.out]; exact OKY.out))
          all_goals have hne6 : some g9 ≠ (Value.slice A1 (nk + (yd.length + 10)) cap1').ownBlock := (by rcases hat1 with e | e; (exact fun h => hnek (h.trans e)); (exact fun h => by have := h.trans e; simp at this; omega))
          all_goals clear hown1 hg1 hat1 hlk HOk HBk HEk PS HV HY
          all_goals have hze := HE6.out.size
          rotate_left
          iterate 2
            go_roundw
            case rel => exact ⟨i + 1, A1, _, cap1', by go_num, by omega, rfl, by omega, HO6, HE6, HV6⟩
            case measure => simp [intOf]; omega
          obtain ⟨j, r, hj, hr⟩ : ∃ j r : Nat, a2 = 8 * j + r ∧ r < 8 := ⟨(a2 / 8).toNat, (a2 % 8).toNat, by omega, by omega⟩
          have hjl : j < yd.length + 10 := by omega
          have zd : a2.tdiv 8 = (j : Int) := by rw [Int.tdiv_eq_ediv_of_nonneg (by omega)]; omega
          have zm : a2.tmod 8 = (r : Int) := by rw [Int.tmod_eq_emod_of_nonneg (by omega)]; omega
          have zj : IntKind.i64.wrap (j : Int) = j := IntWalk.i64_in _ (by omega)
          have zr : IntKind.i64.wrap (r : Int) = r := IntWalk.i64_in _ (by omega)
          have hcl := HB6.out.rd.2.2 (by omega)
          obtain ⟨g', o', e', hbl6, hcl⟩ := hcl
          injection e' with e'; injection e' with eg eo; subst eg; subst eo
          have hck := hcl j hjl
          rw [Nat.zero_add] at hck
          have hby := HB6.out.2.at_ j
          have hfz : w6.frozen? ⟨g9, j, none⟩ = false := by obtain ⟨cur, hh, _⟩ := HB6.out.block; exact blk_free hh j
          obtain ⟨y, hy⟩ : ∃ y, y = (Frm.encF ⟨yk, yf, yt, ys, yd⟩).getD j 0 := ⟨_, rfl⟩
          rw [← hy] at hck hby
          have HYJ := Lib.hid hy
          clear hcl hy
          obtain ⟨y0, y1⟩ := hby
          have zi0 : (0 : Int) ≤ (j : Int) := by omega
          have zi1 : (j : Int) < ((yd.length + 10 : Nat) : Int) := by omega
          have zi2 : (j : Int) < (yd.length : Int) + 10 := by omega
          have zr0 : (0 : Int) ≤ (r : Int) := by omega
          have zr8 : (r : Int) ≤ 8 := by omega
          clear hj
          first | (go_region_with fail) | fail
          have FL := flip8 y y0 y1 r hr
          generalize bits .xor .u8 y (IntKind.u8.wrap (2 ^ r)) = v at FL ⊢
          obtain ⟨w7, hw7⟩ : ∃ w7 : World, w7 = (w6.setCell ⟨g9, j, none⟩ (.int .u8 v)).drew := ⟨_, rfl⟩
          have HB7 := Lib.hid (show Ow w7 w2.heap.size (some ⟨g9, 0, none⟩) (yd.length + 10) c9 ((Frm.encF ⟨yk, yf, yt, ys, yd⟩).set j v) by rw [hw7]; exact (HB6.out.store j v ⟨FL.1, FL.2.1⟩).drew)
          have HE7 := Lib.hid (show Below w.heap.size w w7 by rw [hw7]; exact (HE6.out.setCell (p := ⟨g9, j, none⟩) (by show _ ≤ g9; omega) _).drew)
          have HG : w6.grownBy (w6.setCell ⟨g9, j, none⟩ (.int .u8 v)) (some g9) := ⟨rfl, rfl, rfl, by simp [World.setCell], fun k' hk' hne' => Below.heap_setCell w6 ⟨g9, j, none⟩ (.int .u8 v) k' (fun e => hne' (congrArg some e))⟩
          have HO7 := Lib.hid (show Ow w7 w.heap.size A1 (nk + (yd.length + 10)) cap1' (Frm.flat (ps l0 l1 len0 k (i + 1))) by rw [hw7]; exact (HO6.out.grown HG (fun g e h => hne6 (by rw [e, ← h]; simp [Value.ownBlock]))).drew)
          rw [← hw7]
          clear hw7 HG
          have DE2 := Lib.hid (fun (W : World) (h : Rd W W.heap.size (some ⟨g9, 0, none⟩) (yd.length + 10) ((Frm.encF ⟨yk, yf, yt, ys, yd⟩).set j v)) => (show Calls Try.prog 19 #[.slice (some ⟨g9, 0, none⟩) (yd.length + 10) c9] W fun e w' => ∃ (k f t s : Int) (A : Option Addr) (n cap : Nat) (ee : Int), e = .returned (.tuple #[.agg #[.int .i64 k, .int .i64 f, .int .i64 t, .int .i64 s, .slice A n cap], .int .i64 ee]) ∧ ee ≠ 0 ∧ Below W.heap.size W w' from
            (dec_uni (some ⟨g9, 0, none⟩) (yd.length + 10) c9 _ W (by omega) hrk.1 (by omega) h).mono fun e w' ⟨A, cap, he, _, hb⟩ => ⟨_, _, _, _, _, _, _, _, he, Frm.enc_flip OKY.out (by rw [Frm.encF_len]; show j < 10 + yd.length; omega) ⟨FL.1, FL.2.1⟩ (by rw [← HYJ.out]; exact FL.2.2), hb⟩))
          clear HB6 HE6 HO6 FL HYJ
          go_wp2_with fail
          refine (DE2.out _ HB7.out.rd).mono ?_
          rintro e w8 ⟨k8, f8, t8, s8, A8, n8, cap8, ee, rfl, hee, hb8⟩
          have hz7 := HE7.out.size
          have HE8 := Lib.hid (HE7.out.trans (hb8.mono hz7))
          have HO8 := Lib.hid (HO7.out.below hb8 (Nat.le_refl _))
          have hz8 := hb8.size
          clear hb8 DE2 HB7 HE7 HO7
          go_wp2_with fail
          go_roundw
          case rel => exact ⟨i + 1, A1, _, cap1', by go_num, by omega, rfl, by omega, (by first | exact HO8 | exact Lib.hid (HO8.out.alloc _)), (by first | exact HE8 | exact Lib.hid (HE8.out.alloc (by omega) _)), HV6⟩
          case measure => simp [intOf]; omega
    · obtain rfl : len0 = i := by omega
      have HL := H0.out.1
      have hfl : (Frm.flat (ps l0 l1 len0 len1 len0)).length = n7 := HO.out.len
      have hrm := HO.out.room
      unfold maxLen at hrm
      have SF := Frm.scan_flat (ps l0 l1 len0 len1 len0) (Frm.flat (ps l0 l1 len0 len1 len0)) 0 (by
        intro p hp
        obtain ⟨q, hq, rfl⟩ := List.mem_map.1 hp
        exact ⟨jk_ne l1 len0 q len1, HV.out q (List.mem_range.1 hq)⟩) rfl (Nat.zero_le _)
      have PM := ps_map l0 l1 len0 len1
      rw [HL] at PM
      rw [PM, hfl] at SF
      have SC := Lib.hid (show Calls Try.prog 21 #[.slice A7 n7 c7] wr fun e w' => ∃ A cap, e = .returned (.tuple #[.slice A len0 cap, .int .i64 n7, .int .i64 0]) ∧ Rof w' wr.heap.size (.slice A len0 cap) l0 ∧ Below wr.heap.size wr w' from
        (scan_any A7 n7 c7 _ wr (by omega) hrm.1 (by omega) HO.out.rd).mono fun e w' ⟨h, hb⟩ => by
          rcases h with ⟨hbig, _⟩ | ⟨_, v, he, ho⟩
          · omega
          · rw [SF] at he ho
            obtain ⟨A, cap, rfl⟩ := ho.form
            rw [HL] at he ho
            exact ⟨A, cap, he, ho, hb⟩)
      clear HL hfl SF PM HO HV
      go_wp2_with fail
      refine SC.out.mono ?_
      rintro e w2 ⟨A2, c2, rfl, how, hb2⟩
      have hz2 := hb2.size
      have HB2 := Lib.hid (HB.out.trans (hb2.mono hzr))
      have RF := Lib.hid how.rf
      clear how hb2 SC
      go_wp2_with fail
      refine (kf_samef l0 _ _ _ _ _ (by omega) _ RF.out ((H0.out.below HB2.out (Nat.le_refl _)).more (by omega))).mono ?_
      rintro e w3 ⟨rfl, hb3⟩
      have hz3 := hb3.size
      have HB3 := Lib.hid (HB2.out.trans (hb3.mono (by omega)))
      clear hb3 RF
      go_wp2_with fail
      refine (knownf _).mono ?_
      rintro e w4 ⟨rfl, hb4⟩
      have HB4 := (show Below w.heap.size w w4 from HB3.out.trans (hb4.mono (by omega)))
      go_wp2_with fail
      go_ret
      exact ⟨rfl, HB4⟩
theorem own : ownKnob Try.prog.godebug = none := by kernel_rfl
theorem laidOut : laidOutB Try.prog = true := by kernel_rfl
set_option maxRecDepth 100000 in
theorem lifted (os : Os) (started : os.Started) (H : Type) (enc : TypeId × Value → H) :
    ReturnsInHanded {} Try.checked os 9 .any (Rows.frameHoldsSpec.pre6 enc Try.prog Try.f9 Rows.frameHoldsRow.domain false) (Rows.frameHoldsSpec.post enc Try.prog Try.f9 false true false false) := by
  refine returnsInHanded_of_change (C := Try.checked) own started (by kernel_rfl) Try.func9
    (ChangeSpec.witness6 (enc := enc) (C := Try.checked) false ⟨#[], #[.slice none 0 0, .slice none 0 0, .int .i64 0], []⟩ 8 (by kernel_rfl) (by kernel_rfl) (by kernel_rfl) (by kernel_rfl)) ?_
  intro W base args ds gs before hval0 hW hcnd _
  have hval : ∀ (j : Nat) t v, Try.f9.params[j]? = some t → args[j]? = some v → Value.okWide Try.prog W .any base t v := hval0
  have hW' := hW
  obtain ⟨p, q, hA0, hV, rfl, hfz, hnd⟩ := hW
  have hA : DataW.TrodAll enc Try.prog W 0 (fun _ => true) true Try.f9.params.toList args.toList ds p := hA0
  rw [Try.params9] at hA hval
  obtain ⟨v0, vs0, d0, ds0, p0, q0, hargs, rfl, rfl, h0, r0⟩ := trodAll_cons hA
  obtain ⟨v1, vs1, d1, ds1, p1, q1, rfl, rfl, rfl, h1, r1⟩ := trodAll_cons r0
  obtain ⟨v2, vs2, d2, ds2, p2, q2, rfl, rfl, rfl, h2, r2⟩ := trodAll_cons r1
  obtain ⟨rfl, rfl, rfl⟩ := trodAll_nil r2
  obtain rfl : args = #[v0, v1, v2] := by cases args; simp_all
  obtain ⟨rfl, rfl⟩ := trodVars_none hV
  have k0 := h0
  have lt0 : ∀ x ∈ p0, x.block < W.heap.size := by obtain ⟨m, hm⟩ := k0; exact DataW.trod_lt m _ _ _ hm
  obtain ⟨a0, len0, cap0, rfl⟩ := okWide_slice Try.underlying41 (hval 0 41 v0 rfl rfl)
  obtain ⟨fuel0, hf0⟩ := h0
  obtain ⟨xa0, xlen0, xcap0, l0, xe0, ro0, wo0, fo0⟩ := frames_of hf0
  obtain ⟨rfl, rfl, rfl⟩ : a0 = xa0 ∧ len0 = xlen0 ∧ cap0 = xcap0 := by injection xe0 with e1 e2 e3; exact ⟨e1, e2, e3⟩
  have k1 := h1
  have lt1 : ∀ x ∈ p1, x.block < W.heap.size := by obtain ⟨m, hm⟩ := k1; exact DataW.trod_lt m _ _ _ hm
  obtain ⟨a1, len1, cap1, rfl⟩ := okWide_slice Try.underlying23 (hval 1 23 v1 rfl rfl)
  obtain ⟨fuel1, hf1⟩ := h1
  obtain ⟨xa1, xlen1, xcap1, l1, xe1, ro1, wo1⟩ := bytes_of hf1
  obtain ⟨rfl, rfl, rfl⟩ : a1 = xa1 ∧ len1 = xlen1 ∧ cap1 = xcap1 := by injection xe1 with e1 e2 e3; exact ⟨e1, e2, e3⟩
  have k2 := h2
  have lt2 : ∀ x ∈ p2, x.block < W.heap.size := by obtain ⟨m, hm⟩ := k2; exact DataW.trod_lt m _ _ _ hm
  obtain ⟨a2, rfl, _, _, w2⟩ := open_int Try.underlying3 (hval 2 3 v2 rfl rfl) h2
  clear hA0 hval0
  refine (walk a0 len0 cap0 l0 a1 len1 cap1 l1 a2 W wo0 ro0 fo0 wo1 ro1 w2).mono fun e W' ⟨he, bel⟩ => ?_
  subst he
  exact ⟨_, rfl, _, _, _, [], _, [], hW', trodAll_mk1 (shut_bool Try.underlying4 _), (trodAll_cons_mk (Below.trod laidOut (by kernel_rfl) (of_decide_eq_true (by kernel_rfl)) k0 bel lt0) (trodAll_cons_mk (Below.trod laidOut (by kernel_rfl) (of_decide_eq_true (by kernel_rfl)) k1 bel lt1) (trodAll_cons_mk (Below.trod laidOut (by kernel_rfl) (of_decide_eq_true (by kernel_rfl)) k2 bel lt2) trodAll_mk0))), rfl, bel.frame _, fun h => by cases h⟩
theorem over : Rows.frameHoldsRow.holds Try.pinned (OpenSpec.ofChange Rows.frameHoldsSpec) :=
  OpenClaim.holds_of_wide 9 Try.f9 rfl rfl rfl rfl rfl rfl rfl ⟨rfl, rfl, rfl, rfl, rfl⟩ rfl rfl rfl rfl rfl (by kernel_rfl) Try.func9 (by kernel_rfl)
    (of_decide_eq_true (by kernel_rfl)) (by unfold Func.isWrapper; first | (rw [if_pos (by decide +kernel)]; kernel_rfl) | (rw [if_neg (by decide +kernel)]; exact ⟨rfl, rfl⟩))
    (fun os started H enc _ => lifted os started H enc)
theorem proved : Rows.FrameHoldsSaid := over
end Go.Proofs.Yteakljjalmgicaa.lawFrameHolds

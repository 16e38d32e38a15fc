/- The reference's Give: a command that is given. -/
import Derived.Test.YtiidkmnagfhgiaaStU
namespace Go.Proofs.Ytiidkmnagfhgiaa
open Go.RowKit
set_option maxHeartbeats 8000000
set_option maxRecDepth 100000
set_option linter.unusedSimpArgs false
set_option linter.unusedVariables false
attribute [local go_sem ↓] Go.wp_at_zero Go.wp_at_succ
theorem Ri.newAt (V : World) (x : Int) (N : Nat) (hN : V.heap.size = N) (h : -9223372036854775808 ≤ x ∧ x ≤ 9223372036854775807) : Ri (V.alloc (.cells #[.int .i64 x] 3)) (V.alloc (.cells #[.int .i64 x] 3)).heap.size (some ⟨N, 0, none⟩) 1 [x] := by
  subst hN
  have := Ri.new1 V x h
  simpa using this
theorem rput1 (x : Int) (A : Option Addr) (W : World) (h : Ri W W.heap.size A 1 [x]) (hx : 0 ≤ x ∧ x ≤ 4294967295) :
    Calls Try.prog 55 #[.slice A 1 1] W fun e w' => ∃ A' cap', e = .returned (.tuple #[.slice A' 4 cap', .int .i64 0]) ∧ Ow w' W.heap.size A' 4 cap' (Frm.num4 x) ∧ Below W.heap.size W w' := by
  have hok : Frm.okAll [x] = true := by simp [Frm.okAll, Frm.okN_iff.2 hx]
  refine (rput_any A 1 1 [x] W (by omega) h).mono ?_
  rintro e w' (⟨h1, _⟩ | ⟨_, A', cap', rfl, hO, hB⟩)
  · rcases h1 with h1 | h1
    · omega
    · rw [hok] at h1; cases h1
  · refine ⟨A', cap', rfl, ?_, hB⟩
    simpa [Frm.pn] using hO
theorem made_bools (n : Nat) : (madeCells #[.bool false] n).toList = bools (List.replicate n false) := by
  apply List.ext_getElem?
  intro i
  by_cases hi : i < n
  · simp [madeCells, bools, hi, Nat.mod_one]
  · rw [List.getElem?_eq_none, List.getElem?_eq_none]
    · simp [bools]; omega
    · rw [Array.length_toList, size_madeCells]; omega
theorem info_bool : (Try.prog.info? 4).map (fun i => (i.zero, i.size, i.bytes)) = some (some (.bool false), 1, 1) := by kernel_rfl
theorem giveE_ok {s : Stn.St} {k now x : Int} (h : Stn.giveE s k now x = 0) : (k = 1 → 0 ≤ x ∧ x ≤ 4294967295) ∧ Stn.timeE s now = 0 ∧ (k = 3 → now ≤ x ∧ x ≤ 3600000) ∧ Stn.may k s.st = true := by
  unfold Stn.giveE at h
  by_cases a : k = 1 ∧ ¬ (0 ≤ x ∧ x ≤ 4294967295)
  · rw [if_pos a] at h; omega
  rw [if_neg a] at h
  by_cases c : Stn.timeE s now ≠ 0
  · rw [if_pos c] at h; omega
  rw [if_neg c] at h
  by_cases d : k = 3 ∧ ¬ (now ≤ x ∧ x ≤ 3600000)
  · rw [if_pos d] at h; omega
  rw [if_neg d] at h
  by_cases e : Stn.may k s.st = false
  · rw [if_pos e] at h; omega
  exact ⟨fun hk => by omega, by omega, fun hk => by omega, by simpa using e⟩
theorem rgive_1 (s : Stn.St) (hs : Stn.Inv s) (D : Option Addr) (dl dc : Nat) (A : Option Addr) (ac : Nat) (S : Option Addr) (sc : Nat) (now x : Int) (w : World) (h : IsR w D dc A ac S sc s) (he : Stn.giveE s 1 now x = 0) :
    Calls Try.prog 36 #[.agg #[.int .i64 s.again, .int .i64 s.st, .int .i64 s.now, .int .i64 s.seq, .bool s.some, .int .i64 s.prog, .int .i64 s.cmd, .slice D dl dc, .int .i64 s.sent, .slice A s.n ac, .slice S s.n sc], .int .i64 1, .int .i64 now, .int .i64 x] w (RPost D (Stn.give0 s 1 now x) (Stn.frames (Stn.give0 s 1 now x)) 0 w) := by
  obtain ⟨g1, ht, g3, hm⟩ := giveE_ok he
  have TM := Lib.hid (fun W : World => rtime_any s D dl dc A s.n ac S s.n sc now W)
  rw [ht] at TM
  have MY := Lib.hid (fun W : World => rmay_any 1 s.st W (by omega) hs.st)
  rw [hm] at MY
  have AF := Lib.hid (fun W : World => rafter_any 1 W)
  have hi' : Stn.Inv (Stn.give0 s 1 now x) := by
    have := Stn.inv_give (k := 1) (now := now) (x := x) hs (by omega)
    unfold Stn.give at this
    rw [if_pos he] at this
    exact this
  have hq := g1 rfl
  have PN := Lib.hid (fun (W : World) (A : Option Addr) (hW : Ri W W.heap.size A 1 [x]) => rput1 x A W hW hq)
  have HQ := Lib.hid (show -9223372036854775808 ≤ x ∧ x ≤ 9223372036854775807 by omega)
  have HBY := Lib.hid (show By (Frm.num4 x) from Frm.num4_by (Frm.okN_iff.2 hq))
  have hdt : Stn.data (Stn.give0 s 1 now x) = Frm.num4 x := by simp [Stn.data, Stn.give0]
  have FR := Lib.hid (fun (D3 : Option Addr) (dc3 : Nat) (A3 : Option Addr) (ac3 : Nat) (W : World) (hd : Row W 0 5 1 D3 4 dc3 (bv (Frm.num4 x))) (ha : Row W 0 4 1 A3 s.n ac3 (bools (List.replicate s.n false))) (hby : By (Frm.num4 x)) => show Calls Try.prog 57 #[.agg #[.int .i64 s.again, .int .i64 (Stn.given 1), .int .i64 now, .int .i64 ((s.seq + 1) % 65536), .bool true, .int .i64 x, .int .i64 1, .slice D3 4 dc3, .int .i64 now, .slice A3 s.n ac3, .slice S s.n sc]] W fun e w' => ∃ v, e = .returned v ∧ Rof w' W.heap.size v (Stn.frames (Stn.give0 s 1 now x)) ∧ Below W.heap.size W w' from by
    have := rframes_any (Stn.give0 s 1 now x) hi' (by show (1 : Int) ≠ 0; decide) D3 4 dc3 A3 ac3 S s.n sc W (by rw [hdt]; rfl) (by rw [hdt]; exact hd) ha (by rw [hdt]; exact hby) (by omega)
    simpa [Stn.give0] using this)
  have hmk : ∀ W : World, (Instr.makeSlice 26 (.int .i64 (s.n : Int)) (.int .i64 (s.n : Int))).run Try.prog W = .ok (.slice (some ⟨W.heap.size, 0, none⟩) s.n s.n) (W.alloc (.cells (madeCells #[.bool false] s.n) 4)) := fun W => by
    obtain ⟨i2, hm0, hm1, hm2, hm3⟩ := info_parts info_bool
    have := run_make (P := Try.prog) W 26 4 i2 _ Try.underlying26 hm0 hm1 .i64 .i64 s.n s.n (by omega) (Int.le_refl _) (by rw [hm3]; have := hs.n; omega) (by have := hs.n; omega)
    rw [hm2, Int.toNat_natCast, Nat.mul_one] at this
    exact this
  have H := Lib.hid h
  have hsq := hs.seq
  have hn := hs.n
  have HDT := Lib.hid hdt
  clear h hs ht hm he hi' g1 g3 hdt  
  go_enter Try.func36, Try.ntmps36
  go_wp2_with fail
  generalize hV : World.alloc _ _ = V
  have k0 : V.heap[w.heap.size]? = some (.cells #[.int .i64 s.again, .int .i64 s.st, .int .i64 s.now, .int .i64 s.seq, .bool s.some, .int .i64 s.prog, .int .i64 s.cmd, .slice D dl dc, .int .i64 s.sent, .slice A s.n ac, .slice S s.n sc] 29 (0, 0)) := by rw [← hV]; exact blk_alloc (heap_new _ _) _
  have k1 : V.heap[w.heap.size + 1]? = some (.cells #[.int .i64 0, .int .i64 0, .int .i64 0, .int .i64 0, .bool false, .int .i64 0, .int .i64 0, .slice none 0 0, .int .i64 0, .slice none 0 0, .slice none 0 0] 29 (0, 0)) := by rw [← hV]; exact heap_new' _ _ _ (by simp)
  have HB := Lib.hid (show Below w.heap.size w V from by rw [← hV]; exact (by repeat (first | (with_reducible exact Below.refl _ _) | (with_reducible refine Below.drew ?_) | (with_reducible refine below_drewN ?_ _) | ((with_reducible refine Below.alloc ?_ ?_ _); rotate_left; (first | omega | (simp <;> omega)); rotate_right) | ((with_reducible refine Below.setCell ?_ ?_ _); rotate_left; (first | omega | (simp <;> omega)); rotate_right) | (with_reducible assumption) | (refine Below.trans ?_ (Below.mono (by assumption) ?_); rotate_left; (first | omega | (simp <;> omega)); rotate_right))))
  clear hV
  refine (TM.out _).mono ?_
  rintro e w1 ⟨rfl, hB1⟩
  have j0 := blk_below k0 hB1 (lt_of_block k0)
  have j1 := blk_below k1 hB1 (lt_of_block k1)
  have HB1 := Lib.hid (HB.out.trans (hB1.mono (by have := HB.out.size; omega)))
  have hz1 : w.heap.size + 2 ≤ w1.heap.size := by have := lt_of_block j1; omega
  clear k0 k1 hB1
  have ca_0 := blk_cell j0 0 rfl; have fa_0 := blk_free j0 0; have ca_1 := blk_cell j0 1 rfl; have fa_1 := blk_free j0 1; have ca_2 := blk_cell j0 2 rfl; have fa_2 := blk_free j0 2; have ca_3 := blk_cell j0 3 rfl; have fa_3 := blk_free j0 3; have ca_4 := blk_cell j0 4 rfl; have fa_4 := blk_free j0 4; have ca_5 := blk_cell j0 5 rfl; have fa_5 := blk_free j0 5; have ca_6 := blk_cell j0 6 rfl; have fa_6 := blk_free j0 6; have ca_7 := blk_cell j0 7 rfl; have fa_7 := blk_free j0 7; have ca_8 := blk_cell j0 8 rfl; have fa_8 := blk_free j0 8; have ca_9 := blk_cell j0 9 rfl; have fa_9 := blk_free j0 9; have ca_10 := blk_cell j0 10 rfl; have fa_10 := blk_free j0 10; have la := lt_of_block j0
  have cb_0 := blk_cell j1 0 rfl; have fb_0 := blk_free j1 0; have cb_1 := blk_cell j1 1 rfl; have fb_1 := blk_free j1 1; have cb_2 := blk_cell j1 2 rfl; have fb_2 := blk_free j1 2; have cb_3 := blk_cell j1 3 rfl; have fb_3 := blk_free j1 3; have cb_4 := blk_cell j1 4 rfl; have fb_4 := blk_free j1 4; have cb_5 := blk_cell j1 5 rfl; have fb_5 := blk_free j1 5; have cb_6 := blk_cell j1 6 rfl; have fb_6 := blk_free j1 6; have cb_7 := blk_cell j1 7 rfl; have fb_7 := blk_free j1 7; have cb_8 := blk_cell j1 8 rfl; have fb_8 := blk_free j1 8; have cb_9 := blk_cell j1 9 rfl; have fb_9 := blk_free j1 9; have cb_10 := blk_cell j1 10 rfl; have fb_10 := blk_free j1 10; have lb := lt_of_block j1
  go_wp2_with fail
  refine (MY.out _).mono ?_
  rintro e w' ⟨rfl, rfl⟩
  go_wp2_with fail
  generalize hV0 : World.setCell _ _ _ = V1
  have p0 : V1.heap[w.heap.size]? = some (.cells #[.int .i64 s.again, .int .i64 s.st, .int .i64 s.now, .int .i64 s.seq, .bool true, .int .i64 x, .int .i64 s.cmd, .slice none 0 0, .int .i64 s.sent, .slice A s.n ac, .slice S s.n sc] 29 (0, 0)) := by rw [← hV0]; exact (by apply Eq.trans; (repeat (first | (with_reducible assumption) | (with_reducible apply blk_set) | ((with_reducible apply blk_far); rotate_left; (first | omega | (simp <;> omega)); rotate_right) | (with_reducible apply blk_drew) | (with_reducible apply blk_drewN) | ((with_reducible apply heap_new'); (first | rfl | (simp <;> fail))) | (with_reducible apply blk_alloc))); (first | with_reducible rfl | (simp <;> fail) | rfl))
  have p1 : V1.heap[w.heap.size + 1]? = some (.cells #[.int .i64 0, .int .i64 0, .int .i64 0, .int .i64 0, .bool false, .int .i64 0, .int .i64 0, .slice none 0 0, .int .i64 0, .slice none 0 0, .slice none 0 0] 29 (0, 0)) := by rw [← hV0]; exact (by repeat (first | (with_reducible assumption) | ((with_reducible apply blk_far); rotate_left; (first | omega | (simp <;> omega)); rotate_right) | (with_reducible apply blk_drew) | (with_reducible apply blk_drewN) | (with_reducible exact heap_new _ _) | ((with_reducible apply heap_new'); (first | rfl | (simp <;> fail))) | (with_reducible apply blk_alloc)))
  have hsz1 : V1.heap.size = w1.heap.size := by rw [← hV0]; simp [World.setCell]
  have hb1 := HB1.out
  have hB1V : Below w.heap.size w V1 := by rw [← hV0]; exact (by repeat (first | (with_reducible exact Below.refl _ _) | (with_reducible refine Below.drew ?_) | (with_reducible refine below_drewN ?_ _) | ((with_reducible refine Below.alloc ?_ ?_ _); rotate_left; (first | omega | (simp <;> omega)); rotate_right) | ((with_reducible refine Below.setCell ?_ ?_ _); rotate_left; (first | omega | (simp <;> omega)); rotate_right) | (with_reducible assumption) | (refine Below.trans ?_ (Below.mono (by assumption) ?_); rotate_left; (first | omega | (simp <;> omega)); rotate_right)))
  clear hV0
  generalize hV : World.alloc _ _ = V2
  have k0 : V2.heap[w.heap.size]? = some (.cells #[.int .i64 s.again, .int .i64 s.st, .int .i64 s.now, .int .i64 s.seq, .bool true, .int .i64 x, .int .i64 s.cmd, .slice none 0 0, .int .i64 s.sent, .slice A s.n ac, .slice S s.n sc] 29 (0, 0)) := by rw [← hV]; exact blk_alloc p0 _
  have k1 : V2.heap[w.heap.size + 1]? = some (.cells #[.int .i64 0, .int .i64 0, .int .i64 0, .int .i64 0, .bool false, .int .i64 0, .int .i64 0, .slice none 0 0, .int .i64 0, .slice none 0 0, .slice none 0 0] 29 (0, 0)) := by rw [← hV]; exact blk_alloc p1 _
  have HV := Lib.hid (show Below w.heap.size w V2 from by rw [← hV]; exact hB1V.alloc hB1V.size _)
  have hRi : Ri V2 V2.heap.size (some ⟨w1.heap.size, 0, none⟩) 1 [x] := by rw [← hV]; exact Ri.newAt _ _ _ hsz1 HQ.out
  have HRI := Lib.hid hRi
  clear ca_0 fa_0 ca_1 fa_1 ca_2 fa_2 ca_3 fa_3 ca_4 fa_4 ca_5 fa_5 ca_6 fa_6 ca_7 fa_7 ca_8 fa_8 ca_9 fa_9 ca_10 fa_10
  clear cb_0 fb_0 cb_1 fb_1 cb_2 fb_2 cb_3 fb_3 cb_4 fb_4 cb_5 fb_5 cb_6 fb_6 cb_7 fb_7 cb_8 fb_8 cb_9 fb_9 cb_10 fb_10
  clear la lb hV j0 j1 hRi hb1 p0 p1 hsz1 hB1V
  refine (PN.out _ _ HRI.out).mono ?_
  rintro e w3 ⟨A3, c3, rfl, hO3, hB3⟩
  have j0 := blk_below k0 hB3 (lt_of_block k0)
  have j1 := blk_below k1 hB3 (lt_of_block k1)
  have HB3 := Lib.hid (HV.out.trans (hB3.mono (by have := HV.out.size; omega)))
  have HO3 := Lib.hid (hO3.more (base' := w.heap.size) HV.out.size)
  have hz3 : w.heap.size + 2 ≤ w3.heap.size := by have := lt_of_block j1; omega
  clear k0 k1 hB3 hO3
  have ca_0 := blk_cell j0 0 rfl; have fa_0 := blk_free j0 0; have ca_1 := blk_cell j0 1 rfl; have fa_1 := blk_free j0 1; have ca_2 := blk_cell j0 2 rfl; have fa_2 := blk_free j0 2; have ca_3 := blk_cell j0 3 rfl; have fa_3 := blk_free j0 3; have ca_4 := blk_cell j0 4 rfl; have fa_4 := blk_free j0 4; have ca_5 := blk_cell j0 5 rfl; have fa_5 := blk_free j0 5; have ca_6 := blk_cell j0 6 rfl; have fa_6 := blk_free j0 6; have ca_7 := blk_cell j0 7 rfl; have fa_7 := blk_free j0 7; have ca_8 := blk_cell j0 8 rfl; have fa_8 := blk_free j0 8; have ca_9 := blk_cell j0 9 rfl; have fa_9 := blk_free j0 9; have ca_10 := blk_cell j0 10 rfl; have fa_10 := blk_free j0 10; have la := lt_of_block j0
  have cb_0 := blk_cell j1 0 rfl; have fb_0 := blk_free j1 0; have cb_1 := blk_cell j1 1 rfl; have fb_1 := blk_free j1 1; have cb_2 := blk_cell j1 2 rfl; have fb_2 := blk_free j1 2; have cb_3 := blk_cell j1 3 rfl; have fb_3 := blk_free j1 3; have cb_4 := blk_cell j1 4 rfl; have fb_4 := blk_free j1 4; have cb_5 := blk_cell j1 5 rfl; have fb_5 := blk_free j1 5; have cb_6 := blk_cell j1 6 rfl; have fb_6 := blk_free j1 6; have cb_7 := blk_cell j1 7 rfl; have fb_7 := blk_free j1 7; have cb_8 := blk_cell j1 8 rfl; have fb_8 := blk_free j1 8; have cb_9 := blk_cell j1 9 rfl; have fb_9 := blk_free j1 9; have cb_10 := blk_cell j1 10 rfl; have fb_10 := blk_free j1 10; have lb := lt_of_block j1
  go_wp2_with fail
  refine (AF.out _).mono ?_
  rintro e w' ⟨rfl, rfl⟩
  go_wp2_with fail
  generalize hV0 : World.setCell _ _ _ = V3
  have p0 : V3.heap[w.heap.size]? = some (.cells #[.int .i64 s.again, .int .i64 (Stn.given 1), .int .i64 now, .int .i64 ((s.seq + 1) % 65536), .bool true, .int .i64 x, .int .i64 1, .slice A3 4 c3, .int .i64 now, .slice (some ⟨w3.heap.size, 0, none⟩) s.n s.n, .slice S s.n sc] 29 (0, 0)) := by rw [← hV0]; exact (by apply Eq.trans; (repeat (first | (with_reducible assumption) | (with_reducible apply blk_set) | ((with_reducible apply blk_far); rotate_left; (first | omega | (simp <;> omega)); rotate_right) | (with_reducible apply blk_drew) | (with_reducible apply blk_drewN) | ((with_reducible apply heap_new'); (first | rfl | (simp <;> fail))) | (with_reducible apply blk_alloc))); (first | with_reducible rfl | (simp <;> fail) | rfl))
  have p1 : V3.heap[w.heap.size + 1]? = some (.cells #[.int .i64 0, .int .i64 0, .int .i64 0, .int .i64 0, .bool false, .int .i64 0, .int .i64 0, .slice none 0 0, .int .i64 0, .slice none 0 0, .slice none 0 0] 29 (0, 0)) := by rw [← hV0]; exact (by repeat (first | (with_reducible assumption) | ((with_reducible apply blk_far); rotate_left; (first | omega | (simp <;> omega)); rotate_right) | (with_reducible apply blk_drew) | (with_reducible apply blk_drewN) | (with_reducible exact heap_new _ _) | ((with_reducible apply heap_new'); (first | rfl | (simp <;> fail))) | (with_reducible apply blk_alloc)))
  have hsz3 : V3.heap.size = w3.heap.size := by rw [← hV0]; simp [World.setCell]
  have hb3 := HB3.out
  have hB3V : Below w.heap.size w V3 := by rw [← hV0]; exact (by repeat (first | (with_reducible exact Below.refl _ _) | (with_reducible refine Below.drew ?_) | (with_reducible refine below_drewN ?_ _) | ((with_reducible refine Below.alloc ?_ ?_ _); rotate_left; (first | omega | (simp <;> omega)); rotate_right) | ((with_reducible refine Below.setCell ?_ ?_ _); rotate_left; (first | omega | (simp <;> omega)); rotate_right) | (with_reducible assumption) | (refine Below.trans ?_ (Below.mono (by assumption) ?_); rotate_left; (first | omega | (simp <;> omega)); rotate_right)))
  have hKV3 : Keeps (fun i => i = w.heap.size) w3 V3 := by rw [← hV0]; (repeat (first | with_reducible exact Keeps.refl _ _ | (with_reducible refine Keeps.set1 ?_ _ _) | (with_reducible refine Keeps.drew ?_) | (with_reducible refine Keeps.drewN ?_ _) | (with_reducible refine Keeps.alloc ?_ _)))
  clear hV0 hb3
  generalize hV : World.alloc _ _ = V4
  have q0 : V4.heap[w.heap.size]? = some (.cells #[.int .i64 s.again, .int .i64 (Stn.given 1), .int .i64 now, .int .i64 ((s.seq + 1) % 65536), .bool true, .int .i64 x, .int .i64 1, .slice A3 4 c3, .int .i64 now, .slice (some ⟨w3.heap.size, 0, none⟩) s.n s.n, .slice S s.n sc] 29 (0, 0)) := by rw [← hV]; exact blk_alloc p0 _
  have q1 : V4.heap[w.heap.size + 1]? = some (.cells #[.int .i64 0, .int .i64 0, .int .i64 0, .int .i64 0, .bool false, .int .i64 0, .int .i64 0, .slice none 0 0, .int .i64 0, .slice none 0 0, .slice none 0 0] 29 (0, 0)) := by rw [← hV]; exact blk_alloc p1 _
  have HV4 := Lib.hid (show Below w.heap.size w V4 from by rw [← hV]; exact hB3V.alloc hB3V.size _)
  have HKV := Lib.hid (show Keeps (fun i => i = w.heap.size) w3 V4 from by rw [← hV]; exact hKV3.alloc _)
  have q2 : V4.heap[w3.heap.size]? = some (.cells (madeCells #[.bool false] s.n) 4 (0, 0)) := by rw [← hV]; exact heap_new' _ _ _ hsz3.symm
  clear p0 p1 hsz3 hB3V hKV3
  have J0 := Lib.hid j0
  clear ca_0 fa_0 ca_1 fa_1 ca_2 fa_2 ca_3 fa_3 ca_4 fa_4 ca_5 fa_5 ca_6 fa_6 ca_7 fa_7 ca_8 fa_8 ca_9 fa_9 ca_10 fa_10
  clear cb_0 fb_0 cb_1 fb_1 cb_2 fb_2 cb_3 fb_3 cb_4 fb_4 cb_5 fb_5 cb_6 fb_6 cb_7 fb_7 cb_8 fb_8 cb_9 fb_9 cb_10 fb_10
  clear la lb hV j0 j1
  have hAr : Row V4 0 4 1 (some ⟨w3.heap.size, 0, none⟩) s.n s.n (bools (List.replicate s.n false)) := Row.of_block q2 (Nat.zero_le _) (Nat.le_refl _) (by unfold maxLen; omega) (by rw [size_madeCells]; simp) (by rw [List.drop_zero, made_bools, List.take_of_length_le (by simp [bools])])
  have HAR := Lib.hid hAr
  have HDR := Lib.hid (show Row V4 0 5 1 A3 4 c3 (bv (Frm.num4 x)) from ((Row.of_own HO3.out.1).more (Nat.zero_le _)).kept HKV.out (fun g hg e => ((Row.of_own HO3.out.1).ty hg).ne (f := 29) (by rw [e]; exact ⟨_, J0.out⟩) (by decide) rfl))
  have HQ2 := Lib.hid q2
  clear hAr q2
  have ca_0 := blk_cell q0 0 rfl; have fa_0 := blk_free q0 0; have ca_1 := blk_cell q0 1 rfl; have fa_1 := blk_free q0 1; have ca_2 := blk_cell q0 2 rfl; have fa_2 := blk_free q0 2; have ca_3 := blk_cell q0 3 rfl; have fa_3 := blk_free q0 3; have ca_4 := blk_cell q0 4 rfl; have fa_4 := blk_free q0 4; have ca_5 := blk_cell q0 5 rfl; have fa_5 := blk_free q0 5; have ca_6 := blk_cell q0 6 rfl; have fa_6 := blk_free q0 6; have ca_7 := blk_cell q0 7 rfl; have fa_7 := blk_free q0 7; have ca_8 := blk_cell q0 8 rfl; have fa_8 := blk_free q0 8; have ca_9 := blk_cell q0 9 rfl; have fa_9 := blk_free q0 9; have ca_10 := blk_cell q0 10 rfl; have fa_10 := blk_free q0 10; have la := lt_of_block q0
  have cb_0 := blk_cell q1 0 rfl; have fb_0 := blk_free q1 0; have cb_1 := blk_cell q1 1 rfl; have fb_1 := blk_free q1 1; have cb_2 := blk_cell q1 2 rfl; have fb_2 := blk_free q1 2; have cb_3 := blk_cell q1 3 rfl; have fb_3 := blk_free q1 3; have cb_4 := blk_cell q1 4 rfl; have fb_4 := blk_free q1 4; have cb_5 := blk_cell q1 5 rfl; have fb_5 := blk_free q1 5; have cb_6 := blk_cell q1 6 rfl; have fb_6 := blk_free q1 6; have cb_7 := blk_cell q1 7 rfl; have fb_7 := blk_free q1 7; have cb_8 := blk_cell q1 8 rfl; have fb_8 := blk_free q1 8; have cb_9 := blk_cell q1 9 rfl; have fb_9 := blk_free q1 9; have cb_10 := blk_cell q1 10 rfl; have fb_10 := blk_free q1 10; have lb := lt_of_block q1
  go_region_held3 (fun w' => w'.cell? ⟨w.heap.size, 0, none⟩ = some (.int .i64 s.again) ∧ w'.cell? ⟨w.heap.size, 1, none⟩ = some (.int .i64 (Stn.given 1)) ∧ w'.cell? ⟨w.heap.size, 2, none⟩ = some (.int .i64 now) ∧ w'.cell? ⟨w.heap.size, 3, none⟩ = some (.int .i64 ((s.seq + 1) % 65536)) ∧ w'.cell? ⟨w.heap.size, 4, none⟩ = some (.bool true) ∧ w'.cell? ⟨w.heap.size, 5, none⟩ = some (.int .i64 x) ∧ w'.cell? ⟨w.heap.size, 6, none⟩ = some (.int .i64 1) ∧ w'.cell? ⟨w.heap.size, 7, none⟩ = some (.slice A3 4 c3) ∧ w'.cell? ⟨w.heap.size, 8, none⟩ = some (.int .i64 now) ∧ w'.cell? ⟨w.heap.size, 9, none⟩ = some (.slice (some ⟨w3.heap.size, 0, none⟩) s.n s.n) ∧ w'.cell? ⟨w.heap.size, 10, none⟩ = some (.slice S s.n sc)) (first | (refine ⟨?_, ?_, ?_, ?_, ?_, ?_, ?_, ?_, ?_, ?_, ?_⟩ <;> simp [go_sem, *]; done) | go_keep) (first | (go_at_call 57; refine (FR.out _ _ _ _ _ (by first | exact HDR.out | exact HDR.out.drew) (by first | exact HAR.out | exact HAR.out.drew) HBY.out).mono ?_; rintro e w5 ⟨v, rfl, hR, hb5⟩; have p0 := blk_below (q := w.heap.size) (by repeat (first | (with_reducible assumption) | ((with_reducible apply blk_far); rotate_left; (first | omega | (simp <;> omega)); rotate_right) | (with_reducible apply blk_drew) | (with_reducible apply blk_drewN) | (with_reducible exact heap_new _ _) | ((with_reducible apply heap_new'); (first | rfl | (simp <;> fail))) | (with_reducible apply blk_alloc))) hb5 (by first | omega | (simp; done) | (simp; omega)); have p1 := blk_below (q := w.heap.size + 1) (by repeat (first | (with_reducible assumption) | ((with_reducible apply blk_far); rotate_left; (first | omega | (simp <;> omega)); rotate_right) | (with_reducible apply blk_drew) | (with_reducible apply blk_drewN) | (with_reducible exact heap_new _ _) | ((with_reducible apply heap_new'); (first | rfl | (simp <;> fail))) | (with_reducible apply blk_alloc))) hb5 (by first | omega | (simp; done) | (simp; omega)); have HR := Lib.hid hR; have HB54 := Lib.hid (show Below V4.heap.size V4 w5 from (by repeat (first | (with_reducible exact Below.refl _ _) | (with_reducible refine Below.drew ?_) | (with_reducible refine below_drewN ?_ _) | ((with_reducible refine Below.alloc ?_ ?_ _); rotate_left; (first | omega | (simp <;> omega)); rotate_right) | ((with_reducible refine Below.setCell ?_ ?_ _); rotate_left; (first | omega | (simp <;> omega)); rotate_right) | (with_reducible assumption) | (refine Below.trans ?_ (Below.mono (by assumption) ?_); rotate_left; (first | omega | (simp <;> omega)); rotate_right)))); have hv4 := HV4.out; have HB5 := Lib.hid (show Below w.heap.size w w5 from (by repeat (first | (with_reducible exact Below.refl _ _) | (with_reducible refine Below.drew ?_) | (with_reducible refine below_drewN ?_ _) | ((with_reducible refine Below.alloc ?_ ?_ _); rotate_left; (first | omega | (simp <;> omega)); rotate_right) | ((with_reducible refine Below.setCell ?_ ?_ _); rotate_left; (first | omega | (simp <;> omega)); rotate_right) | (with_reducible assumption) | (refine Below.trans ?_ (Below.mono (by assumption) ?_); rotate_left; (first | omega | (simp <;> omega)); rotate_right)))); have hsv : w.heap.size ≤ V4.heap.size := HV4.out.size; have HRR := Lib.hid (HR.out.more (base' := w.heap.size) (by first | exact hsv | (simp; omega))); (have ce_0 := blk_cell p0 0 rfl; have fe_0 := blk_free p0 0; have ce_1 := blk_cell p0 1 rfl; have fe_1 := blk_free p0 1; have ce_2 := blk_cell p0 2 rfl; have fe_2 := blk_free p0 2; have ce_3 := blk_cell p0 3 rfl; have fe_3 := blk_free p0 3; have ce_4 := blk_cell p0 4 rfl; have fe_4 := blk_free p0 4; have ce_5 := blk_cell p0 5 rfl; have fe_5 := blk_free p0 5; have ce_6 := blk_cell p0 6 rfl; have fe_6 := blk_free p0 6; have ce_7 := blk_cell p0 7 rfl; have fe_7 := blk_free p0 7; have ce_8 := blk_cell p0 8 rfl; have fe_8 := blk_free p0 8; have ce_9 := blk_cell p0 9 rfl; have fe_9 := blk_free p0 9; have ce_10 := blk_cell p0 10 rfl; have fe_10 := blk_free p0 10; have le := lt_of_block p0); (have cg_0 := blk_cell p1 0 rfl; have fg_0 := blk_free p1 0; have cg_1 := blk_cell p1 1 rfl; have fg_1 := blk_free p1 1; have cg_2 := blk_cell p1 2 rfl; have fg_2 := blk_free p1 2; have cg_3 := blk_cell p1 3 rfl; have fg_3 := blk_free p1 3; have cg_4 := blk_cell p1 4 rfl; have fg_4 := blk_free p1 4; have cg_5 := blk_cell p1 5 rfl; have fg_5 := blk_free p1 5; have cg_6 := blk_cell p1 6 rfl; have fg_6 := blk_free p1 6; have cg_7 := blk_cell p1 7 rfl; have fg_7 := blk_free p1 7; have cg_8 := blk_cell p1 8 rfl; have fg_8 := blk_free p1 8; have cg_9 := blk_cell p1 9 rfl; have fg_9 := blk_free p1 9; have cg_10 := blk_cell p1 10 rfl; have fg_10 := blk_free p1 10; have lg := lt_of_block p1); clear hR hb5 hv4))
  go_wp2_with fail
  generalize hWf : World.setCell _ _ _ = Wf
  have hf : Wf.heap[w.heap.size + 1]? = some (.cells #[.int .i64 s.again, .int .i64 (Stn.given 1), .int .i64 now, .int .i64 ((s.seq + 1) % 65536), .bool true, .int .i64 x, .int .i64 1, .slice A3 4 c3, .int .i64 now, .slice (some ⟨w3.heap.size, 0, none⟩) s.n s.n, .slice S s.n sc] 29 (0, 0)) := by rw [← hWf]; exact (by apply Eq.trans; (repeat (first | (with_reducible assumption) | (with_reducible apply blk_set) | ((with_reducible apply blk_far); rotate_left; (first | omega | (simp <;> omega)); rotate_right) | (with_reducible apply blk_drew) | (with_reducible apply blk_drewN) | ((with_reducible apply heap_new'); (first | rfl | (simp <;> fail))) | (with_reducible apply blk_alloc))); (first | with_reducible rfl | (simp <;> fail) | rfl))
  have hK : Keeps (fun i => i = w.heap.size + 1) w5 Wf := by rw [← hWf]; (repeat (first | with_reducible exact Keeps.refl _ _ | (with_reducible refine Keeps.set1 ?_ _ _) | (with_reducible refine Keeps.drew ?_) | (with_reducible refine Keeps.drewN ?_ _) | (with_reducible refine Keeps.alloc ?_ _)))
  clear hWf
  clear ca_0 fa_0 ca_1 fa_1 ca_2 fa_2 ca_3 fa_3 ca_4 fa_4 ca_5 fa_5 ca_6 fa_6 ca_7 fa_7 ca_8 fa_8 ca_9 fa_9 ca_10 fa_10
  clear cb_0 fb_0 cb_1 fb_1 cb_2 fb_2 cb_3 fb_3 cb_4 fb_4 cb_5 fb_5 cb_6 fb_6 cb_7 fb_7 cb_8 fb_8 cb_9 fb_9 cb_10 fb_10
  clear ce_0 fe_0 ce_1 fe_1 ce_2 fe_2 ce_3 fe_3 ce_4 fe_4 ce_5 fe_5 ce_6 fe_6 ce_7 fe_7 ce_8 fe_8 ce_9 fe_9 ce_10 fe_10
  clear cg_0 fg_0 cg_1 fg_1 cg_2 fg_2 cg_3 fg_3 cg_4 fg_4 cg_5 fg_5 cg_6 fg_6 cg_7 fg_7 cg_8 fg_8 cg_9 fg_9 cg_10 fg_10
  clear la lb le lg
  have cm_0 := blk_cell hf 0 rfl; have fm_0 := blk_free hf 0; have cm_1 := blk_cell hf 1 rfl; have fm_1 := blk_free hf 1; have cm_2 := blk_cell hf 2 rfl; have fm_2 := blk_free hf 2; have cm_3 := blk_cell hf 3 rfl; have fm_3 := blk_free hf 3; have cm_4 := blk_cell hf 4 rfl; have fm_4 := blk_free hf 4; have cm_5 := blk_cell hf 5 rfl; have fm_5 := blk_free hf 5; have cm_6 := blk_cell hf 6 rfl; have fm_6 := blk_free hf 6; have cm_7 := blk_cell hf 7 rfl; have fm_7 := blk_free hf 7; have cm_8 := blk_cell hf 8 rfl; have fm_8 := blk_free hf 8; have cm_9 := blk_cell hf 9 rfl; have fm_9 := blk_free hf 9; have cm_10 := blk_cell hf 10 rfl; have fm_10 := blk_free hf 10; have lm := lt_of_block hf
  have hTy : ∀ i : Nat, i = w.heap.size + 1 → i < w5.heap.size → Ty w5 i 29 := fun i hi _ => by rw [hi]; exact ⟨_, p1⟩
  refine bodyPost_ret (v := .tuple #[.agg #[.int .i64 s.again, .int .i64 (Stn.given 1), .int .i64 now, .int .i64 ((s.seq + 1) % 65536), .bool true, .int .i64 x, .int .i64 1, .slice A3 4 c3, .int .i64 now, .slice (some ⟨w3.heap.size, 0, none⟩) s.n s.n, .slice S s.n sc], v, .int .i64 0]) (by simp [results, Try.results36, go_sem, cm_0, cm_1, cm_2, cm_3, cm_4, cm_5, cm_6, cm_7, cm_8, cm_9, cm_10]) rfl ⟨v, A3, c3, some ⟨w3.heap.size, 0, none⟩, s.n, S, sc, ?_, ?_, ?_, ?_, ?_⟩
  · unfold rsl
    rw [HDT.out]
    simp [Stn.give0, Frm.num4]
  · have hq : IsR w5 A3 c3 (some ⟨w3.heap.size, 0, none⟩) s.n S sc (Stn.give0 s 1 now x) := ⟨by rw [HDT.out]; exact HDR.out.below HB54.out (Nat.le_refl _), HAR.out.below HB54.out (Nat.le_refl _), H.out.sr.below HB5.out (Nat.le_refl _)⟩
    exact hq.keptT hK (fun i hi hl => ⟨_, hTy i hi hl, by decide, by decide, by decide⟩)
  · exact HRR.out.keptT hK (fun i hi hl => ⟨_, hTy i hi hl, by decide, by decide⟩)
  · exact HB5.out.trans (hK.below (fun i _ hi => by omega) HB5.out.size)
  · intro g hg
    exact .inr ((Row.of_own HO3.out.1).lt hg).1
theorem rgive_2 (s : Stn.St) (hs : Stn.Inv s) (D : Option Addr) (dl dc : Nat) (A : Option Addr) (ac : Nat) (S : Option Addr) (sc : Nat) (now x : Int) (w : World) (h : IsR w D dc A ac S sc s) (he : Stn.giveE s 2 now x = 0) :
    Calls Try.prog 36 #[.agg #[.int .i64 s.again, .int .i64 s.st, .int .i64 s.now, .int .i64 s.seq, .bool s.some, .int .i64 s.prog, .int .i64 s.cmd, .slice D dl dc, .int .i64 s.sent, .slice A s.n ac, .slice S s.n sc], .int .i64 2, .int .i64 now, .int .i64 x] w (RPost D (Stn.give0 s 2 now x) (Stn.frames (Stn.give0 s 2 now x)) 0 w) := by
  obtain ⟨g1, ht, g3, hm⟩ := giveE_ok he
  have TM := Lib.hid (fun W : World => rtime_any s D dl dc A s.n ac S s.n sc now W)
  rw [ht] at TM
  have MY := Lib.hid (fun W : World => rmay_any 2 s.st W (by omega) hs.st)
  rw [hm] at MY
  have AF := Lib.hid (fun W : World => rafter_any 2 W)
  have hi' : Stn.Inv (Stn.give0 s 2 now x) := by
    have := Stn.inv_give (k := 2) (now := now) (x := x) hs (by omega)
    unfold Stn.give at this
    rw [if_pos he] at this
    exact this
  have hq := hs.prog
  have PN := Lib.hid (fun (W : World) (A : Option Addr) (hW : Ri W W.heap.size A 1 [s.prog]) => rput1 s.prog A W hW hq)
  have HQ := Lib.hid (show -9223372036854775808 ≤ s.prog ∧ s.prog ≤ 9223372036854775807 by omega)
  have HBY := Lib.hid (show By (Frm.num4 s.prog) from Frm.num4_by (Frm.okN_iff.2 hq))
  have hdt : Stn.data (Stn.give0 s 2 now x) = Frm.num4 s.prog := by simp [Stn.data, Stn.give0]
  have FR := Lib.hid (fun (D3 : Option Addr) (dc3 : Nat) (A3 : Option Addr) (ac3 : Nat) (W : World) (hd : Row W 0 5 1 D3 4 dc3 (bv (Frm.num4 s.prog))) (ha : Row W 0 4 1 A3 s.n ac3 (bools (List.replicate s.n false))) (hby : By (Frm.num4 s.prog)) => show Calls Try.prog 57 #[.agg #[.int .i64 s.again, .int .i64 (Stn.given 2), .int .i64 now, .int .i64 ((s.seq + 1) % 65536), .bool s.some, .int .i64 s.prog, .int .i64 2, .slice D3 4 dc3, .int .i64 now, .slice A3 s.n ac3, .slice S s.n sc]] W fun e w' => ∃ v, e = .returned v ∧ Rof w' W.heap.size v (Stn.frames (Stn.give0 s 2 now x)) ∧ Below W.heap.size W w' from by
    have := rframes_any (Stn.give0 s 2 now x) hi' (by show (2 : Int) ≠ 0; decide) D3 4 dc3 A3 ac3 S s.n sc W (by rw [hdt]; rfl) (by rw [hdt]; exact hd) ha (by rw [hdt]; exact hby) (by omega)
    simpa [Stn.give0] using this)
  have hmk : ∀ W : World, (Instr.makeSlice 26 (.int .i64 (s.n : Int)) (.int .i64 (s.n : Int))).run Try.prog W = .ok (.slice (some ⟨W.heap.size, 0, none⟩) s.n s.n) (W.alloc (.cells (madeCells #[.bool false] s.n) 4)) := fun W => by
    obtain ⟨i2, hm0, hm1, hm2, hm3⟩ := info_parts info_bool
    have := run_make (P := Try.prog) W 26 4 i2 _ Try.underlying26 hm0 hm1 .i64 .i64 s.n s.n (by omega) (Int.le_refl _) (by rw [hm3]; have := hs.n; omega) (by have := hs.n; omega)
    rw [hm2, Int.toNat_natCast, Nat.mul_one] at this
    exact this
  have H := Lib.hid h
  have hsq := hs.seq
  have hn := hs.n
  have HDT := Lib.hid hdt
  clear h hs ht hm he hi' g1 g3 hdt hq 
  go_enter Try.func36, Try.ntmps36
  go_wp2_with fail
  generalize hV : World.alloc _ _ = V
  have k0 : V.heap[w.heap.size]? = some (.cells #[.int .i64 s.again, .int .i64 s.st, .int .i64 s.now, .int .i64 s.seq, .bool s.some, .int .i64 s.prog, .int .i64 s.cmd, .slice D dl dc, .int .i64 s.sent, .slice A s.n ac, .slice S s.n sc] 29 (0, 0)) := by rw [← hV]; exact blk_alloc (heap_new _ _) _
  have k1 : V.heap[w.heap.size + 1]? = some (.cells #[.int .i64 0, .int .i64 0, .int .i64 0, .int .i64 0, .bool false, .int .i64 0, .int .i64 0, .slice none 0 0, .int .i64 0, .slice none 0 0, .slice none 0 0] 29 (0, 0)) := by rw [← hV]; exact heap_new' _ _ _ (by simp)
  have HB := Lib.hid (show Below w.heap.size w V from by rw [← hV]; exact (by repeat (first | (with_reducible exact Below.refl _ _) | (with_reducible refine Below.drew ?_) | (with_reducible refine below_drewN ?_ _) | ((with_reducible refine Below.alloc ?_ ?_ _); rotate_left; (first | omega | (simp <;> omega)); rotate_right) | ((with_reducible refine Below.setCell ?_ ?_ _); rotate_left; (first | omega | (simp <;> omega)); rotate_right) | (with_reducible assumption) | (refine Below.trans ?_ (Below.mono (by assumption) ?_); rotate_left; (first | omega | (simp <;> omega)); rotate_right))))
  clear hV
  refine (TM.out _).mono ?_
  rintro e w1 ⟨rfl, hB1⟩
  have j0 := blk_below k0 hB1 (lt_of_block k0)
  have j1 := blk_below k1 hB1 (lt_of_block k1)
  have HB1 := Lib.hid (HB.out.trans (hB1.mono (by have := HB.out.size; omega)))
  have hz1 : w.heap.size + 2 ≤ w1.heap.size := by have := lt_of_block j1; omega
  clear k0 k1 hB1
  have ca_0 := blk_cell j0 0 rfl; have fa_0 := blk_free j0 0; have ca_1 := blk_cell j0 1 rfl; have fa_1 := blk_free j0 1; have ca_2 := blk_cell j0 2 rfl; have fa_2 := blk_free j0 2; have ca_3 := blk_cell j0 3 rfl; have fa_3 := blk_free j0 3; have ca_4 := blk_cell j0 4 rfl; have fa_4 := blk_free j0 4; have ca_5 := blk_cell j0 5 rfl; have fa_5 := blk_free j0 5; have ca_6 := blk_cell j0 6 rfl; have fa_6 := blk_free j0 6; have ca_7 := blk_cell j0 7 rfl; have fa_7 := blk_free j0 7; have ca_8 := blk_cell j0 8 rfl; have fa_8 := blk_free j0 8; have ca_9 := blk_cell j0 9 rfl; have fa_9 := blk_free j0 9; have ca_10 := blk_cell j0 10 rfl; have fa_10 := blk_free j0 10; have la := lt_of_block j0
  have cb_0 := blk_cell j1 0 rfl; have fb_0 := blk_free j1 0; have cb_1 := blk_cell j1 1 rfl; have fb_1 := blk_free j1 1; have cb_2 := blk_cell j1 2 rfl; have fb_2 := blk_free j1 2; have cb_3 := blk_cell j1 3 rfl; have fb_3 := blk_free j1 3; have cb_4 := blk_cell j1 4 rfl; have fb_4 := blk_free j1 4; have cb_5 := blk_cell j1 5 rfl; have fb_5 := blk_free j1 5; have cb_6 := blk_cell j1 6 rfl; have fb_6 := blk_free j1 6; have cb_7 := blk_cell j1 7 rfl; have fb_7 := blk_free j1 7; have cb_8 := blk_cell j1 8 rfl; have fb_8 := blk_free j1 8; have cb_9 := blk_cell j1 9 rfl; have fb_9 := blk_free j1 9; have cb_10 := blk_cell j1 10 rfl; have fb_10 := blk_free j1 10; have lb := lt_of_block j1
  go_wp2_with fail
  refine (MY.out _).mono ?_
  rintro e w' ⟨rfl, rfl⟩
  go_wp2_with fail
  generalize hV0 : World.setCell _ _ _ = V1
  have p0 : V1.heap[w.heap.size]? = some (.cells #[.int .i64 s.again, .int .i64 s.st, .int .i64 s.now, .int .i64 s.seq, .bool s.some, .int .i64 s.prog, .int .i64 s.cmd, .slice none 0 0, .int .i64 s.sent, .slice A s.n ac, .slice S s.n sc] 29 (0, 0)) := by rw [← hV0]; exact (by apply Eq.trans; (repeat (first | (with_reducible assumption) | (with_reducible apply blk_set) | ((with_reducible apply blk_far); rotate_left; (first | omega | (simp <;> omega)); rotate_right) | (with_reducible apply blk_drew) | (with_reducible apply blk_drewN) | ((with_reducible apply heap_new'); (first | rfl | (simp <;> fail))) | (with_reducible apply blk_alloc))); (first | with_reducible rfl | (simp <;> fail) | rfl))
  have p1 : V1.heap[w.heap.size + 1]? = some (.cells #[.int .i64 0, .int .i64 0, .int .i64 0, .int .i64 0, .bool false, .int .i64 0, .int .i64 0, .slice none 0 0, .int .i64 0, .slice none 0 0, .slice none 0 0] 29 (0, 0)) := by rw [← hV0]; exact (by repeat (first | (with_reducible assumption) | ((with_reducible apply blk_far); rotate_left; (first | omega | (simp <;> omega)); rotate_right) | (with_reducible apply blk_drew) | (with_reducible apply blk_drewN) | (with_reducible exact heap_new _ _) | ((with_reducible apply heap_new'); (first | rfl | (simp <;> fail))) | (with_reducible apply blk_alloc)))
  have hsz1 : V1.heap.size = w1.heap.size := by rw [← hV0]; simp [World.setCell]
  have hb1 := HB1.out
  have hB1V : Below w.heap.size w V1 := by rw [← hV0]; exact (by repeat (first | (with_reducible exact Below.refl _ _) | (with_reducible refine Below.drew ?_) | (with_reducible refine below_drewN ?_ _) | ((with_reducible refine Below.alloc ?_ ?_ _); rotate_left; (first | omega | (simp <;> omega)); rotate_right) | ((with_reducible refine Below.setCell ?_ ?_ _); rotate_left; (first | omega | (simp <;> omega)); rotate_right) | (with_reducible assumption) | (refine Below.trans ?_ (Below.mono (by assumption) ?_); rotate_left; (first | omega | (simp <;> omega)); rotate_right)))
  clear hV0
  generalize hV : World.alloc _ _ = V2
  have k0 : V2.heap[w.heap.size]? = some (.cells #[.int .i64 s.again, .int .i64 s.st, .int .i64 s.now, .int .i64 s.seq, .bool s.some, .int .i64 s.prog, .int .i64 s.cmd, .slice none 0 0, .int .i64 s.sent, .slice A s.n ac, .slice S s.n sc] 29 (0, 0)) := by rw [← hV]; exact blk_alloc p0 _
  have k1 : V2.heap[w.heap.size + 1]? = some (.cells #[.int .i64 0, .int .i64 0, .int .i64 0, .int .i64 0, .bool false, .int .i64 0, .int .i64 0, .slice none 0 0, .int .i64 0, .slice none 0 0, .slice none 0 0] 29 (0, 0)) := by rw [← hV]; exact blk_alloc p1 _
  have HV := Lib.hid (show Below w.heap.size w V2 from by rw [← hV]; exact hB1V.alloc hB1V.size _)
  have hRi : Ri V2 V2.heap.size (some ⟨w1.heap.size, 0, none⟩) 1 [s.prog] := by rw [← hV]; exact Ri.newAt _ _ _ hsz1 HQ.out
  have HRI := Lib.hid hRi
  clear ca_0 fa_0 ca_1 fa_1 ca_2 fa_2 ca_3 fa_3 ca_4 fa_4 ca_5 fa_5 ca_6 fa_6 ca_7 fa_7 ca_8 fa_8 ca_9 fa_9 ca_10 fa_10
  clear cb_0 fb_0 cb_1 fb_1 cb_2 fb_2 cb_3 fb_3 cb_4 fb_4 cb_5 fb_5 cb_6 fb_6 cb_7 fb_7 cb_8 fb_8 cb_9 fb_9 cb_10 fb_10
  clear la lb hV j0 j1 hRi hb1 p0 p1 hsz1 hB1V
  refine (PN.out _ _ HRI.out).mono ?_
  rintro e w3 ⟨A3, c3, rfl, hO3, hB3⟩
  have j0 := blk_below k0 hB3 (lt_of_block k0)
  have j1 := blk_below k1 hB3 (lt_of_block k1)
  have HB3 := Lib.hid (HV.out.trans (hB3.mono (by have := HV.out.size; omega)))
  have HO3 := Lib.hid (hO3.more (base' := w.heap.size) HV.out.size)
  have hz3 : w.heap.size + 2 ≤ w3.heap.size := by have := lt_of_block j1; omega
  clear k0 k1 hB3 hO3
  have ca_0 := blk_cell j0 0 rfl; have fa_0 := blk_free j0 0; have ca_1 := blk_cell j0 1 rfl; have fa_1 := blk_free j0 1; have ca_2 := blk_cell j0 2 rfl; have fa_2 := blk_free j0 2; have ca_3 := blk_cell j0 3 rfl; have fa_3 := blk_free j0 3; have ca_4 := blk_cell j0 4 rfl; have fa_4 := blk_free j0 4; have ca_5 := blk_cell j0 5 rfl; have fa_5 := blk_free j0 5; have ca_6 := blk_cell j0 6 rfl; have fa_6 := blk_free j0 6; have ca_7 := blk_cell j0 7 rfl; have fa_7 := blk_free j0 7; have ca_8 := blk_cell j0 8 rfl; have fa_8 := blk_free j0 8; have ca_9 := blk_cell j0 9 rfl; have fa_9 := blk_free j0 9; have ca_10 := blk_cell j0 10 rfl; have fa_10 := blk_free j0 10; have la := lt_of_block j0
  have cb_0 := blk_cell j1 0 rfl; have fb_0 := blk_free j1 0; have cb_1 := blk_cell j1 1 rfl; have fb_1 := blk_free j1 1; have cb_2 := blk_cell j1 2 rfl; have fb_2 := blk_free j1 2; have cb_3 := blk_cell j1 3 rfl; have fb_3 := blk_free j1 3; have cb_4 := blk_cell j1 4 rfl; have fb_4 := blk_free j1 4; have cb_5 := blk_cell j1 5 rfl; have fb_5 := blk_free j1 5; have cb_6 := blk_cell j1 6 rfl; have fb_6 := blk_free j1 6; have cb_7 := blk_cell j1 7 rfl; have fb_7 := blk_free j1 7; have cb_8 := blk_cell j1 8 rfl; have fb_8 := blk_free j1 8; have cb_9 := blk_cell j1 9 rfl; have fb_9 := blk_free j1 9; have cb_10 := blk_cell j1 10 rfl; have fb_10 := blk_free j1 10; have lb := lt_of_block j1
  go_wp2_with fail
  refine (AF.out _).mono ?_
  rintro e w' ⟨rfl, rfl⟩
  go_wp2_with fail
  generalize hV0 : World.setCell _ _ _ = V3
  have p0 : V3.heap[w.heap.size]? = some (.cells #[.int .i64 s.again, .int .i64 (Stn.given 2), .int .i64 now, .int .i64 ((s.seq + 1) % 65536), .bool s.some, .int .i64 s.prog, .int .i64 2, .slice A3 4 c3, .int .i64 now, .slice (some ⟨w3.heap.size, 0, none⟩) s.n s.n, .slice S s.n sc] 29 (0, 0)) := by rw [← hV0]; exact (by apply Eq.trans; (repeat (first | (with_reducible assumption) | (with_reducible apply blk_set) | ((with_reducible apply blk_far); rotate_left; (first | omega | (simp <;> omega)); rotate_right) | (with_reducible apply blk_drew) | (with_reducible apply blk_drewN) | ((with_reducible apply heap_new'); (first | rfl | (simp <;> fail))) | (with_reducible apply blk_alloc))); (first | with_reducible rfl | (simp <;> fail) | rfl))
  have p1 : V3.heap[w.heap.size + 1]? = some (.cells #[.int .i64 0, .int .i64 0, .int .i64 0, .int .i64 0, .bool false, .int .i64 0, .int .i64 0, .slice none 0 0, .int .i64 0, .slice none 0 0, .slice none 0 0] 29 (0, 0)) := by rw [← hV0]; exact (by repeat (first | (with_reducible assumption) | ((with_reducible apply blk_far); rotate_left; (first | omega | (simp <;> omega)); rotate_right) | (with_reducible apply blk_drew) | (with_reducible apply blk_drewN) | (with_reducible exact heap_new _ _) | ((with_reducible apply heap_new'); (first | rfl | (simp <;> fail))) | (with_reducible apply blk_alloc)))
  have hsz3 : V3.heap.size = w3.heap.size := by rw [← hV0]; simp [World.setCell]
  have hb3 := HB3.out
  have hB3V : Below w.heap.size w V3 := by rw [← hV0]; exact (by repeat (first | (with_reducible exact Below.refl _ _) | (with_reducible refine Below.drew ?_) | (with_reducible refine below_drewN ?_ _) | ((with_reducible refine Below.alloc ?_ ?_ _); rotate_left; (first | omega | (simp <;> omega)); rotate_right) | ((with_reducible refine Below.setCell ?_ ?_ _); rotate_left; (first | omega | (simp <;> omega)); rotate_right) | (with_reducible assumption) | (refine Below.trans ?_ (Below.mono (by assumption) ?_); rotate_left; (first | omega | (simp <;> omega)); rotate_right)))
  have hKV3 : Keeps (fun i => i = w.heap.size) w3 V3 := by rw [← hV0]; (repeat (first | with_reducible exact Keeps.refl _ _ | (with_reducible refine Keeps.set1 ?_ _ _) | (with_reducible refine Keeps.drew ?_) | (with_reducible refine Keeps.drewN ?_ _) | (with_reducible refine Keeps.alloc ?_ _)))
  clear hV0 hb3
  generalize hV : World.alloc _ _ = V4
  have q0 : V4.heap[w.heap.size]? = some (.cells #[.int .i64 s.again, .int .i64 (Stn.given 2), .int .i64 now, .int .i64 ((s.seq + 1) % 65536), .bool s.some, .int .i64 s.prog, .int .i64 2, .slice A3 4 c3, .int .i64 now, .slice (some ⟨w3.heap.size, 0, none⟩) s.n s.n, .slice S s.n sc] 29 (0, 0)) := by rw [← hV]; exact blk_alloc p0 _
  have q1 : V4.heap[w.heap.size + 1]? = some (.cells #[.int .i64 0, .int .i64 0, .int .i64 0, .int .i64 0, .bool false, .int .i64 0, .int .i64 0, .slice none 0 0, .int .i64 0, .slice none 0 0, .slice none 0 0] 29 (0, 0)) := by rw [← hV]; exact blk_alloc p1 _
  have HV4 := Lib.hid (show Below w.heap.size w V4 from by rw [← hV]; exact hB3V.alloc hB3V.size _)
  have HKV := Lib.hid (show Keeps (fun i => i = w.heap.size) w3 V4 from by rw [← hV]; exact hKV3.alloc _)
  have q2 : V4.heap[w3.heap.size]? = some (.cells (madeCells #[.bool false] s.n) 4 (0, 0)) := by rw [← hV]; exact heap_new' _ _ _ hsz3.symm
  clear p0 p1 hsz3 hB3V hKV3
  have J0 := Lib.hid j0
  clear ca_0 fa_0 ca_1 fa_1 ca_2 fa_2 ca_3 fa_3 ca_4 fa_4 ca_5 fa_5 ca_6 fa_6 ca_7 fa_7 ca_8 fa_8 ca_9 fa_9 ca_10 fa_10
  clear cb_0 fb_0 cb_1 fb_1 cb_2 fb_2 cb_3 fb_3 cb_4 fb_4 cb_5 fb_5 cb_6 fb_6 cb_7 fb_7 cb_8 fb_8 cb_9 fb_9 cb_10 fb_10
  clear la lb hV j0 j1
  have hAr : Row V4 0 4 1 (some ⟨w3.heap.size, 0, none⟩) s.n s.n (bools (List.replicate s.n false)) := Row.of_block q2 (Nat.zero_le _) (Nat.le_refl _) (by unfold maxLen; omega) (by rw [size_madeCells]; simp) (by rw [List.drop_zero, made_bools, List.take_of_length_le (by simp [bools])])
  have HAR := Lib.hid hAr
  have HDR := Lib.hid (show Row V4 0 5 1 A3 4 c3 (bv (Frm.num4 s.prog)) from ((Row.of_own HO3.out.1).more (Nat.zero_le _)).kept HKV.out (fun g hg e => ((Row.of_own HO3.out.1).ty hg).ne (f := 29) (by rw [e]; exact ⟨_, J0.out⟩) (by decide) rfl))
  have HQ2 := Lib.hid q2
  clear hAr q2
  have ca_0 := blk_cell q0 0 rfl; have fa_0 := blk_free q0 0; have ca_1 := blk_cell q0 1 rfl; have fa_1 := blk_free q0 1; have ca_2 := blk_cell q0 2 rfl; have fa_2 := blk_free q0 2; have ca_3 := blk_cell q0 3 rfl; have fa_3 := blk_free q0 3; have ca_4 := blk_cell q0 4 rfl; have fa_4 := blk_free q0 4; have ca_5 := blk_cell q0 5 rfl; have fa_5 := blk_free q0 5; have ca_6 := blk_cell q0 6 rfl; have fa_6 := blk_free q0 6; have ca_7 := blk_cell q0 7 rfl; have fa_7 := blk_free q0 7; have ca_8 := blk_cell q0 8 rfl; have fa_8 := blk_free q0 8; have ca_9 := blk_cell q0 9 rfl; have fa_9 := blk_free q0 9; have ca_10 := blk_cell q0 10 rfl; have fa_10 := blk_free q0 10; have la := lt_of_block q0
  have cb_0 := blk_cell q1 0 rfl; have fb_0 := blk_free q1 0; have cb_1 := blk_cell q1 1 rfl; have fb_1 := blk_free q1 1; have cb_2 := blk_cell q1 2 rfl; have fb_2 := blk_free q1 2; have cb_3 := blk_cell q1 3 rfl; have fb_3 := blk_free q1 3; have cb_4 := blk_cell q1 4 rfl; have fb_4 := blk_free q1 4; have cb_5 := blk_cell q1 5 rfl; have fb_5 := blk_free q1 5; have cb_6 := blk_cell q1 6 rfl; have fb_6 := blk_free q1 6; have cb_7 := blk_cell q1 7 rfl; have fb_7 := blk_free q1 7; have cb_8 := blk_cell q1 8 rfl; have fb_8 := blk_free q1 8; have cb_9 := blk_cell q1 9 rfl; have fb_9 := blk_free q1 9; have cb_10 := blk_cell q1 10 rfl; have fb_10 := blk_free q1 10; have lb := lt_of_block q1
  go_region_held3 (fun w' => w'.cell? ⟨w.heap.size, 0, none⟩ = some (.int .i64 s.again) ∧ w'.cell? ⟨w.heap.size, 1, none⟩ = some (.int .i64 (Stn.given 2)) ∧ w'.cell? ⟨w.heap.size, 2, none⟩ = some (.int .i64 now) ∧ w'.cell? ⟨w.heap.size, 3, none⟩ = some (.int .i64 ((s.seq + 1) % 65536)) ∧ w'.cell? ⟨w.heap.size, 4, none⟩ = some (.bool s.some) ∧ w'.cell? ⟨w.heap.size, 5, none⟩ = some (.int .i64 s.prog) ∧ w'.cell? ⟨w.heap.size, 6, none⟩ = some (.int .i64 2) ∧ w'.cell? ⟨w.heap.size, 7, none⟩ = some (.slice A3 4 c3) ∧ w'.cell? ⟨w.heap.size, 8, none⟩ = some (.int .i64 now) ∧ w'.cell? ⟨w.heap.size, 9, none⟩ = some (.slice (some ⟨w3.heap.size, 0, none⟩) s.n s.n) ∧ w'.cell? ⟨w.heap.size, 10, none⟩ = some (.slice S s.n sc)) (first | (refine ⟨?_, ?_, ?_, ?_, ?_, ?_, ?_, ?_, ?_, ?_, ?_⟩ <;> simp [go_sem, *]; done) | go_keep) (first | (go_at_call 57; refine (FR.out _ _ _ _ _ (by first | exact HDR.out | exact HDR.out.drew) (by first | exact HAR.out | exact HAR.out.drew) HBY.out).mono ?_; rintro e w5 ⟨v, rfl, hR, hb5⟩; have p0 := blk_below (q := w.heap.size) (by repeat (first | (with_reducible assumption) | ((with_reducible apply blk_far); rotate_left; (first | omega | (simp <;> omega)); rotate_right) | (with_reducible apply blk_drew) | (with_reducible apply blk_drewN) | (with_reducible exact heap_new _ _) | ((with_reducible apply heap_new'); (first | rfl | (simp <;> fail))) | (with_reducible apply blk_alloc))) hb5 (by first | omega | (simp; done) | (simp; omega)); have p1 := blk_below (q := w.heap.size + 1) (by repeat (first | (with_reducible assumption) | ((with_reducible apply blk_far); rotate_left; (first | omega | (simp <;> omega)); rotate_right) | (with_reducible apply blk_drew) | (with_reducible apply blk_drewN) | (with_reducible exact heap_new _ _) | ((with_reducible apply heap_new'); (first | rfl | (simp <;> fail))) | (with_reducible apply blk_alloc))) hb5 (by first | omega | (simp; done) | (simp; omega)); have HR := Lib.hid hR; have HB54 := Lib.hid (show Below V4.heap.size V4 w5 from (by repeat (first | (with_reducible exact Below.refl _ _) | (with_reducible refine Below.drew ?_) | (with_reducible refine below_drewN ?_ _) | ((with_reducible refine Below.alloc ?_ ?_ _); rotate_left; (first | omega | (simp <;> omega)); rotate_right) | ((with_reducible refine Below.setCell ?_ ?_ _); rotate_left; (first | omega | (simp <;> omega)); rotate_right) | (with_reducible assumption) | (refine Below.trans ?_ (Below.mono (by assumption) ?_); rotate_left; (first | omega | (simp <;> omega)); rotate_right)))); have hv4 := HV4.out; have HB5 := Lib.hid (show Below w.heap.size w w5 from (by repeat (first | (with_reducible exact Below.refl _ _) | (with_reducible refine Below.drew ?_) | (with_reducible refine below_drewN ?_ _) | ((with_reducible refine Below.alloc ?_ ?_ _); rotate_left; (first | omega | (simp <;> omega)); rotate_right) | ((with_reducible refine Below.setCell ?_ ?_ _); rotate_left; (first | omega | (simp <;> omega)); rotate_right) | (with_reducible assumption) | (refine Below.trans ?_ (Below.mono (by assumption) ?_); rotate_left; (first | omega | (simp <;> omega)); rotate_right)))); have hsv : w.heap.size ≤ V4.heap.size := HV4.out.size; have HRR := Lib.hid (HR.out.more (base' := w.heap.size) (by first | exact hsv | (simp; omega))); (have ce_0 := blk_cell p0 0 rfl; have fe_0 := blk_free p0 0; have ce_1 := blk_cell p0 1 rfl; have fe_1 := blk_free p0 1; have ce_2 := blk_cell p0 2 rfl; have fe_2 := blk_free p0 2; have ce_3 := blk_cell p0 3 rfl; have fe_3 := blk_free p0 3; have ce_4 := blk_cell p0 4 rfl; have fe_4 := blk_free p0 4; have ce_5 := blk_cell p0 5 rfl; have fe_5 := blk_free p0 5; have ce_6 := blk_cell p0 6 rfl; have fe_6 := blk_free p0 6; have ce_7 := blk_cell p0 7 rfl; have fe_7 := blk_free p0 7; have ce_8 := blk_cell p0 8 rfl; have fe_8 := blk_free p0 8; have ce_9 := blk_cell p0 9 rfl; have fe_9 := blk_free p0 9; have ce_10 := blk_cell p0 10 rfl; have fe_10 := blk_free p0 10; have le := lt_of_block p0); (have cg_0 := blk_cell p1 0 rfl; have fg_0 := blk_free p1 0; have cg_1 := blk_cell p1 1 rfl; have fg_1 := blk_free p1 1; have cg_2 := blk_cell p1 2 rfl; have fg_2 := blk_free p1 2; have cg_3 := blk_cell p1 3 rfl; have fg_3 := blk_free p1 3; have cg_4 := blk_cell p1 4 rfl; have fg_4 := blk_free p1 4; have cg_5 := blk_cell p1 5 rfl; have fg_5 := blk_free p1 5; have cg_6 := blk_cell p1 6 rfl; have fg_6 := blk_free p1 6; have cg_7 := blk_cell p1 7 rfl; have fg_7 := blk_free p1 7; have cg_8 := blk_cell p1 8 rfl; have fg_8 := blk_free p1 8; have cg_9 := blk_cell p1 9 rfl; have fg_9 := blk_free p1 9; have cg_10 := blk_cell p1 10 rfl; have fg_10 := blk_free p1 10; have lg := lt_of_block p1); clear hR hb5 hv4))
  go_wp2_with fail
  generalize hWf : World.setCell _ _ _ = Wf
  have hf : Wf.heap[w.heap.size + 1]? = some (.cells #[.int .i64 s.again, .int .i64 (Stn.given 2), .int .i64 now, .int .i64 ((s.seq + 1) % 65536), .bool s.some, .int .i64 s.prog, .int .i64 2, .slice A3 4 c3, .int .i64 now, .slice (some ⟨w3.heap.size, 0, none⟩) s.n s.n, .slice S s.n sc] 29 (0, 0)) := by rw [← hWf]; exact (by apply Eq.trans; (repeat (first | (with_reducible assumption) | (with_reducible apply blk_set) | ((with_reducible apply blk_far); rotate_left; (first | omega | (simp <;> omega)); rotate_right) | (with_reducible apply blk_drew) | (with_reducible apply blk_drewN) | ((with_reducible apply heap_new'); (first | rfl | (simp <;> fail))) | (with_reducible apply blk_alloc))); (first | with_reducible rfl | (simp <;> fail) | rfl))
  have hK : Keeps (fun i => i = w.heap.size + 1) w5 Wf := by rw [← hWf]; (repeat (first | with_reducible exact Keeps.refl _ _ | (with_reducible refine Keeps.set1 ?_ _ _) | (with_reducible refine Keeps.drew ?_) | (with_reducible refine Keeps.drewN ?_ _) | (with_reducible refine Keeps.alloc ?_ _)))
  clear hWf
  clear ca_0 fa_0 ca_1 fa_1 ca_2 fa_2 ca_3 fa_3 ca_4 fa_4 ca_5 fa_5 ca_6 fa_6 ca_7 fa_7 ca_8 fa_8 ca_9 fa_9 ca_10 fa_10
  clear cb_0 fb_0 cb_1 fb_1 cb_2 fb_2 cb_3 fb_3 cb_4 fb_4 cb_5 fb_5 cb_6 fb_6 cb_7 fb_7 cb_8 fb_8 cb_9 fb_9 cb_10 fb_10
  clear ce_0 fe_0 ce_1 fe_1 ce_2 fe_2 ce_3 fe_3 ce_4 fe_4 ce_5 fe_5 ce_6 fe_6 ce_7 fe_7 ce_8 fe_8 ce_9 fe_9 ce_10 fe_10
  clear cg_0 fg_0 cg_1 fg_1 cg_2 fg_2 cg_3 fg_3 cg_4 fg_4 cg_5 fg_5 cg_6 fg_6 cg_7 fg_7 cg_8 fg_8 cg_9 fg_9 cg_10 fg_10
  clear la lb le lg
  have cm_0 := blk_cell hf 0 rfl; have fm_0 := blk_free hf 0; have cm_1 := blk_cell hf 1 rfl; have fm_1 := blk_free hf 1; have cm_2 := blk_cell hf 2 rfl; have fm_2 := blk_free hf 2; have cm_3 := blk_cell hf 3 rfl; have fm_3 := blk_free hf 3; have cm_4 := blk_cell hf 4 rfl; have fm_4 := blk_free hf 4; have cm_5 := blk_cell hf 5 rfl; have fm_5 := blk_free hf 5; have cm_6 := blk_cell hf 6 rfl; have fm_6 := blk_free hf 6; have cm_7 := blk_cell hf 7 rfl; have fm_7 := blk_free hf 7; have cm_8 := blk_cell hf 8 rfl; have fm_8 := blk_free hf 8; have cm_9 := blk_cell hf 9 rfl; have fm_9 := blk_free hf 9; have cm_10 := blk_cell hf 10 rfl; have fm_10 := blk_free hf 10; have lm := lt_of_block hf
  have hTy : ∀ i : Nat, i = w.heap.size + 1 → i < w5.heap.size → Ty w5 i 29 := fun i hi _ => by rw [hi]; exact ⟨_, p1⟩
  refine bodyPost_ret (v := .tuple #[.agg #[.int .i64 s.again, .int .i64 (Stn.given 2), .int .i64 now, .int .i64 ((s.seq + 1) % 65536), .bool s.some, .int .i64 s.prog, .int .i64 2, .slice A3 4 c3, .int .i64 now, .slice (some ⟨w3.heap.size, 0, none⟩) s.n s.n, .slice S s.n sc], v, .int .i64 0]) (by simp [results, Try.results36, go_sem, cm_0, cm_1, cm_2, cm_3, cm_4, cm_5, cm_6, cm_7, cm_8, cm_9, cm_10]) rfl ⟨v, A3, c3, some ⟨w3.heap.size, 0, none⟩, s.n, S, sc, ?_, ?_, ?_, ?_, ?_⟩
  · unfold rsl
    rw [HDT.out]
    simp [Stn.give0, Frm.num4]
  · have hq : IsR w5 A3 c3 (some ⟨w3.heap.size, 0, none⟩) s.n S sc (Stn.give0 s 2 now x) := ⟨by rw [HDT.out]; exact HDR.out.below HB54.out (Nat.le_refl _), HAR.out.below HB54.out (Nat.le_refl _), H.out.sr.below HB5.out (Nat.le_refl _)⟩
    exact hq.keptT hK (fun i hi hl => ⟨_, hTy i hi hl, by decide, by decide, by decide⟩)
  · exact HRR.out.keptT hK (fun i hi hl => ⟨_, hTy i hi hl, by decide, by decide⟩)
  · exact HB5.out.trans (hK.below (fun i _ hi => by omega) HB5.out.size)
  · intro g hg
    exact .inr ((Row.of_own HO3.out.1).lt hg).1
theorem rgive_3 (s : Stn.St) (hs : Stn.Inv s) (D : Option Addr) (dl dc : Nat) (A : Option Addr) (ac : Nat) (S : Option Addr) (sc : Nat) (now x : Int) (w : World) (h : IsR w D dc A ac S sc s) (he : Stn.giveE s 3 now x = 0) :
    Calls Try.prog 36 #[.agg #[.int .i64 s.again, .int .i64 s.st, .int .i64 s.now, .int .i64 s.seq, .bool s.some, .int .i64 s.prog, .int .i64 s.cmd, .slice D dl dc, .int .i64 s.sent, .slice A s.n ac, .slice S s.n sc], .int .i64 3, .int .i64 now, .int .i64 x] w (RPost D (Stn.give0 s 3 now x) (Stn.frames (Stn.give0 s 3 now x)) 0 w) := by
  obtain ⟨g1, ht, g3, hm⟩ := giveE_ok he
  have TM := Lib.hid (fun W : World => rtime_any s D dl dc A s.n ac S s.n sc now W)
  rw [ht] at TM
  have MY := Lib.hid (fun W : World => rmay_any 3 s.st W (by omega) hs.st)
  rw [hm] at MY
  have AF := Lib.hid (fun W : World => rafter_any 3 W)
  have hi' : Stn.Inv (Stn.give0 s 3 now x) := by
    have := Stn.inv_give (k := 3) (now := now) (x := x) hs (by omega)
    unfold Stn.give at this
    rw [if_pos he] at this
    exact this
  have hq3 := g3 rfl
  have hnow := (Stn.timeE_ok ht).1
  have hnow2 := hs.now
  have hq : 0 ≤ x ∧ x ≤ 4294967295 := by omega
  have hq1 := hq3.1
  have hq2 := hq3.2
  have PN := Lib.hid (fun (W : World) (A : Option Addr) (hW : Ri W W.heap.size A 1 [x]) => rput1 x A W hW hq)
  have HQ := Lib.hid (show -9223372036854775808 ≤ x ∧ x ≤ 9223372036854775807 by omega)
  have HBY := Lib.hid (show By (Frm.num4 x) from Frm.num4_by (Frm.okN_iff.2 hq))
  have hdt : Stn.data (Stn.give0 s 3 now x) = Frm.num4 x := by simp [Stn.data, Stn.give0]
  have FR := Lib.hid (fun (D3 : Option Addr) (dc3 : Nat) (A3 : Option Addr) (ac3 : Nat) (W : World) (hd : Row W 0 5 1 D3 4 dc3 (bv (Frm.num4 x))) (ha : Row W 0 4 1 A3 s.n ac3 (bools (List.replicate s.n false))) (hby : By (Frm.num4 x)) => show Calls Try.prog 57 #[.agg #[.int .i64 s.again, .int .i64 (Stn.given 3), .int .i64 now, .int .i64 ((s.seq + 1) % 65536), .bool s.some, .int .i64 s.prog, .int .i64 3, .slice D3 4 dc3, .int .i64 now, .slice A3 s.n ac3, .slice S s.n sc]] W fun e w' => ∃ v, e = .returned v ∧ Rof w' W.heap.size v (Stn.frames (Stn.give0 s 3 now x)) ∧ Below W.heap.size W w' from by
    have := rframes_any (Stn.give0 s 3 now x) hi' (by show (3 : Int) ≠ 0; decide) D3 4 dc3 A3 ac3 S s.n sc W (by rw [hdt]; rfl) (by rw [hdt]; exact hd) ha (by rw [hdt]; exact hby) (by omega)
    simpa [Stn.give0] using this)
  have hmk : ∀ W : World, (Instr.makeSlice 26 (.int .i64 (s.n : Int)) (.int .i64 (s.n : Int))).run Try.prog W = .ok (.slice (some ⟨W.heap.size, 0, none⟩) s.n s.n) (W.alloc (.cells (madeCells #[.bool false] s.n) 4)) := fun W => by
    obtain ⟨i2, hm0, hm1, hm2, hm3⟩ := info_parts info_bool
    have := run_make (P := Try.prog) W 26 4 i2 _ Try.underlying26 hm0 hm1 .i64 .i64 s.n s.n (by omega) (Int.le_refl _) (by rw [hm3]; have := hs.n; omega) (by have := hs.n; omega)
    rw [hm2, Int.toNat_natCast, Nat.mul_one] at this
    exact this
  have H := Lib.hid h
  have hsq := hs.seq
  have hn := hs.n
  have HDT := Lib.hid hdt
  clear h hs ht hm he hi' g1 g3 hdt hq hq3 hnow hnow2
  go_enter Try.func36, Try.ntmps36
  go_wp2_with fail
  generalize hV : World.alloc _ _ = V
  have k0 : V.heap[w.heap.size]? = some (.cells #[.int .i64 s.again, .int .i64 s.st, .int .i64 s.now, .int .i64 s.seq, .bool s.some, .int .i64 s.prog, .int .i64 s.cmd, .slice D dl dc, .int .i64 s.sent, .slice A s.n ac, .slice S s.n sc] 29 (0, 0)) := by rw [← hV]; exact blk_alloc (heap_new _ _) _
  have k1 : V.heap[w.heap.size + 1]? = some (.cells #[.int .i64 0, .int .i64 0, .int .i64 0, .int .i64 0, .bool false, .int .i64 0, .int .i64 0, .slice none 0 0, .int .i64 0, .slice none 0 0, .slice none 0 0] 29 (0, 0)) := by rw [← hV]; exact heap_new' _ _ _ (by simp)
  have HB := Lib.hid (show Below w.heap.size w V from by rw [← hV]; exact (by repeat (first | (with_reducible exact Below.refl _ _) | (with_reducible refine Below.drew ?_) | (with_reducible refine below_drewN ?_ _) | ((with_reducible refine Below.alloc ?_ ?_ _); rotate_left; (first | omega | (simp <;> omega)); rotate_right) | ((with_reducible refine Below.setCell ?_ ?_ _); rotate_left; (first | omega | (simp <;> omega)); rotate_right) | (with_reducible assumption) | (refine Below.trans ?_ (Below.mono (by assumption) ?_); rotate_left; (first | omega | (simp <;> omega)); rotate_right))))
  clear hV
  refine (TM.out _).mono ?_
  rintro e w1 ⟨rfl, hB1⟩
  have j0 := blk_below k0 hB1 (lt_of_block k0)
  have j1 := blk_below k1 hB1 (lt_of_block k1)
  have HB1 := Lib.hid (HB.out.trans (hB1.mono (by have := HB.out.size; omega)))
  have hz1 : w.heap.size + 2 ≤ w1.heap.size := by have := lt_of_block j1; omega
  clear k0 k1 hB1
  have ca_0 := blk_cell j0 0 rfl; have fa_0 := blk_free j0 0; have ca_1 := blk_cell j0 1 rfl; have fa_1 := blk_free j0 1; have ca_2 := blk_cell j0 2 rfl; have fa_2 := blk_free j0 2; have ca_3 := blk_cell j0 3 rfl; have fa_3 := blk_free j0 3; have ca_4 := blk_cell j0 4 rfl; have fa_4 := blk_free j0 4; have ca_5 := blk_cell j0 5 rfl; have fa_5 := blk_free j0 5; have ca_6 := blk_cell j0 6 rfl; have fa_6 := blk_free j0 6; have ca_7 := blk_cell j0 7 rfl; have fa_7 := blk_free j0 7; have ca_8 := blk_cell j0 8 rfl; have fa_8 := blk_free j0 8; have ca_9 := blk_cell j0 9 rfl; have fa_9 := blk_free j0 9; have ca_10 := blk_cell j0 10 rfl; have fa_10 := blk_free j0 10; have la := lt_of_block j0
  have cb_0 := blk_cell j1 0 rfl; have fb_0 := blk_free j1 0; have cb_1 := blk_cell j1 1 rfl; have fb_1 := blk_free j1 1; have cb_2 := blk_cell j1 2 rfl; have fb_2 := blk_free j1 2; have cb_3 := blk_cell j1 3 rfl; have fb_3 := blk_free j1 3; have cb_4 := blk_cell j1 4 rfl; have fb_4 := blk_free j1 4; have cb_5 := blk_cell j1 5 rfl; have fb_5 := blk_free j1 5; have cb_6 := blk_cell j1 6 rfl; have fb_6 := blk_free j1 6; have cb_7 := blk_cell j1 7 rfl; have fb_7 := blk_free j1 7; have cb_8 := blk_cell j1 8 rfl; have fb_8 := blk_free j1 8; have cb_9 := blk_cell j1 9 rfl; have fb_9 := blk_free j1 9; have cb_10 := blk_cell j1 10 rfl; have fb_10 := blk_free j1 10; have lb := lt_of_block j1
  go_wp2_with fail
  refine (MY.out _).mono ?_
  rintro e w' ⟨rfl, rfl⟩
  go_wp2_with fail
  generalize hV0 : World.setCell _ _ _ = V1
  have p0 : V1.heap[w.heap.size]? = some (.cells #[.int .i64 s.again, .int .i64 s.st, .int .i64 s.now, .int .i64 s.seq, .bool s.some, .int .i64 s.prog, .int .i64 s.cmd, .slice none 0 0, .int .i64 s.sent, .slice A s.n ac, .slice S s.n sc] 29 (0, 0)) := by rw [← hV0]; exact (by apply Eq.trans; (repeat (first | (with_reducible assumption) | (with_reducible apply blk_set) | ((with_reducible apply blk_far); rotate_left; (first | omega | (simp <;> omega)); rotate_right) | (with_reducible apply blk_drew) | (with_reducible apply blk_drewN) | ((with_reducible apply heap_new'); (first | rfl | (simp <;> fail))) | (with_reducible apply blk_alloc))); (first | with_reducible rfl | (simp <;> fail) | rfl))
  have p1 : V1.heap[w.heap.size + 1]? = some (.cells #[.int .i64 0, .int .i64 0, .int .i64 0, .int .i64 0, .bool false, .int .i64 0, .int .i64 0, .slice none 0 0, .int .i64 0, .slice none 0 0, .slice none 0 0] 29 (0, 0)) := by rw [← hV0]; exact (by repeat (first | (with_reducible assumption) | ((with_reducible apply blk_far); rotate_left; (first | omega | (simp <;> omega)); rotate_right) | (with_reducible apply blk_drew) | (with_reducible apply blk_drewN) | (with_reducible exact heap_new _ _) | ((with_reducible apply heap_new'); (first | rfl | (simp <;> fail))) | (with_reducible apply blk_alloc)))
  have hsz1 : V1.heap.size = w1.heap.size := by rw [← hV0]; simp [World.setCell]
  have hb1 := HB1.out
  have hB1V : Below w.heap.size w V1 := by rw [← hV0]; exact (by repeat (first | (with_reducible exact Below.refl _ _) | (with_reducible refine Below.drew ?_) | (with_reducible refine below_drewN ?_ _) | ((with_reducible refine Below.alloc ?_ ?_ _); rotate_left; (first | omega | (simp <;> omega)); rotate_right) | ((with_reducible refine Below.setCell ?_ ?_ _); rotate_left; (first | omega | (simp <;> omega)); rotate_right) | (with_reducible assumption) | (refine Below.trans ?_ (Below.mono (by assumption) ?_); rotate_left; (first | omega | (simp <;> omega)); rotate_right)))
  clear hV0
  generalize hV : World.alloc _ _ = V2
  have k0 : V2.heap[w.heap.size]? = some (.cells #[.int .i64 s.again, .int .i64 s.st, .int .i64 s.now, .int .i64 s.seq, .bool s.some, .int .i64 s.prog, .int .i64 s.cmd, .slice none 0 0, .int .i64 s.sent, .slice A s.n ac, .slice S s.n sc] 29 (0, 0)) := by rw [← hV]; exact blk_alloc p0 _
  have k1 : V2.heap[w.heap.size + 1]? = some (.cells #[.int .i64 0, .int .i64 0, .int .i64 0, .int .i64 0, .bool false, .int .i64 0, .int .i64 0, .slice none 0 0, .int .i64 0, .slice none 0 0, .slice none 0 0] 29 (0, 0)) := by rw [← hV]; exact blk_alloc p1 _
  have HV := Lib.hid (show Below w.heap.size w V2 from by rw [← hV]; exact hB1V.alloc hB1V.size _)
  have hRi : Ri V2 V2.heap.size (some ⟨w1.heap.size, 0, none⟩) 1 [x] := by rw [← hV]; exact Ri.newAt _ _ _ hsz1 HQ.out
  have HRI := Lib.hid hRi
  clear ca_0 fa_0 ca_1 fa_1 ca_2 fa_2 ca_3 fa_3 ca_4 fa_4 ca_5 fa_5 ca_6 fa_6 ca_7 fa_7 ca_8 fa_8 ca_9 fa_9 ca_10 fa_10
  clear cb_0 fb_0 cb_1 fb_1 cb_2 fb_2 cb_3 fb_3 cb_4 fb_4 cb_5 fb_5 cb_6 fb_6 cb_7 fb_7 cb_8 fb_8 cb_9 fb_9 cb_10 fb_10
  clear la lb hV j0 j1 hRi hb1 p0 p1 hsz1 hB1V
  refine (PN.out _ _ HRI.out).mono ?_
  rintro e w3 ⟨A3, c3, rfl, hO3, hB3⟩
  have j0 := blk_below k0 hB3 (lt_of_block k0)
  have j1 := blk_below k1 hB3 (lt_of_block k1)
  have HB3 := Lib.hid (HV.out.trans (hB3.mono (by have := HV.out.size; omega)))
  have HO3 := Lib.hid (hO3.more (base' := w.heap.size) HV.out.size)
  have hz3 : w.heap.size + 2 ≤ w3.heap.size := by have := lt_of_block j1; omega
  clear k0 k1 hB3 hO3
  have ca_0 := blk_cell j0 0 rfl; have fa_0 := blk_free j0 0; have ca_1 := blk_cell j0 1 rfl; have fa_1 := blk_free j0 1; have ca_2 := blk_cell j0 2 rfl; have fa_2 := blk_free j0 2; have ca_3 := blk_cell j0 3 rfl; have fa_3 := blk_free j0 3; have ca_4 := blk_cell j0 4 rfl; have fa_4 := blk_free j0 4; have ca_5 := blk_cell j0 5 rfl; have fa_5 := blk_free j0 5; have ca_6 := blk_cell j0 6 rfl; have fa_6 := blk_free j0 6; have ca_7 := blk_cell j0 7 rfl; have fa_7 := blk_free j0 7; have ca_8 := blk_cell j0 8 rfl; have fa_8 := blk_free j0 8; have ca_9 := blk_cell j0 9 rfl; have fa_9 := blk_free j0 9; have ca_10 := blk_cell j0 10 rfl; have fa_10 := blk_free j0 10; have la := lt_of_block j0
  have cb_0 := blk_cell j1 0 rfl; have fb_0 := blk_free j1 0; have cb_1 := blk_cell j1 1 rfl; have fb_1 := blk_free j1 1; have cb_2 := blk_cell j1 2 rfl; have fb_2 := blk_free j1 2; have cb_3 := blk_cell j1 3 rfl; have fb_3 := blk_free j1 3; have cb_4 := blk_cell j1 4 rfl; have fb_4 := blk_free j1 4; have cb_5 := blk_cell j1 5 rfl; have fb_5 := blk_free j1 5; have cb_6 := blk_cell j1 6 rfl; have fb_6 := blk_free j1 6; have cb_7 := blk_cell j1 7 rfl; have fb_7 := blk_free j1 7; have cb_8 := blk_cell j1 8 rfl; have fb_8 := blk_free j1 8; have cb_9 := blk_cell j1 9 rfl; have fb_9 := blk_free j1 9; have cb_10 := blk_cell j1 10 rfl; have fb_10 := blk_free j1 10; have lb := lt_of_block j1
  go_wp2_with fail
  refine (AF.out _).mono ?_
  rintro e w' ⟨rfl, rfl⟩
  go_wp2_with fail
  generalize hV0 : World.setCell _ _ _ = V3
  have p0 : V3.heap[w.heap.size]? = some (.cells #[.int .i64 s.again, .int .i64 (Stn.given 3), .int .i64 now, .int .i64 ((s.seq + 1) % 65536), .bool s.some, .int .i64 s.prog, .int .i64 3, .slice A3 4 c3, .int .i64 now, .slice (some ⟨w3.heap.size, 0, none⟩) s.n s.n, .slice S s.n sc] 29 (0, 0)) := by rw [← hV0]; exact (by apply Eq.trans; (repeat (first | (with_reducible assumption) | (with_reducible apply blk_set) | ((with_reducible apply blk_far); rotate_left; (first | omega | (simp <;> omega)); rotate_right) | (with_reducible apply blk_drew) | (with_reducible apply blk_drewN) | ((with_reducible apply heap_new'); (first | rfl | (simp <;> fail))) | (with_reducible apply blk_alloc))); (first | with_reducible rfl | (simp <;> fail) | rfl))
  have p1 : V3.heap[w.heap.size + 1]? = some (.cells #[.int .i64 0, .int .i64 0, .int .i64 0, .int .i64 0, .bool false, .int .i64 0, .int .i64 0, .slice none 0 0, .int .i64 0, .slice none 0 0, .slice none 0 0] 29 (0, 0)) := by rw [← hV0]; exact (by repeat (first | (with_reducible assumption) | ((with_reducible apply blk_far); rotate_left; (first | omega | (simp <;> omega)); rotate_right) | (with_reducible apply blk_drew) | (with_reducible apply blk_drewN) | (with_reducible exact heap_new _ _) | ((with_reducible apply heap_new'); (first | rfl | (simp <;> fail))) | (with_reducible apply blk_alloc)))
  have hsz3 : V3.heap.size = w3.heap.size := by rw [← hV0]; simp [World.setCell]
  have hb3 := HB3.out
  have hB3V : Below w.heap.size w V3 := by rw [← hV0]; exact (by repeat (first | (with_reducible exact Below.refl _ _) | (with_reducible refine Below.drew ?_) | (with_reducible refine below_drewN ?_ _) | ((with_reducible refine Below.alloc ?_ ?_ _); rotate_left; (first | omega | (simp <;> omega)); rotate_right) | ((with_reducible refine Below.setCell ?_ ?_ _); rotate_left; (first | omega | (simp <;> omega)); rotate_right) | (with_reducible assumption) | (refine Below.trans ?_ (Below.mono (by assumption) ?_); rotate_left; (first | omega | (simp <;> omega)); rotate_right)))
  have hKV3 : Keeps (fun i => i = w.heap.size) w3 V3 := by rw [← hV0]; (repeat (first | with_reducible exact Keeps.refl _ _ | (with_reducible refine Keeps.set1 ?_ _ _) | (with_reducible refine Keeps.drew ?_) | (with_reducible refine Keeps.drewN ?_ _) | (with_reducible refine Keeps.alloc ?_ _)))
  clear hV0 hb3
  generalize hV : World.alloc _ _ = V4
  have q0 : V4.heap[w.heap.size]? = some (.cells #[.int .i64 s.again, .int .i64 (Stn.given 3), .int .i64 now, .int .i64 ((s.seq + 1) % 65536), .bool s.some, .int .i64 s.prog, .int .i64 3, .slice A3 4 c3, .int .i64 now, .slice (some ⟨w3.heap.size, 0, none⟩) s.n s.n, .slice S s.n sc] 29 (0, 0)) := by rw [← hV]; exact blk_alloc p0 _
  have q1 : V4.heap[w.heap.size + 1]? = some (.cells #[.int .i64 0, .int .i64 0, .int .i64 0, .int .i64 0, .bool false, .int .i64 0, .int .i64 0, .slice none 0 0, .int .i64 0, .slice none 0 0, .slice none 0 0] 29 (0, 0)) := by rw [← hV]; exact blk_alloc p1 _
  have HV4 := Lib.hid (show Below w.heap.size w V4 from by rw [← hV]; exact hB3V.alloc hB3V.size _)
  have HKV := Lib.hid (show Keeps (fun i => i = w.heap.size) w3 V4 from by rw [← hV]; exact hKV3.alloc _)
  have q2 : V4.heap[w3.heap.size]? = some (.cells (madeCells #[.bool false] s.n) 4 (0, 0)) := by rw [← hV]; exact heap_new' _ _ _ hsz3.symm
  clear p0 p1 hsz3 hB3V hKV3
  have J0 := Lib.hid j0
  clear ca_0 fa_0 ca_1 fa_1 ca_2 fa_2 ca_3 fa_3 ca_4 fa_4 ca_5 fa_5 ca_6 fa_6 ca_7 fa_7 ca_8 fa_8 ca_9 fa_9 ca_10 fa_10
  clear cb_0 fb_0 cb_1 fb_1 cb_2 fb_2 cb_3 fb_3 cb_4 fb_4 cb_5 fb_5 cb_6 fb_6 cb_7 fb_7 cb_8 fb_8 cb_9 fb_9 cb_10 fb_10
  clear la lb hV j0 j1
  have hAr : Row V4 0 4 1 (some ⟨w3.heap.size, 0, none⟩) s.n s.n (bools (List.replicate s.n false)) := Row.of_block q2 (Nat.zero_le _) (Nat.le_refl _) (by unfold maxLen; omega) (by rw [size_madeCells]; simp) (by rw [List.drop_zero, made_bools, List.take_of_length_le (by simp [bools])])
  have HAR := Lib.hid hAr
  have HDR := Lib.hid (show Row V4 0 5 1 A3 4 c3 (bv (Frm.num4 x)) from ((Row.of_own HO3.out.1).more (Nat.zero_le _)).kept HKV.out (fun g hg e => ((Row.of_own HO3.out.1).ty hg).ne (f := 29) (by rw [e]; exact ⟨_, J0.out⟩) (by decide) rfl))
  have HQ2 := Lib.hid q2
  clear hAr q2
  have ca_0 := blk_cell q0 0 rfl; have fa_0 := blk_free q0 0; have ca_1 := blk_cell q0 1 rfl; have fa_1 := blk_free q0 1; have ca_2 := blk_cell q0 2 rfl; have fa_2 := blk_free q0 2; have ca_3 := blk_cell q0 3 rfl; have fa_3 := blk_free q0 3; have ca_4 := blk_cell q0 4 rfl; have fa_4 := blk_free q0 4; have ca_5 := blk_cell q0 5 rfl; have fa_5 := blk_free q0 5; have ca_6 := blk_cell q0 6 rfl; have fa_6 := blk_free q0 6; have ca_7 := blk_cell q0 7 rfl; have fa_7 := blk_free q0 7; have ca_8 := blk_cell q0 8 rfl; have fa_8 := blk_free q0 8; have ca_9 := blk_cell q0 9 rfl; have fa_9 := blk_free q0 9; have ca_10 := blk_cell q0 10 rfl; have fa_10 := blk_free q0 10; have la := lt_of_block q0
  have cb_0 := blk_cell q1 0 rfl; have fb_0 := blk_free q1 0; have cb_1 := blk_cell q1 1 rfl; have fb_1 := blk_free q1 1; have cb_2 := blk_cell q1 2 rfl; have fb_2 := blk_free q1 2; have cb_3 := blk_cell q1 3 rfl; have fb_3 := blk_free q1 3; have cb_4 := blk_cell q1 4 rfl; have fb_4 := blk_free q1 4; have cb_5 := blk_cell q1 5 rfl; have fb_5 := blk_free q1 5; have cb_6 := blk_cell q1 6 rfl; have fb_6 := blk_free q1 6; have cb_7 := blk_cell q1 7 rfl; have fb_7 := blk_free q1 7; have cb_8 := blk_cell q1 8 rfl; have fb_8 := blk_free q1 8; have cb_9 := blk_cell q1 9 rfl; have fb_9 := blk_free q1 9; have cb_10 := blk_cell q1 10 rfl; have fb_10 := blk_free q1 10; have lb := lt_of_block q1
  go_region_held3 (fun w' => w'.cell? ⟨w.heap.size, 0, none⟩ = some (.int .i64 s.again) ∧ w'.cell? ⟨w.heap.size, 1, none⟩ = some (.int .i64 (Stn.given 3)) ∧ w'.cell? ⟨w.heap.size, 2, none⟩ = some (.int .i64 now) ∧ w'.cell? ⟨w.heap.size, 3, none⟩ = some (.int .i64 ((s.seq + 1) % 65536)) ∧ w'.cell? ⟨w.heap.size, 4, none⟩ = some (.bool s.some) ∧ w'.cell? ⟨w.heap.size, 5, none⟩ = some (.int .i64 s.prog) ∧ w'.cell? ⟨w.heap.size, 6, none⟩ = some (.int .i64 3) ∧ w'.cell? ⟨w.heap.size, 7, none⟩ = some (.slice A3 4 c3) ∧ w'.cell? ⟨w.heap.size, 8, none⟩ = some (.int .i64 now) ∧ w'.cell? ⟨w.heap.size, 9, none⟩ = some (.slice (some ⟨w3.heap.size, 0, none⟩) s.n s.n) ∧ w'.cell? ⟨w.heap.size, 10, none⟩ = some (.slice S s.n sc)) (first | (refine ⟨?_, ?_, ?_, ?_, ?_, ?_, ?_, ?_, ?_, ?_, ?_⟩ <;> simp [go_sem, *]; done) | go_keep) (first | (go_at_call 57; refine (FR.out _ _ _ _ _ (by first | exact HDR.out | exact HDR.out.drew) (by first | exact HAR.out | exact HAR.out.drew) HBY.out).mono ?_; rintro e w5 ⟨v, rfl, hR, hb5⟩; have p0 := blk_below (q := w.heap.size) (by repeat (first | (with_reducible assumption) | ((with_reducible apply blk_far); rotate_left; (first | omega | (simp <;> omega)); rotate_right) | (with_reducible apply blk_drew) | (with_reducible apply blk_drewN) | (with_reducible exact heap_new _ _) | ((with_reducible apply heap_new'); (first | rfl | (simp <;> fail))) | (with_reducible apply blk_alloc))) hb5 (by first | omega | (simp; done) | (simp; omega)); have p1 := blk_below (q := w.heap.size + 1) (by repeat (first | (with_reducible assumption) | ((with_reducible apply blk_far); rotate_left; (first | omega | (simp <;> omega)); rotate_right) | (with_reducible apply blk_drew) | (with_reducible apply blk_drewN) | (with_reducible exact heap_new _ _) | ((with_reducible apply heap_new'); (first | rfl | (simp <;> fail))) | (with_reducible apply blk_alloc))) hb5 (by first | omega | (simp; done) | (simp; omega)); have HR := Lib.hid hR; have HB54 := Lib.hid (show Below V4.heap.size V4 w5 from (by repeat (first | (with_reducible exact Below.refl _ _) | (with_reducible refine Below.drew ?_) | (with_reducible refine below_drewN ?_ _) | ((with_reducible refine Below.alloc ?_ ?_ _); rotate_left; (first | omega | (simp <;> omega)); rotate_right) | ((with_reducible refine Below.setCell ?_ ?_ _); rotate_left; (first | omega | (simp <;> omega)); rotate_right) | (with_reducible assumption) | (refine Below.trans ?_ (Below.mono (by assumption) ?_); rotate_left; (first | omega | (simp <;> omega)); rotate_right)))); have hv4 := HV4.out; have HB5 := Lib.hid (show Below w.heap.size w w5 from (by repeat (first | (with_reducible exact Below.refl _ _) | (with_reducible refine Below.drew ?_) | (with_reducible refine below_drewN ?_ _) | ((with_reducible refine Below.alloc ?_ ?_ _); rotate_left; (first | omega | (simp <;> omega)); rotate_right) | ((with_reducible refine Below.setCell ?_ ?_ _); rotate_left; (first | omega | (simp <;> omega)); rotate_right) | (with_reducible assumption) | (refine Below.trans ?_ (Below.mono (by assumption) ?_); rotate_left; (first | omega | (simp <;> omega)); rotate_right)))); have hsv : w.heap.size ≤ V4.heap.size := HV4.out.size; have HRR := Lib.hid (HR.out.more (base' := w.heap.size) (by first | exact hsv | (simp; omega))); (have ce_0 := blk_cell p0 0 rfl; have fe_0 := blk_free p0 0; have ce_1 := blk_cell p0 1 rfl; have fe_1 := blk_free p0 1; have ce_2 := blk_cell p0 2 rfl; have fe_2 := blk_free p0 2; have ce_3 := blk_cell p0 3 rfl; have fe_3 := blk_free p0 3; have ce_4 := blk_cell p0 4 rfl; have fe_4 := blk_free p0 4; have ce_5 := blk_cell p0 5 rfl; have fe_5 := blk_free p0 5; have ce_6 := blk_cell p0 6 rfl; have fe_6 := blk_free p0 6; have ce_7 := blk_cell p0 7 rfl; have fe_7 := blk_free p0 7; have ce_8 := blk_cell p0 8 rfl; have fe_8 := blk_free p0 8; have ce_9 := blk_cell p0 9 rfl; have fe_9 := blk_free p0 9; have ce_10 := blk_cell p0 10 rfl; have fe_10 := blk_free p0 10; have le := lt_of_block p0); (have cg_0 := blk_cell p1 0 rfl; have fg_0 := blk_free p1 0; have cg_1 := blk_cell p1 1 rfl; have fg_1 := blk_free p1 1; have cg_2 := blk_cell p1 2 rfl; have fg_2 := blk_free p1 2; have cg_3 := blk_cell p1 3 rfl; have fg_3 := blk_free p1 3; have cg_4 := blk_cell p1 4 rfl; have fg_4 := blk_free p1 4; have cg_5 := blk_cell p1 5 rfl; have fg_5 := blk_free p1 5; have cg_6 := blk_cell p1 6 rfl; have fg_6 := blk_free p1 6; have cg_7 := blk_cell p1 7 rfl; have fg_7 := blk_free p1 7; have cg_8 := blk_cell p1 8 rfl; have fg_8 := blk_free p1 8; have cg_9 := blk_cell p1 9 rfl; have fg_9 := blk_free p1 9; have cg_10 := blk_cell p1 10 rfl; have fg_10 := blk_free p1 10; have lg := lt_of_block p1); clear hR hb5 hv4))
  go_wp2_with fail
  generalize hWf : World.setCell _ _ _ = Wf
  have hf : Wf.heap[w.heap.size + 1]? = some (.cells #[.int .i64 s.again, .int .i64 (Stn.given 3), .int .i64 now, .int .i64 ((s.seq + 1) % 65536), .bool s.some, .int .i64 s.prog, .int .i64 3, .slice A3 4 c3, .int .i64 now, .slice (some ⟨w3.heap.size, 0, none⟩) s.n s.n, .slice S s.n sc] 29 (0, 0)) := by rw [← hWf]; exact (by apply Eq.trans; (repeat (first | (with_reducible assumption) | (with_reducible apply blk_set) | ((with_reducible apply blk_far); rotate_left; (first | omega | (simp <;> omega)); rotate_right) | (with_reducible apply blk_drew) | (with_reducible apply blk_drewN) | ((with_reducible apply heap_new'); (first | rfl | (simp <;> fail))) | (with_reducible apply blk_alloc))); (first | with_reducible rfl | (simp <;> fail) | rfl))
  have hK : Keeps (fun i => i = w.heap.size + 1) w5 Wf := by rw [← hWf]; (repeat (first | with_reducible exact Keeps.refl _ _ | (with_reducible refine Keeps.set1 ?_ _ _) | (with_reducible refine Keeps.drew ?_) | (with_reducible refine Keeps.drewN ?_ _) | (with_reducible refine Keeps.alloc ?_ _)))
  clear hWf
  clear ca_0 fa_0 ca_1 fa_1 ca_2 fa_2 ca_3 fa_3 ca_4 fa_4 ca_5 fa_5 ca_6 fa_6 ca_7 fa_7 ca_8 fa_8 ca_9 fa_9 ca_10 fa_10
  clear cb_0 fb_0 cb_1 fb_1 cb_2 fb_2 cb_3 fb_3 cb_4 fb_4 cb_5 fb_5 cb_6 fb_6 cb_7 fb_7 cb_8 fb_8 cb_9 fb_9 cb_10 fb_10
  clear ce_0 fe_0 ce_1 fe_1 ce_2 fe_2 ce_3 fe_3 ce_4 fe_4 ce_5 fe_5 ce_6 fe_6 ce_7 fe_7 ce_8 fe_8 ce_9 fe_9 ce_10 fe_10
  clear cg_0 fg_0 cg_1 fg_1 cg_2 fg_2 cg_3 fg_3 cg_4 fg_4 cg_5 fg_5 cg_6 fg_6 cg_7 fg_7 cg_8 fg_8 cg_9 fg_9 cg_10 fg_10
  clear la lb le lg
  have cm_0 := blk_cell hf 0 rfl; have fm_0 := blk_free hf 0; have cm_1 := blk_cell hf 1 rfl; have fm_1 := blk_free hf 1; have cm_2 := blk_cell hf 2 rfl; have fm_2 := blk_free hf 2; have cm_3 := blk_cell hf 3 rfl; have fm_3 := blk_free hf 3; have cm_4 := blk_cell hf 4 rfl; have fm_4 := blk_free hf 4; have cm_5 := blk_cell hf 5 rfl; have fm_5 := blk_free hf 5; have cm_6 := blk_cell hf 6 rfl; have fm_6 := blk_free hf 6; have cm_7 := blk_cell hf 7 rfl; have fm_7 := blk_free hf 7; have cm_8 := blk_cell hf 8 rfl; have fm_8 := blk_free hf 8; have cm_9 := blk_cell hf 9 rfl; have fm_9 := blk_free hf 9; have cm_10 := blk_cell hf 10 rfl; have fm_10 := blk_free hf 10; have lm := lt_of_block hf
  have hTy : ∀ i : Nat, i = w.heap.size + 1 → i < w5.heap.size → Ty w5 i 29 := fun i hi _ => by rw [hi]; exact ⟨_, p1⟩
  refine bodyPost_ret (v := .tuple #[.agg #[.int .i64 s.again, .int .i64 (Stn.given 3), .int .i64 now, .int .i64 ((s.seq + 1) % 65536), .bool s.some, .int .i64 s.prog, .int .i64 3, .slice A3 4 c3, .int .i64 now, .slice (some ⟨w3.heap.size, 0, none⟩) s.n s.n, .slice S s.n sc], v, .int .i64 0]) (by simp [results, Try.results36, go_sem, cm_0, cm_1, cm_2, cm_3, cm_4, cm_5, cm_6, cm_7, cm_8, cm_9, cm_10]) rfl ⟨v, A3, c3, some ⟨w3.heap.size, 0, none⟩, s.n, S, sc, ?_, ?_, ?_, ?_, ?_⟩
  · unfold rsl
    rw [HDT.out]
    simp [Stn.give0, Frm.num4]
  · have hq : IsR w5 A3 c3 (some ⟨w3.heap.size, 0, none⟩) s.n S sc (Stn.give0 s 3 now x) := ⟨by rw [HDT.out]; exact HDR.out.below HB54.out (Nat.le_refl _), HAR.out.below HB54.out (Nat.le_refl _), H.out.sr.below HB5.out (Nat.le_refl _)⟩
    exact hq.keptT hK (fun i hi hl => ⟨_, hTy i hi hl, by decide, by decide, by decide⟩)
  · exact HRR.out.keptT hK (fun i hi hl => ⟨_, hTy i hi hl, by decide, by decide⟩)
  · exact HB5.out.trans (hK.below (fun i _ hi => by omega) HB5.out.size)
  · intro g hg
    exact .inr ((Row.of_own HO3.out.1).lt hg).1
theorem rgive_4 (s : Stn.St) (hs : Stn.Inv s) (D : Option Addr) (dl dc : Nat) (A : Option Addr) (ac : Nat) (S : Option Addr) (sc : Nat) (now x : Int) (w : World) (h : IsR w D dc A ac S sc s) (he : Stn.giveE s 4 now x = 0) :
    Calls Try.prog 36 #[.agg #[.int .i64 s.again, .int .i64 s.st, .int .i64 s.now, .int .i64 s.seq, .bool s.some, .int .i64 s.prog, .int .i64 s.cmd, .slice D dl dc, .int .i64 s.sent, .slice A s.n ac, .slice S s.n sc], .int .i64 4, .int .i64 now, .int .i64 x] w (RPost D (Stn.give0 s 4 now x) (Stn.frames (Stn.give0 s 4 now x)) 0 w) := by
  obtain ⟨g1, ht, g3, hm⟩ := giveE_ok he
  have TM := Lib.hid (fun W : World => rtime_any s D dl dc A s.n ac S s.n sc now W)
  rw [ht] at TM
  have MY := Lib.hid (fun W : World => rmay_any 4 s.st W (by omega) hs.st)
  rw [hm] at MY
  have AF := Lib.hid (fun W : World => rafter_any 4 W)
  have hi' : Stn.Inv (Stn.give0 s 4 now x) := by
    have := Stn.inv_give (k := 4) (now := now) (x := x) hs (by omega)
    unfold Stn.give at this
    rw [if_pos he] at this
    exact this
  have hdt : Stn.data (Stn.give0 s 4 now x) = ([] : List Int) := by simp [Stn.data, Stn.give0]
  have FR := Lib.hid (fun (D3 : Option Addr) (dc3 : Nat) (A3 : Option Addr) (ac3 : Nat) (W : World) (hd : Row W 0 5 1 D3 0 dc3 (bv (([] : List Int)))) (ha : Row W 0 4 1 A3 s.n ac3 (bools (List.replicate s.n false))) (hby : By (([] : List Int))) => show Calls Try.prog 57 #[.agg #[.int .i64 s.again, .int .i64 (Stn.given 4), .int .i64 now, .int .i64 ((s.seq + 1) % 65536), .bool s.some, .int .i64 s.prog, .int .i64 4, .slice D3 0 dc3, .int .i64 now, .slice A3 s.n ac3, .slice S s.n sc]] W fun e w' => ∃ v, e = .returned v ∧ Rof w' W.heap.size v (Stn.frames (Stn.give0 s 4 now x)) ∧ Below W.heap.size W w' from by
    have := rframes_any (Stn.give0 s 4 now x) hi' (by show (4 : Int) ≠ 0; decide) D3 0 dc3 A3 ac3 S s.n sc W (by rw [hdt]; rfl) (by rw [hdt]; exact hd) ha (by rw [hdt]; exact hby) (by omega)
    simpa [Stn.give0] using this)
  have hmk : ∀ W : World, (Instr.makeSlice 26 (.int .i64 (s.n : Int)) (.int .i64 (s.n : Int))).run Try.prog W = .ok (.slice (some ⟨W.heap.size, 0, none⟩) s.n s.n) (W.alloc (.cells (madeCells #[.bool false] s.n) 4)) := fun W => by
    obtain ⟨i2, hm0, hm1, hm2, hm3⟩ := info_parts info_bool
    have := run_make (P := Try.prog) W 26 4 i2 _ Try.underlying26 hm0 hm1 .i64 .i64 s.n s.n (by omega) (Int.le_refl _) (by rw [hm3]; have := hs.n; omega) (by have := hs.n; omega)
    rw [hm2, Int.toNat_natCast, Nat.mul_one] at this
    exact this
  have H := Lib.hid h
  have hsq := hs.seq
  have hn := hs.n
  have HDT := Lib.hid hdt
  clear h hs ht hm he hi' g1 g3 hdt  
  go_enter Try.func36, Try.ntmps36
  go_wp2_with fail
  generalize hV : World.alloc _ _ = V
  have k0 : V.heap[w.heap.size]? = some (.cells #[.int .i64 s.again, .int .i64 s.st, .int .i64 s.now, .int .i64 s.seq, .bool s.some, .int .i64 s.prog, .int .i64 s.cmd, .slice D dl dc, .int .i64 s.sent, .slice A s.n ac, .slice S s.n sc] 29 (0, 0)) := by rw [← hV]; exact blk_alloc (heap_new _ _) _
  have k1 : V.heap[w.heap.size + 1]? = some (.cells #[.int .i64 0, .int .i64 0, .int .i64 0, .int .i64 0, .bool false, .int .i64 0, .int .i64 0, .slice none 0 0, .int .i64 0, .slice none 0 0, .slice none 0 0] 29 (0, 0)) := by rw [← hV]; exact heap_new' _ _ _ (by simp)
  have HB := Lib.hid (show Below w.heap.size w V from by rw [← hV]; exact (by repeat (first | (with_reducible exact Below.refl _ _) | (with_reducible refine Below.drew ?_) | (with_reducible refine below_drewN ?_ _) | ((with_reducible refine Below.alloc ?_ ?_ _); rotate_left; (first | omega | (simp <;> omega)); rotate_right) | ((with_reducible refine Below.setCell ?_ ?_ _); rotate_left; (first | omega | (simp <;> omega)); rotate_right) | (with_reducible assumption) | (refine Below.trans ?_ (Below.mono (by assumption) ?_); rotate_left; (first | omega | (simp <;> omega)); rotate_right))))
  clear hV
  refine (TM.out _).mono ?_
  rintro e w1 ⟨rfl, hB1⟩
  have j0 := blk_below k0 hB1 (lt_of_block k0)
  have j1 := blk_below k1 hB1 (lt_of_block k1)
  have HB1 := Lib.hid (HB.out.trans (hB1.mono (by have := HB.out.size; omega)))
  have hz1 : w.heap.size + 2 ≤ w1.heap.size := by have := lt_of_block j1; omega
  clear k0 k1 hB1
  have ca_0 := blk_cell j0 0 rfl; have fa_0 := blk_free j0 0; have ca_1 := blk_cell j0 1 rfl; have fa_1 := blk_free j0 1; have ca_2 := blk_cell j0 2 rfl; have fa_2 := blk_free j0 2; have ca_3 := blk_cell j0 3 rfl; have fa_3 := blk_free j0 3; have ca_4 := blk_cell j0 4 rfl; have fa_4 := blk_free j0 4; have ca_5 := blk_cell j0 5 rfl; have fa_5 := blk_free j0 5; have ca_6 := blk_cell j0 6 rfl; have fa_6 := blk_free j0 6; have ca_7 := blk_cell j0 7 rfl; have fa_7 := blk_free j0 7; have ca_8 := blk_cell j0 8 rfl; have fa_8 := blk_free j0 8; have ca_9 := blk_cell j0 9 rfl; have fa_9 := blk_free j0 9; have ca_10 := blk_cell j0 10 rfl; have fa_10 := blk_free j0 10; have la := lt_of_block j0
  have cb_0 := blk_cell j1 0 rfl; have fb_0 := blk_free j1 0; have cb_1 := blk_cell j1 1 rfl; have fb_1 := blk_free j1 1; have cb_2 := blk_cell j1 2 rfl; have fb_2 := blk_free j1 2; have cb_3 := blk_cell j1 3 rfl; have fb_3 := blk_free j1 3; have cb_4 := blk_cell j1 4 rfl; have fb_4 := blk_free j1 4; have cb_5 := blk_cell j1 5 rfl; have fb_5 := blk_free j1 5; have cb_6 := blk_cell j1 6 rfl; have fb_6 := blk_free j1 6; have cb_7 := blk_cell j1 7 rfl; have fb_7 := blk_free j1 7; have cb_8 := blk_cell j1 8 rfl; have fb_8 := blk_free j1 8; have cb_9 := blk_cell j1 9 rfl; have fb_9 := blk_free j1 9; have cb_10 := blk_cell j1 10 rfl; have fb_10 := blk_free j1 10; have lb := lt_of_block j1
  go_wp2_with fail
  refine (MY.out _).mono ?_
  rintro e w' ⟨rfl, rfl⟩
  go_wp2_with fail
  refine (AF.out _).mono ?_
  rintro e w' ⟨rfl, rfl⟩
  go_wp2_with fail
  generalize hV0 : World.setCell _ _ _ = V3
  have p0 : V3.heap[w.heap.size]? = some (.cells #[.int .i64 s.again, .int .i64 (Stn.given 4), .int .i64 now, .int .i64 ((s.seq + 1) % 65536), .bool s.some, .int .i64 s.prog, .int .i64 4, .slice none 0 0, .int .i64 now, .slice (some ⟨w1.heap.size, 0, none⟩) s.n s.n, .slice S s.n sc] 29 (0, 0)) := by rw [← hV0]; exact (by apply Eq.trans; (repeat (first | (with_reducible assumption) | (with_reducible apply blk_set) | ((with_reducible apply blk_far); rotate_left; (first | omega | (simp <;> omega)); rotate_right) | (with_reducible apply blk_drew) | (with_reducible apply blk_drewN) | ((with_reducible apply heap_new'); (first | rfl | (simp <;> fail))) | (with_reducible apply blk_alloc))); (first | with_reducible rfl | (simp <;> fail) | rfl))
  have p1 : V3.heap[w.heap.size + 1]? = some (.cells #[.int .i64 0, .int .i64 0, .int .i64 0, .int .i64 0, .bool false, .int .i64 0, .int .i64 0, .slice none 0 0, .int .i64 0, .slice none 0 0, .slice none 0 0] 29 (0, 0)) := by rw [← hV0]; exact (by repeat (first | (with_reducible assumption) | ((with_reducible apply blk_far); rotate_left; (first | omega | (simp <;> omega)); rotate_right) | (with_reducible apply blk_drew) | (with_reducible apply blk_drewN) | (with_reducible exact heap_new _ _) | ((with_reducible apply heap_new'); (first | rfl | (simp <;> fail))) | (with_reducible apply blk_alloc)))
  have hsz3 : V3.heap.size = w1.heap.size := by rw [← hV0]; simp [World.setCell]
  have hb3 := HB1.out
  have hB3V : Below w.heap.size w V3 := by rw [← hV0]; exact (by repeat (first | (with_reducible exact Below.refl _ _) | (with_reducible refine Below.drew ?_) | (with_reducible refine below_drewN ?_ _) | ((with_reducible refine Below.alloc ?_ ?_ _); rotate_left; (first | omega | (simp <;> omega)); rotate_right) | ((with_reducible refine Below.setCell ?_ ?_ _); rotate_left; (first | omega | (simp <;> omega)); rotate_right) | (with_reducible assumption) | (refine Below.trans ?_ (Below.mono (by assumption) ?_); rotate_left; (first | omega | (simp <;> omega)); rotate_right)))
  have hKV3 : Keeps (fun i => i = w.heap.size) w1 V3 := by rw [← hV0]; (repeat (first | with_reducible exact Keeps.refl _ _ | (with_reducible refine Keeps.set1 ?_ _ _) | (with_reducible refine Keeps.drew ?_) | (with_reducible refine Keeps.drewN ?_ _) | (with_reducible refine Keeps.alloc ?_ _)))
  clear hV0 hb3
  generalize hV : World.alloc _ _ = V4
  have q0 : V4.heap[w.heap.size]? = some (.cells #[.int .i64 s.again, .int .i64 (Stn.given 4), .int .i64 now, .int .i64 ((s.seq + 1) % 65536), .bool s.some, .int .i64 s.prog, .int .i64 4, .slice none 0 0, .int .i64 now, .slice (some ⟨w1.heap.size, 0, none⟩) s.n s.n, .slice S s.n sc] 29 (0, 0)) := by rw [← hV]; exact blk_alloc p0 _
  have q1 : V4.heap[w.heap.size + 1]? = some (.cells #[.int .i64 0, .int .i64 0, .int .i64 0, .int .i64 0, .bool false, .int .i64 0, .int .i64 0, .slice none 0 0, .int .i64 0, .slice none 0 0, .slice none 0 0] 29 (0, 0)) := by rw [← hV]; exact blk_alloc p1 _
  have HV4 := Lib.hid (show Below w.heap.size w V4 from by rw [← hV]; exact hB3V.alloc hB3V.size _)
  have HKV := Lib.hid (show Keeps (fun i => i = w.heap.size) w1 V4 from by rw [← hV]; exact hKV3.alloc _)
  have q2 : V4.heap[w1.heap.size]? = some (.cells (madeCells #[.bool false] s.n) 4 (0, 0)) := by rw [← hV]; exact heap_new' _ _ _ hsz3.symm
  clear p0 p1 hsz3 hB3V hKV3
  have J0 := Lib.hid j0
  clear ca_0 fa_0 ca_1 fa_1 ca_2 fa_2 ca_3 fa_3 ca_4 fa_4 ca_5 fa_5 ca_6 fa_6 ca_7 fa_7 ca_8 fa_8 ca_9 fa_9 ca_10 fa_10
  clear cb_0 fb_0 cb_1 fb_1 cb_2 fb_2 cb_3 fb_3 cb_4 fb_4 cb_5 fb_5 cb_6 fb_6 cb_7 fb_7 cb_8 fb_8 cb_9 fb_9 cb_10 fb_10
  clear la lb hV j0 j1
  have hAr : Row V4 0 4 1 (some ⟨w1.heap.size, 0, none⟩) s.n s.n (bools (List.replicate s.n false)) := Row.of_block q2 (Nat.zero_le _) (Nat.le_refl _) (by unfold maxLen; omega) (by rw [size_madeCells]; simp) (by rw [List.drop_zero, made_bools, List.take_of_length_le (by simp [bools])])
  have HAR := Lib.hid hAr
  have HDR := Lib.hid (show Row V4 0 5 1 none 0 0 (bv []) from Row.nil _ _ _ _)
  have HQ2 := Lib.hid q2
  clear hAr q2
  have ca_0 := blk_cell q0 0 rfl; have fa_0 := blk_free q0 0; have ca_1 := blk_cell q0 1 rfl; have fa_1 := blk_free q0 1; have ca_2 := blk_cell q0 2 rfl; have fa_2 := blk_free q0 2; have ca_3 := blk_cell q0 3 rfl; have fa_3 := blk_free q0 3; have ca_4 := blk_cell q0 4 rfl; have fa_4 := blk_free q0 4; have ca_5 := blk_cell q0 5 rfl; have fa_5 := blk_free q0 5; have ca_6 := blk_cell q0 6 rfl; have fa_6 := blk_free q0 6; have ca_7 := blk_cell q0 7 rfl; have fa_7 := blk_free q0 7; have ca_8 := blk_cell q0 8 rfl; have fa_8 := blk_free q0 8; have ca_9 := blk_cell q0 9 rfl; have fa_9 := blk_free q0 9; have ca_10 := blk_cell q0 10 rfl; have fa_10 := blk_free q0 10; have la := lt_of_block q0
  have cb_0 := blk_cell q1 0 rfl; have fb_0 := blk_free q1 0; have cb_1 := blk_cell q1 1 rfl; have fb_1 := blk_free q1 1; have cb_2 := blk_cell q1 2 rfl; have fb_2 := blk_free q1 2; have cb_3 := blk_cell q1 3 rfl; have fb_3 := blk_free q1 3; have cb_4 := blk_cell q1 4 rfl; have fb_4 := blk_free q1 4; have cb_5 := blk_cell q1 5 rfl; have fb_5 := blk_free q1 5; have cb_6 := blk_cell q1 6 rfl; have fb_6 := blk_free q1 6; have cb_7 := blk_cell q1 7 rfl; have fb_7 := blk_free q1 7; have cb_8 := blk_cell q1 8 rfl; have fb_8 := blk_free q1 8; have cb_9 := blk_cell q1 9 rfl; have fb_9 := blk_free q1 9; have cb_10 := blk_cell q1 10 rfl; have fb_10 := blk_free q1 10; have lb := lt_of_block q1
  go_region_held3 (fun w' => w'.cell? ⟨w.heap.size, 0, none⟩ = some (.int .i64 s.again) ∧ w'.cell? ⟨w.heap.size, 1, none⟩ = some (.int .i64 (Stn.given 4)) ∧ w'.cell? ⟨w.heap.size, 2, none⟩ = some (.int .i64 now) ∧ w'.cell? ⟨w.heap.size, 3, none⟩ = some (.int .i64 ((s.seq + 1) % 65536)) ∧ w'.cell? ⟨w.heap.size, 4, none⟩ = some (.bool s.some) ∧ w'.cell? ⟨w.heap.size, 5, none⟩ = some (.int .i64 s.prog) ∧ w'.cell? ⟨w.heap.size, 6, none⟩ = some (.int .i64 4) ∧ w'.cell? ⟨w.heap.size, 7, none⟩ = some (.slice none 0 0) ∧ w'.cell? ⟨w.heap.size, 8, none⟩ = some (.int .i64 now) ∧ w'.cell? ⟨w.heap.size, 9, none⟩ = some (.slice (some ⟨w1.heap.size, 0, none⟩) s.n s.n) ∧ w'.cell? ⟨w.heap.size, 10, none⟩ = some (.slice S s.n sc)) (first | (refine ⟨?_, ?_, ?_, ?_, ?_, ?_, ?_, ?_, ?_, ?_, ?_⟩ <;> simp [go_sem, *]; done) | go_keep) (first | (go_at_call 57; refine (FR.out _ _ _ _ _ (by first | exact HDR.out | exact HDR.out.drew) (by first | exact HAR.out | exact HAR.out.drew) (by intro y hy; cases hy)).mono ?_; rintro e w5 ⟨v, rfl, hR, hb5⟩; have p0 := blk_below (q := w.heap.size) (by repeat (first | (with_reducible assumption) | ((with_reducible apply blk_far); rotate_left; (first | omega | (simp <;> omega)); rotate_right) | (with_reducible apply blk_drew) | (with_reducible apply blk_drewN) | (with_reducible exact heap_new _ _) | ((with_reducible apply heap_new'); (first | rfl | (simp <;> fail))) | (with_reducible apply blk_alloc))) hb5 (by first | omega | (simp; done) | (simp; omega)); have p1 := blk_below (q := w.heap.size + 1) (by repeat (first | (with_reducible assumption) | ((with_reducible apply blk_far); rotate_left; (first | omega | (simp <;> omega)); rotate_right) | (with_reducible apply blk_drew) | (with_reducible apply blk_drewN) | (with_reducible exact heap_new _ _) | ((with_reducible apply heap_new'); (first | rfl | (simp <;> fail))) | (with_reducible apply blk_alloc))) hb5 (by first | omega | (simp; done) | (simp; omega)); have HR := Lib.hid hR; have HB54 := Lib.hid (show Below V4.heap.size V4 w5 from (by repeat (first | (with_reducible exact Below.refl _ _) | (with_reducible refine Below.drew ?_) | (with_reducible refine below_drewN ?_ _) | ((with_reducible refine Below.alloc ?_ ?_ _); rotate_left; (first | omega | (simp <;> omega)); rotate_right) | ((with_reducible refine Below.setCell ?_ ?_ _); rotate_left; (first | omega | (simp <;> omega)); rotate_right) | (with_reducible assumption) | (refine Below.trans ?_ (Below.mono (by assumption) ?_); rotate_left; (first | omega | (simp <;> omega)); rotate_right)))); have hv4 := HV4.out; have HB5 := Lib.hid (show Below w.heap.size w w5 from (by repeat (first | (with_reducible exact Below.refl _ _) | (with_reducible refine Below.drew ?_) | (with_reducible refine below_drewN ?_ _) | ((with_reducible refine Below.alloc ?_ ?_ _); rotate_left; (first | omega | (simp <;> omega)); rotate_right) | ((with_reducible refine Below.setCell ?_ ?_ _); rotate_left; (first | omega | (simp <;> omega)); rotate_right) | (with_reducible assumption) | (refine Below.trans ?_ (Below.mono (by assumption) ?_); rotate_left; (first | omega | (simp <;> omega)); rotate_right)))); have hsv : w.heap.size ≤ V4.heap.size := HV4.out.size; have HRR := Lib.hid (HR.out.more (base' := w.heap.size) (by first | exact hsv | (simp; omega))); (have ce_0 := blk_cell p0 0 rfl; have fe_0 := blk_free p0 0; have ce_1 := blk_cell p0 1 rfl; have fe_1 := blk_free p0 1; have ce_2 := blk_cell p0 2 rfl; have fe_2 := blk_free p0 2; have ce_3 := blk_cell p0 3 rfl; have fe_3 := blk_free p0 3; have ce_4 := blk_cell p0 4 rfl; have fe_4 := blk_free p0 4; have ce_5 := blk_cell p0 5 rfl; have fe_5 := blk_free p0 5; have ce_6 := blk_cell p0 6 rfl; have fe_6 := blk_free p0 6; have ce_7 := blk_cell p0 7 rfl; have fe_7 := blk_free p0 7; have ce_8 := blk_cell p0 8 rfl; have fe_8 := blk_free p0 8; have ce_9 := blk_cell p0 9 rfl; have fe_9 := blk_free p0 9; have ce_10 := blk_cell p0 10 rfl; have fe_10 := blk_free p0 10; have le := lt_of_block p0); (have cg_0 := blk_cell p1 0 rfl; have fg_0 := blk_free p1 0; have cg_1 := blk_cell p1 1 rfl; have fg_1 := blk_free p1 1; have cg_2 := blk_cell p1 2 rfl; have fg_2 := blk_free p1 2; have cg_3 := blk_cell p1 3 rfl; have fg_3 := blk_free p1 3; have cg_4 := blk_cell p1 4 rfl; have fg_4 := blk_free p1 4; have cg_5 := blk_cell p1 5 rfl; have fg_5 := blk_free p1 5; have cg_6 := blk_cell p1 6 rfl; have fg_6 := blk_free p1 6; have cg_7 := blk_cell p1 7 rfl; have fg_7 := blk_free p1 7; have cg_8 := blk_cell p1 8 rfl; have fg_8 := blk_free p1 8; have cg_9 := blk_cell p1 9 rfl; have fg_9 := blk_free p1 9; have cg_10 := blk_cell p1 10 rfl; have fg_10 := blk_free p1 10; have lg := lt_of_block p1); clear hR hb5 hv4))
  go_wp2_with fail
  generalize hWf : World.setCell _ _ _ = Wf
  have hf : Wf.heap[w.heap.size + 1]? = some (.cells #[.int .i64 s.again, .int .i64 (Stn.given 4), .int .i64 now, .int .i64 ((s.seq + 1) % 65536), .bool s.some, .int .i64 s.prog, .int .i64 4, .slice none 0 0, .int .i64 now, .slice (some ⟨w1.heap.size, 0, none⟩) s.n s.n, .slice S s.n sc] 29 (0, 0)) := by rw [← hWf]; exact (by apply Eq.trans; (repeat (first | (with_reducible assumption) | (with_reducible apply blk_set) | ((with_reducible apply blk_far); rotate_left; (first | omega | (simp <;> omega)); rotate_right) | (with_reducible apply blk_drew) | (with_reducible apply blk_drewN) | ((with_reducible apply heap_new'); (first | rfl | (simp <;> fail))) | (with_reducible apply blk_alloc))); (first | with_reducible rfl | (simp <;> fail) | rfl))
  have hK : Keeps (fun i => i = w.heap.size + 1) w5 Wf := by rw [← hWf]; (repeat (first | with_reducible exact Keeps.refl _ _ | (with_reducible refine Keeps.set1 ?_ _ _) | (with_reducible refine Keeps.drew ?_) | (with_reducible refine Keeps.drewN ?_ _) | (with_reducible refine Keeps.alloc ?_ _)))
  clear hWf
  clear ca_0 fa_0 ca_1 fa_1 ca_2 fa_2 ca_3 fa_3 ca_4 fa_4 ca_5 fa_5 ca_6 fa_6 ca_7 fa_7 ca_8 fa_8 ca_9 fa_9 ca_10 fa_10
  clear cb_0 fb_0 cb_1 fb_1 cb_2 fb_2 cb_3 fb_3 cb_4 fb_4 cb_5 fb_5 cb_6 fb_6 cb_7 fb_7 cb_8 fb_8 cb_9 fb_9 cb_10 fb_10
  clear ce_0 fe_0 ce_1 fe_1 ce_2 fe_2 ce_3 fe_3 ce_4 fe_4 ce_5 fe_5 ce_6 fe_6 ce_7 fe_7 ce_8 fe_8 ce_9 fe_9 ce_10 fe_10
  clear cg_0 fg_0 cg_1 fg_1 cg_2 fg_2 cg_3 fg_3 cg_4 fg_4 cg_5 fg_5 cg_6 fg_6 cg_7 fg_7 cg_8 fg_8 cg_9 fg_9 cg_10 fg_10
  clear la lb le lg
  have cm_0 := blk_cell hf 0 rfl; have fm_0 := blk_free hf 0; have cm_1 := blk_cell hf 1 rfl; have fm_1 := blk_free hf 1; have cm_2 := blk_cell hf 2 rfl; have fm_2 := blk_free hf 2; have cm_3 := blk_cell hf 3 rfl; have fm_3 := blk_free hf 3; have cm_4 := blk_cell hf 4 rfl; have fm_4 := blk_free hf 4; have cm_5 := blk_cell hf 5 rfl; have fm_5 := blk_free hf 5; have cm_6 := blk_cell hf 6 rfl; have fm_6 := blk_free hf 6; have cm_7 := blk_cell hf 7 rfl; have fm_7 := blk_free hf 7; have cm_8 := blk_cell hf 8 rfl; have fm_8 := blk_free hf 8; have cm_9 := blk_cell hf 9 rfl; have fm_9 := blk_free hf 9; have cm_10 := blk_cell hf 10 rfl; have fm_10 := blk_free hf 10; have lm := lt_of_block hf
  have hTy : ∀ i : Nat, i = w.heap.size + 1 → i < w5.heap.size → Ty w5 i 29 := fun i hi _ => by rw [hi]; exact ⟨_, p1⟩
  refine bodyPost_ret (v := .tuple #[.agg #[.int .i64 s.again, .int .i64 (Stn.given 4), .int .i64 now, .int .i64 ((s.seq + 1) % 65536), .bool s.some, .int .i64 s.prog, .int .i64 4, .slice none 0 0, .int .i64 now, .slice (some ⟨w1.heap.size, 0, none⟩) s.n s.n, .slice S s.n sc], v, .int .i64 0]) (by simp [results, Try.results36, go_sem, cm_0, cm_1, cm_2, cm_3, cm_4, cm_5, cm_6, cm_7, cm_8, cm_9, cm_10]) rfl ⟨v, none, 0, some ⟨w1.heap.size, 0, none⟩, s.n, S, sc, ?_, ?_, ?_, ?_, ?_⟩
  · unfold rsl
    rw [HDT.out]
    simp [Stn.give0, Frm.num4]
  · have hq : IsR w5 none 0 (some ⟨w1.heap.size, 0, none⟩) s.n S sc (Stn.give0 s 4 now x) := ⟨by rw [HDT.out]; exact HDR.out.below HB54.out (Nat.le_refl _), HAR.out.below HB54.out (Nat.le_refl _), H.out.sr.below HB5.out (Nat.le_refl _)⟩
    exact hq.keptT hK (fun i hi hl => ⟨_, hTy i hi hl, by decide, by decide, by decide⟩)
  · exact HRR.out.keptT hK (fun i hi hl => ⟨_, hTy i hi hl, by decide, by decide⟩)
  · exact HB5.out.trans (hK.below (fun i _ hi => by omega) HB5.out.size)
  · intro g hg
    cases hg
theorem rgive_5 (s : Stn.St) (hs : Stn.Inv s) (D : Option Addr) (dl dc : Nat) (A : Option Addr) (ac : Nat) (S : Option Addr) (sc : Nat) (now x : Int) (w : World) (h : IsR w D dc A ac S sc s) (he : Stn.giveE s 5 now x = 0) :
    Calls Try.prog 36 #[.agg #[.int .i64 s.again, .int .i64 s.st, .int .i64 s.now, .int .i64 s.seq, .bool s.some, .int .i64 s.prog, .int .i64 s.cmd, .slice D dl dc, .int .i64 s.sent, .slice A s.n ac, .slice S s.n sc], .int .i64 5, .int .i64 now, .int .i64 x] w (RPost D (Stn.give0 s 5 now x) (Stn.frames (Stn.give0 s 5 now x)) 0 w) := by
  obtain ⟨g1, ht, g3, hm⟩ := giveE_ok he
  have TM := Lib.hid (fun W : World => rtime_any s D dl dc A s.n ac S s.n sc now W)
  rw [ht] at TM
  have MY := Lib.hid (fun W : World => rmay_any 5 s.st W (by omega) hs.st)
  rw [hm] at MY
  have AF := Lib.hid (fun W : World => rafter_any 5 W)
  have hi' : Stn.Inv (Stn.give0 s 5 now x) := by
    have := Stn.inv_give (k := 5) (now := now) (x := x) hs (by omega)
    unfold Stn.give at this
    rw [if_pos he] at this
    exact this
  have hdt : Stn.data (Stn.give0 s 5 now x) = ([] : List Int) := by simp [Stn.data, Stn.give0]
  have FR := Lib.hid (fun (D3 : Option Addr) (dc3 : Nat) (A3 : Option Addr) (ac3 : Nat) (W : World) (hd : Row W 0 5 1 D3 0 dc3 (bv (([] : List Int)))) (ha : Row W 0 4 1 A3 s.n ac3 (bools (List.replicate s.n false))) (hby : By (([] : List Int))) => show Calls Try.prog 57 #[.agg #[.int .i64 s.again, .int .i64 (Stn.given 5), .int .i64 now, .int .i64 ((s.seq + 1) % 65536), .bool s.some, .int .i64 s.prog, .int .i64 5, .slice D3 0 dc3, .int .i64 now, .slice A3 s.n ac3, .slice S s.n sc]] W fun e w' => ∃ v, e = .returned v ∧ Rof w' W.heap.size v (Stn.frames (Stn.give0 s 5 now x)) ∧ Below W.heap.size W w' from by
    have := rframes_any (Stn.give0 s 5 now x) hi' (by show (5 : Int) ≠ 0; decide) D3 0 dc3 A3 ac3 S s.n sc W (by rw [hdt]; rfl) (by rw [hdt]; exact hd) ha (by rw [hdt]; exact hby) (by omega)
    simpa [Stn.give0] using this)
  have hmk : ∀ W : World, (Instr.makeSlice 26 (.int .i64 (s.n : Int)) (.int .i64 (s.n : Int))).run Try.prog W = .ok (.slice (some ⟨W.heap.size, 0, none⟩) s.n s.n) (W.alloc (.cells (madeCells #[.bool false] s.n) 4)) := fun W => by
    obtain ⟨i2, hm0, hm1, hm2, hm3⟩ := info_parts info_bool
    have := run_make (P := Try.prog) W 26 4 i2 _ Try.underlying26 hm0 hm1 .i64 .i64 s.n s.n (by omega) (Int.le_refl _) (by rw [hm3]; have := hs.n; omega) (by have := hs.n; omega)
    rw [hm2, Int.toNat_natCast, Nat.mul_one] at this
    exact this
  have H := Lib.hid h
  have hsq := hs.seq
  have hn := hs.n
  have HDT := Lib.hid hdt
  clear h hs ht hm he hi' g1 g3 hdt  
  go_enter Try.func36, Try.ntmps36
  go_wp2_with fail
  generalize hV : World.alloc _ _ = V
  have k0 : V.heap[w.heap.size]? = some (.cells #[.int .i64 s.again, .int .i64 s.st, .int .i64 s.now, .int .i64 s.seq, .bool s.some, .int .i64 s.prog, .int .i64 s.cmd, .slice D dl dc, .int .i64 s.sent, .slice A s.n ac, .slice S s.n sc] 29 (0, 0)) := by rw [← hV]; exact blk_alloc (heap_new _ _) _
  have k1 : V.heap[w.heap.size + 1]? = some (.cells #[.int .i64 0, .int .i64 0, .int .i64 0, .int .i64 0, .bool false, .int .i64 0, .int .i64 0, .slice none 0 0, .int .i64 0, .slice none 0 0, .slice none 0 0] 29 (0, 0)) := by rw [← hV]; exact heap_new' _ _ _ (by simp)
  have HB := Lib.hid (show Below w.heap.size w V from by rw [← hV]; exact (by repeat (first | (with_reducible exact Below.refl _ _) | (with_reducible refine Below.drew ?_) | (with_reducible refine below_drewN ?_ _) | ((with_reducible refine Below.alloc ?_ ?_ _); rotate_left; (first | omega | (simp <;> omega)); rotate_right) | ((with_reducible refine Below.setCell ?_ ?_ _); rotate_left; (first | omega | (simp <;> omega)); rotate_right) | (with_reducible assumption) | (refine Below.trans ?_ (Below.mono (by assumption) ?_); rotate_left; (first | omega | (simp <;> omega)); rotate_right))))
  clear hV
  refine (TM.out _).mono ?_
  rintro e w1 ⟨rfl, hB1⟩
  have j0 := blk_below k0 hB1 (lt_of_block k0)
  have j1 := blk_below k1 hB1 (lt_of_block k1)
  have HB1 := Lib.hid (HB.out.trans (hB1.mono (by have := HB.out.size; omega)))
  have hz1 : w.heap.size + 2 ≤ w1.heap.size := by have := lt_of_block j1; omega
  clear k0 k1 hB1
  have ca_0 := blk_cell j0 0 rfl; have fa_0 := blk_free j0 0; have ca_1 := blk_cell j0 1 rfl; have fa_1 := blk_free j0 1; have ca_2 := blk_cell j0 2 rfl; have fa_2 := blk_free j0 2; have ca_3 := blk_cell j0 3 rfl; have fa_3 := blk_free j0 3; have ca_4 := blk_cell j0 4 rfl; have fa_4 := blk_free j0 4; have ca_5 := blk_cell j0 5 rfl; have fa_5 := blk_free j0 5; have ca_6 := blk_cell j0 6 rfl; have fa_6 := blk_free j0 6; have ca_7 := blk_cell j0 7 rfl; have fa_7 := blk_free j0 7; have ca_8 := blk_cell j0 8 rfl; have fa_8 := blk_free j0 8; have ca_9 := blk_cell j0 9 rfl; have fa_9 := blk_free j0 9; have ca_10 := blk_cell j0 10 rfl; have fa_10 := blk_free j0 10; have la := lt_of_block j0
  have cb_0 := blk_cell j1 0 rfl; have fb_0 := blk_free j1 0; have cb_1 := blk_cell j1 1 rfl; have fb_1 := blk_free j1 1; have cb_2 := blk_cell j1 2 rfl; have fb_2 := blk_free j1 2; have cb_3 := blk_cell j1 3 rfl; have fb_3 := blk_free j1 3; have cb_4 := blk_cell j1 4 rfl; have fb_4 := blk_free j1 4; have cb_5 := blk_cell j1 5 rfl; have fb_5 := blk_free j1 5; have cb_6 := blk_cell j1 6 rfl; have fb_6 := blk_free j1 6; have cb_7 := blk_cell j1 7 rfl; have fb_7 := blk_free j1 7; have cb_8 := blk_cell j1 8 rfl; have fb_8 := blk_free j1 8; have cb_9 := blk_cell j1 9 rfl; have fb_9 := blk_free j1 9; have cb_10 := blk_cell j1 10 rfl; have fb_10 := blk_free j1 10; have lb := lt_of_block j1
  go_wp2_with fail
  refine (MY.out _).mono ?_
  rintro e w' ⟨rfl, rfl⟩
  go_wp2_with fail
  refine (AF.out _).mono ?_
  rintro e w' ⟨rfl, rfl⟩
  go_wp2_with fail
  generalize hV0 : World.setCell _ _ _ = V3
  have p0 : V3.heap[w.heap.size]? = some (.cells #[.int .i64 s.again, .int .i64 (Stn.given 5), .int .i64 now, .int .i64 ((s.seq + 1) % 65536), .bool s.some, .int .i64 s.prog, .int .i64 5, .slice none 0 0, .int .i64 now, .slice (some ⟨w1.heap.size, 0, none⟩) s.n s.n, .slice S s.n sc] 29 (0, 0)) := by rw [← hV0]; exact (by apply Eq.trans; (repeat (first | (with_reducible assumption) | (with_reducible apply blk_set) | ((with_reducible apply blk_far); rotate_left; (first | omega | (simp <;> omega)); rotate_right) | (with_reducible apply blk_drew) | (with_reducible apply blk_drewN) | ((with_reducible apply heap_new'); (first | rfl | (simp <;> fail))) | (with_reducible apply blk_alloc))); (first | with_reducible rfl | (simp <;> fail) | rfl))
  have p1 : V3.heap[w.heap.size + 1]? = some (.cells #[.int .i64 0, .int .i64 0, .int .i64 0, .int .i64 0, .bool false, .int .i64 0, .int .i64 0, .slice none 0 0, .int .i64 0, .slice none 0 0, .slice none 0 0] 29 (0, 0)) := by rw [← hV0]; exact (by repeat (first | (with_reducible assumption) | ((with_reducible apply blk_far); rotate_left; (first | omega | (simp <;> omega)); rotate_right) | (with_reducible apply blk_drew) | (with_reducible apply blk_drewN) | (with_reducible exact heap_new _ _) | ((with_reducible apply heap_new'); (first | rfl | (simp <;> fail))) | (with_reducible apply blk_alloc)))
  have hsz3 : V3.heap.size = w1.heap.size := by rw [← hV0]; simp [World.setCell]
  have hb3 := HB1.out
  have hB3V : Below w.heap.size w V3 := by rw [← hV0]; exact (by repeat (first | (with_reducible exact Below.refl _ _) | (with_reducible refine Below.drew ?_) | (with_reducible refine below_drewN ?_ _) | ((with_reducible refine Below.alloc ?_ ?_ _); rotate_left; (first | omega | (simp <;> omega)); rotate_right) | ((with_reducible refine Below.setCell ?_ ?_ _); rotate_left; (first | omega | (simp <;> omega)); rotate_right) | (with_reducible assumption) | (refine Below.trans ?_ (Below.mono (by assumption) ?_); rotate_left; (first | omega | (simp <;> omega)); rotate_right)))
  have hKV3 : Keeps (fun i => i = w.heap.size) w1 V3 := by rw [← hV0]; (repeat (first | with_reducible exact Keeps.refl _ _ | (with_reducible refine Keeps.set1 ?_ _ _) | (with_reducible refine Keeps.drew ?_) | (with_reducible refine Keeps.drewN ?_ _) | (with_reducible refine Keeps.alloc ?_ _)))
  clear hV0 hb3
  generalize hV : World.alloc _ _ = V4
  have q0 : V4.heap[w.heap.size]? = some (.cells #[.int .i64 s.again, .int .i64 (Stn.given 5), .int .i64 now, .int .i64 ((s.seq + 1) % 65536), .bool s.some, .int .i64 s.prog, .int .i64 5, .slice none 0 0, .int .i64 now, .slice (some ⟨w1.heap.size, 0, none⟩) s.n s.n, .slice S s.n sc] 29 (0, 0)) := by rw [← hV]; exact blk_alloc p0 _
  have q1 : V4.heap[w.heap.size + 1]? = some (.cells #[.int .i64 0, .int .i64 0, .int .i64 0, .int .i64 0, .bool false, .int .i64 0, .int .i64 0, .slice none 0 0, .int .i64 0, .slice none 0 0, .slice none 0 0] 29 (0, 0)) := by rw [← hV]; exact blk_alloc p1 _
  have HV4 := Lib.hid (show Below w.heap.size w V4 from by rw [← hV]; exact hB3V.alloc hB3V.size _)
  have HKV := Lib.hid (show Keeps (fun i => i = w.heap.size) w1 V4 from by rw [← hV]; exact hKV3.alloc _)
  have q2 : V4.heap[w1.heap.size]? = some (.cells (madeCells #[.bool false] s.n) 4 (0, 0)) := by rw [← hV]; exact heap_new' _ _ _ hsz3.symm
  clear p0 p1 hsz3 hB3V hKV3
  have J0 := Lib.hid j0
  clear ca_0 fa_0 ca_1 fa_1 ca_2 fa_2 ca_3 fa_3 ca_4 fa_4 ca_5 fa_5 ca_6 fa_6 ca_7 fa_7 ca_8 fa_8 ca_9 fa_9 ca_10 fa_10
  clear cb_0 fb_0 cb_1 fb_1 cb_2 fb_2 cb_3 fb_3 cb_4 fb_4 cb_5 fb_5 cb_6 fb_6 cb_7 fb_7 cb_8 fb_8 cb_9 fb_9 cb_10 fb_10
  clear la lb hV j0 j1
  have hAr : Row V4 0 4 1 (some ⟨w1.heap.size, 0, none⟩) s.n s.n (bools (List.replicate s.n false)) := Row.of_block q2 (Nat.zero_le _) (Nat.le_refl _) (by unfold maxLen; omega) (by rw [size_madeCells]; simp) (by rw [List.drop_zero, made_bools, List.take_of_length_le (by simp [bools])])
  have HAR := Lib.hid hAr
  have HDR := Lib.hid (show Row V4 0 5 1 none 0 0 (bv []) from Row.nil _ _ _ _)
  have HQ2 := Lib.hid q2
  clear hAr q2
  have ca_0 := blk_cell q0 0 rfl; have fa_0 := blk_free q0 0; have ca_1 := blk_cell q0 1 rfl; have fa_1 := blk_free q0 1; have ca_2 := blk_cell q0 2 rfl; have fa_2 := blk_free q0 2; have ca_3 := blk_cell q0 3 rfl; have fa_3 := blk_free q0 3; have ca_4 := blk_cell q0 4 rfl; have fa_4 := blk_free q0 4; have ca_5 := blk_cell q0 5 rfl; have fa_5 := blk_free q0 5; have ca_6 := blk_cell q0 6 rfl; have fa_6 := blk_free q0 6; have ca_7 := blk_cell q0 7 rfl; have fa_7 := blk_free q0 7; have ca_8 := blk_cell q0 8 rfl; have fa_8 := blk_free q0 8; have ca_9 := blk_cell q0 9 rfl; have fa_9 := blk_free q0 9; have ca_10 := blk_cell q0 10 rfl; have fa_10 := blk_free q0 10; have la := lt_of_block q0
  have cb_0 := blk_cell q1 0 rfl; have fb_0 := blk_free q1 0; have cb_1 := blk_cell q1 1 rfl; have fb_1 := blk_free q1 1; have cb_2 := blk_cell q1 2 rfl; have fb_2 := blk_free q1 2; have cb_3 := blk_cell q1 3 rfl; have fb_3 := blk_free q1 3; have cb_4 := blk_cell q1 4 rfl; have fb_4 := blk_free q1 4; have cb_5 := blk_cell q1 5 rfl; have fb_5 := blk_free q1 5; have cb_6 := blk_cell q1 6 rfl; have fb_6 := blk_free q1 6; have cb_7 := blk_cell q1 7 rfl; have fb_7 := blk_free q1 7; have cb_8 := blk_cell q1 8 rfl; have fb_8 := blk_free q1 8; have cb_9 := blk_cell q1 9 rfl; have fb_9 := blk_free q1 9; have cb_10 := blk_cell q1 10 rfl; have fb_10 := blk_free q1 10; have lb := lt_of_block q1
  go_region_held3 (fun w' => w'.cell? ⟨w.heap.size, 0, none⟩ = some (.int .i64 s.again) ∧ w'.cell? ⟨w.heap.size, 1, none⟩ = some (.int .i64 (Stn.given 5)) ∧ w'.cell? ⟨w.heap.size, 2, none⟩ = some (.int .i64 now) ∧ w'.cell? ⟨w.heap.size, 3, none⟩ = some (.int .i64 ((s.seq + 1) % 65536)) ∧ w'.cell? ⟨w.heap.size, 4, none⟩ = some (.bool s.some) ∧ w'.cell? ⟨w.heap.size, 5, none⟩ = some (.int .i64 s.prog) ∧ w'.cell? ⟨w.heap.size, 6, none⟩ = some (.int .i64 5) ∧ w'.cell? ⟨w.heap.size, 7, none⟩ = some (.slice none 0 0) ∧ w'.cell? ⟨w.heap.size, 8, none⟩ = some (.int .i64 now) ∧ w'.cell? ⟨w.heap.size, 9, none⟩ = some (.slice (some ⟨w1.heap.size, 0, none⟩) s.n s.n) ∧ w'.cell? ⟨w.heap.size, 10, none⟩ = some (.slice S s.n sc)) (first | (refine ⟨?_, ?_, ?_, ?_, ?_, ?_, ?_, ?_, ?_, ?_, ?_⟩ <;> simp [go_sem, *]; done) | go_keep) (first | (go_at_call 57; refine (FR.out _ _ _ _ _ (by first | exact HDR.out | exact HDR.out.drew) (by first | exact HAR.out | exact HAR.out.drew) (by intro y hy; cases hy)).mono ?_; rintro e w5 ⟨v, rfl, hR, hb5⟩; have p0 := blk_below (q := w.heap.size) (by repeat (first | (with_reducible assumption) | ((with_reducible apply blk_far); rotate_left; (first | omega | (simp <;> omega)); rotate_right) | (with_reducible apply blk_drew) | (with_reducible apply blk_drewN) | (with_reducible exact heap_new _ _) | ((with_reducible apply heap_new'); (first | rfl | (simp <;> fail))) | (with_reducible apply blk_alloc))) hb5 (by first | omega | (simp; done) | (simp; omega)); have p1 := blk_below (q := w.heap.size + 1) (by repeat (first | (with_reducible assumption) | ((with_reducible apply blk_far); rotate_left; (first | omega | (simp <;> omega)); rotate_right) | (with_reducible apply blk_drew) | (with_reducible apply blk_drewN) | (with_reducible exact heap_new _ _) | ((with_reducible apply heap_new'); (first | rfl | (simp <;> fail))) | (with_reducible apply blk_alloc))) hb5 (by first | omega | (simp; done) | (simp; omega)); have HR := Lib.hid hR; have HB54 := Lib.hid (show Below V4.heap.size V4 w5 from (by repeat (first | (with_reducible exact Below.refl _ _) | (with_reducible refine Below.drew ?_) | (with_reducible refine below_drewN ?_ _) | ((with_reducible refine Below.alloc ?_ ?_ _); rotate_left; (first | omega | (simp <;> omega)); rotate_right) | ((with_reducible refine Below.setCell ?_ ?_ _); rotate_left; (first | omega | (simp <;> omega)); rotate_right) | (with_reducible assumption) | (refine Below.trans ?_ (Below.mono (by assumption) ?_); rotate_left; (first | omega | (simp <;> omega)); rotate_right)))); have hv4 := HV4.out; have HB5 := Lib.hid (show Below w.heap.size w w5 from (by repeat (first | (with_reducible exact Below.refl _ _) | (with_reducible refine Below.drew ?_) | (with_reducible refine below_drewN ?_ _) | ((with_reducible refine Below.alloc ?_ ?_ _); rotate_left; (first | omega | (simp <;> omega)); rotate_right) | ((with_reducible refine Below.setCell ?_ ?_ _); rotate_left; (first | omega | (simp <;> omega)); rotate_right) | (with_reducible assumption) | (refine Below.trans ?_ (Below.mono (by assumption) ?_); rotate_left; (first | omega | (simp <;> omega)); rotate_right)))); have hsv : w.heap.size ≤ V4.heap.size := HV4.out.size; have HRR := Lib.hid (HR.out.more (base' := w.heap.size) (by first | exact hsv | (simp; omega))); (have ce_0 := blk_cell p0 0 rfl; have fe_0 := blk_free p0 0; have ce_1 := blk_cell p0 1 rfl; have fe_1 := blk_free p0 1; have ce_2 := blk_cell p0 2 rfl; have fe_2 := blk_free p0 2; have ce_3 := blk_cell p0 3 rfl; have fe_3 := blk_free p0 3; have ce_4 := blk_cell p0 4 rfl; have fe_4 := blk_free p0 4; have ce_5 := blk_cell p0 5 rfl; have fe_5 := blk_free p0 5; have ce_6 := blk_cell p0 6 rfl; have fe_6 := blk_free p0 6; have ce_7 := blk_cell p0 7 rfl; have fe_7 := blk_free p0 7; have ce_8 := blk_cell p0 8 rfl; have fe_8 := blk_free p0 8; have ce_9 := blk_cell p0 9 rfl; have fe_9 := blk_free p0 9; have ce_10 := blk_cell p0 10 rfl; have fe_10 := blk_free p0 10; have le := lt_of_block p0); (have cg_0 := blk_cell p1 0 rfl; have fg_0 := blk_free p1 0; have cg_1 := blk_cell p1 1 rfl; have fg_1 := blk_free p1 1; have cg_2 := blk_cell p1 2 rfl; have fg_2 := blk_free p1 2; have cg_3 := blk_cell p1 3 rfl; have fg_3 := blk_free p1 3; have cg_4 := blk_cell p1 4 rfl; have fg_4 := blk_free p1 4; have cg_5 := blk_cell p1 5 rfl; have fg_5 := blk_free p1 5; have cg_6 := blk_cell p1 6 rfl; have fg_6 := blk_free p1 6; have cg_7 := blk_cell p1 7 rfl; have fg_7 := blk_free p1 7; have cg_8 := blk_cell p1 8 rfl; have fg_8 := blk_free p1 8; have cg_9 := blk_cell p1 9 rfl; have fg_9 := blk_free p1 9; have cg_10 := blk_cell p1 10 rfl; have fg_10 := blk_free p1 10; have lg := lt_of_block p1); clear hR hb5 hv4))
  go_wp2_with fail
  generalize hWf : World.setCell _ _ _ = Wf
  have hf : Wf.heap[w.heap.size + 1]? = some (.cells #[.int .i64 s.again, .int .i64 (Stn.given 5), .int .i64 now, .int .i64 ((s.seq + 1) % 65536), .bool s.some, .int .i64 s.prog, .int .i64 5, .slice none 0 0, .int .i64 now, .slice (some ⟨w1.heap.size, 0, none⟩) s.n s.n, .slice S s.n sc] 29 (0, 0)) := by rw [← hWf]; exact (by apply Eq.trans; (repeat (first | (with_reducible assumption) | (with_reducible apply blk_set) | ((with_reducible apply blk_far); rotate_left; (first | omega | (simp <;> omega)); rotate_right) | (with_reducible apply blk_drew) | (with_reducible apply blk_drewN) | ((with_reducible apply heap_new'); (first | rfl | (simp <;> fail))) | (with_reducible apply blk_alloc))); (first | with_reducible rfl | (simp <;> fail) | rfl))
  have hK : Keeps (fun i => i = w.heap.size + 1) w5 Wf := by rw [← hWf]; (repeat (first | with_reducible exact Keeps.refl _ _ | (with_reducible refine Keeps.set1 ?_ _ _) | (with_reducible refine Keeps.drew ?_) | (with_reducible refine Keeps.drewN ?_ _) | (with_reducible refine Keeps.alloc ?_ _)))
  clear hWf
  clear ca_0 fa_0 ca_1 fa_1 ca_2 fa_2 ca_3 fa_3 ca_4 fa_4 ca_5 fa_5 ca_6 fa_6 ca_7 fa_7 ca_8 fa_8 ca_9 fa_9 ca_10 fa_10
  clear cb_0 fb_0 cb_1 fb_1 cb_2 fb_2 cb_3 fb_3 cb_4 fb_4 cb_5 fb_5 cb_6 fb_6 cb_7 fb_7 cb_8 fb_8 cb_9 fb_9 cb_10 fb_10
  clear ce_0 fe_0 ce_1 fe_1 ce_2 fe_2 ce_3 fe_3 ce_4 fe_4 ce_5 fe_5 ce_6 fe_6 ce_7 fe_7 ce_8 fe_8 ce_9 fe_9 ce_10 fe_10
  clear cg_0 fg_0 cg_1 fg_1 cg_2 fg_2 cg_3 fg_3 cg_4 fg_4 cg_5 fg_5 cg_6 fg_6 cg_7 fg_7 cg_8 fg_8 cg_9 fg_9 cg_10 fg_10
  clear la lb le lg
  have cm_0 := blk_cell hf 0 rfl; have fm_0 := blk_free hf 0; have cm_1 := blk_cell hf 1 rfl; have fm_1 := blk_free hf 1; have cm_2 := blk_cell hf 2 rfl; have fm_2 := blk_free hf 2; have cm_3 := blk_cell hf 3 rfl; have fm_3 := blk_free hf 3; have cm_4 := blk_cell hf 4 rfl; have fm_4 := blk_free hf 4; have cm_5 := blk_cell hf 5 rfl; have fm_5 := blk_free hf 5; have cm_6 := blk_cell hf 6 rfl; have fm_6 := blk_free hf 6; have cm_7 := blk_cell hf 7 rfl; have fm_7 := blk_free hf 7; have cm_8 := blk_cell hf 8 rfl; have fm_8 := blk_free hf 8; have cm_9 := blk_cell hf 9 rfl; have fm_9 := blk_free hf 9; have cm_10 := blk_cell hf 10 rfl; have fm_10 := blk_free hf 10; have lm := lt_of_block hf
  have hTy : ∀ i : Nat, i = w.heap.size + 1 → i < w5.heap.size → Ty w5 i 29 := fun i hi _ => by rw [hi]; exact ⟨_, p1⟩
  refine bodyPost_ret (v := .tuple #[.agg #[.int .i64 s.again, .int .i64 (Stn.given 5), .int .i64 now, .int .i64 ((s.seq + 1) % 65536), .bool s.some, .int .i64 s.prog, .int .i64 5, .slice none 0 0, .int .i64 now, .slice (some ⟨w1.heap.size, 0, none⟩) s.n s.n, .slice S s.n sc], v, .int .i64 0]) (by simp [results, Try.results36, go_sem, cm_0, cm_1, cm_2, cm_3, cm_4, cm_5, cm_6, cm_7, cm_8, cm_9, cm_10]) rfl ⟨v, none, 0, some ⟨w1.heap.size, 0, none⟩, s.n, S, sc, ?_, ?_, ?_, ?_, ?_⟩
  · unfold rsl
    rw [HDT.out]
    simp [Stn.give0, Frm.num4]
  · have hq : IsR w5 none 0 (some ⟨w1.heap.size, 0, none⟩) s.n S sc (Stn.give0 s 5 now x) := ⟨by rw [HDT.out]; exact HDR.out.below HB54.out (Nat.le_refl _), HAR.out.below HB54.out (Nat.le_refl _), H.out.sr.below HB5.out (Nat.le_refl _)⟩
    exact hq.keptT hK (fun i hi hl => ⟨_, hTy i hi hl, by decide, by decide, by decide⟩)
  · exact HRR.out.keptT hK (fun i hi hl => ⟨_, hTy i hi hl, by decide, by decide⟩)
  · exact HB5.out.trans (hK.below (fun i _ hi => by omega) HB5.out.size)
  · intro g hg
    cases hg
theorem rgive_6 (s : Stn.St) (hs : Stn.Inv s) (D : Option Addr) (dl dc : Nat) (A : Option Addr) (ac : Nat) (S : Option Addr) (sc : Nat) (now x : Int) (w : World) (h : IsR w D dc A ac S sc s) (he : Stn.giveE s 6 now x = 0) :
    Calls Try.prog 36 #[.agg #[.int .i64 s.again, .int .i64 s.st, .int .i64 s.now, .int .i64 s.seq, .bool s.some, .int .i64 s.prog, .int .i64 s.cmd, .slice D dl dc, .int .i64 s.sent, .slice A s.n ac, .slice S s.n sc], .int .i64 6, .int .i64 now, .int .i64 x] w (RPost D (Stn.give0 s 6 now x) (Stn.frames (Stn.give0 s 6 now x)) 0 w) := by
  obtain ⟨g1, ht, g3, hm⟩ := giveE_ok he
  have TM := Lib.hid (fun W : World => rtime_any s D dl dc A s.n ac S s.n sc now W)
  rw [ht] at TM
  have MY := Lib.hid (fun W : World => rmay_any 6 s.st W (by omega) hs.st)
  rw [hm] at MY
  have AF := Lib.hid (fun W : World => rafter_any 6 W)
  have hi' : Stn.Inv (Stn.give0 s 6 now x) := by
    have := Stn.inv_give (k := 6) (now := now) (x := x) hs (by omega)
    unfold Stn.give at this
    rw [if_pos he] at this
    exact this
  have hdt : Stn.data (Stn.give0 s 6 now x) = ([] : List Int) := by simp [Stn.data, Stn.give0]
  have FR := Lib.hid (fun (D3 : Option Addr) (dc3 : Nat) (A3 : Option Addr) (ac3 : Nat) (W : World) (hd : Row W 0 5 1 D3 0 dc3 (bv (([] : List Int)))) (ha : Row W 0 4 1 A3 s.n ac3 (bools (List.replicate s.n false))) (hby : By (([] : List Int))) => show Calls Try.prog 57 #[.agg #[.int .i64 s.again, .int .i64 (Stn.given 6), .int .i64 now, .int .i64 ((s.seq + 1) % 65536), .bool s.some, .int .i64 s.prog, .int .i64 6, .slice D3 0 dc3, .int .i64 now, .slice A3 s.n ac3, .slice S s.n sc]] W fun e w' => ∃ v, e = .returned v ∧ Rof w' W.heap.size v (Stn.frames (Stn.give0 s 6 now x)) ∧ Below W.heap.size W w' from by
    have := rframes_any (Stn.give0 s 6 now x) hi' (by show (6 : Int) ≠ 0; decide) D3 0 dc3 A3 ac3 S s.n sc W (by rw [hdt]; rfl) (by rw [hdt]; exact hd) ha (by rw [hdt]; exact hby) (by omega)
    simpa [Stn.give0] using this)
  have hmk : ∀ W : World, (Instr.makeSlice 26 (.int .i64 (s.n : Int)) (.int .i64 (s.n : Int))).run Try.prog W = .ok (.slice (some ⟨W.heap.size, 0, none⟩) s.n s.n) (W.alloc (.cells (madeCells #[.bool false] s.n) 4)) := fun W => by
    obtain ⟨i2, hm0, hm1, hm2, hm3⟩ := info_parts info_bool
    have := run_make (P := Try.prog) W 26 4 i2 _ Try.underlying26 hm0 hm1 .i64 .i64 s.n s.n (by omega) (Int.le_refl _) (by rw [hm3]; have := hs.n; omega) (by have := hs.n; omega)
    rw [hm2, Int.toNat_natCast, Nat.mul_one] at this
    exact this
  have H := Lib.hid h
  have hsq := hs.seq
  have hn := hs.n
  have HDT := Lib.hid hdt
  clear h hs ht hm he hi' g1 g3 hdt  
  go_enter Try.func36, Try.ntmps36
  go_wp2_with fail
  generalize hV : World.alloc _ _ = V
  have k0 : V.heap[w.heap.size]? = some (.cells #[.int .i64 s.again, .int .i64 s.st, .int .i64 s.now, .int .i64 s.seq, .bool s.some, .int .i64 s.prog, .int .i64 s.cmd, .slice D dl dc, .int .i64 s.sent, .slice A s.n ac, .slice S s.n sc] 29 (0, 0)) := by rw [← hV]; exact blk_alloc (heap_new _ _) _
  have k1 : V.heap[w.heap.size + 1]? = some (.cells #[.int .i64 0, .int .i64 0, .int .i64 0, .int .i64 0, .bool false, .int .i64 0, .int .i64 0, .slice none 0 0, .int .i64 0, .slice none 0 0, .slice none 0 0] 29 (0, 0)) := by rw [← hV]; exact heap_new' _ _ _ (by simp)
  have HB := Lib.hid (show Below w.heap.size w V from by rw [← hV]; exact (by repeat (first | (with_reducible exact Below.refl _ _) | (with_reducible refine Below.drew ?_) | (with_reducible refine below_drewN ?_ _) | ((with_reducible refine Below.alloc ?_ ?_ _); rotate_left; (first | omega | (simp <;> omega)); rotate_right) | ((with_reducible refine Below.setCell ?_ ?_ _); rotate_left; (first | omega | (simp <;> omega)); rotate_right) | (with_reducible assumption) | (refine Below.trans ?_ (Below.mono (by assumption) ?_); rotate_left; (first | omega | (simp <;> omega)); rotate_right))))
  clear hV
  refine (TM.out _).mono ?_
  rintro e w1 ⟨rfl, hB1⟩
  have j0 := blk_below k0 hB1 (lt_of_block k0)
  have j1 := blk_below k1 hB1 (lt_of_block k1)
  have HB1 := Lib.hid (HB.out.trans (hB1.mono (by have := HB.out.size; omega)))
  have hz1 : w.heap.size + 2 ≤ w1.heap.size := by have := lt_of_block j1; omega
  clear k0 k1 hB1
  have ca_0 := blk_cell j0 0 rfl; have fa_0 := blk_free j0 0; have ca_1 := blk_cell j0 1 rfl; have fa_1 := blk_free j0 1; have ca_2 := blk_cell j0 2 rfl; have fa_2 := blk_free j0 2; have ca_3 := blk_cell j0 3 rfl; have fa_3 := blk_free j0 3; have ca_4 := blk_cell j0 4 rfl; have fa_4 := blk_free j0 4; have ca_5 := blk_cell j0 5 rfl; have fa_5 := blk_free j0 5; have ca_6 := blk_cell j0 6 rfl; have fa_6 := blk_free j0 6; have ca_7 := blk_cell j0 7 rfl; have fa_7 := blk_free j0 7; have ca_8 := blk_cell j0 8 rfl; have fa_8 := blk_free j0 8; have ca_9 := blk_cell j0 9 rfl; have fa_9 := blk_free j0 9; have ca_10 := blk_cell j0 10 rfl; have fa_10 := blk_free j0 10; have la := lt_of_block j0
  have cb_0 := blk_cell j1 0 rfl; have fb_0 := blk_free j1 0; have cb_1 := blk_cell j1 1 rfl; have fb_1 := blk_free j1 1; have cb_2 := blk_cell j1 2 rfl; have fb_2 := blk_free j1 2; have cb_3 := blk_cell j1 3 rfl; have fb_3 := blk_free j1 3; have cb_4 := blk_cell j1 4 rfl; have fb_4 := blk_free j1 4; have cb_5 := blk_cell j1 5 rfl; have fb_5 := blk_free j1 5; have cb_6 := blk_cell j1 6 rfl; have fb_6 := blk_free j1 6; have cb_7 := blk_cell j1 7 rfl; have fb_7 := blk_free j1 7; have cb_8 := blk_cell j1 8 rfl; have fb_8 := blk_free j1 8; have cb_9 := blk_cell j1 9 rfl; have fb_9 := blk_free j1 9; have cb_10 := blk_cell j1 10 rfl; have fb_10 := blk_free j1 10; have lb := lt_of_block j1
  go_wp2_with fail
  refine (MY.out _).mono ?_
  rintro e w' ⟨rfl, rfl⟩
  go_wp2_with fail
  refine (AF.out _).mono ?_
  rintro e w' ⟨rfl, rfl⟩
  go_wp2_with fail
  generalize hV0 : World.setCell _ _ _ = V3
  have p0 : V3.heap[w.heap.size]? = some (.cells #[.int .i64 s.again, .int .i64 (Stn.given 6), .int .i64 now, .int .i64 ((s.seq + 1) % 65536), .bool s.some, .int .i64 s.prog, .int .i64 6, .slice none 0 0, .int .i64 now, .slice (some ⟨w1.heap.size, 0, none⟩) s.n s.n, .slice S s.n sc] 29 (0, 0)) := by rw [← hV0]; exact (by apply Eq.trans; (repeat (first | (with_reducible assumption) | (with_reducible apply blk_set) | ((with_reducible apply blk_far); rotate_left; (first | omega | (simp <;> omega)); rotate_right) | (with_reducible apply blk_drew) | (with_reducible apply blk_drewN) | ((with_reducible apply heap_new'); (first | rfl | (simp <;> fail))) | (with_reducible apply blk_alloc))); (first | with_reducible rfl | (simp <;> fail) | rfl))
  have p1 : V3.heap[w.heap.size + 1]? = some (.cells #[.int .i64 0, .int .i64 0, .int .i64 0, .int .i64 0, .bool false, .int .i64 0, .int .i64 0, .slice none 0 0, .int .i64 0, .slice none 0 0, .slice none 0 0] 29 (0, 0)) := by rw [← hV0]; exact (by repeat (first | (with_reducible assumption) | ((with_reducible apply blk_far); rotate_left; (first | omega | (simp <;> omega)); rotate_right) | (with_reducible apply blk_drew) | (with_reducible apply blk_drewN) | (with_reducible exact heap_new _ _) | ((with_reducible apply heap_new'); (first | rfl | (simp <;> fail))) | (with_reducible apply blk_alloc)))
  have hsz3 : V3.heap.size = w1.heap.size := by rw [← hV0]; simp [World.setCell]
  have hb3 := HB1.out
  have hB3V : Below w.heap.size w V3 := by rw [← hV0]; exact (by repeat (first | (with_reducible exact Below.refl _ _) | (with_reducible refine Below.drew ?_) | (with_reducible refine below_drewN ?_ _) | ((with_reducible refine Below.alloc ?_ ?_ _); rotate_left; (first | omega | (simp <;> omega)); rotate_right) | ((with_reducible refine Below.setCell ?_ ?_ _); rotate_left; (first | omega | (simp <;> omega)); rotate_right) | (with_reducible assumption) | (refine Below.trans ?_ (Below.mono (by assumption) ?_); rotate_left; (first | omega | (simp <;> omega)); rotate_right)))
  have hKV3 : Keeps (fun i => i = w.heap.size) w1 V3 := by rw [← hV0]; (repeat (first | with_reducible exact Keeps.refl _ _ | (with_reducible refine Keeps.set1 ?_ _ _) | (with_reducible refine Keeps.drew ?_) | (with_reducible refine Keeps.drewN ?_ _) | (with_reducible refine Keeps.alloc ?_ _)))
  clear hV0 hb3
  generalize hV : World.alloc _ _ = V4
  have q0 : V4.heap[w.heap.size]? = some (.cells #[.int .i64 s.again, .int .i64 (Stn.given 6), .int .i64 now, .int .i64 ((s.seq + 1) % 65536), .bool s.some, .int .i64 s.prog, .int .i64 6, .slice none 0 0, .int .i64 now, .slice (some ⟨w1.heap.size, 0, none⟩) s.n s.n, .slice S s.n sc] 29 (0, 0)) := by rw [← hV]; exact blk_alloc p0 _
  have q1 : V4.heap[w.heap.size + 1]? = some (.cells #[.int .i64 0, .int .i64 0, .int .i64 0, .int .i64 0, .bool false, .int .i64 0, .int .i64 0, .slice none 0 0, .int .i64 0, .slice none 0 0, .slice none 0 0] 29 (0, 0)) := by rw [← hV]; exact blk_alloc p1 _
  have HV4 := Lib.hid (show Below w.heap.size w V4 from by rw [← hV]; exact hB3V.alloc hB3V.size _)
  have HKV := Lib.hid (show Keeps (fun i => i = w.heap.size) w1 V4 from by rw [← hV]; exact hKV3.alloc _)
  have q2 : V4.heap[w1.heap.size]? = some (.cells (madeCells #[.bool false] s.n) 4 (0, 0)) := by rw [← hV]; exact heap_new' _ _ _ hsz3.symm
  clear p0 p1 hsz3 hB3V hKV3
  have J0 := Lib.hid j0
  clear ca_0 fa_0 ca_1 fa_1 ca_2 fa_2 ca_3 fa_3 ca_4 fa_4 ca_5 fa_5 ca_6 fa_6 ca_7 fa_7 ca_8 fa_8 ca_9 fa_9 ca_10 fa_10
  clear cb_0 fb_0 cb_1 fb_1 cb_2 fb_2 cb_3 fb_3 cb_4 fb_4 cb_5 fb_5 cb_6 fb_6 cb_7 fb_7 cb_8 fb_8 cb_9 fb_9 cb_10 fb_10
  clear la lb hV j0 j1
  have hAr : Row V4 0 4 1 (some ⟨w1.heap.size, 0, none⟩) s.n s.n (bools (List.replicate s.n false)) := Row.of_block q2 (Nat.zero_le _) (Nat.le_refl _) (by unfold maxLen; omega) (by rw [size_madeCells]; simp) (by rw [List.drop_zero, made_bools, List.take_of_length_le (by simp [bools])])
  have HAR := Lib.hid hAr
  have HDR := Lib.hid (show Row V4 0 5 1 none 0 0 (bv []) from Row.nil _ _ _ _)
  have HQ2 := Lib.hid q2
  clear hAr q2
  have ca_0 := blk_cell q0 0 rfl; have fa_0 := blk_free q0 0; have ca_1 := blk_cell q0 1 rfl; have fa_1 := blk_free q0 1; have ca_2 := blk_cell q0 2 rfl; have fa_2 := blk_free q0 2; have ca_3 := blk_cell q0 3 rfl; have fa_3 := blk_free q0 3; have ca_4 := blk_cell q0 4 rfl; have fa_4 := blk_free q0 4; have ca_5 := blk_cell q0 5 rfl; have fa_5 := blk_free q0 5; have ca_6 := blk_cell q0 6 rfl; have fa_6 := blk_free q0 6; have ca_7 := blk_cell q0 7 rfl; have fa_7 := blk_free q0 7; have ca_8 := blk_cell q0 8 rfl; have fa_8 := blk_free q0 8; have ca_9 := blk_cell q0 9 rfl; have fa_9 := blk_free q0 9; have ca_10 := blk_cell q0 10 rfl; have fa_10 := blk_free q0 10; have la := lt_of_block q0
  have cb_0 := blk_cell q1 0 rfl; have fb_0 := blk_free q1 0; have cb_1 := blk_cell q1 1 rfl; have fb_1 := blk_free q1 1; have cb_2 := blk_cell q1 2 rfl; have fb_2 := blk_free q1 2; have cb_3 := blk_cell q1 3 rfl; have fb_3 := blk_free q1 3; have cb_4 := blk_cell q1 4 rfl; have fb_4 := blk_free q1 4; have cb_5 := blk_cell q1 5 rfl; have fb_5 := blk_free q1 5; have cb_6 := blk_cell q1 6 rfl; have fb_6 := blk_free q1 6; have cb_7 := blk_cell q1 7 rfl; have fb_7 := blk_free q1 7; have cb_8 := blk_cell q1 8 rfl; have fb_8 := blk_free q1 8; have cb_9 := blk_cell q1 9 rfl; have fb_9 := blk_free q1 9; have cb_10 := blk_cell q1 10 rfl; have fb_10 := blk_free q1 10; have lb := lt_of_block q1
  go_region_held3 (fun w' => w'.cell? ⟨w.heap.size, 0, none⟩ = some (.int .i64 s.again) ∧ w'.cell? ⟨w.heap.size, 1, none⟩ = some (.int .i64 (Stn.given 6)) ∧ w'.cell? ⟨w.heap.size, 2, none⟩ = some (.int .i64 now) ∧ w'.cell? ⟨w.heap.size, 3, none⟩ = some (.int .i64 ((s.seq + 1) % 65536)) ∧ w'.cell? ⟨w.heap.size, 4, none⟩ = some (.bool s.some) ∧ w'.cell? ⟨w.heap.size, 5, none⟩ = some (.int .i64 s.prog) ∧ w'.cell? ⟨w.heap.size, 6, none⟩ = some (.int .i64 6) ∧ w'.cell? ⟨w.heap.size, 7, none⟩ = some (.slice none 0 0) ∧ w'.cell? ⟨w.heap.size, 8, none⟩ = some (.int .i64 now) ∧ w'.cell? ⟨w.heap.size, 9, none⟩ = some (.slice (some ⟨w1.heap.size, 0, none⟩) s.n s.n) ∧ w'.cell? ⟨w.heap.size, 10, none⟩ = some (.slice S s.n sc)) (first | (refine ⟨?_, ?_, ?_, ?_, ?_, ?_, ?_, ?_, ?_, ?_, ?_⟩ <;> simp [go_sem, *]; done) | go_keep) (first | (go_at_call 57; refine (FR.out _ _ _ _ _ (by first | exact HDR.out | exact HDR.out.drew) (by first | exact HAR.out | exact HAR.out.drew) (by intro y hy; cases hy)).mono ?_; rintro e w5 ⟨v, rfl, hR, hb5⟩; have p0 := blk_below (q := w.heap.size) (by repeat (first | (with_reducible assumption) | ((with_reducible apply blk_far); rotate_left; (first | omega | (simp <;> omega)); rotate_right) | (with_reducible apply blk_drew) | (with_reducible apply blk_drewN) | (with_reducible exact heap_new _ _) | ((with_reducible apply heap_new'); (first | rfl | (simp <;> fail))) | (with_reducible apply blk_alloc))) hb5 (by first | omega | (simp; done) | (simp; omega)); have p1 := blk_below (q := w.heap.size + 1) (by repeat (first | (with_reducible assumption) | ((with_reducible apply blk_far); rotate_left; (first | omega | (simp <;> omega)); rotate_right) | (with_reducible apply blk_drew) | (with_reducible apply blk_drewN) | (with_reducible exact heap_new _ _) | ((with_reducible apply heap_new'); (first | rfl | (simp <;> fail))) | (with_reducible apply blk_alloc))) hb5 (by first | omega | (simp; done) | (simp; omega)); have HR := Lib.hid hR; have HB54 := Lib.hid (show Below V4.heap.size V4 w5 from (by repeat (first | (with_reducible exact Below.refl _ _) | (with_reducible refine Below.drew ?_) | (with_reducible refine below_drewN ?_ _) | ((with_reducible refine Below.alloc ?_ ?_ _); rotate_left; (first | omega | (simp <;> omega)); rotate_right) | ((with_reducible refine Below.setCell ?_ ?_ _); rotate_left; (first | omega | (simp <;> omega)); rotate_right) | (with_reducible assumption) | (refine Below.trans ?_ (Below.mono (by assumption) ?_); rotate_left; (first | omega | (simp <;> omega)); rotate_right)))); have hv4 := HV4.out; have HB5 := Lib.hid (show Below w.heap.size w w5 from (by repeat (first | (with_reducible exact Below.refl _ _) | (with_reducible refine Below.drew ?_) | (with_reducible refine below_drewN ?_ _) | ((with_reducible refine Below.alloc ?_ ?_ _); rotate_left; (first | omega | (simp <;> omega)); rotate_right) | ((with_reducible refine Below.setCell ?_ ?_ _); rotate_left; (first | omega | (simp <;> omega)); rotate_right) | (with_reducible assumption) | (refine Below.trans ?_ (Below.mono (by assumption) ?_); rotate_left; (first | omega | (simp <;> omega)); rotate_right)))); have hsv : w.heap.size ≤ V4.heap.size := HV4.out.size; have HRR := Lib.hid (HR.out.more (base' := w.heap.size) (by first | exact hsv | (simp; omega))); (have ce_0 := blk_cell p0 0 rfl; have fe_0 := blk_free p0 0; have ce_1 := blk_cell p0 1 rfl; have fe_1 := blk_free p0 1; have ce_2 := blk_cell p0 2 rfl; have fe_2 := blk_free p0 2; have ce_3 := blk_cell p0 3 rfl; have fe_3 := blk_free p0 3; have ce_4 := blk_cell p0 4 rfl; have fe_4 := blk_free p0 4; have ce_5 := blk_cell p0 5 rfl; have fe_5 := blk_free p0 5; have ce_6 := blk_cell p0 6 rfl; have fe_6 := blk_free p0 6; have ce_7 := blk_cell p0 7 rfl; have fe_7 := blk_free p0 7; have ce_8 := blk_cell p0 8 rfl; have fe_8 := blk_free p0 8; have ce_9 := blk_cell p0 9 rfl; have fe_9 := blk_free p0 9; have ce_10 := blk_cell p0 10 rfl; have fe_10 := blk_free p0 10; have le := lt_of_block p0); (have cg_0 := blk_cell p1 0 rfl; have fg_0 := blk_free p1 0; have cg_1 := blk_cell p1 1 rfl; have fg_1 := blk_free p1 1; have cg_2 := blk_cell p1 2 rfl; have fg_2 := blk_free p1 2; have cg_3 := blk_cell p1 3 rfl; have fg_3 := blk_free p1 3; have cg_4 := blk_cell p1 4 rfl; have fg_4 := blk_free p1 4; have cg_5 := blk_cell p1 5 rfl; have fg_5 := blk_free p1 5; have cg_6 := blk_cell p1 6 rfl; have fg_6 := blk_free p1 6; have cg_7 := blk_cell p1 7 rfl; have fg_7 := blk_free p1 7; have cg_8 := blk_cell p1 8 rfl; have fg_8 := blk_free p1 8; have cg_9 := blk_cell p1 9 rfl; have fg_9 := blk_free p1 9; have cg_10 := blk_cell p1 10 rfl; have fg_10 := blk_free p1 10; have lg := lt_of_block p1); clear hR hb5 hv4))
  go_wp2_with fail
  generalize hWf : World.setCell _ _ _ = Wf
  have hf : Wf.heap[w.heap.size + 1]? = some (.cells #[.int .i64 s.again, .int .i64 (Stn.given 6), .int .i64 now, .int .i64 ((s.seq + 1) % 65536), .bool s.some, .int .i64 s.prog, .int .i64 6, .slice none 0 0, .int .i64 now, .slice (some ⟨w1.heap.size, 0, none⟩) s.n s.n, .slice S s.n sc] 29 (0, 0)) := by rw [← hWf]; exact (by apply Eq.trans; (repeat (first | (with_reducible assumption) | (with_reducible apply blk_set) | ((with_reducible apply blk_far); rotate_left; (first | omega | (simp <;> omega)); rotate_right) | (with_reducible apply blk_drew) | (with_reducible apply blk_drewN) | ((with_reducible apply heap_new'); (first | rfl | (simp <;> fail))) | (with_reducible apply blk_alloc))); (first | with_reducible rfl | (simp <;> fail) | rfl))
  have hK : Keeps (fun i => i = w.heap.size + 1) w5 Wf := by rw [← hWf]; (repeat (first | with_reducible exact Keeps.refl _ _ | (with_reducible refine Keeps.set1 ?_ _ _) | (with_reducible refine Keeps.drew ?_) | (with_reducible refine Keeps.drewN ?_ _) | (with_reducible refine Keeps.alloc ?_ _)))
  clear hWf
  clear ca_0 fa_0 ca_1 fa_1 ca_2 fa_2 ca_3 fa_3 ca_4 fa_4 ca_5 fa_5 ca_6 fa_6 ca_7 fa_7 ca_8 fa_8 ca_9 fa_9 ca_10 fa_10
  clear cb_0 fb_0 cb_1 fb_1 cb_2 fb_2 cb_3 fb_3 cb_4 fb_4 cb_5 fb_5 cb_6 fb_6 cb_7 fb_7 cb_8 fb_8 cb_9 fb_9 cb_10 fb_10
  clear ce_0 fe_0 ce_1 fe_1 ce_2 fe_2 ce_3 fe_3 ce_4 fe_4 ce_5 fe_5 ce_6 fe_6 ce_7 fe_7 ce_8 fe_8 ce_9 fe_9 ce_10 fe_10
  clear cg_0 fg_0 cg_1 fg_1 cg_2 fg_2 cg_3 fg_3 cg_4 fg_4 cg_5 fg_5 cg_6 fg_6 cg_7 fg_7 cg_8 fg_8 cg_9 fg_9 cg_10 fg_10
  clear la lb le lg
  have cm_0 := blk_cell hf 0 rfl; have fm_0 := blk_free hf 0; have cm_1 := blk_cell hf 1 rfl; have fm_1 := blk_free hf 1; have cm_2 := blk_cell hf 2 rfl; have fm_2 := blk_free hf 2; have cm_3 := blk_cell hf 3 rfl; have fm_3 := blk_free hf 3; have cm_4 := blk_cell hf 4 rfl; have fm_4 := blk_free hf 4; have cm_5 := blk_cell hf 5 rfl; have fm_5 := blk_free hf 5; have cm_6 := blk_cell hf 6 rfl; have fm_6 := blk_free hf 6; have cm_7 := blk_cell hf 7 rfl; have fm_7 := blk_free hf 7; have cm_8 := blk_cell hf 8 rfl; have fm_8 := blk_free hf 8; have cm_9 := blk_cell hf 9 rfl; have fm_9 := blk_free hf 9; have cm_10 := blk_cell hf 10 rfl; have fm_10 := blk_free hf 10; have lm := lt_of_block hf
  have hTy : ∀ i : Nat, i = w.heap.size + 1 → i < w5.heap.size → Ty w5 i 29 := fun i hi _ => by rw [hi]; exact ⟨_, p1⟩
  refine bodyPost_ret (v := .tuple #[.agg #[.int .i64 s.again, .int .i64 (Stn.given 6), .int .i64 now, .int .i64 ((s.seq + 1) % 65536), .bool s.some, .int .i64 s.prog, .int .i64 6, .slice none 0 0, .int .i64 now, .slice (some ⟨w1.heap.size, 0, none⟩) s.n s.n, .slice S s.n sc], v, .int .i64 0]) (by simp [results, Try.results36, go_sem, cm_0, cm_1, cm_2, cm_3, cm_4, cm_5, cm_6, cm_7, cm_8, cm_9, cm_10]) rfl ⟨v, none, 0, some ⟨w1.heap.size, 0, none⟩, s.n, S, sc, ?_, ?_, ?_, ?_, ?_⟩
  · unfold rsl
    rw [HDT.out]
    simp [Stn.give0, Frm.num4]
  · have hq : IsR w5 none 0 (some ⟨w1.heap.size, 0, none⟩) s.n S sc (Stn.give0 s 6 now x) := ⟨by rw [HDT.out]; exact HDR.out.below HB54.out (Nat.le_refl _), HAR.out.below HB54.out (Nat.le_refl _), H.out.sr.below HB5.out (Nat.le_refl _)⟩
    exact hq.keptT hK (fun i hi hl => ⟨_, hTy i hi hl, by decide, by decide, by decide⟩)
  · exact HRR.out.keptT hK (fun i hi hl => ⟨_, hTy i hi hl, by decide, by decide⟩)
  · exact HB5.out.trans (hK.below (fun i _ hi => by omega) HB5.out.size)
  · intro g hg
    cases hg
end Go.Proofs.Ytiidkmnagfhgiaa

/- The reference's Receive of an acknowledgement that is asked for. -/
import Derived.Test.YtiidkmnagfhgiaaStX
namespace Go.Proofs.Ytiidkmnagfhgiaa
open Go.RowKit
set_option maxHeartbeats 8000000
set_option maxRecDepth 100000
set_option linter.unusedSimpArgs false
set_option linter.unusedVariables false
attribute [local go_sem ↓] Go.wp_at_zero Go.wp_at_succ
theorem Row.set1 {w : World} {base n c g o i : Nat} {e : TypeId} {xs : List Value} (h : Row w base e 1 (some ⟨g, o, none⟩) n c xs) (hi : i < n) (v : Value) : Row (w.setCell ⟨g, o + i, none⟩ v) base e 1 (some ⟨g, o, none⟩) n c (xs.set i v) := by
  obtain ⟨g', o', cur, he, hb, _, hh, hnc, hcm, hfit, hcur, _⟩ := h.some_ (by omega)
  injection he with he; injection he with e1 e2
  subst e1; subst e2
  have hxl := h.1
  rw [Nat.mul_one] at hxl hfit hcur
  refine Row.of_block (blk_set hh (o + i) v) hb hnc hcm (by rw [Array.size_setIfInBounds]; omega) ?_
  rw [Nat.mul_one]
  apply List.ext_getElem?
  intro k
  rw [List.getElem?_take, List.getElem?_drop, Array.getElem?_toList, Array.getElem?_setIfInBounds, List.getElem?_set]
  have hxk : ∀ j, j < n → xs[j]? = cur[o + j]? := fun j hj => by rw [← hcur, List.getElem?_take, if_pos hj, List.getElem?_drop, Array.getElem?_toList]
  by_cases hk : k < n
  · rw [if_pos hk]
    by_cases hki : i = k
    · subst hki
      rw [if_pos rfl, if_pos rfl, if_pos (by omega), if_pos (by omega)]
    · rw [if_neg (by omega), if_neg hki, hxk k hk]
  · rw [if_neg hk, if_neg (by omega), List.getElem?_eq_none (by omega)]
theorem Keeps.set2 {w w' : World} {b c : Nat} (h : Keeps (fun i => i = b ∨ i = c) w w') (o : Nat) (u : Value) : Keeps (fun i => i = b ∨ i = c) w (w'.setCell ⟨b, o, none⟩ u) := h.setCell (.inl (.inl rfl)) u
theorem Keeps.set2' {w w' : World} {b c : Nat} (h : Keeps (fun i => i = b ∨ i = c) w w') (o : Nat) (u : Value) : Keeps (fun i => i = b ∨ i = c) w (w'.setCell ⟨c, o, none⟩ u) := h.setCell (.inl (.inr rfl)) u
theorem bools_one (l : List Bool) : ∀ v ∈ bools l, v.oneCell' = true := by
  intro v hv
  simp only [bools, List.mem_map] at hv
  obtain ⟨x, _, rfl⟩ := hv
  rfl
theorem rrecv_ack (s : Stn.St) (hs : Stn.Inv s) (D : Option Addr) (dl dc : Nat) (A : Option Addr) (ac : Nat) (S : Option Addr) (sc : Nat) (now f t q : Int) (bb oo cap : Nat) (d : List Int) (x : Int) (w : World) (hd : Rd w w.heap.size (some ⟨bb, oo, none⟩) 1 d) (hxd : d.getD 0 0 = x) (hdl : dl = (Stn.data s).length) (h : IsR w D dc A ac S sc s) (he : Stn.recvE s now ⟨8, f, t, q, d⟩ = 0)
    (hc0 : s.cmd ≠ 0) (hqs : q = s.seq) (hxc : x = s.cmd) (i : Nat) (hfi : f = (i : Int) + 1) :
    Calls Try.prog 32 #[.agg #[.int .i64 s.again, .int .i64 s.st, .int .i64 s.now, .int .i64 s.seq, .bool s.some, .int .i64 s.prog, .int .i64 s.cmd, .slice D dl dc, .int .i64 s.sent, .slice A s.n ac, .slice S s.n sc], .int .i64 now, .agg #[.int .i64 8, .int .i64 f, .int .i64 t, .int .i64 q, .slice (some ⟨bb, oo, none⟩) 1 cap]] w (RPost D (Stn.acked { s with now := now } (i + 1)) [] 0 w) := by
  obtain ⟨hv, ht, hf, hte⟩ := recvE_ok he
  simp only [hd.1] at hv ht hf
  have TM := Lib.hid (fun W : World => rtime_any s D dl dc A s.n ac S s.n sc now W)
  have VA := Lib.hid (fun (W : World) => rvalid_any 8 f t q (some ⟨bb, oo, none⟩) 1 cap W (by omega))
  rw [hte] at TM
  rw [hv] at VA
  have H := Lib.hid h
  have HDL := Lib.hid hdl
  have hsn := hs.n
  have z : (t != 0) = false := by simpa using ht
  have hf' : decide ((s.n : Int) < f) = false := by rw [decide_eq_false_iff_not]; omega
  have hx : Rd w w.heap.size (some ⟨bb, oo, none⟩) 1 d := hd
  obtain ⟨b', o', e', hbb, hcc⟩ := hd.2.2 (by omega)
  injection e' with e'; injection e' with e1 e2
  subst e1; subst e2
  have cd := hcc 0 (by omega)
  simp only [Nat.add_zero] at cd
  have hxb := hd.2.1.at_ 0
  rw [hxd] at cd hxb
  have wx : IntKind.i64.wrap x = x := IntWalk.i64_in _ (by omega)
  have CD := Lib.hid cd
  have hne : w.heap.size ≠ bb := by omega
  have hn1 : w.heap.size + 1 ≠ bb := by omega
  obtain ⟨i0, hi0, hz0, hz1, hz2⟩ := info_parts info_bool
  have z0 : (s.cmd == 0) = false := by rw [beq_eq_false_iff_ne]; exact hc0
  have z1 : (q != s.seq) = false := by simpa using hqs
  have z2 : (x != s.cmd) = false := by simpa using hxc
  have hin : i < s.n := by omega
  have hi' := Stn.inv_now hs hte
  have M1 := Lib.hid (fun (A5 : Option Addr) (c5 : Nat) (W : World) (ha : Row W 0 4 1 A5 s.n c5 (bools s.ack)) => show Calls Try.prog 39 #[.agg #[.int .i64 s.again, .int .i64 s.st, .int .i64 now, .int .i64 s.seq, .bool s.some, .int .i64 s.prog, .int .i64 s.cmd, .slice D dl dc, .int .i64 s.sent, .slice A5 s.n c5, .slice S s.n sc]] W (ClPost 3 1 (Stn.miss s).length ((Stn.miss s).map (fun (i : Nat) => .int .i64 i)) W) from rmissing_any { s with now := now } hi' D dl dc A5 c5 S s.n sc W ha)
  have hi2 : Stn.Inv { s with now := now, ack := s.ack.set i true } := by
    obtain ⟨h1, h2, h3, h4, h5, h6, h7, h8, h9, h10, h11, h12⟩ := hi'
    exact ⟨h1, h2, h3, h4, h5, h6, h7, h8, h9, by simp only [List.length_set]; exact h10, h11, h12⟩
  have M2 := Lib.hid (fun (A5 : Option Addr) (c5 : Nat) (W : World) (ha : Row W 0 4 1 A5 s.n c5 (bools (s.ack.set i true))) => show Calls Try.prog 39 #[.agg #[.int .i64 s.again, .int .i64 s.st, .int .i64 now, .int .i64 s.seq, .bool s.some, .int .i64 s.prog, .int .i64 s.cmd, .slice D dl dc, .int .i64 s.sent, .slice A5 s.n c5, .slice S s.n sc]] W (ClPost 3 1 (Stn.missFrom 1 (s.ack.set i true)).length ((Stn.missFrom 1 (s.ack.set i true)).map (fun (i : Nat) => .int .i64 i)) W) from by
    have := rmissing_any { s with now := now, ack := s.ack.set i true } hi2 D dl dc A5 c5 S s.n sc W ha
    rw [miss_cmd { s with now := now, ack := s.ack.set i true } hc0] at this
    exact this)
  have HST := Lib.hid (show (Stn.acked { s with now := now } (i + 1)).st = if Stn.miss s ≠ [] ∧ Stn.missFrom 1 (s.ack.set i true) = [] then Stn.full s.cmd else s.st from rfl)
  have AF := Lib.hid (fun W : World => rafter_any s.cmd W)
  have HFI := Lib.hid hfi
  have wf : IntKind.i64.wrap (f - 1) = (i : Int) := by rw [hfi, IntWalk.i64_in _ (by omega)]; omega
  have hmb := (miss_bd s hs).1
  have hmb2 := missFrom_len (s.ack.set i true) 1
  rw [List.length_set, hs.ack] at hmb2
  have HAL := Lib.hid hs.ack
  obtain ⟨n9, hn9⟩ : ∃ n9, n9 = (Stn.miss s).length := ⟨_, rfl⟩
  obtain ⟨n8, hn8⟩ : ∃ n8, n8 = (Stn.missFrom 1 (s.ack.set i true)).length := ⟨_, rfl⟩
  rw [← hn9] at M1 hmb
  rw [← hn8] at M2 hmb2
  have HN9 := Lib.hid hn9
  have HN8 := Lib.hid hn8
  clear hcc cd h hdl he hv ht hf hte hs hd hx hxd hc0 hqs hxc hfi hi' hi2 hn9 hn8
  go_enter Try.func32, Try.ntmps32; go_wp2_with fail; generalize hV : World.alloc _ _ = V; have k0 : V.heap[w.heap.size]? = some (.cells #[.int .i64 s.again, .int .i64 s.st, .int .i64 s.now, .int .i64 s.seq, .bool s.some, .int .i64 s.prog, .int .i64 s.cmd, .slice D dl dc, .int .i64 s.sent, .slice A s.n ac, .slice S s.n sc] 29 (0, 0)) := (by rw [← hV]; exact blk_alloc (blk_alloc (heap_new _ _) _) _); have k1 : V.heap[w.heap.size + 1]? = some (.cells #[.int .i64 8, .int .i64 f, .int .i64 t, .int .i64 q, .slice (some ⟨bb, oo, none⟩) 1 cap] 40 (0, 0)) := (by rw [← hV]; exact blk_alloc (heap_new' _ _ _ (by simp)) _); have k2 : V.heap[w.heap.size + 2]? = some (.cells #[.int .i64 0, .int .i64 0, .int .i64 0, .int .i64 0, .bool false, .int .i64 0, .int .i64 0, .slice none 0 0, .int .i64 0, .slice none 0 0, .slice none 0 0] 29 (0, 0)) := (by rw [← hV]; exact heap_new' _ _ _ (by simp)); have hB0 : Below w.heap.size w V := (by rw [← hV]; exact (by repeat (first | (with_reducible exact Below.refl _ _) | (with_reducible refine Below.drew ?_) | (with_reducible refine below_drewN ?_ _) | ((with_reducible refine Below.alloc ?_ ?_ _); rotate_left; (first | omega | (simp <;> omega)); rotate_right) | ((with_reducible refine Below.setCell ?_ ?_ _); rotate_left; (first | omega | (simp <;> omega)); rotate_right) | (with_reducible assumption) | (refine Below.trans ?_ (Below.mono (by assumption) ?_); rotate_left; (first | omega | (simp <;> omega)); rotate_right)))); have hzV : w.heap.size ≤ V.heap.size := hB0.size; clear hV; refine (VA.out _).mono ?_; rintro e w1 ⟨rfl, hB1⟩; have j0 := blk_below k0 hB1 (lt_of_block k0); have j1 := blk_below k1 hB1 (lt_of_block k1); have j2 := blk_below k2 hB1 (lt_of_block k2); have hBw : Below w.heap.size w w1 := hB0.trans (hB1.mono hzV); clear k0 k1 k2 hB1 hB0 hzV; (have ca_0 := blk_cell j0 0 rfl; have fa_0 := blk_free j0 0; have ca_1 := blk_cell j0 1 rfl; have fa_1 := blk_free j0 1; have ca_2 := blk_cell j0 2 rfl; have fa_2 := blk_free j0 2; have ca_3 := blk_cell j0 3 rfl; have fa_3 := blk_free j0 3; have ca_4 := blk_cell j0 4 rfl; have fa_4 := blk_free j0 4; have ca_5 := blk_cell j0 5 rfl; have fa_5 := blk_free j0 5; have ca_6 := blk_cell j0 6 rfl; have fa_6 := blk_free j0 6; have ca_7 := blk_cell j0 7 rfl; have fa_7 := blk_free j0 7; have ca_8 := blk_cell j0 8 rfl; have fa_8 := blk_free j0 8; have ca_9 := blk_cell j0 9 rfl; have fa_9 := blk_free j0 9; have ca_10 := blk_cell j0 10 rfl; have fa_10 := blk_free j0 10; have la := lt_of_block j0); (have cb_0 := blk_cell j1 0 rfl; have fb_0 := blk_free j1 0; have cb_1 := blk_cell j1 1 rfl; have fb_1 := blk_free j1 1; have cb_2 := blk_cell j1 2 rfl; have fb_2 := blk_free j1 2; have cb_3 := blk_cell j1 3 rfl; have fb_3 := blk_free j1 3; have cb_4 := blk_cell j1 4 rfl; have fb_4 := blk_free j1 4; have lb := lt_of_block j1); (have cc_0 := blk_cell j2 0 rfl; have fc_0 := blk_free j2 0; have cc_1 := blk_cell j2 1 rfl; have fc_1 := blk_free j2 1; have cc_2 := blk_cell j2 2 rfl; have fc_2 := blk_free j2 2; have cc_3 := blk_cell j2 3 rfl; have fc_3 := blk_free j2 3; have cc_4 := blk_cell j2 4 rfl; have fc_4 := blk_free j2 4; have cc_5 := blk_cell j2 5 rfl; have fc_5 := blk_free j2 5; have cc_6 := blk_cell j2 6 rfl; have fc_6 := blk_free j2 6; have cc_7 := blk_cell j2 7 rfl; have fc_7 := blk_free j2 7; have cc_8 := blk_cell j2 8 rfl; have fc_8 := blk_free j2 8; have cc_9 := blk_cell j2 9 rfl; have fc_9 := blk_free j2 9; have cc_10 := blk_cell j2 10 rfl; have fc_10 := blk_free j2 10; have lc := lt_of_block j2); go_wp2_with fail
  have hzW : w.heap.size ≤ w1.heap.size := hBw.size; refine (TM.out _).mono ?_; rintro e w2 ⟨rfl, hB2⟩; have k0 := blk_below j0 hB2 (lt_of_block j0); have k1 := blk_below j1 hB2 (lt_of_block j1); have k2 := blk_below j2 hB2 (lt_of_block j2); have hBv : Below w.heap.size w w2 := hBw.trans (hB2.mono hzW); (clear ca_0 fa_0 ca_1 fa_1 ca_2 fa_2 ca_3 fa_3 ca_4 fa_4 ca_5 fa_5 ca_6 fa_6 ca_7 fa_7 ca_8 fa_8 ca_9 fa_9 ca_10 fa_10); (clear cb_0 fb_0 cb_1 fb_1 cb_2 fb_2 cb_3 fb_3 cb_4 fb_4); (clear cc_0 fc_0 cc_1 fc_1 cc_2 fc_2 cc_3 fc_3 cc_4 fc_4 cc_5 fc_5 cc_6 fc_6 cc_7 fc_7 cc_8 fc_8 cc_9 fc_9 cc_10 fc_10); clear la lb lc j0 j1 j2 hB2 hBw hzW; (have ca_0 := blk_cell k0 0 rfl; have fa_0 := blk_free k0 0; have ca_1 := blk_cell k0 1 rfl; have fa_1 := blk_free k0 1; have ca_2 := blk_cell k0 2 rfl; have fa_2 := blk_free k0 2; have ca_3 := blk_cell k0 3 rfl; have fa_3 := blk_free k0 3; have ca_4 := blk_cell k0 4 rfl; have fa_4 := blk_free k0 4; have ca_5 := blk_cell k0 5 rfl; have fa_5 := blk_free k0 5; have ca_6 := blk_cell k0 6 rfl; have fa_6 := blk_free k0 6; have ca_7 := blk_cell k0 7 rfl; have fa_7 := blk_free k0 7; have ca_8 := blk_cell k0 8 rfl; have fa_8 := blk_free k0 8; have ca_9 := blk_cell k0 9 rfl; have fa_9 := blk_free k0 9; have ca_10 := blk_cell k0 10 rfl; have fa_10 := blk_free k0 10; have la := lt_of_block k0); (have cb_0 := blk_cell k1 0 rfl; have fb_0 := blk_free k1 0; have cb_1 := blk_cell k1 1 rfl; have fb_1 := blk_free k1 1; have cb_2 := blk_cell k1 2 rfl; have fb_2 := blk_free k1 2; have cb_3 := blk_cell k1 3 rfl; have fb_3 := blk_free k1 3; have cb_4 := blk_cell k1 4 rfl; have fb_4 := blk_free k1 4; have lb := lt_of_block k1); (have cc_0 := blk_cell k2 0 rfl; have fc_0 := blk_free k2 0; have cc_1 := blk_cell k2 1 rfl; have fc_1 := blk_free k2 1; have cc_2 := blk_cell k2 2 rfl; have fc_2 := blk_free k2 2; have cc_3 := blk_cell k2 3 rfl; have fc_3 := blk_free k2 3; have cc_4 := blk_cell k2 4 rfl; have fc_4 := blk_free k2 4; have cc_5 := blk_cell k2 5 rfl; have fc_5 := blk_free k2 5; have cc_6 := blk_cell k2 6 rfl; have fc_6 := blk_free k2 6; have cc_7 := blk_cell k2 7 rfl; have fc_7 := blk_free k2 7; have cc_8 := blk_cell k2 8 rfl; have fc_8 := blk_free k2 8; have cc_9 := blk_cell k2 9 rfl; have fc_9 := blk_free k2 9; have cc_10 := blk_cell k2 10 rfl; have fc_10 := blk_free k2 10; have lc := lt_of_block k2)
  have c2 := ((bcell hBv).1 bb oo hbb).trans CD.out
  have HBV := Lib.hid hBv
  go_wp2_with fail
  go_quiet (fail)
  go_wp2_with (at_builtin; refine wpList_append_any _ rfl (.const (.slice none 0 0)) (.tmp 69) _ rfl w.heap.size 4 i0 _ 1 1 Try.underlying26 hi0 hz0 hz1 hz2 rfl (by omega) (.slice none 0 0) 0 [] rfl (World.ownsRow_nil _ _ _ _) _ A s.n ac (bools s.ack) rfl ((H.out.ar.below (B := w.heap.size) (by repeat (first | (with_reducible exact Below.refl _ _) | (with_reducible refine Below.drew ?_) | (with_reducible refine below_drewN ?_ _) | ((with_reducible refine Below.alloc ?_ ?_ _); rotate_left; (first | omega | (simp <;> omega)); rotate_right) | ((with_reducible refine Below.setCell ?_ ?_ _); rotate_left; (first | omega | (simp <;> omega)); rotate_right) | (with_reducible assumption) | (refine Below.trans ?_ (Below.mono (by assumption) ?_); rotate_left; (first | omega | (simp <;> omega)); rotate_right))) (Nat.le_refl _)).reads) (bools_one _) (by simp only [maxLen]; omega) (by omega) (by simp [World.setCell]; have := HBV.out.size; omega) ?_; intro v5 w5 hown5 hg5 hat5; simp only [Nat.zero_add, List.nil_append] at hown5; obtain ⟨g5, c5, rfl, hge5, hlt5⟩ := hown5.form (by omega); have hBP : Below w.heap.size w w5 := Below.grown (show Below w.heap.size w _ from (by repeat (first | (with_reducible exact Below.refl _ _) | (with_reducible refine Below.drew ?_) | (with_reducible refine below_drewN ?_ _) | ((with_reducible refine Below.alloc ?_ ?_ _); rotate_left; (first | omega | (simp <;> omega)); rotate_right) | ((with_reducible refine Below.setCell ?_ ?_ _); rotate_left; (first | omega | (simp <;> omega)); rotate_right) | (with_reducible assumption) | (refine Below.trans ?_ (Below.mono (by assumption) ?_); rotate_left; (first | omega | (simp <;> omega)); rotate_right)))) hg5 (by have := HBV.out.size; simp [World.setCell]; omega) (fun g hg => by simp [Value.ownBlock] at hg); have e0 : w5.heap[w.heap.size]? = some (.cells #[.int .i64 s.again, .int .i64 s.st, .int .i64 now, .int .i64 s.seq, .bool s.some, .int .i64 s.prog, .int .i64 s.cmd, .slice D dl dc, .int .i64 s.sent, .slice A s.n ac, .slice S s.n sc] 29 (0, 0)) := (hg5.block w.heap.size (by have := lt_of_block k0; simp [World.setCell]; omega) (by simp [Value.ownBlock])).trans (by apply Eq.trans; (repeat (first | (with_reducible assumption) | (with_reducible apply blk_set) | ((with_reducible apply blk_far); rotate_left; (first | omega | (simp <;> omega)); rotate_right) | (with_reducible apply blk_drew) | (with_reducible apply blk_drewN) | ((with_reducible apply heap_new'); (first | rfl | (simp <;> fail))) | (with_reducible apply blk_alloc))); (first | with_reducible rfl | (simp <;> fail) | rfl)); have e1 : w5.heap[w.heap.size + 1]? = some (.cells #[.int .i64 8, .int .i64 f, .int .i64 t, .int .i64 q, .slice (some ⟨bb, oo, none⟩) 1 cap] 40 (0, 0)) := (hg5.block (w.heap.size + 1) (by have := lt_of_block k1; simp [World.setCell]; omega) (by simp [Value.ownBlock])).trans (by repeat (first | (with_reducible assumption) | ((with_reducible apply blk_far); rotate_left; (first | omega | (simp <;> omega)); rotate_right) | (with_reducible apply blk_drew) | (with_reducible apply blk_drewN) | (with_reducible exact heap_new _ _) | ((with_reducible apply heap_new'); (first | rfl | (simp <;> fail))) | (with_reducible apply blk_alloc))); have e2 : w5.heap[w.heap.size + 2]? = some (.cells #[.int .i64 0, .int .i64 0, .int .i64 0, .int .i64 0, .bool false, .int .i64 0, .int .i64 0, .slice none 0 0, .int .i64 0, .slice none 0 0, .slice none 0 0] 29 (0, 0)) := (hg5.block (w.heap.size + 2) (by have := lt_of_block k2; simp [World.setCell]; omega) (by simp [Value.ownBlock])).trans (by repeat (first | (with_reducible assumption) | ((with_reducible apply blk_far); rotate_left; (first | omega | (simp <;> omega)); rotate_right) | (with_reducible apply blk_drew) | (with_reducible apply blk_drewN) | (with_reducible exact heap_new _ _) | ((with_reducible apply heap_new'); (first | rfl | (simp <;> fail))) | (with_reducible apply blk_alloc))); have HR5 := Lib.hid ((Row.of_own hown5).more (Nat.zero_le _)); have HBP := Lib.hid hBP; have HG5 := Lib.hid (show w.heap.size ≤ g5 from hge5); (have cd_0 := blk_cell e0 0 rfl; have fd_0 := blk_free e0 0; have cd_1 := blk_cell e0 1 rfl; have fd_1 := blk_free e0 1; have cd_2 := blk_cell e0 2 rfl; have fd_2 := blk_free e0 2; have cd_3 := blk_cell e0 3 rfl; have fd_3 := blk_free e0 3; have cd_4 := blk_cell e0 4 rfl; have fd_4 := blk_free e0 4; have cd_5 := blk_cell e0 5 rfl; have fd_5 := blk_free e0 5; have cd_6 := blk_cell e0 6 rfl; have fd_6 := blk_free e0 6; have cd_7 := blk_cell e0 7 rfl; have fd_7 := blk_free e0 7; have cd_8 := blk_cell e0 8 rfl; have fd_8 := blk_free e0 8; have cd_9 := blk_cell e0 9 rfl; have fd_9 := blk_free e0 9; have cd_10 := blk_cell e0 10 rfl; have fd_10 := blk_free e0 10; have ld := lt_of_block e0); clear hown5 hg5 hat5 hBP)
  have hg50 : g5 ≠ w.heap.size := (HR5.out.ty rfl).ne ⟨_, e0⟩ (by decide)
  have hg51 : g5 ≠ w.heap.size + 1 := (HR5.out.ty rfl).ne ⟨_, e1⟩ (by decide)
  have hg52 : g5 ≠ w.heap.size + 2 := (HR5.out.ty rfl).ne ⟨_, e2⟩ (by decide)
  generalize hV0 : World.setCell _ _ _ = V5
  have p0 : V5.heap[w.heap.size]? = some (.cells #[.int .i64 s.again, .int .i64 s.st, .int .i64 now, .int .i64 s.seq, .bool s.some, .int .i64 s.prog, .int .i64 s.cmd, .slice D dl dc, .int .i64 s.sent, .slice (some ⟨g5, 0, none⟩) s.n c5, .slice S s.n sc] 29 (0, 0)) := by rw [← hV0]; exact (by apply Eq.trans; (repeat (first | (with_reducible assumption) | (with_reducible apply blk_set) | ((with_reducible apply blk_far); rotate_left; (first | omega | (simp <;> omega)); rotate_right) | (with_reducible apply blk_drew) | (with_reducible apply blk_drewN) | ((with_reducible apply heap_new'); (first | rfl | (simp <;> fail))) | (with_reducible apply blk_alloc))); (first | with_reducible rfl | (simp <;> fail) | rfl))
  have p1 : V5.heap[w.heap.size + 1]? = some (.cells #[.int .i64 8, .int .i64 f, .int .i64 t, .int .i64 q, .slice (some ⟨bb, oo, none⟩) 1 cap] 40 (0, 0)) := by rw [← hV0]; exact (by repeat (first | (with_reducible assumption) | ((with_reducible apply blk_far); rotate_left; (first | omega | (simp <;> omega)); rotate_right) | (with_reducible apply blk_drew) | (with_reducible apply blk_drewN) | (with_reducible exact heap_new _ _) | ((with_reducible apply heap_new'); (first | rfl | (simp <;> fail))) | (with_reducible apply blk_alloc)))
  have p2 : V5.heap[w.heap.size + 2]? = some (.cells #[.int .i64 0, .int .i64 0, .int .i64 0, .int .i64 0, .bool false, .int .i64 0, .int .i64 0, .slice none 0 0, .int .i64 0, .slice none 0 0, .slice none 0 0] 29 (0, 0)) := by rw [← hV0]; exact (by repeat (first | (with_reducible assumption) | ((with_reducible apply blk_far); rotate_left; (first | omega | (simp <;> omega)); rotate_right) | (with_reducible apply blk_drew) | (with_reducible apply blk_drewN) | (with_reducible exact heap_new _ _) | ((with_reducible apply heap_new'); (first | rfl | (simp <;> fail))) | (with_reducible apply blk_alloc)))
  have HP5 := Lib.hid (show Below w.heap.size w V5 from by rw [← hV0]; exact HBP.out.setCell (Nat.le_refl _) _)
  have HQ5 := Lib.hid (show Row V5 0 4 1 (some ⟨g5, 0, none⟩) s.n c5 (bools s.ack) from by rw [← hV0]; exact HR5.out.far (p := ⟨w.heap.size, 9, none⟩) (fun g hg => by simp only [blkOf, Option.some.injEq] at hg; subst hg; exact hg50) _)
  clear ca_0 fa_0 ca_1 fa_1 ca_2 fa_2 ca_3 fa_3 ca_4 fa_4 ca_5 fa_5 ca_6 fa_6 ca_7 fa_7 ca_8 fa_8 ca_9 fa_9 ca_10 fa_10
  clear cb_0 fb_0 cb_1 fb_1 cb_2 fb_2 cb_3 fb_3 cb_4 fb_4
  clear cc_0 fc_0 cc_1 fc_1 cc_2 fc_2 cc_3 fc_3 cc_4 fc_4 cc_5 fc_5 cc_6 fc_6 cc_7 fc_7 cc_8 fc_8 cc_9 fc_9 cc_10 fc_10
  clear cd_0 fd_0 cd_1 fd_1 cd_2 fd_2 cd_3 fd_3 cd_4 fd_4 cd_5 fd_5 cd_6 fd_6 cd_7 fd_7 cd_8 fd_8 cd_9 fd_9 cd_10 fd_10
  clear la lb lc ld k0 k1 k2 e0 e1 e2 hV0 hBv c2
  refine (M1.out _ _ _ HQ5.out).mono ?_
  rintro e w6 ⟨A6, c6, rfl, _, hB6⟩
  have j0 := blk_below p0 hB6 (lt_of_block p0)
  have j1 := blk_below p1 hB6 (lt_of_block p1)
  have j2 := blk_below p2 hB6 (lt_of_block p2)
  have HB6 := Lib.hid (HP5.out.trans (hB6.mono HP5.out.size))
  have hR6 := HQ5.out.below hB6 (Nat.le_refl _)
  obtain ⟨g', o', cur, he', _, _, hcg, _, _, _, _, hcell6, _⟩ := hR6.some_ (by omega)
  injection he' with he'; injection he' with e1' e2'
  subst e1'; subst e2'
  have d0 := hcell6 i (.bool (s.ack[i]'(by rw [HAL.out]; exact hin))) (by rw [bools, List.getElem?_map, List.getElem?_eq_getElem (by rw [HAL.out]; exact hin)]; rfl)
  have df := blk_free hcg (0 + i)
  have HR6 := Lib.hid hR6
  rw [Nat.zero_add] at d0 df
  clear p0 p1 p2 hB6 hR6 hcell6 hcg
  have ca_0 := blk_cell j0 0 rfl; have fa_0 := blk_free j0 0; have ca_1 := blk_cell j0 1 rfl; have fa_1 := blk_free j0 1; have ca_2 := blk_cell j0 2 rfl; have fa_2 := blk_free j0 2; have ca_3 := blk_cell j0 3 rfl; have fa_3 := blk_free j0 3; have ca_4 := blk_cell j0 4 rfl; have fa_4 := blk_free j0 4; have ca_5 := blk_cell j0 5 rfl; have fa_5 := blk_free j0 5; have ca_6 := blk_cell j0 6 rfl; have fa_6 := blk_free j0 6; have ca_7 := blk_cell j0 7 rfl; have fa_7 := blk_free j0 7; have ca_8 := blk_cell j0 8 rfl; have fa_8 := blk_free j0 8; have ca_9 := blk_cell j0 9 rfl; have fa_9 := blk_free j0 9; have ca_10 := blk_cell j0 10 rfl; have fa_10 := blk_free j0 10; have la := lt_of_block j0
  have cb_0 := blk_cell j1 0 rfl; have fb_0 := blk_free j1 0; have cb_1 := blk_cell j1 1 rfl; have fb_1 := blk_free j1 1; have cb_2 := blk_cell j1 2 rfl; have fb_2 := blk_free j1 2; have cb_3 := blk_cell j1 3 rfl; have fb_3 := blk_free j1 3; have cb_4 := blk_cell j1 4 rfl; have fb_4 := blk_free j1 4; have lb := lt_of_block j1
  have cc_0 := blk_cell j2 0 rfl; have fc_0 := blk_free j2 0; have cc_1 := blk_cell j2 1 rfl; have fc_1 := blk_free j2 1; have cc_2 := blk_cell j2 2 rfl; have fc_2 := blk_free j2 2; have cc_3 := blk_cell j2 3 rfl; have fc_3 := blk_free j2 3; have cc_4 := blk_cell j2 4 rfl; have fc_4 := blk_free j2 4; have cc_5 := blk_cell j2 5 rfl; have fc_5 := blk_free j2 5; have cc_6 := blk_cell j2 6 rfl; have fc_6 := blk_free j2 6; have cc_7 := blk_cell j2 7 rfl; have fc_7 := blk_free j2 7; have cc_8 := blk_cell j2 8 rfl; have fc_8 := blk_free j2 8; have cc_9 := blk_cell j2 9 rfl; have fc_9 := blk_free j2 9; have cc_10 := blk_cell j2 10 rfl; have fc_10 := blk_free j2 10; have lc := lt_of_block j2
  go_upto_region 15 with fail
  generalize hV0 : World.setCell _ _ _ = W7
  have p0 : W7.heap[w.heap.size]? = some (.cells #[.int .i64 s.again, .int .i64 s.st, .int .i64 now, .int .i64 s.seq, .bool s.some, .int .i64 s.prog, .int .i64 s.cmd, .slice D dl dc, .int .i64 s.sent, .slice (some ⟨g5, 0, none⟩) s.n c5, .slice S s.n sc] 29 (0, 0)) := by rw [← hV0]; exact (by repeat (first | (with_reducible assumption) | ((with_reducible apply blk_far); rotate_left; (first | omega | (simp <;> omega)); rotate_right) | (with_reducible apply blk_drew) | (with_reducible apply blk_drewN) | (with_reducible exact heap_new _ _) | ((with_reducible apply heap_new'); (first | rfl | (simp <;> fail))) | (with_reducible apply blk_alloc)))
  have p2 : W7.heap[w.heap.size + 2]? = some (.cells #[.int .i64 0, .int .i64 0, .int .i64 0, .int .i64 0, .bool false, .int .i64 0, .int .i64 0, .slice none 0 0, .int .i64 0, .slice none 0 0, .slice none 0 0] 29 (0, 0)) := by rw [← hV0]; exact (by repeat (first | (with_reducible assumption) | ((with_reducible apply blk_far); rotate_left; (first | omega | (simp <;> omega)); rotate_right) | (with_reducible apply blk_drew) | (with_reducible apply blk_drewN) | (with_reducible exact heap_new _ _) | ((with_reducible apply heap_new'); (first | rfl | (simp <;> fail))) | (with_reducible apply blk_alloc)))
  have HB7 := Lib.hid (show Below w.heap.size w W7 from by rw [← hV0]; exact HB6.out.setCell HG5.out _)
  have HR7 := Lib.hid (show Row W7 0 4 1 (some ⟨g5, 0, none⟩) s.n c5 (bools (s.ack.set i true)) from by
    have := HR6.out.set1 hin (.bool true)
    rw [Nat.zero_add] at this
    rw [← hV0, bools, List.map_set]
    exact this)
  clear ca_0 fa_0 ca_1 fa_1 ca_2 fa_2 ca_3 fa_3 ca_4 fa_4 ca_5 fa_5 ca_6 fa_6 ca_7 fa_7 ca_8 fa_8 ca_9 fa_9 ca_10 fa_10
  clear cb_0 fb_0 cb_1 fb_1 cb_2 fb_2 cb_3 fb_3 cb_4 fb_4
  clear cc_0 fc_0 cc_1 fc_1 cc_2 fc_2 cc_3 fc_3 cc_4 fc_4 cc_5 fc_5 cc_6 fc_6 cc_7 fc_7 cc_8 fc_8 cc_9 fc_9 cc_10 fc_10
  clear la lb lc j0 j1 j2 d0 df hV0
  have ca_0 := blk_cell p0 0 rfl; have fa_0 := blk_free p0 0; have ca_1 := blk_cell p0 1 rfl; have fa_1 := blk_free p0 1; have ca_2 := blk_cell p0 2 rfl; have fa_2 := blk_free p0 2; have ca_3 := blk_cell p0 3 rfl; have fa_3 := blk_free p0 3; have ca_4 := blk_cell p0 4 rfl; have fa_4 := blk_free p0 4; have ca_5 := blk_cell p0 5 rfl; have fa_5 := blk_free p0 5; have ca_6 := blk_cell p0 6 rfl; have fa_6 := blk_free p0 6; have ca_7 := blk_cell p0 7 rfl; have fa_7 := blk_free p0 7; have ca_8 := blk_cell p0 8 rfl; have fa_8 := blk_free p0 8; have ca_9 := blk_cell p0 9 rfl; have fa_9 := blk_free p0 9; have ca_10 := blk_cell p0 10 rfl; have fa_10 := blk_free p0 10; have la := lt_of_block p0
  have cc_0 := blk_cell p2 0 rfl; have fc_0 := blk_free p2 0; have cc_1 := blk_cell p2 1 rfl; have fc_1 := blk_free p2 1; have cc_2 := blk_cell p2 2 rfl; have fc_2 := blk_free p2 2; have cc_3 := blk_cell p2 3 rfl; have fc_3 := blk_free p2 3; have cc_4 := blk_cell p2 4 rfl; have fc_4 := blk_free p2 4; have cc_5 := blk_cell p2 5 rfl; have fc_5 := blk_free p2 5; have cc_6 := blk_cell p2 6 rfl; have fc_6 := blk_free p2 6; have cc_7 := blk_cell p2 7 rfl; have fc_7 := blk_free p2 7; have cc_8 := blk_cell p2 8 rfl; have fc_8 := blk_free p2 8; have cc_9 := blk_cell p2 9 rfl; have fc_9 := blk_free p2 9; have cc_10 := blk_cell p2 10 rfl; have fc_10 := blk_free p2 10; have lc := lt_of_block p2
  by_cases hP : n9 = 0
  · have zp : decide (0 < n9) = false := by rw [decide_eq_false_iff_not]; omega
    have zp2 : ¬ (0 < n9) := by omega
    have ES := Lib.hid (show (Stn.acked { s with now := now } (i + 1)).st = s.st by rw [HST.out, if_neg (fun h => h.1 (List.eq_nil_of_length_eq_zero (by rw [← HN9.out]; exact hP)))])
    clear hP
    go_wp2_with fail
    generalize hWf : World.setCell _ _ _ = Wf
    have hf : Wf.heap[w.heap.size + 2]? = some (.cells #[.int .i64 s.again, .int .i64 s.st, .int .i64 now, .int .i64 s.seq, .bool s.some, .int .i64 s.prog, .int .i64 s.cmd, .slice D dl dc, .int .i64 s.sent, .slice (some ⟨g5, 0, none⟩) s.n c5, .slice S s.n sc] 29 (0, 0)) := by rw [← hWf]; exact (by apply Eq.trans; (repeat (first | (with_reducible assumption) | (with_reducible apply blk_set) | ((with_reducible apply blk_far); rotate_left; (first | omega | (simp <;> omega)); rotate_right) | (with_reducible apply blk_drew) | (with_reducible apply blk_drewN) | ((with_reducible apply heap_new'); (first | rfl | (simp <;> fail))) | (with_reducible apply blk_alloc))); (first | with_reducible rfl | (simp <;> fail) | rfl))
    have hK : Keeps (fun j => j = w.heap.size + 2) W7 Wf := by rw [← hWf]; (repeat (first | with_reducible exact Keeps.refl _ _ | (with_reducible refine Keeps.set1 ?_ _ _) | (with_reducible refine Keeps.drew ?_) | (with_reducible refine Keeps.drewN ?_ _) | (with_reducible refine Keeps.alloc ?_ _)))
    clear hWf
    clear ca_0 fa_0 ca_1 fa_1 ca_2 fa_2 ca_3 fa_3 ca_4 fa_4 ca_5 fa_5 ca_6 fa_6 ca_7 fa_7 ca_8 fa_8 ca_9 fa_9 ca_10 fa_10
    clear cc_0 fc_0 cc_1 fc_1 cc_2 fc_2 cc_3 fc_3 cc_4 fc_4 cc_5 fc_5 cc_6 fc_6 cc_7 fc_7 cc_8 fc_8 cc_9 fc_9 cc_10 fc_10
    clear la lc
    have cm_0 := blk_cell hf 0 rfl; have fm_0 := blk_free hf 0; have cm_1 := blk_cell hf 1 rfl; have fm_1 := blk_free hf 1; have cm_2 := blk_cell hf 2 rfl; have fm_2 := blk_free hf 2; have cm_3 := blk_cell hf 3 rfl; have fm_3 := blk_free hf 3; have cm_4 := blk_cell hf 4 rfl; have fm_4 := blk_free hf 4; have cm_5 := blk_cell hf 5 rfl; have fm_5 := blk_free hf 5; have cm_6 := blk_cell hf 6 rfl; have fm_6 := blk_free hf 6; have cm_7 := blk_cell hf 7 rfl; have fm_7 := blk_free hf 7; have cm_8 := blk_cell hf 8 rfl; have fm_8 := blk_free hf 8; have cm_9 := blk_cell hf 9 rfl; have fm_9 := blk_free hf 9; have cm_10 := blk_cell hf 10 rfl; have fm_10 := blk_free hf 10; have lm := lt_of_block hf
    refine bodyPost_ret (v := .tuple #[.agg #[.int .i64 s.again, .int .i64 s.st, .int .i64 now, .int .i64 s.seq, .bool s.some, .int .i64 s.prog, .int .i64 s.cmd, .slice D dl dc, .int .i64 s.sent, .slice (some ⟨g5, 0, none⟩) s.n c5, .slice S s.n sc], .slice none 0 0, .int .i64 0]) (by simp [results, Try.results32, go_sem, cm_0, cm_1, cm_2, cm_3, cm_4, cm_5, cm_6, cm_7, cm_8, cm_9, cm_10]) rfl ⟨_, D, dc, some ⟨g5, 0, none⟩, c5, S, sc, by unfold rsl; rw [ES.out, HDL.out]; rfl, ?_, Rof.nil _ _, HB7.out.trans (hK.below (fun j _ hj => by omega) HB7.out.size), fun g hg => .inl hg⟩
    have hBf := HB7.out.trans (hK.below (B := w.heap.size) (fun j _ hj => by omega) HB7.out.size)
    have hq := H.out.below hBf (Nat.le_refl _)
    exact ⟨hq.dr, HR7.out.kept hK (fun g hg e => by simp only [blkOf, Option.some.injEq] at hg; omega), hq.sr⟩
  · have zp : decide ((0 : Int) < (n9 : Int)) = true := by rw [decide_eq_true_iff]; omega
    go_wp2_with fail
    refine (M2.out _ _ _ HR7.out).mono ?_
    rintro e w8 ⟨A8, c8, rfl, _, hB8⟩
    have j0 := blk_below p0 hB8 (lt_of_block p0)
    have j2 := blk_below p2 hB8 (lt_of_block p2)
    have HB8 := Lib.hid (HB7.out.trans (hB8.mono HB7.out.size))
    have HR8 := Lib.hid (HR7.out.below hB8 (Nat.le_refl _))
    clear hB8
    clear ca_0 fa_0 ca_1 fa_1 ca_2 fa_2 ca_3 fa_3 ca_4 fa_4 ca_5 fa_5 ca_6 fa_6 ca_7 fa_7 ca_8 fa_8 ca_9 fa_9 ca_10 fa_10
    clear cc_0 fc_0 cc_1 fc_1 cc_2 fc_2 cc_3 fc_3 cc_4 fc_4 cc_5 fc_5 cc_6 fc_6 cc_7 fc_7 cc_8 fc_8 cc_9 fc_9 cc_10 fc_10
    clear la lc p0 p2
    have ca_0 := blk_cell j0 0 rfl; have fa_0 := blk_free j0 0; have ca_1 := blk_cell j0 1 rfl; have fa_1 := blk_free j0 1; have ca_2 := blk_cell j0 2 rfl; have fa_2 := blk_free j0 2; have ca_3 := blk_cell j0 3 rfl; have fa_3 := blk_free j0 3; have ca_4 := blk_cell j0 4 rfl; have fa_4 := blk_free j0 4; have ca_5 := blk_cell j0 5 rfl; have fa_5 := blk_free j0 5; have ca_6 := blk_cell j0 6 rfl; have fa_6 := blk_free j0 6; have ca_7 := blk_cell j0 7 rfl; have fa_7 := blk_free j0 7; have ca_8 := blk_cell j0 8 rfl; have fa_8 := blk_free j0 8; have ca_9 := blk_cell j0 9 rfl; have fa_9 := blk_free j0 9; have ca_10 := blk_cell j0 10 rfl; have fa_10 := blk_free j0 10; have la := lt_of_block j0
    have cc_0 := blk_cell j2 0 rfl; have fc_0 := blk_free j2 0; have cc_1 := blk_cell j2 1 rfl; have fc_1 := blk_free j2 1; have cc_2 := blk_cell j2 2 rfl; have fc_2 := blk_free j2 2; have cc_3 := blk_cell j2 3 rfl; have fc_3 := blk_free j2 3; have cc_4 := blk_cell j2 4 rfl; have fc_4 := blk_free j2 4; have cc_5 := blk_cell j2 5 rfl; have fc_5 := blk_free j2 5; have cc_6 := blk_cell j2 6 rfl; have fc_6 := blk_free j2 6; have cc_7 := blk_cell j2 7 rfl; have fc_7 := blk_free j2 7; have cc_8 := blk_cell j2 8 rfl; have fc_8 := blk_free j2 8; have cc_9 := blk_cell j2 9 rfl; have fc_9 := blk_free j2 9; have cc_10 := blk_cell j2 10 rfl; have fc_10 := blk_free j2 10; have lc := lt_of_block j2
    by_cases hQ : n8 = 0
    · have zq : ((n8 : Int) == 0) = true := by simp; omega
      have ES := Lib.hid (show (Stn.acked { s with now := now } (i + 1)).st = Stn.full s.cmd by rw [HST.out, if_pos ⟨fun h => hP (by rw [HN9.out, h]; rfl), List.eq_nil_of_length_eq_zero (by rw [← HN8.out]; exact hQ)⟩])
      clear hP hQ
      go_wp2_with fail
      refine (AF.out _).mono ?_
      rintro e w' ⟨rfl, rfl⟩
      go_wp2_with fail
      generalize hWf : World.setCell _ _ _ = Wf
      have hf : Wf.heap[w.heap.size + 2]? = some (.cells #[.int .i64 s.again, .int .i64 (Stn.full s.cmd), .int .i64 now, .int .i64 s.seq, .bool s.some, .int .i64 s.prog, .int .i64 s.cmd, .slice D dl dc, .int .i64 s.sent, .slice (some ⟨g5, 0, none⟩) s.n c5, .slice S s.n sc] 29 (0, 0)) := by rw [← hWf]; exact (by apply Eq.trans; (repeat (first | (with_reducible assumption) | (with_reducible apply blk_set) | ((with_reducible apply blk_far); rotate_left; (first | omega | (simp <;> omega)); rotate_right) | (with_reducible apply blk_drew) | (with_reducible apply blk_drewN) | ((with_reducible apply heap_new'); (first | rfl | (simp <;> fail))) | (with_reducible apply blk_alloc))); (first | with_reducible rfl | (simp <;> fail) | rfl))
      have hK : Keeps (fun j => j = w.heap.size + 2 ∨ j = w.heap.size) w8 Wf := by rw [← hWf]; repeat (first | with_reducible exact Keeps.refl _ _ | (with_reducible refine Keeps.set2 ?_ _ _) | (with_reducible refine Keeps.set2' ?_ _ _))
      clear hWf
      clear ca_0 fa_0 ca_1 fa_1 ca_2 fa_2 ca_3 fa_3 ca_4 fa_4 ca_5 fa_5 ca_6 fa_6 ca_7 fa_7 ca_8 fa_8 ca_9 fa_9 ca_10 fa_10
      clear cc_0 fc_0 cc_1 fc_1 cc_2 fc_2 cc_3 fc_3 cc_4 fc_4 cc_5 fc_5 cc_6 fc_6 cc_7 fc_7 cc_8 fc_8 cc_9 fc_9 cc_10 fc_10
      clear la lc
      have cm_0 := blk_cell hf 0 rfl; have fm_0 := blk_free hf 0; have cm_1 := blk_cell hf 1 rfl; have fm_1 := blk_free hf 1; have cm_2 := blk_cell hf 2 rfl; have fm_2 := blk_free hf 2; have cm_3 := blk_cell hf 3 rfl; have fm_3 := blk_free hf 3; have cm_4 := blk_cell hf 4 rfl; have fm_4 := blk_free hf 4; have cm_5 := blk_cell hf 5 rfl; have fm_5 := blk_free hf 5; have cm_6 := blk_cell hf 6 rfl; have fm_6 := blk_free hf 6; have cm_7 := blk_cell hf 7 rfl; have fm_7 := blk_free hf 7; have cm_8 := blk_cell hf 8 rfl; have fm_8 := blk_free hf 8; have cm_9 := blk_cell hf 9 rfl; have fm_9 := blk_free hf 9; have cm_10 := blk_cell hf 10 rfl; have fm_10 := blk_free hf 10; have lm := lt_of_block hf
      refine bodyPost_ret (v := .tuple #[.agg #[.int .i64 s.again, .int .i64 (Stn.full s.cmd), .int .i64 now, .int .i64 s.seq, .bool s.some, .int .i64 s.prog, .int .i64 s.cmd, .slice D dl dc, .int .i64 s.sent, .slice (some ⟨g5, 0, none⟩) s.n c5, .slice S s.n sc], .slice none 0 0, .int .i64 0]) (by simp [results, Try.results32, go_sem, cm_0, cm_1, cm_2, cm_3, cm_4, cm_5, cm_6, cm_7, cm_8, cm_9, cm_10]) rfl ⟨_, D, dc, some ⟨g5, 0, none⟩, c5, S, sc, by unfold rsl; rw [ES.out, HDL.out]; rfl, ?_, Rof.nil _ _, HB8.out.trans (hK.below (fun j _ hj => by omega) HB8.out.size), fun g hg => .inl hg⟩
      have hBf := HB8.out.trans (hK.below (B := w.heap.size) (fun j _ hj => by omega) HB8.out.size)
      have hq := H.out.below hBf (Nat.le_refl _)
      exact ⟨hq.dr, HR8.out.kept hK (fun g hg e => by simp only [blkOf, Option.some.injEq] at hg; omega), hq.sr⟩
    · have zq : ((n8 : Int) == 0) = false := by rw [beq_eq_false_iff_ne]; omega
      have ES := Lib.hid (show (Stn.acked { s with now := now } (i + 1)).st = s.st by rw [HST.out, if_neg (fun h => hQ (by rw [HN8.out, h.2]; rfl))])
      clear hP hQ
      go_wp2_with fail
      generalize hWf : World.setCell _ _ _ = Wf
      have hf : Wf.heap[w.heap.size + 2]? = some (.cells #[.int .i64 s.again, .int .i64 s.st, .int .i64 now, .int .i64 s.seq, .bool s.some, .int .i64 s.prog, .int .i64 s.cmd, .slice D dl dc, .int .i64 s.sent, .slice (some ⟨g5, 0, none⟩) s.n c5, .slice S s.n sc] 29 (0, 0)) := by rw [← hWf]; exact (by apply Eq.trans; (repeat (first | (with_reducible assumption) | (with_reducible apply blk_set) | ((with_reducible apply blk_far); rotate_left; (first | omega | (simp <;> omega)); rotate_right) | (with_reducible apply blk_drew) | (with_reducible apply blk_drewN) | ((with_reducible apply heap_new'); (first | rfl | (simp <;> fail))) | (with_reducible apply blk_alloc))); (first | with_reducible rfl | (simp <;> fail) | rfl))
      have hK : Keeps (fun j => j = w.heap.size + 2) w8 Wf := by rw [← hWf]; (repeat (first | with_reducible exact Keeps.refl _ _ | (with_reducible refine Keeps.set1 ?_ _ _) | (with_reducible refine Keeps.drew ?_) | (with_reducible refine Keeps.drewN ?_ _) | (with_reducible refine Keeps.alloc ?_ _)))
      clear hWf
      clear ca_0 fa_0 ca_1 fa_1 ca_2 fa_2 ca_3 fa_3 ca_4 fa_4 ca_5 fa_5 ca_6 fa_6 ca_7 fa_7 ca_8 fa_8 ca_9 fa_9 ca_10 fa_10
      clear cc_0 fc_0 cc_1 fc_1 cc_2 fc_2 cc_3 fc_3 cc_4 fc_4 cc_5 fc_5 cc_6 fc_6 cc_7 fc_7 cc_8 fc_8 cc_9 fc_9 cc_10 fc_10
      clear la lc
      have cm_0 := blk_cell hf 0 rfl; have fm_0 := blk_free hf 0; have cm_1 := blk_cell hf 1 rfl; have fm_1 := blk_free hf 1; have cm_2 := blk_cell hf 2 rfl; have fm_2 := blk_free hf 2; have cm_3 := blk_cell hf 3 rfl; have fm_3 := blk_free hf 3; have cm_4 := blk_cell hf 4 rfl; have fm_4 := blk_free hf 4; have cm_5 := blk_cell hf 5 rfl; have fm_5 := blk_free hf 5; have cm_6 := blk_cell hf 6 rfl; have fm_6 := blk_free hf 6; have cm_7 := blk_cell hf 7 rfl; have fm_7 := blk_free hf 7; have cm_8 := blk_cell hf 8 rfl; have fm_8 := blk_free hf 8; have cm_9 := blk_cell hf 9 rfl; have fm_9 := blk_free hf 9; have cm_10 := blk_cell hf 10 rfl; have fm_10 := blk_free hf 10; have lm := lt_of_block hf
      refine bodyPost_ret (v := .tuple #[.agg #[.int .i64 s.again, .int .i64 s.st, .int .i64 now, .int .i64 s.seq, .bool s.some, .int .i64 s.prog, .int .i64 s.cmd, .slice D dl dc, .int .i64 s.sent, .slice (some ⟨g5, 0, none⟩) s.n c5, .slice S s.n sc], .slice none 0 0, .int .i64 0]) (by simp [results, Try.results32, go_sem, cm_0, cm_1, cm_2, cm_3, cm_4, cm_5, cm_6, cm_7, cm_8, cm_9, cm_10]) rfl ⟨_, D, dc, some ⟨g5, 0, none⟩, c5, S, sc, by unfold rsl; rw [ES.out, HDL.out]; rfl, ?_, Rof.nil _ _, HB8.out.trans (hK.below (fun j _ hj => by omega) HB8.out.size), fun g hg => .inl hg⟩
      have hBf := HB8.out.trans (hK.below (B := w.heap.size) (fun j _ hj => by omega) HB8.out.size)
      have hq := H.out.below hBf (Nat.le_refl _)
      exact ⟨hq.dr, HR8.out.kept hK (fun g hg e => by simp only [blkOf, Option.some.injEq] at hg; omega), hq.sr⟩
end Go.Proofs.Ytiidkmnagfhgiaa

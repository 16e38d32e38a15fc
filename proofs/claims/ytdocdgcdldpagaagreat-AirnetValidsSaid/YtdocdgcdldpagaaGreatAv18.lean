import Derived.Test.YtdocdgcdldpagaaGreatAp
import Derived.Test.YtdocdgcdldpagaaGreatAv17
import Derived.Lib.SliceRun
namespace Go.Proofs.YtdocdgcdldpagaaGreat
open Go.RowKit
set_option maxHeartbeats 8000000
set_option maxRecDepth 100000
set_option linter.unusedSimpArgs false
set_option linter.unusedVariables false
attribute [local go_sem ↓] Go.wp_at_zero Go.wp_at_succ
def setL (cur : Array Value) : Nat → List Value → Array Value
  | _, [] => cur
  | o, v :: r => setL (cur.setIfInBounds o v) (o + 1) r
theorem size_setL : ∀ (vs : List Value) (o : Nat) (cur : Array Value), (setL cur o vs).size = cur.size
  | [], _, _ => rfl
  | v :: r, o, cur => by rw [setL, size_setL r (o + 1), Array.size_setIfInBounds]
theorem get_setL : ∀ (vs : List Value) (o : Nat) (cur : Array Value) (k : Nat), k < cur.size → (setL cur o vs)[k]? = if o ≤ k ∧ k < o + vs.length then vs[k - o]? else cur[k]?
  | [], o, cur, k, h => by rw [if_neg (by simp only [List.length_nil]; omega)]; rfl
  | v :: r, o, cur, k, h => by
    rw [setL, get_setL r (o + 1) _ k C4]
    by_cases h1 : o + 1 ≤ k ∧ k < o + 1 + r.length
    · rw [if_pos h1, if_pos (by simp only [List.length_cons]; omega), show k - o = (k - (o + 1)) + 1 by omega, List.getElem?_cons_succ]
    · rw [if_neg h1]
      by_cases h2 : k = o
      · subst h2
        rw [if_pos C9, Nat.sub_self, Array.getElem?_setIfInBounds]
        simp [h]
      · rw [if_neg C6, Array.getElem?_setIfInBounds, if_neg Cb]
theorem setCells_blk (b : Nat) (t : TypeId) : ∀ (vs : List Value) (o : Nat) (w : World) (cur : Array Value), w.heap[b]? = some (.cells cur t (0, 0)) → (w.setCells b o vs).heap[b]? = some (.cells (setL cur o vs) t (0, 0))
  | [], _, _, _, h => h
  | v :: r, o, w, cur, h => by rw [World.setCells, setL]; exact setCells_blk b t r (o + 1) _ _ (blk_set h o v)
theorem setCells_keeps (b : Nat) : ∀ (vs : List Value) (o : Nat) (w0 w : World), Keeps (fun i => i = b) w0 w → Keeps (fun i => i = b) w0 (w.setCells b o vs)
  | [], _, _, _, h => h
  | v :: r, o, w0, w, h => by rw [World.setCells]; exact setCells_keeps b r (o + 1) w0 _ (h.set1 o v)
theorem zero_int : ∀ w, (zeroValue 3).run Tryz.prog w = .ok (.int .i64 0) w := fun w => by kernel_rfl
theorem erase_cells (cur : List Value) (cur2 : Array Value) (o n i : Nat) (xs : List Value) (hx : (cur.drop o).take n = xs) (hxl : xs.length = n) (hi : i < n) (hs : cur2.size = cur.length) (hc : cur2.toList = cur) (hfit : o + n ≤ cur.length) :
    ((setL (setL cur2 (o + i) (xs.drop (i + 1))) (o + (n - 1)) [.int .i64 0]).toList.drop o).take (n - 1) = xs.eraseIdx i := by
  apply List.ext_getElem?
  intro k
  have hxk : ∀ j, j < n → xs[j]? = cur[o + j]? := fun j hj => by rw [← hx, List.getElem?_take, if_pos hj, List.getElem?_drop]
  rw [List.getElem?_take, List.getElem?_eraseIdx]
  by_cases hk : k < n - 1
  · rw [if_pos hk, List.getElem?_drop, Array.getElem?_toList, get_setL _ _ _ _ (by rw [size_setL]; omega), if_neg C6, get_setL _ _ _ _ Cb]
    have hcc : ∀ j, cur2[j]? = cur[j]? := fun j => by rw [← Array.getElem?_toList, hc]
    by_cases h1 : k < i
    · rw [if_neg Cb, if_pos h1, hcc, hxk k Cb]
    · rw [if_pos (by rw [List.length_drop]; omega), if_neg h1, List.getElem?_drop]
      congr 1; omega
  · rw [if_neg hk]
    by_cases h1 : k < i
    · omega
    · rw [if_neg h1, List.getElem?_eq_none Cb]
theorem delete_any (A : Option Addr) (n c base i : Nat) (xs : List Value) (w : World) (hn : n ≤ 1000000) (h : Row w base 3 1 A n c xs) (h1 : ∀ v ∈ xs, v.oneCell' = true) (hi : i < n) :
    Calls Tryz.prog 136 #[.slice A n c, .int .i64 i, .int .i64 ((i : Int) + 1)] w fun e w' => e = .returned (.slice A (n - 1 : Nat) c) ∧ Row w' base 3 1 A (n - 1) c (xs.eraseIdx i) ∧ Keeps (fun g => blkOf A = some g) w w' := by
  obtain ⟨i0, hi0, hz0, hz1, hz2⟩ := info_parts info_in
  obtain ⟨g, o, cur, rfl, hge, hlt, hg, hnc, hcm, hfit, hcur, hcell, hfr⟩ := h.some_ Cb
  have hxl := h.1
  rw [Nat.mul_one] at hxl hfit hcur
  obtain ⟨news, hnews⟩ : ∃ news, news = xs.drop (i + 1) := ⟨_, rfl⟩
  have hlen : news.length = n - (i + 1) := by rw [hnews, List.length_drop, hxl]
  obtain ⟨AA, hA, hsrc⟩ : ∃ AA : Addr, (if c = i + 1 then some (⟨g, o, none⟩ : Addr) else some ⟨g, o + (i + 1), none⟩) = some AA ∧ Hid (∀ t u, news[t]? = some u → w.drew.cell? (AA.add t) = some u) := by
    by_cases hc : c = i + 1
    · refine ⟨⟨g, o, none⟩, by simp [hc], Lib.hid (fun t u hu => ?_)⟩
      rw [List.getElem?_eq_none Cb] at hu; cases hu
    · refine ⟨⟨g, o + (i + 1), none⟩, by simp [hc], Lib.hid (fun t u hu => ?_)⟩
      rw [addr_add, Nat.add_assoc]
      rw [hnews, List.getElem?_drop] at hu
      exact hcell _ u hu
  have s1 := Lib.hid (show news.length = (n - (i + 1)) * 1 by rw [Nat.mul_one]; exact hlen)
  have s2 := Lib.hid (show ∀ u ∈ news, u.oneCell' = true from fun u hu => h1 u (by rw [hnews] at hu; exact List.mem_of_mem_drop hu))
  have s3 := Lib.hid (show ∀ t, t < news.length → (w.drew.cell? ⟨g, o + i * 1 + t, none⟩).isSome = true ∧ w.drew.frozen? ⟨g, o + i * 1 + t, none⟩ = false from fun t ht => by
    have hh := hcell (i + t) (xs[i + t]'Cb) (List.getElem?_eq_getElem _)
    rw [Nat.mul_one, Nat.add_assoc]
    exact ⟨by show (w.cell? _).isSome = true; rw [hh]; rfl, hfr _⟩)
  obtain ⟨W1, hW1⟩ : ∃ W1, W1 = w.drew.setCells g (o + i * 1) news := ⟨_, rfl⟩
  have hb1 : W1.heap[g]? = some (.cells (setL cur (o + i) news) 3 (0, 0)) := by
    rw [hW1, Nat.mul_one]
    exact setCells_blk g _ news (o + i) w.drew cur hg
  have hk1 : Keeps (fun i => i = g) w W1 := by
    rw [hW1]
    exact setCells_keeps g _ _ _ _ (Keeps.refl _ _).drew
  have hcl : ∀ ty, (Builtin.clear_ #[26] ty #[.slice (some ⟨g, o + (i + (n - (i + 1))), none⟩) (n - (i + (n - (i + 1)))) (c - (i + (n - (i + 1))))]).run Tryz.prog W1 = .ok (.tuple #[]) (W1.setCells g (o + (n - 1)) [.int .i64 0]) := fun ty => by
    rw [show i + (n - (i + 1)) = n - 1 by omega, show n - (n - 1) = 1 by omega]
    refine Lib.run_clear_slice W1 _ _ ty _ Tryz.underlying26 zero_int rfl rfl g (o + (n - 1)) 1 (c - (n - 1)) Cb (fun j hj => ?_) (fun j hj => blk_free hb1 _)
    have : W1.cell? ⟨g, o + (n - 1) + j, none⟩ = (setL cur (o + i) news)[o + (n - 1) + j]? := by simp [World.cell?, hb1]
    rw [this, Array.getElem?_eq_getElem (by rw [size_setL]; omega)]
    rfl
  have HW := Lib.hid hW1
  have HB1 := Lib.hid hb1
  have HK1 := Lib.hid hk1
  have HE := Lib.hid (erase_cells cur.toList cur o n i xs hcur hxl hi C9 rfl (by rw [Array.length_toList]; omega))
  rw [← hnews] at HE
  have HSZ := Lib.hid hfit
  unfold maxLen at hcm
  have hin : (i : Int) + 1 ≤ (n : Int) := by omega
  have hic : i ≤ c := by omega
  have hjc : i + 1 ≤ c := by omega
  have hi00 : (0 : Int) ≤ (i : Int) + 1 := by omega
  have hni : ((i : Int) == (i : Int) + 1) = false := by rw [beq_eq_false_iff_ne]; omega
  clear h h1 hg hfit hcur hcell hfr hxl hnews hlen hW1 hb1 hk1
  go_enter Tryz.func136, Tryz.ntmps136
  go_wp2_with fail
  go_region_law (refine step_append_room rfl (.tmp 22) (.tmp 25) 26 rfl 3 i0 1 Tryz.underlying26 hi0 hz1 g o i c Bp AA (n - (i + 1)) (c - (i + 1)) news Bp s1.out hsrc.out s2.out Cb s3.out ?_; rw [← HW.out])
  have hm1 : ¬ (c = i + (n - (i + 1))) := by omega
  have hm2 : i + (n - (i + 1)) ≤ n := by omega
  go_wp2_with fail
  go_ret
  have em : i + (n - (i + 1)) = n - 1 := by omega
  rw [em]
  refine ⟨rfl, ?_, ?_⟩
  · have hb2 := setCells_blk g 3 [.int .i64 0] (o + (n - 1)) W1 _ HB1.out
    refine Row.of_block hb2 hge Cb Bv (by rw [size_setL, size_setL, Nat.mul_one]; exact HSZ.out) ?_
    rw [Nat.mul_one]
    exact HE.out
  · exact (setCells_keeps g [.int .i64 0] (o + (n - 1)) w W1 HK1.out).mono (fun j _ hj => by rw [hj]; rfl)
end Go.Proofs.YtdocdgcdldpagaaGreat
namespace Go.Proofs.YtdocdgcdldpagaaGreat
open Go.RowKit
set_option maxHeartbeats 8000000
set_option maxRecDepth 100000
set_option linter.unusedSimpArgs false
set_option linter.unusedVariables false
attribute [local go_sem ↓] Go.wp_at_zero Go.wp_at_succ
def readV (y : Fr) : Value :=
  if y.d.length = 1 then (if y.k = 8 then .iface 226 (.agg #[.int .u8 (y.d.getD 0 0)]) else if y.d.getD 0 0 ≤ 7 then .iface 232 (.agg #[.int .i64 (y.d.getD 0 0)]) else .nilIface) else .nilIface
theorem D9 {p : Prop} (h : p := by
  go_enter Tryz.func134, Tryz.ntmps134
  go_wp2_with fail
  go_ret
  rw [E.out]
  exact ⟨rfl, A9⟩
 ) : p := h
theorem read_any (k f t s : Int) (D : Option Addr) (n cap : Nat) (d : List Int) (w : World) (hd : Rd w w.heap.size D n d) (hn : n ≤ 64) :
    Calls Tryz.prog 134 #[.agg #[.int .i64 k, .int .i64 f, .int .i64 t, .int .i64 s, .slice D n cap]] w fun e w' => e = .returned (readV ⟨k, f, t, s, d⟩) ∧ Below w.heap.size w w' := by
  have hdl := hd.1
  by_cases h1 : n = 1
  · subst h1
    obtain ⟨b, o, rfl, hb, hc⟩ := hd.2.2 Cb
    have c0 := hc 0 Cb
    have hx := hd.2.1.at_ 0
    simp only [Nat.add_zero] at c0
    obtain ⟨x, hxe⟩ : ∃ x, x = d.getD 0 0 := ⟨_, rfl⟩
    rw [← hxe] at c0 hx
    by_cases h8 : k = 8
    · subst h8
      have E := Lib.hid (show readV ⟨8, f, t, s, d⟩ = .iface 226 (.agg #[.int .u8 x]) by unfold readV; rw [if_pos hdl, if_pos rfl, ← hxe])
      clear hd hc hxe hdl
      exact D9
    · have z : (k == 8) = false := by rw [beq_eq_false_iff_ne]; exact h8
      by_cases h7 : x ≤ 7
      · have E := Lib.hid (show readV ⟨k, f, t, s, d⟩ = .iface 232 (.agg #[.int .i64 x]) by unfold readV; rw [if_pos hdl, if_neg h8, ← hxe, if_pos h7])
        clear hd hc hxe hdl h8
        exact D9
      · have E := Lib.hid (show readV ⟨k, f, t, s, d⟩ = .nilIface by unfold readV; rw [if_pos hdl, if_neg h8, ← hxe, if_neg h7])
        clear hd hc hxe hdl h8
        exact D9
  · have z : ((n : Int) != 1) = true := by simp; omega
    have E := Lib.hid (show readV ⟨k, f, t, s, d⟩ = .nilIface by unfold readV; rw [if_neg (by simp only; omega)])
    clear hd hdl h1
    exact D9
section
variable {w w' : World} {base b mc rc : Nat} {MA RA : Option Addr} {s : Stn.St}
theorem D8 {p : Prop} (h : p := by
  go_enter Tryz.func103, Tryz.ntmps103; go_wp2_with fail; refine (N.out _ A9).mono ?_; rintro e w1 ⟨rfl, rfl⟩; go_wp2_with fail; (have cx_0 := blk_cell kx 0 rfl; have fx_0 := blk_free kx 0; have cx_1 := blk_cell kx 1 rfl; have fx_1 := blk_free kx 1; have cx_2 := blk_cell kx 2 rfl; have fx_2 := blk_free kx 2; have cx_3 := blk_cell kx 3 rfl; have fx_3 := blk_free kx 3; have cx_4 := blk_cell kx 4 rfl; have fx_4 := blk_free kx 4; have lx := lt_of_block kx); (first | (go_region_with (first | (go_at_call 133; refine (VA.out _).mono ?_; rintro e w4 ⟨rfl, hb4⟩; have hz4 := hb4.size; (try simp at hz4); have HB4 := (show Below w.heap.size w w4 from A9); have k4 := blk_below (q := w.heap.size) Ae hb4 Ba; (have cz_0 := blk_cell k4 0 rfl; have fz_0 := blk_free k4 0; have cz_1 := blk_cell k4 1 rfl; have fz_1 := blk_free k4 1; have cz_2 := blk_cell k4 2 rfl; have fz_2 := blk_free k4 2; have cz_3 := blk_cell k4 3 rfl; have fz_3 := blk_free k4 3; have cz_4 := blk_cell k4 4 rfl; have fz_4 := blk_free k4 4; have lz := lt_of_block k4); have e0 : w4.cell? ⟨b, 0, none⟩ = some (.int .i64 s.n) := ((bcell hb4).1 b _ Ba).trans Bz))) | fail)
  all_goals
    go_wp2_with fail
    go_ret2
    exact ⟨rfl, A9⟩
 ) : p := h
theorem strecv_no (h : IsSt w base b MA mc RA rc s) (hs : Stn.Inv s) (now k f t q : Int) (D : Option Addr) (n cap : Nat) (d : List Int) (hdl : d.length = n) (hn : n ≤ 140737488355328) (he : Stn.recvE s now ⟨k, f, t, q, d⟩ ≠ 0) :
    Calls Tryz.prog 103 #[.pointer (some ⟨b, 0, none⟩), .int .i64 now, .agg #[.int .i64 k, .int .i64 f, .int .i64 t, .int .i64 q, .slice D n cap]] w fun e w' => e = .returned (.tuple #[.slice none 0 0, .int .i64 (Stn.recvE s now ⟨k, f, t, q, d⟩)]) ∧ Below w.heap.size w w' := by
  have N := Lib.hid (fun (W : World) (hW : Below w.heap.size w W) => (h.below hW (Nat.le_refl _)).none hs)
  have CH := Lib.hid (fun (W : World) (hW : Below w.heap.size w W) => stcheck_any (h.below hW (Nat.le_refl _)) now)
  have VA := Lib.hid (fun (W : World) => valid_any k f t q D n cap W Cb)
  have c0 : w.cell? ⟨b, 0, none⟩ = some (.int .i64 s.n) := blk_cell h.blk 0 rfl
  have hb := h.lt
  have hsn := hs.n
  unfold Stn.recvE at he ⊢
  simp only [hdl] at he ⊢
  have kx : (w.alloc (.cells #[.int .i64 k, .int .i64 f, .int .i64 t, .int .i64 q, .slice D n cap] 147)).heap[w.heap.size]? = _ := heap_new _ _
  clear h hs
  by_cases hv : Frm.vd k f t q n = true
  · rw [hv] at VA
    have vb := Frm.vd_iff.1 hv
    by_cases ht : t = 0
    · have z : (t != 0) = false := by simpa using ht
      by_cases hf : f ≤ s.n
      · rw [if_pos ⟨hv, ht, hf⟩] at he ⊢
        have ht3 : Stn.timeE s now = 3 := (timeE_cases s now).resolve_left he
        rw [ht3] at CH ⊢
        have hf' : decide ((s.n : Int) < f) = false := by rw [decide_eq_false_iff_not]; omega
        clear he vb hv ht3 ht
        go_enter Tryz.func103, Tryz.ntmps103; go_wp2_with fail; refine (N.out _ A9).mono ?_; rintro e w1 ⟨rfl, rfl⟩; go_wp2_with fail; (have cx_0 := blk_cell kx 0 rfl; have fx_0 := blk_free kx 0; have cx_1 := blk_cell kx 1 rfl; have fx_1 := blk_free kx 1; have cx_2 := blk_cell kx 2 rfl; have fx_2 := blk_free kx 2; have cx_3 := blk_cell kx 3 rfl; have fx_3 := blk_free kx 3; have cx_4 := blk_cell kx 4 rfl; have fx_4 := blk_free kx 4; have lx := lt_of_block kx); (first | (go_region_held3 (fun w' => w'.cell? ⟨w.heap.size, 0, none⟩ = some (.int .i64 k) ∧ w'.cell? ⟨w.heap.size, 1, none⟩ = some (.int .i64 f) ∧ w'.cell? ⟨w.heap.size, 2, none⟩ = some (.int .i64 t) ∧ w'.cell? ⟨w.heap.size, 3, none⟩ = some (.int .i64 q) ∧ w'.cell? ⟨w.heap.size, 4, none⟩ = some (.slice D n cap) ∧ w'.cell? ⟨b, 0, none⟩ = some (.int .i64 s.n)) (first | (refine ⟨?_, ?_, ?_, ?_, ?_, ?_⟩ <;> simp [go_sem, *]; done) | go_keep) (first | (go_at_call 133; refine (VA.out _).mono ?_; rintro e w4 ⟨rfl, hb4⟩; have hz4 := hb4.size; (try simp at hz4); have HB4 := (show Below w.heap.size w w4 from A9); have k4 := blk_below (q := w.heap.size) Ae hb4 Ba; (have cz_0 := blk_cell k4 0 rfl; have fz_0 := blk_free k4 0; have cz_1 := blk_cell k4 1 rfl; have fz_1 := blk_free k4 1; have cz_2 := blk_cell k4 2 rfl; have fz_2 := blk_free k4 2; have cz_3 := blk_cell k4 3 rfl; have fz_3 := blk_free k4 3; have cz_4 := blk_cell k4 4 rfl; have fz_4 := blk_free k4 4; have lz := lt_of_block k4); have e0 : w4.cell? ⟨b, 0, none⟩ = some (.int .i64 s.n) := ((bcell hb4).1 b _ Ba).trans Bz))) | fail); clear cx_0 fx_0 cx_1 fx_1 cx_2 fx_2 cx_3 fx_3 cx_4 fx_4 lx; go_wp2_with fail
        refine (CH.out _ A9).mono ?_
        rintro e w5 ⟨rfl, rfl⟩
        go_wp2_with fail
        go_ret2
        exact ⟨rfl, A9⟩
      · rw [if_neg (fun hh => hf hh.2.2)] at he ⊢
        have hf' : decide ((s.n : Int) < f) = true := by rw [decide_eq_true_iff]; omega
        clear he vb hv hf ht
        go_enter Tryz.func103, Tryz.ntmps103; go_wp2_with fail; refine (N.out _ A9).mono ?_; rintro e w1 ⟨rfl, rfl⟩; go_wp2_with fail; (have cx_0 := blk_cell kx 0 rfl; have fx_0 := blk_free kx 0; have cx_1 := blk_cell kx 1 rfl; have fx_1 := blk_free kx 1; have cx_2 := blk_cell kx 2 rfl; have fx_2 := blk_free kx 2; have cx_3 := blk_cell kx 3 rfl; have fx_3 := blk_free kx 3; have cx_4 := blk_cell kx 4 rfl; have fx_4 := blk_free kx 4; have lx := lt_of_block kx); (first | (go_region_held3 (fun w' => w'.cell? ⟨w.heap.size, 0, none⟩ = some (.int .i64 k) ∧ w'.cell? ⟨w.heap.size, 1, none⟩ = some (.int .i64 f) ∧ w'.cell? ⟨w.heap.size, 2, none⟩ = some (.int .i64 t) ∧ w'.cell? ⟨w.heap.size, 3, none⟩ = some (.int .i64 q) ∧ w'.cell? ⟨w.heap.size, 4, none⟩ = some (.slice D n cap) ∧ w'.cell? ⟨b, 0, none⟩ = some (.int .i64 s.n)) (first | (refine ⟨?_, ?_, ?_, ?_, ?_, ?_⟩ <;> simp [go_sem, *]; done) | go_keep) (first | (go_at_call 133; refine (VA.out _).mono ?_; rintro e w4 ⟨rfl, hb4⟩; have hz4 := hb4.size; (try simp at hz4); have HB4 := (show Below w.heap.size w w4 from A9); have k4 := blk_below (q := w.heap.size) Ae hb4 Ba; (have cz_0 := blk_cell k4 0 rfl; have fz_0 := blk_free k4 0; have cz_1 := blk_cell k4 1 rfl; have fz_1 := blk_free k4 1; have cz_2 := blk_cell k4 2 rfl; have fz_2 := blk_free k4 2; have cz_3 := blk_cell k4 3 rfl; have fz_3 := blk_free k4 3; have cz_4 := blk_cell k4 4 rfl; have fz_4 := blk_free k4 4; have lz := lt_of_block k4); have e0 : w4.cell? ⟨b, 0, none⟩ = some (.int .i64 s.n) := ((bcell hb4).1 b _ Ba).trans Bz))) | fail); clear cx_0 fx_0 cx_1 fx_1 cx_2 fx_2 cx_3 fx_3 cx_4 fx_4 lx; go_wp2_with fail
        go_ret2
        exact ⟨rfl, A9⟩
    · rw [if_neg (fun hh => ht hh.2.1)] at he ⊢
      have z : (t != 0) = true := by simpa using ht
      clear he vb hv ht
      exact D8
  · rw [if_neg (fun hh => hv hh.1)] at he ⊢
    have hv' : Frm.vd k f t q n = false := by simpa using hv
    rw [hv'] at VA
    clear he hv hv'
    exact D8
end
end Go.Proofs.YtdocdgcdldpagaaGreat
namespace Go.Proofs.YtdocdgcdldpagaaGreat
open Go.RowKit
set_option maxHeartbeats 8000000
set_option maxRecDepth 100000
set_option linter.unusedSimpArgs false
set_option linter.unusedVariables false
attribute [local go_sem ↓] Go.wp_at_zero Go.wp_at_succ
theorem Rd.far {w : World} {B n : Nat} {A : Option Addr} {l : List Int} {p : Addr} (h : Rd w B A n l) (hp : ∀ a, A = some a → a.block ≠ p.block) (u : Value) : Rd (w.setCell p u) B A n l :=
  ⟨h.1, h.2.1, fun hn => by
    obtain ⟨b, o, e, hb, hc⟩ := h.2.2 hn
    exact ⟨b, o, e, hb, fun i hi => (World.cell?_setCell_other w p ⟨b, o + i, none⟩ u (fun e' => hp _ e (by rw [e']))).trans (hc i hi)⟩⟩
theorem recvE_ok {s : Stn.St} {now : Int} {y : Fr} (h : Stn.recvE s now y = 0) : Frm.vd y.k y.f y.t y.s y.d.length = true ∧ y.t = 0 ∧ y.f ≤ s.n ∧ Stn.timeE s now = 0 := by
  unfold Stn.recvE at h
  split at h
  · rename_i hh; exact ⟨hh.1, hh.2.1, hh.2.2, h⟩
  · omega
section
variable {w w' : World} {base b mc rc : Nat} {MA RA : Option Addr} {s : Stn.St}
theorem recv_none (h : IsSt w base b MA mc RA rc s) (hs : Stn.Inv s) (now k f t q : Int) (D : Option Addr) (n cap : Nat) (d : List Int) (hd : Rd w w.heap.size D n d) (hD : ∀ a, D = some a → a.block ≠ b) (he : Stn.recvE s now ⟨k, f, t, q, d⟩ = 0) (hr : readV ⟨k, f, t, q, d⟩ = .nilIface) :
    Calls Tryz.prog 103 #[.pointer (some ⟨b, 0, none⟩), .int .i64 now, .agg #[.int .i64 k, .int .i64 f, .int .i64 t, .int .i64 q, .slice D n cap]] w (StPost base b MA RA rc { s with now := now } [] 0 w) := by
  obtain ⟨hv, ht, hf, hte⟩ := recvE_ok he
  simp only [hd.1] at hv ht hf
  have hn64 : n ≤ 64 := (Frm.vd_bd hv).2.2.2.2
  have HL := Lib.hid h
  have HD := Lib.hid hd
  have HDN := Lib.hid hD
  have N := Lib.hid (fun (W : World) (hW : Below w.heap.size w W) => (h.below hW (Nat.le_refl _)).none hs)
  have CH := Lib.hid (fun (W : World) (hW : Below w.heap.size w W) => stcheck_any (h.below hW (Nat.le_refl _)) now)
  have VA := Lib.hid (fun (W : World) => valid_any k f t q D n cap W Cb)
  have RD := Lib.hid (fun (W : World) (hW : Rd W W.heap.size D n d) => read_any k f t q D n cap d W hW hn64)
  rw [hr] at RD
  rw [hv] at VA
  rw [hte] at CH
  have c0 : w.cell? ⟨b, 0, none⟩ = some (.int .i64 s.n) := blk_cell h.blk 0 rfl
  have hb := h.lt
  have hsn := hs.n
  have z : (t != 0) = false := by simpa using ht
  have hf' : decide ((s.n : Int) < f) = false := by rw [decide_eq_false_iff_not]; omega
  have kx : (w.alloc (.cells #[.int .i64 k, .int .i64 f, .int .i64 t, .int .i64 q, .slice D n cap] 147)).heap[w.heap.size]? = _ := heap_new _ _
  have tn1 : ∀ W : World, (Instr.typeAssert .nilIface 20 226 true).run Tryz.prog W = .ok (.tuple #[.agg #[.int .u8 0], .bool false]) W := fun W => by kernel_rfl
  have tn2 : ∀ W : World, (Instr.typeAssert .nilIface 20 232 true).run Tryz.prog W = .ok (.tuple #[.agg #[.int .i64 0], .bool false]) W := fun W => by kernel_rfl
  clear h hs hd hD he hr hv ht hf hte
  go_enter Tryz.func103, Tryz.ntmps103; go_wp2_with fail; refine (N.out _ A9).mono ?_; rintro e w1 ⟨rfl, rfl⟩; go_wp2_with fail; (have cx_0 := blk_cell kx 0 rfl; have fx_0 := blk_free kx 0; have cx_1 := blk_cell kx 1 rfl; have fx_1 := blk_free kx 1; have cx_2 := blk_cell kx 2 rfl; have fx_2 := blk_free kx 2; have cx_3 := blk_cell kx 3 rfl; have fx_3 := blk_free kx 3; have cx_4 := blk_cell kx 4 rfl; have fx_4 := blk_free kx 4; have lx := lt_of_block kx); (first | (go_region_held3 (fun w' => w'.cell? ⟨w.heap.size, 0, none⟩ = some (.int .i64 k) ∧ w'.cell? ⟨w.heap.size, 1, none⟩ = some (.int .i64 f) ∧ w'.cell? ⟨w.heap.size, 2, none⟩ = some (.int .i64 t) ∧ w'.cell? ⟨w.heap.size, 3, none⟩ = some (.int .i64 q) ∧ w'.cell? ⟨w.heap.size, 4, none⟩ = some (.slice D n cap) ∧ w'.cell? ⟨b, 0, none⟩ = some (.int .i64 s.n)) (first | (refine ⟨?_, ?_, ?_, ?_, ?_, ?_⟩ <;> simp [go_sem, *]; done) | go_keep) (first | (go_at_call 133; refine (VA.out _).mono ?_; rintro e w4 ⟨rfl, hb4⟩; have hz4 := hb4.size; (try simp at hz4); have HB4 := (show Below w.heap.size w w4 from A9); have k4 := blk_below (q := w.heap.size) Ae hb4 Ba; (have cz_0 := blk_cell k4 0 rfl; have fz_0 := blk_free k4 0; have cz_1 := blk_cell k4 1 rfl; have fz_1 := blk_free k4 1; have cz_2 := blk_cell k4 2 rfl; have fz_2 := blk_free k4 2; have cz_3 := blk_cell k4 3 rfl; have fz_3 := blk_free k4 3; have cz_4 := blk_cell k4 4 rfl; have fz_4 := blk_free k4 4; have lz := lt_of_block k4); have e0 : w4.cell? ⟨b, 0, none⟩ = some (.int .i64 s.n) := ((bcell hb4).1 b _ Ba).trans Bz))) | fail); clear cx_0 fx_0 cx_1 fx_1 cx_2 fx_2 cx_3 fx_3 cx_4 fx_4 lx; go_wp2_with fail
  have hS4 := HL.out.below HB4 (Nat.le_refl _); have f3 := blk_free hS4.blk 3; have c3 : w4.cell? ⟨b, 3, none⟩ = some (.int .i64 s.now) := blk_cell hS4.blk 3 rfl; have HS4 := Lib.hid hS4; have hz44 := HB4.size; have hne : w.heap.size ≠ b := Cb; have HBB := Lib.hid HB4; clear hS4; refine (CH.out _ HB4).mono ?_; rintro e w5 ⟨rfl, rfl⟩; go_wp2_with fail; refine (RD.out _ (((HD.out.below HB4 (Nat.le_refl _)).far (p := ⟨b, 3, none⟩) HDN.out _).more Bk)).mono ?_; rintro e w6 ⟨rfl, hb6⟩; have hz6 := hb6.size; (try simp at hz6); have HS6 := Lib.hid ((HS4.out.set 3 (.int .i64 now) { s with now := now } rfl rfl rfl rfl).below hb6 (Nat.le_refl _)); have k6 := blk_below (q := w.heap.size) (blk_far k4 Bh _) hb6 Bk; have HK6 := Lib.hid (show Keeps (fun i => i = b) w w6 from (((Keeps.of_below (S := fun i => i = b) HB4).set1 3 _).trans (Keeps.of_below (S := fun i => i = b) hb6) (fun _ _ h => h))); have hz66 : w4.heap.size ≤ w6.heap.size := hz6; clear c3 f3 hb6 k4 cz_0 fz_0 cz_1 fz_1 cz_2 fz_2 cz_3 fz_3 cz_4 fz_4 lz e0 HB4; (have cy_0 := blk_cell k6 0 rfl; have fy_0 := blk_free k6 0; have cy_1 := blk_cell k6 1 rfl; have fy_1 := blk_free k6 1; have cy_2 := blk_cell k6 2 rfl; have fy_2 := blk_free k6 2; have cy_3 := blk_cell k6 3 rfl; have fy_3 := blk_free k6 3; have cy_4 := blk_cell k6 4 rfl; have fy_4 := blk_free k6 4; have ly := lt_of_block k6)
  go_wp2_with fail
  go_ret2
  have hs6 := HS6.out
  exact ⟨_, MA, mc, rfl, hs6, HK6.out.mono (fun i _ hi => .inl hi), Rof.nil _ _, .inl rfl⟩
end
end Go.Proofs.YtdocdgcdldpagaaGreat

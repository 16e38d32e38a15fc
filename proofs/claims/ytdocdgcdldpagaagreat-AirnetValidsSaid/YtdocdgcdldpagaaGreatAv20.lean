import Derived.Test.YtdocdgcdldpagaaGreatAp
import Derived.Test.YtdocdgcdldpagaaGreatAv19
namespace Go.Proofs.YtdocdgcdldpagaaGreat
open Go.RowKit
set_option maxHeartbeats 8000000
set_option maxRecDepth 100000
set_option linter.unusedSimpArgs false
set_option linter.unusedVariables false
attribute [local go_sem ↓] Go.wp_at_zero Go.wp_at_succ
theorem search_yes (A : Option Addr) (n c base : Nat) (l : List Nat) (m : Nat) (w : World) (hn : n ≤ 1000000) (h : Row w base 3 1 A n c (l.map (fun (i : Nat) => .int .i64 i))) (hs : l.Pairwise (· < ·)) (hm : m ∈ l) :
    Calls Tryz.prog 135 #[.slice A n c, .int .i64 m] w fun e w' => (∃ i : Nat, i < n ∧ l[i]? = some m ∧ e = .returned (.tuple #[.int .i64 i, .bool true])) ∧ w = w' := by
  have hl : l.length = n := by have := h.1; simpa using this
  refine (search_any A n c base l m w hn h hs).mono ?_
  rintro e w' ⟨⟨i, hi, rfl, h1, h2⟩, rfl⟩
  obtain ⟨j, hj, rfl⟩ := List.getElem_of_mem hm
  have hj' : l[j]? = some l[j] := List.getElem?_eq_getElem hj
  have hij : i ≤ j := by
    rcases Nat.lt_or_ge j i with hh | hh
    · have := h1 j _ hh hj'; omega
    · exact hh
  have hi' : l[i]? = some (l[i]'Cb) := List.getElem?_eq_getElem Cb
  have g1 := h2 i _ (Nat.le_refl _) hi'
  have g2 := sorted_lt hs hij hi' hj'
  have he : l[i]'Cb = l[j] := by omega
  refine ⟨⟨i, by omega, by rw [hi', he], ?_⟩, rfl⟩
  rw [decide_eq_true ⟨l[j], by rw [hi', he], rfl⟩]
theorem search_none (A : Option Addr) (n c base : Nat) (l : List Nat) (m : Nat) (w : World) (hn : n ≤ 1000000) (h : Row w base 3 1 A n c (l.map (fun (i : Nat) => .int .i64 i))) (hs : l.Pairwise (· < ·)) (hm : m ∉ l) :
    Calls Tryz.prog 135 #[.slice A n c, .int .i64 m] w fun e w' => (∃ i : Nat, e = .returned (.tuple #[.int .i64 i, .bool false])) ∧ w = w' := by
  refine (search_any A n c base l m w hn h hs).mono ?_
  rintro e w' ⟨⟨i, hi, rfl, h1, h2⟩, rfl⟩
  refine ⟨⟨i, ?_⟩, rfl⟩
  rw [decide_eq_false (fun ⟨y, hy, he⟩ => hm (by rw [show m = y by omega]; exact List.mem_of_getElem? hy))]
theorem filter_erase : ∀ (l : List Nat) (i x : Nat), l.Pairwise (· < ·) → l[i]? = some x → l.filter (fun y => decide (y ≠ x)) = l.eraseIdx i
  | [], i, x, _, h => by simp at h
  | a :: l, 0, x, h, he => by
    simp only [List.getElem?_cons_zero, Option.some.injEq] at he
    subst he
    rw [List.pairwise_cons] at h
    rw [List.filter_cons, if_neg C9, List.eraseIdx_cons_zero, List.filter_eq_self]
    intro y hy
    have := h.1 y hy
    simp; omega
  | a :: l, i + 1, x, h, he => by
    rw [List.getElem?_cons_succ] at he
    rw [List.pairwise_cons] at h
    have := h.1 x (List.mem_of_getElem? he)
    rw [List.filter_cons, if_pos C6, List.eraseIdx_cons_succ, filter_erase l i x h.2 he]
theorem erase_map (f : Nat → Value) : ∀ (l : List Nat) (i : Nat), (l.map f).eraseIdx i = (l.eraseIdx i).map f
  | [], _ => rfl
  | a :: l, 0 => rfl
  | a :: l, i + 1 => by simp only [List.map_cons, List.eraseIdx_cons_succ]; rw [erase_map f l i]
theorem miss_cmd (s : Stn.St) (h : s.cmd ≠ 0) : Stn.miss s = Stn.missFrom 1 s.ack := by unfold Stn.miss; rw [if_neg h]
theorem sorted_miss (s : Stn.St) : (Stn.miss s).Pairwise (· < ·) := by
  unfold Stn.miss
  split
  · simp
  · exact Stn.sorted_missFrom _ _
theorem acked_same (s : Stn.St) (hs : Stn.Inv s) (m : Nat) (h0 : s.cmd ≠ 0) (hm : 1 ≤ m ∧ m ≤ s.n) (hno : m ∉ Stn.miss s) : Stn.acked s m = s := by
  have hl := hs.ack
  rw [miss_cmd s h0, Stn.mem_missFrom] at hno
  have hlt : m - 1 < s.ack.length := by omega
  have ha : s.ack[m - 1] = true := by
    cases hb : s.ack[m - 1]
    · exact absurd ⟨hm.1, by rw [List.getElem?_eq_getElem hlt, hb]⟩ hno
    · rfl
  have he : s.ack.set (m - 1) true = s.ack := by
    conv => lhs; rw [← ha]
    exact List.set_getElem_self hlt
  unfold Stn.acked
  rw [he, if_neg (fun h => h.1 (by rw [miss_cmd s h0]; exact h.2))]
theorem miss_acked (s : Stn.St) (m i : Nat) (h0 : s.cmd ≠ 0) (hm : 1 ≤ m) (hi : (Stn.miss s)[i]? = some m) : Stn.miss (Stn.acked s m) = (Stn.miss s).eraseIdx i := by
  rw [miss_cmd _ (by simpa [Stn.acked] using h0), show (Stn.acked s m).ack = s.ack.set (m - 1) true from rfl, Stn.missFrom_set, show 1 + (m - 1) = m by omega, ← miss_cmd s h0]
  exact filter_erase _ i m (sorted_miss s) hi
section
variable {w w' : World} {base b mc rc : Nat} {MA RA : Option Addr} {s : Stn.St}
theorem recv_again (h : IsSt w base b MA mc RA rc s) (hs : Stn.Inv s) (now k f t q : Int) (D : Option Addr) (n cap : Nat) (d : List Int) (hd : Rd w w.heap.size D n d) (hD : ∀ a, D = some a → a.block ≠ b) (he : Stn.recvE s now ⟨k, f, t, q, d⟩ = 0) (x : Int) (hr : readV ⟨k, f, t, q, d⟩ = .iface 226 (.agg #[.int .u8 x])) (hc0 : s.cmd ≠ 0) (hq : q = s.seq) (hx : x = s.cmd) (m : Nat) (hfr : f = (m : Int)) (hno : m ∉ Stn.miss s) :
    Calls Tryz.prog 103 #[.pointer (some ⟨b, 0, none⟩), .int .i64 now, .agg #[.int .i64 k, .int .i64 f, .int .i64 t, .int .i64 q, .slice D n cap]] w (StPost base b MA RA rc { s with now := now } [] 0 w) := by
  obtain ⟨hv, ht, hf, hte⟩ := recvE_ok he
  simp only [hd.1] at hv ht hf
  have hn64 : n ≤ 64 := (Frm.vd_bd hv).2.2.2.2
  have HL := Lib.hid h
  have HD := Lib.hid hd
  have HDN := Lib.hid hD
  have N := Lib.hid (fun (W : World) (hW : Below w.heap.size w W) => (h.below hW (Nat.le_refl _)).none hs)
  have CH := Lib.hid (fun (W : World) (hW : Below w.heap.size w W) => stcheck_any (h.below hW (Nat.le_refl _)) now)
  have VA := Lib.hid (fun (W : World) => valid_any k f t q D n cap W Cb)
  have RD := Lib.hid (fun (W : World) (hW : Rd W W.heap.size D n d) => read_any k f t q D n cap d W hW hn64)
  rw [hr] at RD
  rw [hv] at VA
  rw [hte] at CH
  have c0 : w.cell? ⟨b, 0, none⟩ = some (.int .i64 s.n) := blk_cell h.blk 0 rfl
  have hb := h.lt
  have hsn := hs.n
  have z : (t != 0) = false := by simpa using ht
  have hf' : decide ((s.n : Int) < f) = false := by rw [decide_eq_false_iff_not]; omega
  have kx : (w.alloc (.cells #[.int .i64 k, .int .i64 f, .int .i64 t, .int .i64 q, .slice D n cap] 147)).heap[w.heap.size]? = _ := heap_new _ _
  have ta1 : ∀ W : World, (Instr.typeAssert (.iface 226 (.agg #[.int .u8 x])) 20 226 true).run Tryz.prog W = .ok (.tuple #[.agg #[.int .u8 x], .bool true]) W := fun W => by kernel_rfl
  have HI := Lib.hid hs
  obtain ⟨T, cv, fk, fm, fs, fd, hcur, C⟩ := cmd_of s hs hc0
  have en := C.en
  have E8 := Lib.hid hcur
  have CK := Lib.hid C.ck
  have CS := Lib.hid C.cs
  have m1 := C.ak.m
  have n1 := C.ak.n
  have q1 := C.ak.c
  have m2 := C.as_.m
  have n2 := C.as_.n
  have q2 := C.as_.c
  have hcmd := hs.cmd
  have wk : IntKind.u8.wrap s.cmd = s.cmd := by rw [IntKind.wrap_u8]; omega
  have zq : (q != s.seq) = false := by simpa using hq
  have zx : (x != s.cmd) = false := by simpa using hx
  have hml := (miss_bd s hs).1
  have HF := Lib.hid hfr
  have SE := Lib.hid (fun (W : World) (hW : IsSt W base b MA mc RA rc { s with now := now }) => search_none MA _ mc base (Stn.miss s) m W (by show (Stn.miss s).length ≤ 1000000; omega) hW.mrow (sorted_miss s) hno)
  rw [← hfr] at SE
  obtain ⟨n9, hn9⟩ : ∃ n9, n9 = (Stn.miss s).length := ⟨_, rfl⟩
  rw [show (Stn.miss { s with now := now }).length = n9 from hn9.symm] at SE
  have HN9 := Lib.hid hn9
  clear hn9 hml hfr hno
  clear h hs hd hD he hr hv ht hf hte hc0 hq hx C hcur
  go_enter Tryz.func103, Tryz.ntmps103; go_wp2_with fail; refine (N.out _ A9).mono ?_; rintro e w1 ⟨rfl, rfl⟩; go_wp2_with fail; (have cx_0 := blk_cell kx 0 rfl; have fx_0 := blk_free kx 0; have cx_1 := blk_cell kx 1 rfl; have fx_1 := blk_free kx 1; have cx_2 := blk_cell kx 2 rfl; have fx_2 := blk_free kx 2; have cx_3 := blk_cell kx 3 rfl; have fx_3 := blk_free kx 3; have cx_4 := blk_cell kx 4 rfl; have fx_4 := blk_free kx 4; have lx := lt_of_block kx); (first | (go_region_held3 (fun w' => w'.cell? ⟨w.heap.size, 0, none⟩ = some (.int .i64 k) ∧ w'.cell? ⟨w.heap.size, 1, none⟩ = some (.int .i64 f) ∧ w'.cell? ⟨w.heap.size, 2, none⟩ = some (.int .i64 t) ∧ w'.cell? ⟨w.heap.size, 3, none⟩ = some (.int .i64 q) ∧ w'.cell? ⟨w.heap.size, 4, none⟩ = some (.slice D n cap) ∧ w'.cell? ⟨b, 0, none⟩ = some (.int .i64 s.n)) (first | (refine ⟨?_, ?_, ?_, ?_, ?_, ?_⟩ <;> simp [go_sem, *]; done) | go_keep) (first | (go_at_call 133; refine (VA.out _).mono ?_; rintro e w4 ⟨rfl, hb4⟩; have hz4 := hb4.size; (try simp at hz4); have HB4 := (show Below w.heap.size w w4 from A9); have k4 := blk_below (q := w.heap.size) Ae hb4 Ba; (have cz_0 := blk_cell k4 0 rfl; have fz_0 := blk_free k4 0; have cz_1 := blk_cell k4 1 rfl; have fz_1 := blk_free k4 1; have cz_2 := blk_cell k4 2 rfl; have fz_2 := blk_free k4 2; have cz_3 := blk_cell k4 3 rfl; have fz_3 := blk_free k4 3; have cz_4 := blk_cell k4 4 rfl; have fz_4 := blk_free k4 4; have lz := lt_of_block k4); have e0 : w4.cell? ⟨b, 0, none⟩ = some (.int .i64 s.n) := ((bcell hb4).1 b _ Ba).trans Bz))) | fail); clear cx_0 fx_0 cx_1 fx_1 cx_2 fx_2 cx_3 fx_3 cx_4 fx_4 lx; go_wp2_with fail
  have hS4 := HL.out.below HB4 (Nat.le_refl _); have f3 := blk_free hS4.blk 3; have c3 : w4.cell? ⟨b, 3, none⟩ = some (.int .i64 s.now) := blk_cell hS4.blk 3 rfl; have HS4 := Lib.hid hS4; have hz44 := HB4.size; have hne : w.heap.size ≠ b := Cb; have HBB := Lib.hid HB4; clear hS4; refine (CH.out _ HB4).mono ?_; rintro e w5 ⟨rfl, rfl⟩; go_wp2_with fail; refine (RD.out _ (((HD.out.below HB4 (Nat.le_refl _)).far (p := ⟨b, 3, none⟩) HDN.out _).more Bk)).mono ?_; rintro e w6 ⟨rfl, hb6⟩; have hz6 := hb6.size; (try simp at hz6); have HS6 := Lib.hid ((HS4.out.set 3 (.int .i64 now) { s with now := now } rfl rfl rfl rfl).below hb6 (Nat.le_refl _)); have k6 := blk_below (q := w.heap.size) (blk_far k4 Bh _) hb6 Bk; have HK6 := Lib.hid (show Keeps (fun i => i = b) w w6 from (((Keeps.of_below (S := fun i => i = b) HB4).set1 3 _).trans (Keeps.of_below (S := fun i => i = b) hb6) (fun _ _ h => h))); have hz66 : w4.heap.size ≤ w6.heap.size := hz6; clear c3 f3 hb6 k4 cz_0 fz_0 cz_1 fz_1 cz_2 fz_2 cz_3 fz_3 cz_4 fz_4 lz e0 HB4; (have cy_0 := blk_cell k6 0 rfl; have fy_0 := blk_free k6 0; have cy_1 := blk_cell k6 1 rfl; have fy_1 := blk_free k6 1; have cy_2 := blk_cell k6 2 rfl; have fy_2 := blk_free k6 2; have cy_3 := blk_cell k6 3 rfl; have fy_3 := blk_free k6 3; have cy_4 := blk_cell k6 4 rfl; have fy_4 := blk_free k6 4; have ly := lt_of_block k6)
  have c8 : w6.cell? ⟨b, 8, none⟩ = some (.iface T cv) := by rw [← E8.out]; exact blk_cell HS6.out.blk 8 rfl
  have c4 : w6.cell? ⟨b, 4, none⟩ = some (.int .i64 s.seq) := blk_cell HS6.out.blk 4 rfl
  have hb6 := HS6.out.lt
  go_wp2_with fail
  have k9 : (w6.alloc (.cells #[.int .u8 x] 226)).heap[w6.heap.size]? = _ := heap_new _ _
  have c9 : (w6.alloc (.cells #[.int .u8 x] 226)).cell? ⟨w6.heap.size, 0, none⟩ = some (.int .u8 x) := blk_cell (l := [.int .u8 x]) k9 0 rfl
  (first | (go_region_held3 (fun w' => w'.cell? ⟨b, 8, none⟩ = some (.iface T cv) ∧ w'.cell? ⟨b, 4, none⟩ = some (.int .i64 s.seq) ∧ w'.cell? ⟨w.heap.size, 3, none⟩ = some (.int .i64 q) ∧ w'.cell? ⟨w6.heap.size, 0, none⟩ = some (.int .u8 x)) (first | (refine ⟨?_, ?_, ?_, ?_⟩ <;> simp [go_sem, *]; done) | go_keep) (first | (refine (CK.out _).mono ?_; rintro e w7 ⟨rfl, hb7⟩; have hz7 := hb7.size; (try simp at hz7); have HB7 := Lib.hid (show Below w6.heap.size w6 w7 from A9); have e8 : w7.cell? ⟨b, 8, none⟩ = some (.iface T cv) := ((bcell hb7).1 b _ Ba).trans Bz; have e4 : w7.cell? ⟨b, 4, none⟩ = some (.int .i64 s.seq) := ((bcell hb7).1 b _ Ba).trans Bz; have e3 : w7.cell? ⟨w.heap.size, 3, none⟩ = some (.int .i64 q) := ((bcell hb7).1 w.heap.size _ Ba).trans Bz; have e9 : w7.cell? ⟨w6.heap.size, 0, none⟩ = some (.int .u8 x) := ((bcell hb7).1 w6.heap.size _ Ba).trans Bz))) | fail)
  have hS7 := HS6.out.below HB7.out (Nat.le_refl _)
  have HS7 := Lib.hid hS7
  have hk7 := blk_below (q := w.heap.size) k6 HB7.out (lt_of_block k6)
  have f1 : w7.cell? ⟨w.heap.size, 1, none⟩ = some (.int .i64 f) := blk_cell hk7 1 rfl
  have HK7 := Lib.hid (HK6.out.trans (Keeps.of_below (S := fun i => i = b) HB7.out) (fun _ _ h => h))
  clear e8 e4 e3 e9 k9 c9 c8 c4 hk7 k6 cy_0 fy_0 cy_1 fy_1 cy_2 fy_2 cy_3 fy_3 cy_4 fy_4 ly
  have d9 : w7.cell? ⟨b, 9, none⟩ = some (.slice MA n9 mc) := by rw [HN9.out]; exact blk_cell hS7.blk 9 rfl
  clear hS7
  go_wp2_with fail
  (first | (go_region_held3 (fun w' => w'.cell? ⟨b, 9, none⟩ = some (.slice MA n9 mc) ∧ w'.cell? ⟨w.heap.size, 1, none⟩ = some (.int .i64 f)) (first | (refine ⟨?_, ?_⟩ <;> simp [go_sem, *]; done) | go_keep) (first | (go_at_call 135; refine (SE.out _ (by first | exact HS7.out | exact HS7.out.drew)).mono ?_; rintro e w8 ⟨⟨i, rfl⟩, rfl⟩))) | fail)
  go_wp2_with fail
  go_ret2
  exact ⟨_, MA, mc, rfl, HS7.out.drew, HK7.out.drew.mono (fun i _ hi => .inl hi), Rof.nil _ _, .inl rfl⟩
theorem recv_ack (h : IsSt w base b MA mc RA rc s) (hs : Stn.Inv s) (now k f t q : Int) (D : Option Addr) (n cap : Nat) (d : List Int) (hd : Rd w w.heap.size D n d) (hD : ∀ a, D = some a → a.block ≠ b) (he : Stn.recvE s now ⟨k, f, t, q, d⟩ = 0) (x : Int) (hr : readV ⟨k, f, t, q, d⟩ = .iface 226 (.agg #[.int .u8 x])) (hc0 : s.cmd ≠ 0) (hq : q = s.seq) (hx : x = s.cmd) (m : Nat) (hfr : f = (m : Int)) (hmn : 1 ≤ m ∧ m ≤ s.n) (hmem : m ∈ Stn.miss s) :
    Calls Tryz.prog 103 #[.pointer (some ⟨b, 0, none⟩), .int .i64 now, .agg #[.int .i64 k, .int .i64 f, .int .i64 t, .int .i64 q, .slice D n cap]] w (StPost base b MA RA rc (Stn.acked { s with now := now } m) [] 0 w) := by
  obtain ⟨hv, ht, hf, hte⟩ := recvE_ok he
  simp only [hd.1] at hv ht hf
  have hn64 : n ≤ 64 := (Frm.vd_bd hv).2.2.2.2
  have HL := Lib.hid h
  have HD := Lib.hid hd
  have HDN := Lib.hid hD
  have N := Lib.hid (fun (W : World) (hW : Below w.heap.size w W) => (h.below hW (Nat.le_refl _)).none hs)
  have CH := Lib.hid (fun (W : World) (hW : Below w.heap.size w W) => stcheck_any (h.below hW (Nat.le_refl _)) now)
  have VA := Lib.hid (fun (W : World) => valid_any k f t q D n cap W Cb)
  have RD := Lib.hid (fun (W : World) (hW : Rd W W.heap.size D n d) => read_any k f t q D n cap d W hW hn64)
  rw [hr] at RD
  rw [hv] at VA
  rw [hte] at CH
  have c0 : w.cell? ⟨b, 0, none⟩ = some (.int .i64 s.n) := blk_cell h.blk 0 rfl
  have hb := h.lt
  have hsn := hs.n
  have z : (t != 0) = false := by simpa using ht
  have hf' : decide ((s.n : Int) < f) = false := by rw [decide_eq_false_iff_not]; omega
  have kx : (w.alloc (.cells #[.int .i64 k, .int .i64 f, .int .i64 t, .int .i64 q, .slice D n cap] 147)).heap[w.heap.size]? = _ := heap_new _ _
  have ta1 : ∀ W : World, (Instr.typeAssert (.iface 226 (.agg #[.int .u8 x])) 20 226 true).run Tryz.prog W = .ok (.tuple #[.agg #[.int .u8 x], .bool true]) W := fun W => by kernel_rfl
  have HI := Lib.hid hs
  obtain ⟨T, cv, fk, fm, fs, fd, hcur, C⟩ := cmd_of s hs hc0
  have en := C.en
  have E8 := Lib.hid hcur
  have CK := Lib.hid C.ck
  have CS := Lib.hid C.cs
  have m1 := C.ak.m
  have n1 := C.ak.n
  have q1 := C.ak.c
  have m2 := C.as_.m
  have n2 := C.as_.n
  have q2 := C.as_.c
  have hcmd := hs.cmd
  have wk : IntKind.u8.wrap s.cmd = s.cmd := by rw [IntKind.wrap_u8]; omega
  have zq : (q != s.seq) = false := by simpa using hq
  have zx : (x != s.cmd) = false := by simpa using hx
  have hml := (miss_bd s hs).1
  have HF := Lib.hid hfr
  have SE := Lib.hid (fun (W : World) (hW : IsSt W base b MA mc RA rc { s with now := now }) => search_yes MA _ mc base (Stn.miss s) m W (by show (Stn.miss s).length ≤ 1000000; omega) hW.mrow (sorted_miss s) hmem)
  rw [← hfr] at SE
  obtain ⟨n9, hn9⟩ : ∃ n9, n9 = (Stn.miss s).length := ⟨_, rfl⟩
  rw [show (Stn.miss { s with now := now }).length = n9 from hn9.symm] at SE
  have HN9 := Lib.hid hn9
  have hpos : 0 < n9 := by rw [hn9]; exact List.length_pos_of_mem hmem
  have HMA := Lib.hid (fun i hi => miss_acked { s with now := now } m i hc0 hmn.1 hi)
  have HSE := Lib.hid (show (Stn.acked { s with now := now } m).st = if Stn.miss (Stn.acked { s with now := now } m) = [] then Stn.full s.cmd else s.st by
    show (if _ then _ else _) = _
    rw [miss_cmd (Stn.acked { s with now := now } m) hc0]
    by_cases hh : Stn.missFrom 1 (Stn.acked { s with now := now } m).ack = []
    · rw [if_pos hh, if_pos ⟨List.ne_nil_of_mem hmem, hh⟩]
    · rw [if_neg hh, if_neg (fun h => hh h.2)])
  have DL := Lib.hid (fun (W : World) (hW : IsSt W base b MA mc RA rc { s with now := now }) (i : Nat) (hi : i < n9) => delete_any MA n9 mc base i _ W Cb (by rw [hn9]; exact hW.mrow) (ints_one _) hi)
  have hn98 : n9 ≤ 64 := by omega
  clear hn9 hml hfr hmem hmn
  clear h hs hd hD he hr hv ht hf hte hc0 hq hx C hcur
  go_enter Tryz.func103, Tryz.ntmps103; go_wp2_with fail; refine (N.out _ A9).mono ?_; rintro e w1 ⟨rfl, rfl⟩; go_wp2_with fail; (have cx_0 := blk_cell kx 0 rfl; have fx_0 := blk_free kx 0; have cx_1 := blk_cell kx 1 rfl; have fx_1 := blk_free kx 1; have cx_2 := blk_cell kx 2 rfl; have fx_2 := blk_free kx 2; have cx_3 := blk_cell kx 3 rfl; have fx_3 := blk_free kx 3; have cx_4 := blk_cell kx 4 rfl; have fx_4 := blk_free kx 4; have lx := lt_of_block kx); (first | (go_region_held3 (fun w' => w'.cell? ⟨w.heap.size, 0, none⟩ = some (.int .i64 k) ∧ w'.cell? ⟨w.heap.size, 1, none⟩ = some (.int .i64 f) ∧ w'.cell? ⟨w.heap.size, 2, none⟩ = some (.int .i64 t) ∧ w'.cell? ⟨w.heap.size, 3, none⟩ = some (.int .i64 q) ∧ w'.cell? ⟨w.heap.size, 4, none⟩ = some (.slice D n cap) ∧ w'.cell? ⟨b, 0, none⟩ = some (.int .i64 s.n)) (first | (refine ⟨?_, ?_, ?_, ?_, ?_, ?_⟩ <;> simp [go_sem, *]; done) | go_keep) (first | (go_at_call 133; refine (VA.out _).mono ?_; rintro e w4 ⟨rfl, hb4⟩; have hz4 := hb4.size; (try simp at hz4); have HB4 := (show Below w.heap.size w w4 from A9); have k4 := blk_below (q := w.heap.size) Ae hb4 Ba; (have cz_0 := blk_cell k4 0 rfl; have fz_0 := blk_free k4 0; have cz_1 := blk_cell k4 1 rfl; have fz_1 := blk_free k4 1; have cz_2 := blk_cell k4 2 rfl; have fz_2 := blk_free k4 2; have cz_3 := blk_cell k4 3 rfl; have fz_3 := blk_free k4 3; have cz_4 := blk_cell k4 4 rfl; have fz_4 := blk_free k4 4; have lz := lt_of_block k4); have e0 : w4.cell? ⟨b, 0, none⟩ = some (.int .i64 s.n) := ((bcell hb4).1 b _ Ba).trans Bz))) | fail); clear cx_0 fx_0 cx_1 fx_1 cx_2 fx_2 cx_3 fx_3 cx_4 fx_4 lx; go_wp2_with fail
  have hS4 := HL.out.below HB4 (Nat.le_refl _); have f3 := blk_free hS4.blk 3; have c3 : w4.cell? ⟨b, 3, none⟩ = some (.int .i64 s.now) := blk_cell hS4.blk 3 rfl; have HS4 := Lib.hid hS4; have hz44 := HB4.size; have hne : w.heap.size ≠ b := Cb; have HBB := Lib.hid HB4; clear hS4; refine (CH.out _ HB4).mono ?_; rintro e w5 ⟨rfl, rfl⟩; go_wp2_with fail; refine (RD.out _ (((HD.out.below HB4 (Nat.le_refl _)).far (p := ⟨b, 3, none⟩) HDN.out _).more Bk)).mono ?_; rintro e w6 ⟨rfl, hb6⟩; have hz6 := hb6.size; (try simp at hz6); have HS6 := Lib.hid ((HS4.out.set 3 (.int .i64 now) { s with now := now } rfl rfl rfl rfl).below hb6 (Nat.le_refl _)); have k6 := blk_below (q := w.heap.size) (blk_far k4 Bh _) hb6 Bk; have HK6 := Lib.hid (show Keeps (fun i => i = b) w w6 from (((Keeps.of_below (S := fun i => i = b) HB4).set1 3 _).trans (Keeps.of_below (S := fun i => i = b) hb6) (fun _ _ h => h))); have hz66 : w4.heap.size ≤ w6.heap.size := hz6; clear c3 f3 hb6 k4 cz_0 fz_0 cz_1 fz_1 cz_2 fz_2 cz_3 fz_3 cz_4 fz_4 lz e0 HB4; (have cy_0 := blk_cell k6 0 rfl; have fy_0 := blk_free k6 0; have cy_1 := blk_cell k6 1 rfl; have fy_1 := blk_free k6 1; have cy_2 := blk_cell k6 2 rfl; have fy_2 := blk_free k6 2; have cy_3 := blk_cell k6 3 rfl; have fy_3 := blk_free k6 3; have cy_4 := blk_cell k6 4 rfl; have fy_4 := blk_free k6 4; have ly := lt_of_block k6)
  have c8 : w6.cell? ⟨b, 8, none⟩ = some (.iface T cv) := by rw [← E8.out]; exact blk_cell HS6.out.blk 8 rfl
  have c4 : w6.cell? ⟨b, 4, none⟩ = some (.int .i64 s.seq) := blk_cell HS6.out.blk 4 rfl
  have hb6 := HS6.out.lt
  go_wp2_with fail
  have k9 : (w6.alloc (.cells #[.int .u8 x] 226)).heap[w6.heap.size]? = _ := heap_new _ _
  have c9 : (w6.alloc (.cells #[.int .u8 x] 226)).cell? ⟨w6.heap.size, 0, none⟩ = some (.int .u8 x) := blk_cell (l := [.int .u8 x]) k9 0 rfl
  (first | (go_region_held3 (fun w' => w'.cell? ⟨b, 8, none⟩ = some (.iface T cv) ∧ w'.cell? ⟨b, 4, none⟩ = some (.int .i64 s.seq) ∧ w'.cell? ⟨w.heap.size, 3, none⟩ = some (.int .i64 q) ∧ w'.cell? ⟨w6.heap.size, 0, none⟩ = some (.int .u8 x)) (first | (refine ⟨?_, ?_, ?_, ?_⟩ <;> simp [go_sem, *]; done) | go_keep) (first | (refine (CK.out _).mono ?_; rintro e w7 ⟨rfl, hb7⟩; have hz7 := hb7.size; (try simp at hz7); have HB7 := Lib.hid (show Below w6.heap.size w6 w7 from A9); have e8 : w7.cell? ⟨b, 8, none⟩ = some (.iface T cv) := ((bcell hb7).1 b _ Ba).trans Bz; have e4 : w7.cell? ⟨b, 4, none⟩ = some (.int .i64 s.seq) := ((bcell hb7).1 b _ Ba).trans Bz; have e3 : w7.cell? ⟨w.heap.size, 3, none⟩ = some (.int .i64 q) := ((bcell hb7).1 w.heap.size _ Ba).trans Bz; have e9 : w7.cell? ⟨w6.heap.size, 0, none⟩ = some (.int .u8 x) := ((bcell hb7).1 w6.heap.size _ Ba).trans Bz))) | fail)
  have hS7 := HS6.out.below HB7.out (Nat.le_refl _)
  have HS7 := Lib.hid hS7
  have hk7 := blk_below (q := w.heap.size) k6 HB7.out (lt_of_block k6)
  have f1 : w7.cell? ⟨w.heap.size, 1, none⟩ = some (.int .i64 f) := blk_cell hk7 1 rfl
  have HK7 := Lib.hid (HK6.out.trans (Keeps.of_below (S := fun i => i = b) HB7.out) (fun _ _ h => h))
  clear e8 e4 e3 e9 k9 c9 c8 c4 hk7 k6 cy_0 fy_0 cy_1 fy_1 cy_2 fy_2 cy_3 fy_3 cy_4 fy_4 ly
  have d9 : w7.cell? ⟨b, 9, none⟩ = some (.slice MA n9 mc) := by rw [HN9.out]; exact blk_cell hS7.blk 9 rfl
  clear hS7
  go_wp2_with fail
  (first | (go_region_held3 (fun w' => w'.cell? ⟨b, 9, none⟩ = some (.slice MA n9 mc) ∧ w'.cell? ⟨w.heap.size, 1, none⟩ = some (.int .i64 f)) (first | (refine ⟨?_, ?_⟩ <;> simp [go_sem, *]; done) | go_keep) (first | (go_at_call 135; refine (SE.out _ (by first | exact HS7.out | exact HS7.out.drew)).mono ?_; rintro e w8 ⟨⟨i, hi, hxi, rfl⟩, rfl⟩; have HXI := Lib.hid hxi; clear hxi))) | fail)
  go_wp2_with fail
  refine (DL.out _ HS7.out.drew i Cb).mono ?_
  rintro e w9 ⟨rfl, hrow9, hk9⟩
  have hM := HMA.out i HXI.out
  have hlen2 : (Stn.miss (Stn.acked { s with now := now } m)).length = n9 - 1 := by rw [hM, List.length_eraseIdx_of_lt (by show i < (Stn.miss s).length; rw [← HN9.out]; exact hi)]; show (Stn.miss s).length - 1 = _; rw [← HN9.out]
  have HL2 := Lib.hid hlen2
  have kb9 := blk_keep HS7.out.drew.blk hk9 (fun h => HS7.out.mne h rfl)
  have hrow2 : Row w9 base 3 1 MA (n9 - 1) mc ((Stn.miss (Stn.acked { s with now := now } m)).map (fun (i : Nat) => .int .i64 i)) := by rw [hM, ← erase_map]; exact hrow9
  have HR9 := Lib.hid hrow2
  have HRR := Lib.hid (HS7.out.drew.rrow.kept hk9 (fun g hg e => (HS7.out.rrow.ty hg).ne (HS7.out.mrow.ty e) C8 rfl))
  have HK9 := Lib.hid (show Keeps (Three b MA RA) w w9 from (HK7.out.drew.mono (fun i _ hi => .inl hi)).trans hk9 (fun i _ hi => .inr (.inl hi)))
  have KB9 := Lib.hid kb9
  have g9 : w9.cell? ⟨b, 9, none⟩ = some (.slice MA n9 mc) := by rw [HN9.out]; exact blk_cell kb9 9 rfl
  have g8 : w9.cell? ⟨b, 8, none⟩ = some (.iface T cv) := by rw [← E8.out]; exact blk_cell kb9 8 rfl
  have gf9 := blk_free kb9 9
  have HSB := Lib.hid (show ∀ g, blkOf MA = some g → g ≠ b from fun g hg => HS7.out.mne hg)
  have HSR := Lib.hid (show ∀ g, blkOf RA = some g → g ≠ b from fun g hg => HS7.out.rne hg)
  have HGE := Lib.hid HS7.out.ge
  clear hrow9 hk9 hM hlen2 kb9 hrow2
  have hkb := blk_set KB9.out 9 (.slice MA (n9 - 1) mc)
  by_cases h1 : n9 - 1 = 0
  · have z1 : (((n9 - 1 : Nat) : Int) == 0) = true := by simp; omega
    have HST := Lib.hid (show (Stn.acked { s with now := now } m).st = Stn.full s.cmd by rw [HSE.out, if_pos (List.eq_nil_of_length_eq_zero (by rw [HL2.out]; exact h1))])
    have HKB := Lib.hid hkb
    clear h1 hkb
    go_wp2_with fail
    refine (CS.out _).mono ?_
    rintro e wa ⟨rfl, hba⟩
    have hkb2 := blk_below (q := b) HKB.out hba (lt_of_block HKB.out)
    have g2 : wa.cell? ⟨b, 2, none⟩ = some (.int .i64 s.st) := by
      have := hkb2
      rw [List.setIfInBounds_toArray] at this
      exact blk_cell this 2 rfl
    have gf2 := blk_free hkb2 2
    have HKB2 := Lib.hid hkb2
    have HBA := Lib.hid hba
    clear hkb2 hba
    go_wp2_with fail
    go_ret2
    have hblk := blk_set HKB2.out 2 (.int .i64 (Stn.full s.cmd))
    rw [List.setIfInBounds_toArray, List.setIfInBounds_toArray] at hblk
    have hba := HBA.out
    refine ⟨_, MA, mc, rfl, ⟨?_, ?_, ?_, HGE.out⟩, ?_, Rof.nil _ _, .inl rfl⟩
    · rw [show stl (Stn.acked { s with now := now } m) MA mc RA rc = ((stl { s with now := now } MA mc RA rc).set 9 (.slice MA (n9 - 1) mc)).set 2 (.int .i64 (Stn.full s.cmd)) from by rw [← HST.out, ← HL2.out]; rfl]
      exact hblk
    · rw [HL2.out]
      exact (((HR9.out.far (p := ⟨b, 9, none⟩) HSB.out _).below hba (Nat.le_refl _))).far (p := ⟨b, 2, none⟩) HSB.out _
    · exact (((HRR.out.far (p := ⟨b, 9, none⟩) HSR.out _).below hba (Nat.le_refl _))).far (p := ⟨b, 2, none⟩) HSR.out _
    · exact (((HK9.out.setCell (p := ⟨b, 9, none⟩) (.inl (.inl rfl)) _).trans (Keeps.of_below (S := fun _ => False) hba) (fun _ _ h => h.elim))).setCell (p := ⟨b, 2, none⟩) (.inl (.inl rfl)) _
  · have z1 : (((n9 - 1 : Nat) : Int) == 0) = false := by rw [beq_eq_false_iff_ne]; omega
    have HST := Lib.hid (show (Stn.acked { s with now := now } m).st = s.st by rw [HSE.out, if_neg (fun e => h1 (by rw [← HL2.out, e]; rfl))])
    have HKB := Lib.hid hkb
    clear h1 hkb
    go_wp2_with fail
    go_ret2
    have hblk := HKB.out
    rw [List.setIfInBounds_toArray] at hblk
    refine ⟨_, MA, mc, rfl, ⟨?_, ?_, ?_, HGE.out⟩, ?_, Rof.nil _ _, .inl rfl⟩
    · rw [show stl (Stn.acked { s with now := now } m) MA mc RA rc = (stl { s with now := now } MA mc RA rc).set 9 (.slice MA (n9 - 1) mc) from by unfold stl; rw [HST.out, HL2.out]; rfl]
      exact hblk
    · rw [HL2.out]
      exact HR9.out.far (p := ⟨b, 9, none⟩) HSB.out _
    · exact HRR.out.far (p := ⟨b, 9, none⟩) HSR.out _
    · exact HK9.out.setCell (p := ⟨b, 9, none⟩) (.inl (.inl rfl)) _
end
end Go.Proofs.YtdocdgcdldpagaaGreat

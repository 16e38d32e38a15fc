/- Receive of a frame that says nothing. -/
import Derived.Test.YtiidkmnagfhgiaaStL
namespace Go.Proofs.Ytiidkmnagfhgiaa
open Go.RowKit
set_option maxHeartbeats 8000000
set_option maxRecDepth 100000
set_option linter.unusedSimpArgs false
set_option linter.unusedVariables false
attribute [local go_sem ↓] Go.wp_at_zero Go.wp_at_succ
theorem Rd.far {w : World} {B n : Nat} {A : Option Addr} {l : List Int} {p : Addr} (h : Rd w B A n l) (hp : ∀ a, A = some a → a.block ≠ p.block) (u : Value) : Rd (w.setCell p u) B A n l :=
  ⟨h.1, h.2.1, fun hn => by
    obtain ⟨b, o, e, hb, hc⟩ := h.2.2 hn
    exact ⟨b, o, e, hb, fun i hi => (World.cell?_setCell_other w p ⟨b, o + i, none⟩ u (fun e' => hp _ e (by rw [e']))).trans (hc i hi)⟩⟩
theorem recvE_ok {s : Stn.St} {now : Int} {y : Fr} (h : Stn.recvE s now y = 0) : Frm.vd y.k y.f y.t y.s y.d.length = true ∧ y.t = 0 ∧ y.f ≤ s.n ∧ Stn.timeE s now = 0 := by
  unfold Stn.recvE at h
  split at h
  · rename_i hh; exact ⟨hh.1, hh.2.1, hh.2.2, h⟩
  · omega
section
variable {w w' : World} {base b mc rc : Nat} {MA RA : Option Addr} {s : Stn.St}
theorem recv_none (h : IsSt w base b MA mc RA rc s) (hs : Stn.Inv s) (now k f t q : Int) (D : Option Addr) (n cap : Nat) (d : List Int) (hd : Rd w w.heap.size D n d) (hD : ∀ a, D = some a → a.block ≠ b) (he : Stn.recvE s now ⟨k, f, t, q, d⟩ = 0) (hr : readV ⟨k, f, t, q, d⟩ = .nilIface) :
    Calls Try.prog 24 #[.pointer (some ⟨b, 0, none⟩), .int .i64 now, .agg #[.int .i64 k, .int .i64 f, .int .i64 t, .int .i64 q, .slice D n cap]] w (StPost base b MA RA rc { s with now := now } [] 0 w) := by
  obtain ⟨hv, ht, hf, hte⟩ := recvE_ok he
  simp only [hd.1] at hv ht hf
  have hn64 : n ≤ 64 := (Frm.vd_bd hv).2.2.2.2
  have HL := Lib.hid h
  have HD := Lib.hid hd
  have HDN := Lib.hid hD
  have N := Lib.hid (fun (W : World) (hW : Below w.heap.size w W) => (h.below hW (Nat.le_refl _)).none hs)
  have CH := Lib.hid (fun (W : World) (hW : Below w.heap.size w W) => check_any (h.below hW (Nat.le_refl _)) now)
  have VA := Lib.hid (fun (W : World) => valid_any k f t q D n cap W (by omega))
  have RD := Lib.hid (fun (W : World) (hW : Rd W W.heap.size D n d) => read_any k f t q D n cap d W hW hn64)
  rw [hr] at RD
  rw [hv] at VA
  rw [hte] at CH
  have c0 : w.cell? ⟨b, 0, none⟩ = some (.int .i64 s.n) := blk_cell h.blk 0 rfl
  have hb := h.lt
  have hsn := hs.n
  have z : (t != 0) = false := by simpa using ht
  have hf' : decide ((s.n : Int) < f) = false := by rw [decide_eq_false_iff_not]; omega
  have kx : (w.alloc (.cells #[.int .i64 k, .int .i64 f, .int .i64 t, .int .i64 q, .slice D n cap] 40)).heap[w.heap.size]? = _ := heap_new _ _
  have tn1 : ∀ W : World, (Instr.typeAssert .nilIface 20 98 true).run Try.prog W = .ok (.tuple #[.agg #[.int .u8 0], .bool false]) W := fun W => by kernel_rfl
  have tn2 : ∀ W : World, (Instr.typeAssert .nilIface 20 106 true).run Try.prog W = .ok (.tuple #[.agg #[.int .i64 0], .bool false]) W := fun W => by kernel_rfl
  clear h hs hd hD he hr hv ht hf hte
  go_enter Try.func24, Try.ntmps24; go_wp2_with fail; refine (N.out _ (by repeat (first | (with_reducible exact Below.refl _ _) | (with_reducible refine Below.drew ?_) | (with_reducible refine below_drewN ?_ _) | ((with_reducible refine Below.alloc ?_ ?_ _); rotate_left; (first | omega | (simp <;> omega)); rotate_right) | ((with_reducible refine Below.setCell ?_ ?_ _); rotate_left; (first | omega | (simp <;> omega)); rotate_right) | (with_reducible assumption) | (refine Below.trans ?_ (Below.mono (by assumption) ?_); rotate_left; (first | omega | (simp <;> omega)); rotate_right)))).mono ?_; rintro e w1 ⟨rfl, rfl⟩; go_wp2_with fail; (have cx_0 := blk_cell kx 0 rfl; have fx_0 := blk_free kx 0; have cx_1 := blk_cell kx 1 rfl; have fx_1 := blk_free kx 1; have cx_2 := blk_cell kx 2 rfl; have fx_2 := blk_free kx 2; have cx_3 := blk_cell kx 3 rfl; have fx_3 := blk_free kx 3; have cx_4 := blk_cell kx 4 rfl; have fx_4 := blk_free kx 4; have lx := lt_of_block kx); (first | (go_region_held3 (fun w' => w'.cell? ⟨w.heap.size, 0, none⟩ = some (.int .i64 k) ∧ w'.cell? ⟨w.heap.size, 1, none⟩ = some (.int .i64 f) ∧ w'.cell? ⟨w.heap.size, 2, none⟩ = some (.int .i64 t) ∧ w'.cell? ⟨w.heap.size, 3, none⟩ = some (.int .i64 q) ∧ w'.cell? ⟨w.heap.size, 4, none⟩ = some (.slice D n cap) ∧ w'.cell? ⟨b, 0, none⟩ = some (.int .i64 s.n)) (first | (refine ⟨?_, ?_, ?_, ?_, ?_, ?_⟩ <;> simp [go_sem, *]; done) | go_keep) (first | (go_at_call 46; refine (VA.out _).mono ?_; rintro e w4 ⟨rfl, hb4⟩; have hz4 := hb4.size; (try simp at hz4); have HB4 := (show Below w.heap.size w w4 from (by repeat (first | (with_reducible exact Below.refl _ _) | (with_reducible refine Below.drew ?_) | (with_reducible refine below_drewN ?_ _) | ((with_reducible refine Below.alloc ?_ ?_ _); rotate_left; (first | omega | (simp <;> omega)); rotate_right) | ((with_reducible refine Below.setCell ?_ ?_ _); rotate_left; (first | omega | (simp <;> omega)); rotate_right) | (with_reducible assumption) | (refine Below.trans ?_ (Below.mono (by assumption) ?_); rotate_left; (first | omega | (simp <;> omega)); rotate_right)))); have k4 := blk_below (q := w.heap.size) (by repeat (first | (with_reducible assumption) | ((with_reducible apply blk_far); rotate_left; (first | omega | (simp <;> omega)); rotate_right) | (with_reducible apply blk_drew) | (with_reducible apply blk_drewN) | (with_reducible exact heap_new _ _) | ((with_reducible apply heap_new'); (first | rfl | (simp <;> fail))) | (with_reducible apply blk_alloc))) hb4 (by first | omega | (simp; done) | (simp; omega)); (have cz_0 := blk_cell k4 0 rfl; have fz_0 := blk_free k4 0; have cz_1 := blk_cell k4 1 rfl; have fz_1 := blk_free k4 1; have cz_2 := blk_cell k4 2 rfl; have fz_2 := blk_free k4 2; have cz_3 := blk_cell k4 3 rfl; have fz_3 := blk_free k4 3; have cz_4 := blk_cell k4 4 rfl; have fz_4 := blk_free k4 4; have lz := lt_of_block k4); have e0 : w4.cell? ⟨b, 0, none⟩ = some (.int .i64 s.n) := ((bcell hb4).1 b _ (by first | omega | (simp; done) | (simp; omega))).trans (by simp [go_sem, *])))) | fail); clear cx_0 fx_0 cx_1 fx_1 cx_2 fx_2 cx_3 fx_3 cx_4 fx_4 lx; go_wp2_with fail
  have hS4 := HL.out.below HB4 (Nat.le_refl _); have f3 := blk_free hS4.blk 3; have c3 : w4.cell? ⟨b, 3, none⟩ = some (.int .i64 s.now) := blk_cell hS4.blk 3 rfl; have HS4 := Lib.hid hS4; have hz44 := HB4.size; have hne : w.heap.size ≠ b := (by omega); have HBB := Lib.hid HB4; clear hS4; refine (CH.out _ HB4).mono ?_; rintro e w5 ⟨rfl, rfl⟩; go_wp2_with fail; refine (RD.out _ (((HD.out.below HB4 (Nat.le_refl _)).far (p := ⟨b, 3, none⟩) HDN.out _).more (by simp [World.setCell]; omega))).mono ?_; rintro e w6 ⟨rfl, hb6⟩; have hz6 := hb6.size; (try simp at hz6); have HS6 := Lib.hid ((HS4.out.set 3 (.int .i64 now) { s with now := now } rfl rfl rfl rfl).below hb6 (Nat.le_refl _)); have k6 := blk_below (q := w.heap.size) (blk_far k4 (by show w.heap.size ≠ b; omega) _) hb6 (by simp [World.setCell]; omega); have HK6 := Lib.hid (show Keeps (fun i => i = b) w w6 from (((Keeps.of_below (S := fun i => i = b) HB4).set1 3 _).trans (Keeps.of_below (S := fun i => i = b) hb6) (fun _ _ h => h))); have hz66 : w4.heap.size ≤ w6.heap.size := hz6; clear c3 f3 hb6 k4 cz_0 fz_0 cz_1 fz_1 cz_2 fz_2 cz_3 fz_3 cz_4 fz_4 lz e0 HB4; (have cy_0 := blk_cell k6 0 rfl; have fy_0 := blk_free k6 0; have cy_1 := blk_cell k6 1 rfl; have fy_1 := blk_free k6 1; have cy_2 := blk_cell k6 2 rfl; have fy_2 := blk_free k6 2; have cy_3 := blk_cell k6 3 rfl; have fy_3 := blk_free k6 3; have cy_4 := blk_cell k6 4 rfl; have fy_4 := blk_free k6 4; have ly := lt_of_block k6)
  go_wp2_with fail
  go_ret2
  have hs6 := HS6.out
  exact ⟨_, MA, mc, rfl, hs6, HK6.out.mono (fun i _ hi => .inl hi), Rof.nil _ _, .inl rfl⟩
end
end Go.Proofs.Ytiidkmnagfhgiaa

/- The law's own helpers of the logs: few, record. -/
import Derived.Test.YtgmejplcdecmkaaLgArg
import Derived.Test.YtgmejplcdecmkaaLgN
namespace Go.Proofs.Ytgmejplcdecmkaa
open Go.RowKit
set_option maxHeartbeats 4000000
set_option maxRecDepth 100000
set_option linter.unusedSimpArgs false
set_option linter.unusedVariables false
attribute [local go_sem ↓] Go.wp_at_zero Go.wp_at_succ
def okG (y : AV) : Bool := decide (y.x.f.d.length ≤ 100)
def fewB (l : List AV) (most : Nat) : Bool := decide (l.length ≤ most) && l.all okG
theorem few_any (A : Option Addr) (n cap most B : Nat) (l : List AV) (w : World) (h : Ra w B A n l) (hn : n ≤ 140737488355328) (hm : most ≤ 1000) :
    Calls Try.prog 28 #[.slice A n cap, .int .i64 most] w fun e w' => e = .returned (.bool (fewB l most)) ∧ w = w' := by
  have hl := h.1
  by_cases hnm : most < n
  · have E := Lib.hid (show fewB l most = false by unfold fewB; rw [decide_eq_false (by omega)]; rfl)
    clear h hl
    go_enter Try.func28, Try.ntmps28
    go_wp2_with fail
    go_ret
    exact ⟨ret_bool E.out.symm, rfl⟩
  · have H := Lib.hid h
    have HL := Lib.hid hl
    have hn2 : n ≤ 1000 := by omega
    clear h hl hn
    go_enter Try.func28, Try.ntmps28
    go_wp2_with fail
    go_loop [5] (fun s => ∃ j : Nat, s = .int .i64 j ∧ j ≤ n ∧ Hid (∀ i, i < j → okG (l.getD i av0) = true)) (fun s => n - (intOf s).toNat)
    case atStart => exact ⟨0, by go_num, by omega, Lib.hid (fun i hi => absurd hi (by omega))⟩
    case round =>
      obtain ⟨j, rfl, hj, HA⟩ := hrel
      by_cases hlt : j < n
      · obtain ⟨b, o, rfl, hb, hc⟩ := H.out.2.1 (by omega)
        obtain ⟨x, hx⟩ : ∃ x, x = l.getD j av0 := ⟨_, rfl⟩
        have hcj := hc j hlt
        have hcm := (H.out.ok hlt).2
        rw [← hx] at hcj hcm
        have c11 := hcj 11 _ rfl
        have hlen := hcm.1
        have hcm2 := hcm.2.1
        unfold maxLen at hcm2
        have HX := Lib.hid hx
        have hjn : (j : Int) < (n : Int) := by omega
        clear hc hcj hcm hx
        have NO := Lib.hid (show okG x = false → fewB l most = false from fun ho => by
          have hm' : x ∈ l := by rw [HX.out]; simp [List.getD, List.getElem?_eq_getElem (show j < l.length by rw [HL.out]; exact hlt)]
          unfold fewB
          have : l.all okG = false := by rw [List.all_eq_false]; exact ⟨x, hm', by rw [ho]; simp⟩
          rw [this]; simp)
        by_cases h2 : 100 < x.x.f.d.length
        · have E := Lib.hid (NO.out (by unfold okG; rw [decide_eq_false (show ¬ x.x.f.d.length ≤ 100 by omega)]))
          go_wp2_with fail
          go_ret
          exact ⟨ret_bool E.out.symm, rfl⟩
        · have Y := Lib.hid (show okG x = true by unfold okG; rw [decide_eq_true (by omega)])
          go_wp2_with fail
          go_round
          case rel => exact ⟨j + 1, by go_num, by omega, Lib.hid (fun i hi => by
            rcases Nat.lt_or_ge i j with h | h
            · exact HA.out i h
            · obtain rfl : i = j := by omega
              rw [← HX.out]; exact Y.out)⟩
          case measure => simp [intOf]; omega
      · obtain rfl : j = n := by omega
        have E := Lib.hid (show fewB l most = true by
          unfold fewB
          rw [decide_eq_true (by rw [HL.out]; omega), Bool.true_and, List.all_eq_true]
          intro x hx
          obtain ⟨i, hi, rfl⟩ := List.getElem_of_mem hx
          have := HA.out i (by rw [← HL.out]; exact hi)
          simpa [List.getD, List.getElem?_eq_getElem hi] using this)
        go_wp2_with fail
        go_ret
        exact ⟨ret_bool E.out.symm, rfl⟩
/-- the record that a call appends -/
def Lg.recG (a : GAct) : Lg.Rc := if a.kind = 0 then Lg.posR a.t a.a a.x a.y a.z else if a.kind = 1 then Lg.stR a.t a.a a.s else Lg.frR a.t a.a a.f
/-- .. as a value -/
def AV.rcd (v : AV) : Lg.RV := if v.x.kind = 0 ∨ v.x.kind = 1 then ⟨Lg.recG v.x, none, 0⟩ else ⟨Lg.recG v.x, v.A, v.cap⟩
theorem AV.rcd_x (v : AV) : v.rcd.x = Lg.recG v.x := by unfold AV.rcd; split <;> rfl
theorem AV.rcd_ok {w : World} {B : Nat} {v : AV} (h : AvOk w B v) : Lg.Ok w B v.rcd := by
  unfold AV.rcd Lg.recG
  by_cases h0 : v.x.kind = 0
  · rw [if_pos (.inl h0), if_pos h0]; exact Lg.ok0 w B _ rfl
  · by_cases h1 : v.x.kind = 1
    · rw [if_pos (.inr h1), if_neg h0, if_pos h1]; exact Lg.ok0 w B _ rfl
    · rw [if_neg (fun h => h.elim h0 h1), if_neg h0, if_neg h1]; exact h
theorem av_opaque (v : AV) : ∃ C : Array Value, v.val = .agg C ∧ v.cells.toArray = C ∧ C.size = 12 := ⟨v.cells.toArray, rfl, rfl, rfl⟩
theorem record_any (v : AV) (w : World) : Calls Try.prog 58 #[v.val] w fun e w' => e = .returned v.rcd.val ∧ Below w.heap.size w w' := by
  obtain ⟨⟨kind, t, a, x, y, z, s, ⟨fk, ff, ft, fs, d⟩⟩, A, cap⟩ := v
  obtain ⟨E, hE⟩ : ∃ E : Lg.RV, E = AV.rcd ⟨⟨kind, t, a, x, y, z, s, ⟨fk, ff, ft, fs, d⟩⟩, A, cap⟩ := ⟨_, rfl⟩
  rw [← hE]
  simp only [AV.val, AV.cells]
  have hn : (w.alloc (.cells #[.int .i64 kind, .int .i64 t, .int .i64 a, .int .i64 x, .int .i64 y, .int .i64 z, .int .i64 s, .int .i64 fk, .int .i64 ff, .int .i64 ft, .int .i64 fs, .slice A d.length cap] 83)).heap.size = w.heap.size + 1 := by simp
  have bx := heap_new' (w.alloc (.cells #[.int .i64 kind, .int .i64 t, .int .i64 a, .int .i64 x, .int .i64 y, .int .i64 z, .int .i64 s, .int .i64 fk, .int .i64 ff, .int .i64 ft, .int .i64 fs, .slice A d.length cap] 83)) (.cells Lg.rv0.cells.toArray 32) (w.heap.size + 1) hn.symm
  have HB := Lib.hid (fun C => Keeps.below (S := fun i => w.heap.size ≤ i) ((Keeps.of_below (S := fun i => w.heap.size ≤ i) (show Below w.heap.size w ((w.alloc (.cells #[.int .i64 kind, .int .i64 t, .int .i64 a, .int .i64 x, .int .i64 y, .int .i64 z, .int .i64 s, .int .i64 fk, .int .i64 ff, .int .i64 ft, .int .i64 fs, .slice A d.length cap] 83)).alloc (.cells Lg.rv0.cells.toArray 32)) from (by repeat (first | (with_reducible exact Below.refl _ _) | (with_reducible refine Below.drew ?_) | (with_reducible refine below_drewN ?_ _) | ((with_reducible refine Below.alloc ?_ ?_ _); rotate_left; (first | omega | (simp <;> omega)); rotate_right) | ((with_reducible refine Below.setCell ?_ ?_ _); rotate_left; (first | omega | (simp <;> omega)); rotate_right) | (with_reducible assumption) | (refine Below.trans ?_ (Below.mono (by assumption) ?_); rotate_left; (first | omega | (simp <;> omega)); rotate_right))))).setRow (g := w.heap.size + 1) (.inl (Nat.le_succ _)) C) (fun i _ h => h) (Nat.le_refl _))
  clear hn
  by_cases h0 : kind = 0
  · subst h0
    have hv : E = ⟨Lg.posR t a x y z, none, 0⟩ := hE
    clear hE
    have HV := Lib.hid hv
    clear hv
    go_enter Try.func58, Try.ntmps58
    go_wp2_with (refine wpList_store_row rfl 32 _ _ rfl _ (Lg.RV.cells ⟨Lg.posR t a x y z, none, 0⟩).toArray rfl rfl 32 _ bx (by kernel_rfl) rfl (rv_ones _) ?_)
    refine bodyPost_ret (results_cell_row rfl _ _ (w.heap.size + 1) 32 _ (0, 0) _ rfl (setRow_heap _ _ _ _ _ _ bx) Try.underlying32 rfl (by kernel_rfl)) rfl ⟨by rw [HV.out]; rfl, HB.out _⟩
  · by_cases h1 : kind = 1
    · subst h1
      have hv : E = ⟨Lg.stR t a s, none, 0⟩ := hE
      clear hE
      have HV := Lib.hid hv
      clear hv
      go_enter Try.func58, Try.ntmps58
      go_wp2_with (refine wpList_store_row rfl 32 _ _ rfl _ (Lg.RV.cells ⟨Lg.stR t a s, none, 0⟩).toArray rfl rfl 32 _ bx (by kernel_rfl) rfl (rv_ones _) ?_)
      refine bodyPost_ret (results_cell_row rfl _ _ (w.heap.size + 1) 32 _ (0, 0) _ rfl (setRow_heap _ _ _ _ _ _ bx) Try.underlying32 rfl (by kernel_rfl)) rfl ⟨by rw [HV.out]; rfl, HB.out _⟩
    · have z0 : (kind == 0) = false := by simp [h0]
      have z1 : (kind == 1) = false := by simp [h1]
      have hv : E = ⟨Lg.frR t a ⟨fk, ff, ft, fs, d⟩, A, cap⟩ := by rw [hE]; unfold AV.rcd Lg.recG; rw [if_neg (fun h => h.elim h0 h1), if_neg h0, if_neg h1]
      clear hE
      have HV := Lib.hid hv
      clear hv
      go_enter Try.func58, Try.ntmps58
      go_wp2_with (refine wpList_store_row rfl 32 _ _ rfl _ (Lg.RV.cells ⟨Lg.frR t a ⟨fk, ff, ft, fs, d⟩, A, cap⟩).toArray rfl rfl 32 _ bx (by kernel_rfl) rfl (rv_ones _) ?_)
      refine bodyPost_ret (results_cell_row rfl _ _ (w.heap.size + 1) 32 _ (0, 0) _ rfl (setRow_heap _ _ _ _ _ _ bx) Try.underlying32 rfl (by kernel_rfl)) rfl ⟨by rw [HV.out]; rfl, HB.out _⟩
end Go.Proofs.Ytgmejplcdecmkaa
/- The law's call of a log. -/
namespace Go.Proofs.Ytgmejplcdecmkaa
open Go.RowKit
set_option maxHeartbeats 4000000
set_option maxRecDepth 100000
set_option linter.unusedSimpArgs false
set_option linter.unusedVariables false
attribute [local go_sem ↓] Go.wp_at_zero Go.wp_at_succ
theorem Ow.byte {w : World} {base g n cap : Nat} {l : List Int} (h : Ow w base (some ⟨g, 0, none⟩) n cap l) {i : Nat} (hi : i < n) : w.cell? ⟨g, i, none⟩ = some (.int .u8 (l.getD i 0)) ∧ w.frozen? ⟨g, i, none⟩ = false ∧ (0 ≤ l.getD i 0 ∧ l.getD i 0 < 256) := by
  have hl := h.len
  obtain ⟨cur, hb, _, _, _⟩ := h.block
  refine ⟨?_, by simp [World.frozen?, hb], ?_⟩
  · have := World.ownsRow.cellAt h.1 (g := g) i (by omega)
    rw [this, bv]
    have hi' : i < l.length := by omega
    simp [List.getElem?_eq_getElem hi', List.getD]
  · have hi' : i < l.length := by omega
    rw [List.getD, List.getElem?_eq_getElem hi']
    exact h.2 _ (List.getElem_mem hi')
theorem Ow.putb {w : World} {base g n cap : Nat} {l : List Int} (h : Ow w base (some ⟨g, 0, none⟩) n cap l) (i : Nat) (y : Int) (hy : 0 ≤ y ∧ y < 256) : Ow (w.setCell ⟨g, i, none⟩ (.int .u8 y)) base (some ⟨g, 0, none⟩) n cap (l.set i y) := by
  refine ⟨?_, ?_⟩
  · have := (h.1.stored i (.int .u8 y)).1
    rw [bv, List.map_set]
    exact this
  · intro x hx
    rcases List.mem_or_eq_of_mem_set hx with h1 | h1
    · exact h.2 x h1
    · rw [h1]; exact hy
theorem Lg.Ok.keepN {S : Nat → Prop} {w w' : World} {B : Nat} {y : Lg.RV} (h : Lg.Ok w B y) (k : Keeps S w w') (hB : B ≤ w.heap.size) (hS : ∀ a, y.A = some a → 0 < y.x.f.d.length → ¬ S a.block) : Lg.Ok w' B y :=
  ⟨⟨h.1.1, h.1.2.1, fun hn => by
    obtain ⟨b, o, e, hb, hc⟩ := h.1.2.2 hn
    exact ⟨b, o, e, hb, fun i hi => (World.cell?_of_block (k.block b (by omega) (hS _ e hn))).trans (hc i hi)⟩⟩, h.2⟩
/-- writes to a block of bytes that is new since the call began leave what the call promised -/
theorem AddPost.written {w W W' W2 : World} {base p c : Nat} {A A1 : Option Addr} {vs : List Lg.RV} {X : Nat → Prop} {x : Lg.Rc} {e : Ending} (h : Lg.IsLg w base p A c vs X) (hb : Below w.heap.size w W)
    (hp : AddPost base p A vs (fun i => X i ∧ i < w.heap.size) x W e W') (k : Keeps (fun i => blkOf A1 = some i) W' W2) (hA : ∀ g, blkOf A1 = some g → w.heap.size ≤ g ∧ g < W.heap.size ∧ Ty W' g 5) : AddPost base p A vs X x w e W2 := by
  obtain ⟨A', c', vs', h1, h2, h3, h4, h5, h6, h7⟩ := hp
  have hz := hb.size
  refine ⟨A', c', vs', h1, (h2.kept k (fun i hi hg => ?_) (fun i hi ht hg => ?_)).mono (fun i _ hi => ?_), h3, ?_, h5.imp id (fun ⟨g, e, h⟩ => ⟨g, e, Nat.le_trans hz h⟩), ?_, h7⟩
  · exact h2.away (hA i hg).2.2 (by decide) (by decide) hi
  · have := hA i hg
    rcases hi with hi | hi
    · exact absurd hi.2 (by omega)
    · omega
  · exact hi.imp (fun h => h.1) (fun h => Nat.le_trans hz h)
  · exact ((Keeps.of_below (S := Lg.Two p A) hb).trans h4 (fun i _ h => h)).trans k (fun i hi hg => absurd (hA i hg).1 (by omega))
  · refine ⟨(h6.1.keepN k (Nat.le_refl _) (fun a ea hn hg => ?_)).more k.size, fun y hy => ((h6.2 y hy).keepN k (Nat.le_refl _) (fun a ea hn hg => ?_)).more k.size⟩
    · have h1 := (h.two_lt (i := a.block) (.inr (by rw [ea]; rfl))).2
      have h2 := (hA _ hg).1
      omega
    · obtain ⟨b, o, eb, _, ht, _⟩ := (h.dat y hy).2.2.2.2 hn
      rw [eb] at ea
      injection ea with ea
      subst ea
      have h1 := ht.lt
      have h2 := (hA _ hg).1
      simp only at h2
      omega
section
variable {w : World} {base p c : Nat} {X : Nat → Prop} {A : Option Addr} {vs : List Lg.RV}
theorem call_any (h : Lg.IsLg w base p A c vs X) (hbase : base ≤ w.heap.size) (hn : vs.length ≤ 1000000) (v : AV) (hv : AvOk w w.heap.size v) (hd : v.x.f.d.length ≤ 1000) :
    Calls Try.prog 39 #[.pointer (some ⟨p, 0, none⟩), v.val] w fun e w' => AddPost base p A vs X (Lg.recG v.x) w e w' := by
  obtain ⟨⟨kind, t, a, x, y, z, s, ⟨fk, ff, ft, fs, d⟩⟩, D, cap⟩ := v
  obtain ⟨G, hG⟩ : ∃ G : Lg.Rc, G = Lg.recG ⟨kind, t, a, x, y, z, s, ⟨fk, ff, ft, fs, d⟩⟩ := ⟨_, rfl⟩
  simp only at hd ⊢
  rw [← hG]
  simp only [AV.val, AV.cells]
  have hbx := heap_new w (.cells #[.int .i64 kind, .int .i64 t, .int .i64 a, .int .i64 x, .int .i64 y, .int .i64 z, .int .i64 s, .int .i64 fk, .int .i64 ff, .int .i64 ft, .int .i64 fs, .slice D d.length cap] 83 (0, 0))
  have HB := Lib.hid (show Below w.heap.size w (w.alloc (.cells #[.int .i64 kind, .int .i64 t, .int .i64 a, .int .i64 x, .int .i64 y, .int .i64 z, .int .i64 s, .int .i64 fk, .int .i64 ff, .int .i64 ft, .int .i64 fs, .slice D d.length cap] 83 (0, 0))) from (by repeat (first | (with_reducible exact Below.refl _ _) | (with_reducible refine Below.drew ?_) | (with_reducible refine below_drewN ?_ _) | ((with_reducible refine Below.alloc ?_ ?_ _); rotate_left; (first | omega | (simp <;> omega)); rotate_right) | ((with_reducible refine Below.setCell ?_ ?_ _); rotate_left; (first | omega | (simp <;> omega)); rotate_right) | (with_reducible assumption) | (refine Below.trans ?_ (Below.mono (by assumption) ?_); rotate_left; (first | omega | (simp <;> omega)); rotate_right))))
  by_cases h0 : kind = 0
  · subst h0
    have hv0 : G = Lg.posR t a x y z := hG
    clear hG
    have PO := Lib.hid (fun (W : World) (hW : Below w.heap.size w W) => position_any (h.below hW) (Nat.le_trans hbase hW.size) hn t a x y z)
    clear h hv hbase
    go_enter Try.func39, Try.ntmps39
    go_wp2_with (refine wpList_load_at rfl 25 _ rfl w.heap.size 3 rfl [.int .i64 x, .int .i64 y, .int .i64 z] _ (fun j u hu => by rcases j with _ | _ | _ | j <;> simp at hu <;> (subst hu; exact blk_cell (l := [_, _, _, _, _, _, _, _, _, _, _, _]) hbx _ rfl)) Try.underlying25 rfl (by kernel_rfl) ?_)
    refine (PO.out _ HB.out).mono ?_
    rintro e w1 hp
    have HP := Lib.hid (hp.up HB.out)
    obtain ⟨A', c', vs', rfl, _⟩ := hp
    go_wp2_with fail
    go_ret
    rw [hv0]
    exact HP.out
  · by_cases h1 : kind = 1
    · subst h1
      have hv0 : G = Lg.stR t a s := hG
      clear hG
      have PO := Lib.hid (fun (W : World) (hW : Below w.heap.size w W) => state_any (h.below hW) (Nat.le_trans hbase hW.size) hn t a s)
      clear h hv hbase
      go_enter Try.func39, Try.ntmps39
      go_wp2_with fail
      refine (PO.out _ HB.out).mono ?_
      rintro e w1 hp
      have HP := Lib.hid (hp.up HB.out)
      obtain ⟨A', c', vs', rfl, _⟩ := hp
      go_wp2_with fail
      go_ret
      rw [hv0]
      exact HP.out
    · have z0 : (kind == 0) = false := by simp [h0]
      have z1 : (kind == 1) = false := by simp [h1]
      have hv0 : G = Lg.frR t a ⟨fk, ff, ft, fs, d⟩ := by rw [hG]; unfold Lg.recG; rw [if_neg h0, if_neg h1]
      clear hG h0 h1
      have HG := Lib.hid hv0
      clear hv0
      have HH := Lib.hid h
      have HD := Lib.hid (show Rd w w.heap.size D d.length d from hv.1)
      have FA := Lib.hid (fun (W : World) (hW : Below w.heap.size w W) (A1 : Option Addr) (c1 : Nat) (hk : Lg.Ok W W.heap.size ⟨Lg.frR t a ⟨fk, ff, ft, fs, d⟩, A1, c1⟩) => frame_any ((h.mono (X' := fun i => X i ∧ i < w.heap.size) (fun i hi hx => ⟨hx, hi⟩)).below hW) (Nat.le_trans hbase hW.size) hn t a ⟨fk, ff, ft, fs, d⟩ A1 c1 hk hd)
      obtain ⟨i0, hi0, hza, hzb, hzc⟩ := info_parts info_u8
      clear h hv hbase
      go_enter Try.func39, Try.ntmps39
      go_upto_region 6 with fail
      generalize World.alloc _ _ = W0 at *
      have hq0 := lt_of_block hbx
      obtain ⟨q, hq⟩ : ∃ q, q = w.heap.size := ⟨_, rfl⟩
      have bx2 := blk_alloc hbx (.cells #[.int .i64 0, .int .i64 0, .int .i64 0, .int .i64 0, .slice none 0 0] 30 (0, 0))
      have fx2 := heap_new W0 (.cells #[.int .i64 0, .int .i64 0, .int .i64 0, .int .i64 0, .slice none 0 0] 30 (0, 0))
      go_upto_region 7 with (first | (refine wpList_load_at rfl 30 _ rfl w.heap.size 7 rfl [.int .i64 fk, .int .i64 ff, .int .i64 ft, .int .i64 fs, .slice D d.length cap] _ (fun j u hu => by rcases j with _ | _ | _ | _ | _ | j <;> simp at hu <;> (subst hu; exact blk_cell (l := [_, _, _, _, _, _, _, _, _, _, _, _]) hbx _ rfl)) Try.underlying30 rfl (by kernel_rfl) ?_) | (refine wpList_store_row rfl 30 _ _ rfl W0.heap.size _ rfl rfl 30 _ fx2 (by kernel_rfl) rfl (by simp [Value.oneCell']) ?_))
      generalize hW1 : World.setRow _ _ _ = W1
      have bx3 : W1.heap[w.heap.size]? = some (.cells #[.int .i64 kind, .int .i64 t, .int .i64 a, .int .i64 x, .int .i64 y, .int .i64 z, .int .i64 s, .int .i64 fk, .int .i64 ff, .int .i64 ft, .int .i64 fs, .slice D d.length cap] 83 (0, 0)) := by rw [← hW1]; exact (setRow_other _ _ _ _ (by omega)).trans bx2
      have fx3 : W1.heap[W0.heap.size]? = some (.cells #[.int .i64 fk, .int .i64 ff, .int .i64 ft, .int .i64 fs, .slice D d.length cap] 30 (0, 0)) := by rw [← hW1]; exact setRow_heap _ _ _ _ _ _ fx2
      have HB1 : Below w.heap.size w W1 := by rw [← hW1]; exact below_setRow (HB.out.alloc (by omega) _) (by omega) _
      clear hW1 bx2 fx2 hbx HB
      have rd1 := (HD.out.below HB1 (Nat.le_refl _)).reads
      obtain ⟨f, hf⟩ : ∃ f, f = W0.heap.size := ⟨_, rfl⟩
      rw [← hf] at fx3 ⊢
      have hqf : w.heap.size < f := by omega
      clear hf hq0
      have hfl := lt_of_block fx3
      have cy_0 := blk_cell bx3 0 rfl; have fy_0 := blk_free bx3 0; have cy_1 := blk_cell bx3 1 rfl; have fy_1 := blk_free bx3 1; have cy_2 := blk_cell bx3 2 rfl; have fy_2 := blk_free bx3 2; have cy_3 := blk_cell bx3 3 rfl; have fy_3 := blk_free bx3 3; have cy_4 := blk_cell bx3 4 rfl; have fy_4 := blk_free bx3 4; have cy_5 := blk_cell bx3 5 rfl; have fy_5 := blk_free bx3 5; have cy_6 := blk_cell bx3 6 rfl; have fy_6 := blk_free bx3 6; have cy_7 := blk_cell bx3 7 rfl; have fy_7 := blk_free bx3 7; have cy_8 := blk_cell bx3 8 rfl; have fy_8 := blk_free bx3 8; have cy_9 := blk_cell bx3 9 rfl; have fy_9 := blk_free bx3 9; have cy_10 := blk_cell bx3 10 rfl; have fy_10 := blk_free bx3 10; have cy_11 := blk_cell bx3 11 rfl; have fy_11 := blk_free bx3 11; have ly := lt_of_block bx3
      have cf_0 := blk_cell fx3 0 rfl; have ff_0 := blk_free fx3 0; have cf_1 := blk_cell fx3 1 rfl; have ff_1 := blk_free fx3 1; have cf_2 := blk_cell fx3 2 rfl; have ff_2 := blk_free fx3 2; have cf_3 := blk_cell fx3 3 rfl; have ff_3 := blk_free fx3 3; have cf_4 := blk_cell fx3 4 rfl; have ff_4 := blk_free fx3 4; have lf := lt_of_block fx3
      go_upto_region 8 with (at_builtin; refine wpList_append_any _ rfl (.const (.slice none 0 0)) (.tmp 34) 28 rfl (w.heap.size + 1) 5 i0 _ 1 1 Try.underlying28 hi0 hza hzb hzc rfl (by omega) (.slice none 0 0) 0 [] rfl (World.ownsRow_nil _ _ _ _) w.heap.size D d.length cap (bv d) rfl rd1 (bv_one d) (by simp only [maxLen]; omega) (by omega) (by omega) ?_; intro v2 w2 hown2 hg2 hat2; obtain ⟨A1, c1, rfl⟩ := own_form hown2; have hbz := blk_only bx3 hg2 (by intro e; cases e); have hfz := blk_only fx3 hg2 (by intro e; cases e); have hs2 := hg2.size; have HB2 := HB1.grown hg2 (by omega) (fun g e => by cases e); have O2 := Lib.hid hown2; have at2 := Lib.hid hat2; clear cy_0 fy_0 cy_1 fy_1 cy_2 fy_2 cy_3 fy_3 cy_4 fy_4 cy_5 fy_5 cy_6 fy_6 cy_7 fy_7 cy_8 fy_8 cy_9 fy_9 cy_10 fy_10 cy_11 fy_11; clear cf_0 ff_0 cf_1 ff_1 cf_2 ff_2 cf_3 ff_3 cf_4 ff_4; clear hown2 hg2 hat2; have cz_0 := blk_cell hfz 0 rfl; have fz_0 := blk_free hfz 0; have cz_1 := blk_cell hfz 1 rfl; have fz_1 := blk_free hfz 1; have cz_2 := blk_cell hfz 2 rfl; have fz_2 := blk_free hfz 2; have cz_3 := blk_cell hfz 3 rfl; have fz_3 := blk_free hfz 3; have cz_4 := blk_cell hfz 4 rfl; have fz_4 := blk_free hfz 4; have lz := lt_of_block hfz)
      generalize hW3 : World.setCell _ _ _ = W3
      have bx4 : W3.heap[w.heap.size]? = some (.cells #[.int .i64 kind, .int .i64 t, .int .i64 a, .int .i64 x, .int .i64 y, .int .i64 z, .int .i64 s, .int .i64 fk, .int .i64 ff, .int .i64 ft, .int .i64 fs, .slice D d.length cap] 83 (0, 0)) := by rw [← hW3]; exact blk_far hbz (by show w.heap.size ≠ f; omega) _
      have fx4 : W3.heap[f]? = some (.cells #[.int .i64 fk, .int .i64 ff, .int .i64 ft, .int .i64 fs, .slice A1 d.length c1] 30 (0, 0)) := by rw [← hW3]; exact blk_set hfz 4 _
      have HB3 : Below w.heap.size w W3 := by rw [← hW3]; exact HB2.setCell (p := ⟨f, 4, none⟩) (Nat.le_of_lt hqf) _
      have O2' := Lib.hid (show Ow w2 (w.heap.size + 1) A1 d.length c1 d from ⟨by simpa using O2.out, HD.out.2.1⟩)
      have at3 : ∀ g, A1 = some ⟨g, 0, none⟩ → W1.heap.size ≤ g := fun g e => by
        have := at2.out
        rw [e] at this
        rcases this with h | h
        · simp [Value.ownBlock] at h
        · simp [Value.ownBlock] at h; omega
      have O3 : Ow W3 w.heap.size A1 d.length c1 d := by
        rw [← hW3]
        refine (Ow.kept O2'.out ((Keeps.refl (fun i => i = f) w2).setCell (p := ⟨f, 4, none⟩) (.inl rfl) _) (fun g e hh => ?_)).more (Nat.le_succ _)
        have := at3 g e
        omega
      have z3 : W1.heap.size ≤ W3.heap.size := by rw [← hW3]; simpa [World.setCell] using hs2
      clear cz_0 fz_0 cz_1 fz_1 cz_2 fz_2 cz_3 fz_3 cz_4 fz_4
      clear hW3 O2 O2' HB2 hs2 rd1 hbz hfz bx3 fx3 HB1 at2
      have OK3 := Lib.hid (Lg.Dt.ok (Lg.Dt.of_own (X := fun _ => True) (x := Lg.frR t a ⟨fk, ff, ft, fs, d⟩) O3 (fun _ _ => trivial)))
      have cy_0 := blk_cell bx4 0 rfl; have fy_0 := blk_free bx4 0; have cy_1 := blk_cell bx4 1 rfl; have fy_1 := blk_free bx4 1; have cy_2 := blk_cell bx4 2 rfl; have fy_2 := blk_free bx4 2; have cy_3 := blk_cell bx4 3 rfl; have fy_3 := blk_free bx4 3; have cy_4 := blk_cell bx4 4 rfl; have fy_4 := blk_free bx4 4; have cy_5 := blk_cell bx4 5 rfl; have fy_5 := blk_free bx4 5; have cy_6 := blk_cell bx4 6 rfl; have fy_6 := blk_free bx4 6; have cy_7 := blk_cell bx4 7 rfl; have fy_7 := blk_free bx4 7; have cy_8 := blk_cell bx4 8 rfl; have fy_8 := blk_free bx4 8; have cy_9 := blk_cell bx4 9 rfl; have fy_9 := blk_free bx4 9; have cy_10 := blk_cell bx4 10 rfl; have fy_10 := blk_free bx4 10; have cy_11 := blk_cell bx4 11 rfl; have fy_11 := blk_free bx4 11; have ly := lt_of_block bx4
      have OO := Lib.hid O3
      have at4 := Lib.hid at3
      clear O3 at3
      go_wp2_with (refine wpList_load_row rfl 30 _ rfl _ rfl 30 _ (0, 0) _ fx4 Try.underlying30 rfl (by kernel_rfl) ?_)
      refine (FA.out W3 HB3 A1 c1 OK3.out).mono ?_
      rintro e w4 hp
      have HP := Lib.hid hp
      obtain ⟨A', c', vs', rfl, _, _, k4, _⟩ := hp
      have hqw := lt_of_block bx4
      have hf4 := blk_keep fx4 k4 (fun hh => by have := (HH.out.two_lt hh).2; omega)
      have o4 : Ow w4 w.heap.size A1 d.length c1 d := Ow.kept OO.out k4 (fun g e hh => by
        have h1 := at4.out g e
        have h2 := (HH.out.two_lt hh).2
        omega)
      have O4 := Lib.hid o4
      have hz4 := k4.size
      clear k4 fx4 o4
      clear cy_0 fy_0 cy_1 fy_1 cy_2 fy_2 cy_3 fy_3 cy_4 fy_4 cy_5 fy_5 cy_6 fy_6 cy_7 fy_7 cy_8 fy_8 cy_9 fy_9 cy_10 fy_10 cy_11 fy_11
      clear bx4 FA OK3 HD
      generalize hN : d.length = n at *
      go_wp2_with fail
      go_loopw [7] (fun s7 wr => ∃ (j : Nat) (l : List Int), s7 = .int .i64 j ∧ j ≤ n ∧ Ow wr w.heap.size A1 n c1 l ∧ wr.heap[f]? = some (.cells #[.int .i64 fk, .int .i64 ff, .int .i64 ft, .int .i64 fs, .slice A1 n c1] 30 (0, 0)) ∧ Keeps (fun i => blkOf A1 = some i) w4 wr) (fun s7 _ => n - (intOf s7).toNat)
      case atStart => exact ⟨0, d, by go_num, by omega, O4.out, hf4, Keeps.refl _ _⟩
      case round =>
        obtain ⟨j, l, rfl, hj, ho, hfr, hk⟩ := hrel
        have cz_0 := blk_cell hfr 0 rfl; have fz_0 := blk_free hfr 0; have cz_1 := blk_cell hfr 1 rfl; have fz_1 := blk_free hfr 1; have cz_2 := blk_cell hfr 2 rfl; have fz_2 := blk_free hfr 2; have cz_3 := blk_cell hfr 3 rfl; have fz_3 := blk_free hfr 3; have cz_4 := blk_cell hfr 4 rfl; have fz_4 := blk_free hfr 4; have lz := lt_of_block hfr
        by_cases hlt : j < n
        · rcases ho.form with ⟨_, hn0, _⟩ | ⟨g, rfl, hg1, hg2, hg3, hg4⟩
          · omega
          have hgf : W1.heap.size ≤ g := at4.out g rfl
          obtain ⟨cb, fb, hb0, hb1⟩ := ho.byte hlt
          obtain ⟨u, hu⟩ : ∃ u, u = l.getD j 0 := ⟨_, rfl⟩
          rw [← hu] at cb hb0 hb1
          have HU := Lib.hid hu
          have HO := Lib.hid ho
          have jn : (j : Int) < (n : Int) := by omega
          have hrange : 0 ≤ IntKind.u8.wrap (u + 1) ∧ IntKind.u8.wrap (u + 1) < 256 := by rw [IntKind.wrap_u8]; omega
          have HR := Lib.hid hrange
          clear hu ho hrange
          go_wp2_with fail
          go_roundw
          case rel => exact ⟨j + 1, l.set j _, by go_num, by omega, HO.out.putb j _ HR.out, blk_far hfr (by show f ≠ g; omega) _, hk.setCell (p := ⟨g, j, none⟩) (.inl rfl) _⟩
          case measure => simp [intOf]; omega
        · obtain rfl : j = n := by omega
          have P := Lib.hid (AddPost.written HH.out HB3 HP.out hk (fun g e => by
            rcases OO.out.form with ⟨e', _⟩ | ⟨g', e', h1, h2, _⟩
            · rw [e'] at e; cases e
            · subst e'
              simp only [blkOf, Option.some.injEq] at e
              subst e
              obtain ⟨cur, hb, _⟩ := O4.out.block
              exact ⟨h1, h2, ⟨cur, hb⟩⟩))
          go_wp2_with fail
          go_ret
          rw [HG.out]
          exact P.out
end
end Go.Proofs.Ytgmejplcdecmkaa

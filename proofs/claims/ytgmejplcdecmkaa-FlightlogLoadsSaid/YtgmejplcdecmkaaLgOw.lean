/- The reference's Own: records of their own. -/
import Derived.Test.YtgmejplcdecmkaaLgUn
namespace Go.Proofs.Ytgmejplcdecmkaa
open Go.RowKit
set_option maxHeartbeats 4000000
set_option maxRecDepth 100000
set_option linter.unusedSimpArgs false
set_option linter.unusedVariables false
attribute [local go_sem ↓] Go.wp_at_zero Go.wp_at_succ
/-- behind Own -/
def OwnPost (vs : List Lg.RV) (n : Nat) (w : World) (e : Ending) (w' : World) : Prop :=
  ∃ A' c' us, e = .returned (.slice A' n c') ∧ Row w' w.heap.size 32 13 A' n c' (Lg.cs us) ∧ Lg.xs us = Lg.xs vs ∧ (∀ y ∈ us, Lg.Dt w' (fun i => w.heap.size ≤ i) y) ∧ Below w.heap.size w w'
theorem rown_any (A : Option Addr) (n cap0 : Nat) (vs : List Lg.RV) (w : World) (h : Lg.Rr w w.heap.size A n vs) (hn : n ≤ 1000) (hd : ∀ y ∈ vs, y.x.f.d.length ≤ 1000) :
    Calls Try.prog 14 #[.slice A n cap0] w fun e w' => OwnPost vs n w e w' := by
  have H := Lib.hid h
  have HLv := Lib.hid h.len
  have HD := Lib.hid (fun (i : Nat) (hi : i < n) => hd (vs.getD i Lg.rv0) (by rw [List.getD, List.getElem?_eq_getElem (by rw [HLv.out]; exact hi)]; exact List.getElem_mem _))
  obtain ⟨i0, hi0, hza, hzb, hzc⟩ := info_parts info_u8
  obtain ⟨j0, hj0, hya, hyb, hyc⟩ := info_parts info_rec
  clear h hd
  go_enter Try.func14, Try.ntmps14
  go_wp2_with fail
  go_loopw [3, 4] (fun s3 s4 wr => ∃ (i : Nat) (A' : Option Addr) (c' : Nat) (us : List Lg.RV), s3 = .slice A' i c' ∧ s4 = .int .i64 i ∧ i ≤ n ∧ Hid (Row wr w.heap.size 32 13 A' i c' (Lg.cs us)) ∧ Hid (Lg.xs us = (Lg.xs vs).take i ∧ ∀ y ∈ us, Lg.Dt wr (fun i => w.heap.size ≤ i) y) ∧ Below w.heap.size w wr) (fun _ s4 _ => n - (intOf s4).toNat)
  case atStart => exact ⟨0, none, 0, [], rfl, by go_num, by omega, Lib.hid (Row.nil _ _ _ _), Lib.hid ⟨rfl, fun y hy => (by cases hy)⟩, Below.refl _ _⟩
  case round =>
    obtain ⟨i, A', c', us, rfl, rfl, hi, HR, HU, hB⟩ := hrel
    have hzr := hB.size
    by_cases hlt : i < n
    · have ik : (i : Int) < (n : Int) := by omega
      obtain ⟨b, o, rfl, hbl, hcl, hok⟩ := ((H.out.below hB (Nat.le_refl _)).at_ hlt)
      have hdl := HD.out i hlt
      obtain ⟨v, hv⟩ : ∃ v, v = vs.getD i Lg.rv0 := ⟨_, rfl⟩
      rw [← hv] at hcl hok hdl
      have HV := Lib.hid hv
      clear hv
      obtain ⟨⟨t, a, k, x, y, z, s, ⟨fk, ff, ft, fs, d⟩, sum⟩, D, cap⟩ := v
      have hcl2 : ∀ (j : Nat) (u : Value), (#[.int .i64 t, .int .i64 a, .int .i64 k, .int .i64 x, .int .i64 y, .int .i64 z, .int .i64 s, .int .i64 fk, .int .i64 ff, .int .i64 ft, .int .i64 fs, .slice D d.length cap, .int .u32 sum] : Array Value).toList[j]? = some u → wr.cell? ⟨b, o + i * 13 + j, none⟩ = some u := hcl
      have HC := Lib.hid hcl2
      have HDD := Lib.hid (show Rd wr w.heap.size D d.length d from hok.1)
      have hdl : d.length ≤ 1000 := hdl
      clear hcl hok hcl2
      have j2 := heap_new wr (.cells #[.int .i64 0, .int .i64 0, .int .i64 0, .int .i64 0, .int .i64 0, .int .i64 0, .int .i64 0, .int .i64 0, .int .i64 0, .int .i64 0, .int .i64 0, .slice none 0 0, .int .u32 0] 32 (0, 0))
      go_upto_region 6 with (first | (refine wpList_load_at rfl 32 (.tmp 14) rfl b (o + i * 13) rfl (#[.int .i64 t, .int .i64 a, .int .i64 k, .int .i64 x, .int .i64 y, .int .i64 z, .int .i64 s, .int .i64 fk, .int .i64 ff, .int .i64 ft, .int .i64 fs, .slice D d.length cap, .int .u32 sum] : Array Value).toList _ HC.out Try.underlying32 rfl (by kernel_rfl) ?_) | (refine wpList_store_row rfl 32 (.tmp 5) (.tmp 15) rfl wr.heap.size #[.int .i64 t, .int .i64 a, .int .i64 k, .int .i64 x, .int .i64 y, .int .i64 z, .int .i64 s, .int .i64 fk, .int .i64 ff, .int .i64 ft, .int .i64 fs, .slice D d.length cap, .int .u32 sum] rfl rfl 32 _ j2 (by kernel_rfl) rfl (by simp [Value.oneCell']) ?_))
      generalize hW : World.setRow _ _ _ = W1
      obtain ⟨g, hg⟩ : ∃ g, g = wr.heap.size := ⟨_, rfl⟩
      have gx : W1.heap[g]? = some (.cells #[.int .i64 t, .int .i64 a, .int .i64 k, .int .i64 x, .int .i64 y, .int .i64 z, .int .i64 s, .int .i64 fk, .int .i64 ff, .int .i64 ft, .int .i64 fs, .slice D d.length cap, .int .u32 sum] 32 (0, 0)) := by rw [← hW, hg]; exact setRow_heap _ _ _ _ _ _ j2
      have bW : Below wr.heap.size wr W1 := by rw [← hW]; exact below_setRow ((Below.refl _ wr).alloc (Nat.le_refl _) _) (Nat.le_refl _) _
      have hgw : w.heap.size ≤ g := by rw [hg]; exact hzr
      have HGW := Lib.hid hg
      rw [← hg]
      have HB1 := hB.trans (bW.mono hzr)
      have R1 := Lib.hid (HR.out.kept (Keeps.of_below (S := fun _ => False) bW) (fun _ _ h => h))
      have U1 := Lib.hid (fun (q : Lg.RV) (hq : q ∈ us) => (((HU.out.2 q hq).mono (X' := fun i => w.heap.size ≤ i ∧ i < g) (fun i hi hx => ⟨hx, by rw [HGW.out]; exact hi⟩)).below bW))
      have hal := Lib.hid (fun (j : Nat) (hj : blkOf A' = some j) => (show j < g from by rw [hg]; exact (HR.out.lt hj).2))
      have rd1 := (HDD.out.below (bW.mono hzr) (Nat.le_refl _)).reads
      clear hW hg j2 bW HC
      have cf_0 := blk_cell gx 0 rfl; have ff_0 := blk_free gx 0; have cf_1 := blk_cell gx 1 rfl; have ff_1 := blk_free gx 1; have cf_2 := blk_cell gx 2 rfl; have ff_2 := blk_free gx 2; have cf_3 := blk_cell gx 3 rfl; have ff_3 := blk_free gx 3; have cf_4 := blk_cell gx 4 rfl; have ff_4 := blk_free gx 4; have cf_5 := blk_cell gx 5 rfl; have ff_5 := blk_free gx 5; have cf_6 := blk_cell gx 6 rfl; have ff_6 := blk_free gx 6; have cf_7 := blk_cell gx 7 rfl; have ff_7 := blk_free gx 7; have cf_8 := blk_cell gx 8 rfl; have ff_8 := blk_free gx 8; have cf_9 := blk_cell gx 9 rfl; have ff_9 := blk_free gx 9; have cf_10 := blk_cell gx 10 rfl; have ff_10 := blk_free gx 10; have cf_11 := blk_cell gx 11 rfl; have ff_11 := blk_free gx 11; have cf_12 := blk_cell gx 12 rfl; have ff_12 := blk_free gx 12; have lf := lt_of_block gx
      go_upto_region 7 with (at_builtin; refine wpList_append_any _ rfl (.const (.slice none 0 0)) (.tmp 18) 28 rfl (w.heap.size + 1) 5 i0 _ 1 1 Try.underlying28 hi0 hza hzb hzc rfl (by have := lf; omega) (.slice none 0 0) 0 [] rfl (World.ownsRow_nil _ _ _ _) w.heap.size D d.length cap (bv d) rfl rd1 (bv_one d) (by simp only [maxLen]; omega) (by omega) (by omega) ?_; intro v2 w2 hown2 hg2 hat2; obtain ⟨A1, c1, rfl⟩ := own_form hown2; have hbz := blk_only gx hg2 (by intro e; cases e); have hs2 := hg2.size; have HB2 := HB1.grown hg2 (by have := lf; omega) (fun g e => by cases e); have O2 := Lib.hid hown2; have at2 := Lib.hid hat2; have G2 := Lib.hid hg2; clear cf_0 ff_0 cf_1 ff_1 cf_2 ff_2 cf_3 ff_3 cf_4 ff_4 cf_5 ff_5 cf_6 ff_6 cf_7 ff_7 cf_8 ff_8 cf_9 ff_9 cf_10 ff_10 cf_11 ff_11 cf_12 ff_12; clear hown2 hg2 hat2; have cz_0 := blk_cell hbz 0 rfl; have fz_0 := blk_free hbz 0; have cz_1 := blk_cell hbz 1 rfl; have fz_1 := blk_free hbz 1; have cz_2 := blk_cell hbz 2 rfl; have fz_2 := blk_free hbz 2; have cz_3 := blk_cell hbz 3 rfl; have fz_3 := blk_free hbz 3; have cz_4 := blk_cell hbz 4 rfl; have fz_4 := blk_free hbz 4; have cz_5 := blk_cell hbz 5 rfl; have fz_5 := blk_free hbz 5; have cz_6 := blk_cell hbz 6 rfl; have fz_6 := blk_free hbz 6; have cz_7 := blk_cell hbz 7 rfl; have fz_7 := blk_free hbz 7; have cz_8 := blk_cell hbz 8 rfl; have fz_8 := blk_free hbz 8; have cz_9 := blk_cell hbz 9 rfl; have fz_9 := blk_free hbz 9; have cz_10 := blk_cell hbz 10 rfl; have fz_10 := blk_free hbz 10; have cz_11 := blk_cell hbz 11 rfl; have fz_11 := blk_free hbz 11; have cz_12 := blk_cell hbz 12 rfl; have fz_12 := blk_free hbz 12; have lz := lt_of_block hbz)
      generalize hW3 : World.setCell _ _ _ = W3
      have gz : W3.heap[g]? = some (.cells #[.int .i64 t, .int .i64 a, .int .i64 k, .int .i64 x, .int .i64 y, .int .i64 z, .int .i64 s, .int .i64 fk, .int .i64 ff, .int .i64 ft, .int .i64 fs, .slice A1 d.length c1, .int .u32 sum] 32 (0, 0)) := by rw [← hW3]; exact blk_set hbz 11 _
      have HB3 : Below w.heap.size w W3 := by rw [← hW3]; exact HB2.setCell (p := ⟨g, 11, none⟩) hgw _
      have O2' := Lib.hid (show Ow w2 (w.heap.size + 1) A1 d.length c1 d from ⟨by simpa using O2.out, HDD.out.2.1⟩)
      have at3 : ∀ q, A1 = some ⟨q, 0, none⟩ → W1.heap.size ≤ q := fun q e => by
        have := at2.out
        rw [e] at this
        rcases this with h | h
        · simp [Value.ownBlock] at h
        · simp [Value.ownBlock] at h; omega
      have KK : Keeps (fun i => i = g) W1 W3 := by rw [← hW3]; exact (Keeps.of_grown (S := fun i => i = g) G2.out (fun g e => by cases e)).setCell (p := ⟨g, 11, none⟩) (.inl rfl) _
      have O3 := Lib.hid (show Ow W3 w.heap.size A1 d.length c1 d by
        rw [← hW3]
        refine (Ow.kept O2'.out ((Keeps.refl (fun i => i = g) w2).setCell (p := ⟨g, 11, none⟩) (.inl rfl) _) (fun q e hh => ?_)).more (Nat.le_succ _)
        have h1 := at3 q e
        have h2 := lf
        omega)
      have R3 := Lib.hid (R1.out.kept KK (fun q hq e => by have := hal.out q hq; omega))
      have U3 := Lib.hid (fun (q : Lg.RV) (hq : q ∈ us) => (((U1.out q hq).keep KK (fun i hi _ e => by omega)).mono (X' := fun i => w.heap.size ≤ i) (fun i _ hi => hi.1)))
      clear cz_0 fz_0 cz_1 fz_1 cz_2 fz_2 cz_3 fz_3 cz_4 fz_4 cz_5 fz_5 cz_6 fz_6 cz_7 fz_7 cz_8 fz_8 cz_9 fz_9 cz_10 fz_10 cz_11 fz_11 cz_12 fz_12
      clear hW3 O2 O2' HB2 hs2 rd1 hbz gx HB1 at2 at3 KK G2 R1 U1 hal HGW
      obtain ⟨v, hv⟩ : ∃ v : Lg.RV, v = ⟨⟨t, a, k, x, y, z, s, ⟨fk, ff, ft, fs, d⟩, sum⟩, A1, c1⟩ := ⟨_, rfl⟩
      obtain ⟨C, hC⟩ : ∃ C : List Value, C = v.cells := ⟨_, rfl⟩
      have hC1 : C.length = 13 := by rw [hC]; rfl
      have hCs : C.toArray.size = 13 := by simpa using hC1
      have hC2 : ∀ u ∈ C, u.oneCell' = true := by rw [hC]; exact rv_oneL _
      have gz2 : W3.heap[g]? = some (.cells C.toArray 32 (0, 0)) := by rw [gz, hC, hv]; rfl
      have DV := Lib.hid (show Lg.Dt W3 (fun i => w.heap.size ≤ i) v from by
        rw [hv]
        refine Lg.Dt.of_own (x := ⟨t, a, k, x, y, z, s, ⟨fk, ff, ft, fs, d⟩, sum⟩) O3.out (fun q e => ?_)
        rcases O3.out.form with ⟨e', _⟩ | ⟨q', e', h1, _⟩
        · rw [e'] at e; cases e
        · rw [e'] at e; injection e with e; injection e with e; omega)
      have HCv := Lib.hid hC
      have HVx := Lib.hid (show v.x = (vs.getD i Lg.rv0).x by rw [hv, ← HV.out])
      clear gz hv hC O3 HV
      have HFC := Lib.hid (fill_cell2 W3 C hC1)
      have hRa := Lib.hid (R3.out.alloc (.cells (List.foldl (fun (cs : Array Value) (x : Value × Nat) => cs.setIfInBounds x.snd x.fst) (#[.int .i64 0, .int .i64 0, .int .i64 0, .int .i64 0, .int .i64 0, .int .i64 0, .int .i64 0, .int .i64 0, .int .i64 0, .int .i64 0, .int .i64 0, .slice none 0 0, .int .u32 0] : Array Value) C.zipIdx) 32))
      have hz3 := HB3.size
      go_wp2_with (first | (refine wpList_load_row rfl 32 (.tmp 5) rfl g rfl 32 C.toArray (0, 0) _ gz2 Try.underlying32 rfl (by rw [hCs]; kernel_rfl) ?_) | (refine wpList_append_row2 rfl (.tmp 22) (.tmp 24) 40 rfl w.heap.size 32 j0 _ 13 120 Try.underlying40 hj0 hya hyb hyc rfl A' i c' (Lg.cs us) rfl hRa.out ⟨W3.heap.size, 0, none⟩ 1 1 C rfl (by rw [hC1]) HFC.out hC2 (by omega) (by simp only [maxLen]; omega) (by omega) (by simp; omega) ?_; intro A2 c2 w5 hr5 hg5 hat5 _; have HR5 := Lib.hid hr5; have HG5 := Lib.hid hg5; clear hr5 hg5 hat5))
      have hB5 : Below w.heap.size w w5 := (HB3.alloc hz3 _).grown HG5.out (by simp; omega) (fun k e => (R3.out.lt e).1)
      have KA : Keeps (fun i => blkOf A' = some i) W3 w5 := ((Keeps.refl _ W3).alloc _).trans (Keeps.of_grown (S := fun i => blkOf A' = some i) HG5.out (fun g e => e)) (fun _ _ h => h)
      have hTy := Lib.hid (fun (q : Nat) (e : blkOf A' = some q) => R3.out.ty e)
      go_roundw
      case rel => exact ⟨i + 1, A2, c2, us ++ [v], rfl, by go_num, by omega, Lib.hid (by rw [Lg.cs_app, Lg.cs_one, ← HCv.out]; exact HR5.out), Lib.hid ⟨by
        rw [Lg.xs_app1, HU.out.1, HVx.out, List.take_add_one, List.getElem?_eq_getElem (show i < (Lg.xs vs).length by rw [Lg.xs_len, HLv.out]; exact hlt), ← Lg.xs_at (by rw [HLv.out]; exact hlt), List.getD, List.getElem?_eq_getElem (show i < (Lg.xs vs).length by rw [Lg.xs_len, HLv.out]; exact hlt)]
        rfl, fun q hq => by
        rcases List.mem_append.1 hq with hq | hq
        · exact (U3.out q hq).keep KA (fun j _ ht e => ht.ne (hTy.out j e) (by decide) rfl)
        · rw [List.mem_singleton.1 hq]
          exact DV.out.keep KA (fun j _ ht e => ht.ne (hTy.out j e) (by decide) rfl)⟩, hB5⟩
      case measure => simp [intOf]; omega
    · obtain rfl : i = n := by omega
      have ik : ¬ ((i : Int) < (i : Int)) := by omega
      have P := Lib.hid (show OwnPost vs i w (.returned (.slice A' i c')) wr from ⟨A', c', us, rfl, HR.out, by rw [HU.out.1, List.take_of_length_le (by rw [Lg.xs_len, HLv.out]; exact Nat.le_refl _)], HU.out.2, hB⟩)
      go_wp2_with fail
      go_ret
      exact P.out
end Go.Proofs.Ytgmejplcdecmkaa

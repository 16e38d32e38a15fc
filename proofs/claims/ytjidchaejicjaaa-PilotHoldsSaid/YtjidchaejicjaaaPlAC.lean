/- The small functions of the examples: numbers, order, status, ack, sends, state, bounds. -/
import Derived.Test.YtjidchaejicjaaaPlAB
import Derived.Test.YtjidchaejicjaaaPlAS
namespace Go.Proofs.Ytjidchaejicjaaa
open Go.RowKit
set_option maxHeartbeats 4000000
set_option maxRecDepth 100000
set_option linter.unusedSimpArgs false
set_option linter.unusedVariables false
attribute [local go_sem ↓] Go.wp_at_zero Go.wp_at_succ
def OwPost (l : List Int) (w : World) (e : Ending) (w' : World) : Prop := ∃ A cap, e = .returned (.slice A l.length cap) ∧ Ow w' w.heap.size A l.length cap l ∧ Below w.heap.size w w'
theorem numbers_any (A : Option Addr) (n cap : Nat) (l : List Int) (w : World) (hn : n ≤ 16) (hok : Frm.okAll l = true) (h : Ri w w.heap.size A n l) :
    Calls Try.prog 52 #[.slice A n cap] w (OwPost (Frm.pn l) w) := by
  have P := Lib.hid (fun (W : World) (hW : Ri W W.heap.size A n l) => by
    have := rput_uni A n cap l W (by omega) hW
    have hp : Frm.pOk l = true := by unfold Frm.pOk; rw [hok, decide_eq_true (by have := h.1; omega)]; rfl
    unfold PuPost Frm.pL Frm.pE at this
    simp only [hp, if_true] at this
    exact this)
  have H := Lib.hid h
  obtain ⟨m, hm⟩ : ∃ m, m = Frm.pn l := ⟨_, rfl⟩
  rw [← hm] at P ⊢
  clear h hok hm
  go_enter Try.func52, Try.ntmps52
  go_wp2_with fail
  refine (P.out _ H.out).mono ?_
  rintro e w1 ⟨O, co, rfl, ho, hb⟩
  have HO := Lib.hid (And.intro ho hb)
  clear ho hb
  go_wp2_with fail
  go_ret
  exact ⟨O, co, rfl, HO.out.1, HO.out.2⟩
/-- a frame with bytes of its own -/
def FrPost (x : Fr) (w : World) (e : Ending) (w' : World) : Prop := ∃ A cap, e = .returned (.agg #[.int .i64 x.k, .int .i64 x.f, .int .i64 x.t, .int .i64 x.s, .slice A x.d.length cap]) ∧ Ow w' w.heap.size A x.d.length cap x.d ∧ Below w.heap.size w w'
theorem order_any (k q : Int) (A : Option Addr) (n cap : Nat) (l : List Int) (w : World) (hn : n ≤ 16) (hok : Frm.okAll l = true) (h : Ri w w.heap.size A n l) :
    Calls Try.prog 25 #[.int .i64 k, .int .i64 q, .slice A n cap] w (FrPost ⟨k, 0, 3, q, Frm.pn l⟩ w) := by
  have P := Lib.hid (fun (W : World) (hW : Ri W W.heap.size A n l) => numbers_any A n cap l W hn hok hW)
  have H := Lib.hid h
  obtain ⟨m, hm⟩ : ∃ m, m = Frm.pn l := ⟨_, rfl⟩
  rw [← hm] at P ⊢
  clear h hok hm
  go_enter Try.func25, Try.ntmps25
  go_upto_region 1 with fail
  generalize hV : World.alloc _ _ = V
  have k0 : V.heap[w.heap.size]? = some (.cells #[.int .i64 0, .int .i64 0, .int .i64 0, .int .i64 0, .slice none 0 0] 35 (0, 0)) := by rw [← hV]; exact heap_new _ _
  have HB := Lib.hid (show Below w.heap.size w V by rw [← hV]; exact (Below.refl _ _).alloc (Nat.le_refl _) _)
  clear hV
  go_wp2_with fail
  refine (P.out _ ((H.out.below HB.out (Nat.le_refl _)).more HB.out.size)).mono ?_
  rintro e w1 ⟨O, co, rfl, ho, hb⟩
  have j0 := blk_below k0 hb (lt_of_block k0)
  have hzV := HB.out.size
  have HO := Lib.hid (show Ow w1 V.heap.size O m.length co m from ho)
  have HB1 := Lib.hid (HB.out.trans (hb.mono HB.out.size))
  have hlt := lt_of_block k0
  clear k0 ho hb HB
  have cf_0 := blk_cell j0 0 rfl; have ff_0 := blk_free j0 0; have cf_1 := blk_cell j0 1 rfl; have ff_1 := blk_free j0 1; have cf_2 := blk_cell j0 2 rfl; have ff_2 := blk_free j0 2; have cf_3 := blk_cell j0 3 rfl; have ff_3 := blk_free j0 3; have cf_4 := blk_cell j0 4 rfl; have ff_4 := blk_free j0 4; have lf := lt_of_block j0
  go_wp2_with fail
  generalize hW : World.setCell _ _ _ = W
  have kW : W.heap[w.heap.size]? = some (.cells #[.int .i64 k, .int .i64 0, .int .i64 3, .int .i64 q, .slice O m.length co] 35 (0, 0)) := by rw [← hW]; exact (by apply Eq.trans; (repeat (first | (with_reducible assumption) | (with_reducible apply blk_set) | ((with_reducible apply blk_far); rotate_left; (first | omega | (simp <;> omega)); rotate_right) | (with_reducible apply blk_drew) | (with_reducible apply blk_drewN) | ((with_reducible apply heap_new'); (first | rfl | (simp <;> fail))) | (with_reducible apply blk_alloc))); (first | with_reducible rfl | (simp <;> fail) | rfl))
  have hK : Keeps (fun i => i = w.heap.size) w1 W := by rw [← hW]; (repeat (first | with_reducible exact Keeps.refl _ _ | (with_reducible refine Keeps.set1 ?_ _ _) | (with_reducible refine Keeps.drew ?_) | (with_reducible refine Keeps.drewN ?_ _) | (with_reducible refine Keeps.alloc ?_ _)))
  have HBW := Lib.hid (show Below w.heap.size w W by rw [← hW]; have := HB1.out; exact (by repeat (first | (with_reducible exact Below.refl _ _) | (with_reducible refine Below.drew ?_) | (with_reducible refine below_drewN ?_ _) | ((with_reducible refine Below.alloc ?_ ?_ _); rotate_left; (first | omega | (simp <;> omega)); rotate_right) | ((with_reducible refine Below.setCell ?_ ?_ _); rotate_left; (first | omega | (simp <;> omega)); rotate_right) | (with_reducible assumption) | (refine Below.trans ?_ (Below.mono (by assumption) ?_); rotate_left; (first | omega | (simp <;> omega)); rotate_right))))
  have HOW := Lib.hid (show Ow W w.heap.size O m.length co m from (HO.out.grown (row := some w.heap.size) ⟨hK.os, hK.tape, hK.output, hK.size, fun i hi hne => hK.block i hi (fun e => hne (by rw [e]))⟩ (fun g hg e => by
    rcases HO.out.form with ⟨h1, _⟩ | ⟨g2, h1, h2, _⟩
    · rw [h1] at hg; cases hg
    · rw [h1] at hg; injection hg with hg; injection hg with hg; injection e with e; omega)).more hzV)
  clear hW hK
  clear cf_0 ff_0 cf_1 ff_1 cf_2 ff_2 cf_3 ff_3 cf_4 ff_4
  have cg_0 := blk_cell kW 0 rfl; have fg_0 := blk_free kW 0; have cg_1 := blk_cell kW 1 rfl; have fg_1 := blk_free kW 1; have cg_2 := blk_cell kW 2 rfl; have fg_2 := blk_free kW 2; have cg_3 := blk_cell kW 3 rfl; have fg_3 := blk_free kW 3; have cg_4 := blk_cell kW 4 rfl; have fg_4 := blk_free kW 4; have lg := lt_of_block kW
  refine bodyPost_ret (v := .agg #[.int .i64 k, .int .i64 0, .int .i64 3, .int .i64 q, .slice O m.length co]) ?_ rfl ⟨O, co, rfl, HOW.out, HBW.out⟩
  simp [results, Try.results25, go_sem, cg_0, cg_1, cg_2, cg_3, cg_4]
theorem status_any (q x : Int) (w : World) (hx : 0 ≤ x ∧ x < 256) :
    Calls Try.prog 29 #[.int .i64 q, .int .i64 x] w (FrPost ⟨9, 3, 0, q, [x]⟩ w) := by
  have wk : IntKind.u8.wrap x = x := by rw [IntKind.wrap_u8]; omega
  go_enter Try.func29, Try.ntmps29
  go_wp2_with fail
  generalize hV : World.alloc _ _ = V
  have k0 : V.heap[w.heap.size]? = some (.cells #[.int .i64 9, .int .i64 3, .int .i64 0, .int .i64 q, .slice (some ⟨w.heap.size + 1, 0, none⟩) 1 1] 35 (0, 0)) := by rw [← hV]; exact blk_alloc (heap_new _ _) _
  have k1 : V.heap[w.heap.size + 1]? = some (.cells #[.int .u8 x] 5 (0, 0)) := by rw [← hV]; exact heap_new' _ _ _ (by simp)
  have HB := Lib.hid (show Below w.heap.size w V by rw [← hV]; exact (by repeat (first | (with_reducible exact Below.refl _ _) | (with_reducible refine Below.drew ?_) | (with_reducible refine below_drewN ?_ _) | ((with_reducible refine Below.alloc ?_ ?_ _); rotate_left; (first | omega | (simp <;> omega)); rotate_right) | ((with_reducible refine Below.setCell ?_ ?_ _); rotate_left; (first | omega | (simp <;> omega)); rotate_right) | (with_reducible assumption) | (refine Below.trans ?_ (Below.mono (by assumption) ?_); rotate_left; (first | omega | (simp <;> omega)); rotate_right))))
  clear hV
  have HO := Lib.hid (show Ow V w.heap.size (some ⟨w.heap.size + 1, 0, none⟩) 1 1 [x] from ⟨⟨rfl, .inr ⟨w.heap.size + 1, 1, _, rfl, by omega, k1, Nat.le_refl _, by unfold maxLen; omega, rfl, rfl⟩⟩, fun y hy => by
    obtain rfl : y = x := by simpa using hy
    exact hx⟩)
  have cg_0 := blk_cell k0 0 rfl; have fg_0 := blk_free k0 0; have cg_1 := blk_cell k0 1 rfl; have fg_1 := blk_free k0 1; have cg_2 := blk_cell k0 2 rfl; have fg_2 := blk_free k0 2; have cg_3 := blk_cell k0 3 rfl; have fg_3 := blk_free k0 3; have cg_4 := blk_cell k0 4 rfl; have fg_4 := blk_free k0 4; have lg := lt_of_block k0
  refine bodyPost_ret (v := .agg #[.int .i64 9, .int .i64 3, .int .i64 0, .int .i64 q, .slice (some ⟨w.heap.size + 1, 0, none⟩) 1 1]) ?_ rfl ⟨_, _, rfl, HO.out, HB.out⟩
  simp [results, Try.results29, go_sem, cg_0, cg_1, cg_2, cg_3, cg_4]
theorem ack_any (q x : Int) (w : World) (hx : 0 ≤ x ∧ x < 256) :
    Calls Try.prog 31 #[.int .i64 q, .int .i64 x] w (FrPost ⟨8, 3, 0, q, [x]⟩ w) := by
  have wk : IntKind.u8.wrap x = x := by rw [IntKind.wrap_u8]; omega
  go_enter Try.func31, Try.ntmps31
  go_wp2_with fail
  generalize hV : World.alloc _ _ = V
  have k0 : V.heap[w.heap.size]? = some (.cells #[.int .i64 8, .int .i64 3, .int .i64 0, .int .i64 q, .slice (some ⟨w.heap.size + 1, 0, none⟩) 1 1] 35 (0, 0)) := by rw [← hV]; exact blk_alloc (heap_new _ _) _
  have k1 : V.heap[w.heap.size + 1]? = some (.cells #[.int .u8 x] 5 (0, 0)) := by rw [← hV]; exact heap_new' _ _ _ (by simp)
  have HB := Lib.hid (show Below w.heap.size w V by rw [← hV]; exact (by repeat (first | (with_reducible exact Below.refl _ _) | (with_reducible refine Below.drew ?_) | (with_reducible refine below_drewN ?_ _) | ((with_reducible refine Below.alloc ?_ ?_ _); rotate_left; (first | omega | (simp <;> omega)); rotate_right) | ((with_reducible refine Below.setCell ?_ ?_ _); rotate_left; (first | omega | (simp <;> omega)); rotate_right) | (with_reducible assumption) | (refine Below.trans ?_ (Below.mono (by assumption) ?_); rotate_left; (first | omega | (simp <;> omega)); rotate_right))))
  clear hV
  have HO := Lib.hid (show Ow V w.heap.size (some ⟨w.heap.size + 1, 0, none⟩) 1 1 [x] from ⟨⟨rfl, .inr ⟨w.heap.size + 1, 1, _, rfl, by omega, k1, Nat.le_refl _, by unfold maxLen; omega, rfl, rfl⟩⟩, fun y hy => by
    obtain rfl : y = x := by simpa using hy
    exact hx⟩)
  have cg_0 := blk_cell k0 0 rfl; have fg_0 := blk_free k0 0; have cg_1 := blk_cell k0 1 rfl; have fg_1 := blk_free k0 1; have cg_2 := blk_cell k0 2 rfl; have fg_2 := blk_free k0 2; have cg_3 := blk_cell k0 3 rfl; have fg_3 := blk_free k0 3; have cg_4 := blk_cell k0 4 rfl; have fg_4 := blk_free k0 4; have lg := lt_of_block k0
  refine bodyPost_ret (v := .agg #[.int .i64 8, .int .i64 3, .int .i64 0, .int .i64 q, .slice (some ⟨w.heap.size + 1, 0, none⟩) 1 1]) ?_ rfl ⟨_, _, rfl, HO.out, HB.out⟩
  simp [results, Try.results31, go_sem, cg_0, cg_1, cg_2, cg_3, cg_4]
theorem sends_yes (A C : Option Addr) (n cap caq : Nat) (l : List Fr) (w : World) (hn : n ≤ 140737488355328) (h : Rf w w.heap.size A n l) (g : Rf w w.heap.size C n l) :
    Calls Try.prog 28 #[.slice A n cap, .int .i64 0, .slice C n caq] w fun e w' => e = .returned (.bool true) ∧ Below w.heap.size w w' := by
  have H := Lib.hid (same_true (cap := cap) (caq := caq) hn h g)
  clear h g hn
  go_enter Try.func28, Try.ntmps28
  go_wp2_with fail
  refine H.out.mono ?_
  rintro e w1 ⟨rfl, hb⟩
  have HB := Lib.hid hb
  clear hb
  go_wp2_with fail
  go_ret
  exact ⟨rfl, HB.out⟩
section
variable {w w' : World} {base b c : Nat} {s s' : Plt.St}
theorem Rof.keptP {w w' : World} {base base' b c : Nat} {v : Value} {l : List Fr} {s : Plt.St} (h : Rof w base v l) (k : Keeps (fun i => i = b ∨ i = c) w w') (hp : IsP w base' b c s) : Rof w' base v l := by
  have key : ∀ (size n : Nat) (e : TypeId) (v : Value) (xs : List Value), e ≠ 76 → e ≠ 100 → w.ownsRow base e size v n xs → w'.ownsRow base e size v n xs := fun size n e v xs h1 h2 ho => by
    refine ⟨ho.1, ?_⟩
    rcases ho.2 with h0 | ⟨g, cap, cur, e1, hb, hh, r⟩
    · exact .inl h0
    · have ha := hp.away ⟨_, hh⟩ h1 h2
      exact .inr ⟨g, cap, cur, e1, hb, blk_keep hh k (fun hg => by omega), r⟩
  obtain ⟨vs, h1, h2, h3⟩ := h
  exact ⟨vs, h1, key _ _ _ _ _ (by decide) (by decide) h2, fun y hy => ⟨key _ _ _ _ _ (by decide) (by decide) (h3 y hy).1, (h3 y hy).2⟩⟩
theorem state_yes (h : IsP w base b c s) (hs : Plt.Inv s) (hrep : s.reports < 1000000000) (l x : Int) (hk : Plt.tickS s l = s' ∧ Plt.timE s l = 0) (hs' : Plt.Inv s') (hx : s'.st = x) :
    Calls Try.prog 26 #[.pointer (some ⟨b, 0, none⟩), .int .i64 l, .int .i64 x] w fun e w' => e = .returned (.bool true) ∧ IsP w' base b c s' ∧ Keeps (fun i => i = b ∨ i = c) w w' := by
  have T := Lib.hid (show Calls Try.prog 15 #[.pointer (some ⟨b, 0, none⟩), .int .i64 l] w (PRPost base b c s' (Plt.tickF s l) 0 w) from by
    have := ptick_any h hs hrep l
    rw [hk.1, hk.2] at this
    exact this)
  have S := Lib.hid (fun (W : World) (hW : IsP W base b c s') => by have := pstate_any hW hs'; rw [hx] at this; exact this)
  have z : (x == x) = true := by simp
  clear h hs hk hs' hx hrep
  go_enter Try.func26, Try.ntmps26
  go_wp2_with fail
  refine T.out.mono ?_
  rintro e w1 ⟨v, rfl, _, hp, hk⟩
  have HP := Lib.hid (And.intro hp hk)
  clear hp hk
  go_wp2_with fail
  refine (S.out _ HP.out.1).mono ?_
  rintro e w2 ⟨rfl, rfl⟩
  go_wp2_with fail
  go_ret
  exact ⟨rfl, HP.out.1, HP.out.2⟩
theorem bounds_yes (h : IsP w base b c s) (hs : Plt.Inv s) (l lo hi : Int) (hk : Ck.aLo s.d s.r s.cs s.lo s.hi l = lo ∧ Ck.aHi s.d s.r s.cs s.hi l = hi ∧ Ck.aE s.d s.r s.cs s.hi l = 0) :
    Calls Try.prog 30 #[.pointer (some ⟨b, 0, none⟩), .int .i64 l, .int .i64 lo, .int .i64 hi] w fun e w' => e = .returned (.bool true) ∧ Below w.heap.size w w' := by
  have T := Lib.hid (show Calls Try.prog 18 #[.pointer (some ⟨b, 0, none⟩), .int .i64 l] w fun e w' => e = .returned (.tuple #[.agg #[.int .i64 lo, .int .i64 hi], .int .i64 0]) ∧ Below w.heap.size w w' from by
    have := pbounds_any h hs l
    rw [hk.1, hk.2.1, hk.2.2] at this
    exact this)
  have z : (lo == lo) = true := by simp
  have z2 : (hi == hi) = true := by simp
  clear h hs hk
  go_enter Try.func30, Try.ntmps30
  go_wp2_with fail
  refine T.out.mono ?_
  rintro e w1 ⟨rfl, hb⟩
  have HB := Lib.hid hb
  clear hb
  go_wp2_with fail
  go_ret
  exact ⟨rfl, by first | exact HB.out.alloc HB.out.size _ | exact (HB.out.alloc HB.out.size _).drew⟩
end
/-- numbers that are written out -/
theorem Ri.lit (w : World) (l : List Int) (q : Nat) (hq : q = w.heap.size) (h : I64 l) (hl : 0 < l.length) : Ri (w.alloc (.cells (iv l).toArray 3)) (w.alloc (.cells (iv l).toArray 3)).heap.size (some ⟨q, 0, none⟩) l.length l := by
  subst hq
  refine ⟨rfl, h, fun _ => ⟨w.heap.size, 0, rfl, by simp, fun i hi => ?_⟩⟩
  rw [Nat.zero_add]
  refine blk_cell (heap_new w _) i ?_
  simp [iv, List.getD, hi]
end Go.Proofs.Ytjidchaejicjaaa

/- slices.Delete of one number. -/
import Derived.Test.YtiidkmnagfhgiaaStJ
import Derived.Lib.SliceRun
namespace Go.Proofs.Ytiidkmnagfhgiaa
open Go.RowKit
set_option maxHeartbeats 8000000
set_option maxRecDepth 100000
set_option linter.unusedSimpArgs false
set_option linter.unusedVariables false
attribute [local go_sem ↓] Go.wp_at_zero Go.wp_at_succ
def setL (cur : Array Value) : Nat → List Value → Array Value
  | _, [] => cur
  | o, v :: r => setL (cur.setIfInBounds o v) (o + 1) r
theorem size_setL : ∀ (vs : List Value) (o : Nat) (cur : Array Value), (setL cur o vs).size = cur.size
  | [], _, _ => rfl
  | v :: r, o, cur => by rw [setL, size_setL r (o + 1), Array.size_setIfInBounds]
theorem get_setL : ∀ (vs : List Value) (o : Nat) (cur : Array Value) (k : Nat), k < cur.size → (setL cur o vs)[k]? = if o ≤ k ∧ k < o + vs.length then vs[k - o]? else cur[k]?
  | [], o, cur, k, h => by rw [if_neg (by simp only [List.length_nil]; omega)]; rfl
  | v :: r, o, cur, k, h => by
    rw [setL, get_setL r (o + 1) _ k (by simpa using h)]
    by_cases h1 : o + 1 ≤ k ∧ k < o + 1 + r.length
    · rw [if_pos h1, if_pos (by simp only [List.length_cons]; omega), show k - o = (k - (o + 1)) + 1 by omega, List.getElem?_cons_succ]
    · rw [if_neg h1]
      by_cases h2 : k = o
      · subst h2
        rw [if_pos (by simp), Nat.sub_self, Array.getElem?_setIfInBounds]
        simp [h]
      · rw [if_neg (by simp; omega), Array.getElem?_setIfInBounds, if_neg (by omega)]
theorem setCells_blk (b : Nat) (t : TypeId) : ∀ (vs : List Value) (o : Nat) (w : World) (cur : Array Value), w.heap[b]? = some (.cells cur t (0, 0)) → (w.setCells b o vs).heap[b]? = some (.cells (setL cur o vs) t (0, 0))
  | [], _, _, _, h => h
  | v :: r, o, w, cur, h => by rw [World.setCells, setL]; exact setCells_blk b t r (o + 1) _ _ (blk_set h o v)
theorem setCells_keeps (b : Nat) : ∀ (vs : List Value) (o : Nat) (w0 w : World), Keeps (fun i => i = b) w0 w → Keeps (fun i => i = b) w0 (w.setCells b o vs)
  | [], _, _, _, h => h
  | v :: r, o, w0, w, h => by rw [World.setCells]; exact setCells_keeps b r (o + 1) w0 _ (h.set1 o v)
theorem zero_int : ∀ w, (zeroValue 3).run Try.prog w = .ok (.int .i64 0) w := fun w => by kernel_rfl
theorem erase_cells (cur : List Value) (cur2 : Array Value) (o n i : Nat) (xs : List Value) (hx : (cur.drop o).take n = xs) (hxl : xs.length = n) (hi : i < n) (hs : cur2.size = cur.length) (hc : cur2.toList = cur) (hfit : o + n ≤ cur.length) :
    ((setL (setL cur2 (o + i) (xs.drop (i + 1))) (o + (n - 1)) [.int .i64 0]).toList.drop o).take (n - 1) = xs.eraseIdx i := by
  apply List.ext_getElem?
  intro k
  have hxk : ∀ j, j < n → xs[j]? = cur[o + j]? := fun j hj => by rw [← hx, List.getElem?_take, if_pos hj, List.getElem?_drop]
  rw [List.getElem?_take, List.getElem?_eraseIdx]
  by_cases hk : k < n - 1
  · rw [if_pos hk, List.getElem?_drop, Array.getElem?_toList, get_setL _ _ _ _ (by rw [size_setL]; omega), if_neg (by simp; omega), get_setL _ _ _ _ (by omega)]
    have hcc : ∀ j, cur2[j]? = cur[j]? := fun j => by rw [← Array.getElem?_toList, hc]
    by_cases h1 : k < i
    · rw [if_neg (by omega), if_pos h1, hcc, hxk k (by omega)]
    · rw [if_pos (by rw [List.length_drop]; omega), if_neg h1, List.getElem?_drop]
      congr 1; omega
  · rw [if_neg hk]
    by_cases h1 : k < i
    · omega
    · rw [if_neg h1, List.getElem?_eq_none (by omega)]
theorem delete_any (A : Option Addr) (n c base i : Nat) (xs : List Value) (w : World) (hn : n ≤ 1000000) (h : Row w base 3 1 A n c xs) (h1 : ∀ v ∈ xs, v.oneCell' = true) (hi : i < n) :
    Calls Try.prog 50 #[.slice A n c, .int .i64 i, .int .i64 ((i : Int) + 1)] w fun e w' => e = .returned (.slice A (n - 1 : Nat) c) ∧ Row w' base 3 1 A (n - 1) c (xs.eraseIdx i) ∧ Keeps (fun g => blkOf A = some g) w w' := by
  obtain ⟨i0, hi0, hz0, hz1, hz2⟩ := info_parts info_in
  obtain ⟨g, o, cur, rfl, hge, hlt, hg, hnc, hcm, hfit, hcur, hcell, hfr⟩ := h.some_ (by omega)
  have hxl := h.1
  rw [Nat.mul_one] at hxl hfit hcur
  obtain ⟨news, hnews⟩ : ∃ news, news = xs.drop (i + 1) := ⟨_, rfl⟩
  have hlen : news.length = n - (i + 1) := by rw [hnews, List.length_drop, hxl]
  obtain ⟨AA, hA, hsrc⟩ : ∃ AA : Addr, (if c = i + 1 then some (⟨g, o, none⟩ : Addr) else some ⟨g, o + (i + 1), none⟩) = some AA ∧ Hid (∀ t u, news[t]? = some u → w.drew.cell? (AA.add t) = some u) := by
    by_cases hc : c = i + 1
    · refine ⟨⟨g, o, none⟩, by simp [hc], Lib.hid (fun t u hu => ?_)⟩
      rw [List.getElem?_eq_none (by omega)] at hu; cases hu
    · refine ⟨⟨g, o + (i + 1), none⟩, by simp [hc], Lib.hid (fun t u hu => ?_)⟩
      rw [addr_add, Nat.add_assoc]
      rw [hnews, List.getElem?_drop] at hu
      exact hcell _ u hu
  have s1 := Lib.hid (show news.length = (n - (i + 1)) * 1 by rw [Nat.mul_one]; exact hlen)
  have s2 := Lib.hid (show ∀ u ∈ news, u.oneCell' = true from fun u hu => h1 u (by rw [hnews] at hu; exact List.mem_of_mem_drop hu))
  have s3 := Lib.hid (show ∀ t, t < news.length → (w.drew.cell? ⟨g, o + i * 1 + t, none⟩).isSome = true ∧ w.drew.frozen? ⟨g, o + i * 1 + t, none⟩ = false from fun t ht => by
    have hh := hcell (i + t) (xs[i + t]'(by omega)) (List.getElem?_eq_getElem _)
    rw [Nat.mul_one, Nat.add_assoc]
    exact ⟨by show (w.cell? _).isSome = true; rw [hh]; rfl, hfr _⟩)
  obtain ⟨W1, hW1⟩ : ∃ W1, W1 = w.drew.setCells g (o + i * 1) news := ⟨_, rfl⟩
  have hb1 : W1.heap[g]? = some (.cells (setL cur (o + i) news) 3 (0, 0)) := by
    rw [hW1, Nat.mul_one]
    exact setCells_blk g _ news (o + i) w.drew cur hg
  have hk1 : Keeps (fun i => i = g) w W1 := by
    rw [hW1]
    exact setCells_keeps g _ _ _ _ (Keeps.refl _ _).drew
  have hcl : ∀ ty, (Builtin.clear_ #[46] ty #[.slice (some ⟨g, o + (i + (n - (i + 1))), none⟩) (n - (i + (n - (i + 1)))) (c - (i + (n - (i + 1))))]).run Try.prog W1 = .ok (.tuple #[]) (W1.setCells g (o + (n - 1)) [.int .i64 0]) := fun ty => by
    rw [show i + (n - (i + 1)) = n - 1 by omega, show n - (n - 1) = 1 by omega]
    refine Lib.run_clear_slice W1 _ _ ty _ Try.underlying46 zero_int rfl rfl g (o + (n - 1)) 1 (c - (n - 1)) (by omega) (fun j hj => ?_) (fun j hj => blk_free hb1 _)
    have : W1.cell? ⟨g, o + (n - 1) + j, none⟩ = (setL cur (o + i) news)[o + (n - 1) + j]? := by simp [World.cell?, hb1]
    rw [this, Array.getElem?_eq_getElem (by rw [size_setL]; omega)]
    rfl
  have HW := Lib.hid hW1
  have HB1 := Lib.hid hb1
  have HK1 := Lib.hid hk1
  have HE := Lib.hid (erase_cells cur.toList cur o n i xs hcur hxl hi (by simp) rfl (by rw [Array.length_toList]; omega))
  rw [← hnews] at HE
  have HSZ := Lib.hid hfit
  unfold maxLen at hcm
  have hin : (i : Int) + 1 ≤ (n : Int) := by omega
  have hic : i ≤ c := by omega
  have hjc : i + 1 ≤ c := by omega
  have hi00 : (0 : Int) ≤ (i : Int) + 1 := by omega
  have hni : ((i : Int) == (i : Int) + 1) = false := by rw [beq_eq_false_iff_ne]; omega
  clear h h1 hg hfit hcur hcell hfr hxl hnews hlen hW1 hb1 hk1
  go_enter Try.func50, Try.ntmps50
  go_wp2_with fail
  go_region_law (refine step_append_room rfl (.tmp 22) (.tmp 25) 46 rfl 3 i0 1 Try.underlying46 hi0 hz1 g o i c (by simp [Act.eval, Act.put]) AA (n - (i + 1)) (c - (i + 1)) news (by simp [Act.eval, Act.put]) s1.out hsrc.out s2.out (by omega) s3.out ?_; rw [← HW.out])
  have hm1 : ¬ (c = i + (n - (i + 1))) := by omega
  have hm2 : i + (n - (i + 1)) ≤ n := by omega
  go_wp2_with fail
  go_ret
  have em : i + (n - (i + 1)) = n - 1 := by omega
  rw [em]
  refine ⟨rfl, ?_, ?_⟩
  · have hb2 := setCells_blk g 3 [.int .i64 0] (o + (n - 1)) W1 _ HB1.out
    refine Row.of_block hb2 hge (by omega) (by unfold maxLen; omega) (by rw [size_setL, size_setL, Nat.mul_one]; exact HSZ.out) ?_
    rw [Nat.mul_one]
    exact HE.out
  · exact (setCells_keeps g [.int .i64 0] (o + (n - 1)) w W1 HK1.out).mono (fun j _ hj => by rw [hj]; rfl)
end Go.Proofs.Ytiidkmnagfhgiaa

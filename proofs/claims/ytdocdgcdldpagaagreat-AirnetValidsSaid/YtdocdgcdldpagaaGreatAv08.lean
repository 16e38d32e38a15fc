import Derived.Test.YtdocdgcdldpagaaGreatAp
import Derived.Test.YtdocdgcdldpagaaGreatAv07
import Derived.Deep.DrawnRows
namespace Go.Proofs.YtdocdgcdldpagaaGreat
open Go.RowKit Go.Shelf
attribute [local go_sem] Oper.semAt_some
set_option maxHeartbeats 4000000
set_option linter.unusedSimpArgs false
set_option linter.unusedVariables false
namespace Frm
def gnAt (l : List Int) (k : Nat) : Int := ((l.getD (4 * k) 0 * 256 + l.getD (4 * k + 1) 0) * 256 + l.getD (4 * k + 2) 0) * 256 + l.getD (4 * k + 3) 0
def gn (l : List Int) (m : Nat) : List Int := (List.range m).map (gnAt l)
theorem gn_len (l : List Int) (m : Nat) : (gn l m).length = m := by simp [gn]
theorem gnAt_bd {l : List Int} (h : By l) (k : Nat) : 0 ≤ gnAt l k ∧ gnAt l k ≤ 4294967295 := by
  have a := h.at_ (4 * k); have b := h.at_ (4 * k + 1); have c := h.at_ (4 * k + 2); have d := h.at_ (4 * k + 3)
  unfold gnAt; omega
theorem gn_i64 {l : List Int} (h : By l) (m : Nat) : I64 (gn l m) := by
  intro x hx
  simp only [gn, List.mem_map] at hx
  obtain ⟨k, _, rfl⟩ := hx
  have := gnAt_bd h k
  omega
set_option maxRecDepth 100000 in
theorem or4 (x0 x1 x2 x3 : Int) (h0 : 0 ≤ x0 ∧ x0 < 256) (h1 : 0 ≤ x1 ∧ x1 < 256) (h2 : 0 ≤ x2 ∧ x2 < 256) (h3 : 0 ≤ x3 ∧ x3 < 256) :
    bits .or .i64 (x0 * 16777216) (x1 * 65536) = x0 * 16777216 + x1 * 65536 ∧ bits .or .i64 (x0 * 16777216 + x1 * 65536) (x2 * 256) = x0 * 16777216 + x1 * 65536 + x2 * 256 ∧
    bits .or .i64 (x0 * 16777216 + x1 * 65536 + x2 * 256) x3 = ((x0 * 256 + x1) * 256 + x2) * 256 + x3 := by
  have key : ∀ (a c s : Nat), a < 4294967296 → c < 2 ^ s → s ≤ 24 → a % 2 ^ s = 0 → bits .or .i64 (a : Int) (c : Int) = ((a + c : Nat) : Int) := by
    intro a c s ha hc hs hm
    have hc' : c < 2 ^ 24 := Nat.lt_of_lt_of_le hc (Nat.pow_le_pow_right C8 hs)
    show IntKind.i64.wrap ((BitVec.ofInt 64 (a : Int) ||| BitVec.ofInt 64 (c : Int)).toNat : Int) = _
    rw [BitVec.toNat_or, ofInt_nat 64 _ Cb, ofInt_nat 64 c Cb]
    have e : a = (a / 2 ^ s) <<< s := by rw [Nat.shiftLeft_eq]; have := Nat.div_add_mod a (2 ^ s); rw [hm, Nat.mul_comm] at this; omega
    have : a ||| c = a + c := by
      conv => lhs; rw [e]
      rw [← Nat.shiftLeft_add_eq_or_of_lt hc, ← e]
    rw [this, IntKind.wrap_i64]
    omega
  obtain ⟨a, rfl⟩ : ∃ a : Nat, x0 = a := ⟨x0.toNat, by omega⟩
  obtain ⟨b, rfl⟩ : ∃ a : Nat, x1 = a := ⟨x1.toNat, by omega⟩
  obtain ⟨c, rfl⟩ : ∃ a : Nat, x2 = a := ⟨x2.toNat, by omega⟩
  obtain ⟨d, rfl⟩ : ∃ a : Nat, x3 = a := ⟨x3.toNat, by omega⟩
  refine ⟨?_, ?_, ?_⟩
  · have := key (a * 16777216) (b * 65536) 24 Cb Cb Cb Cb
    simpa using this
  · have := key (a * 16777216 + b * 65536) (c * 256) 16 Cb Cb Cb Cb
    simpa using this
  · have := key (a * 16777216 + b * 65536 + c * 256) d 8 Cb Cb Cb Cb
    have h : ((a * 16777216 + b * 65536 + c * 256 : Nat) : Int) = (a : Int) * 16777216 + (b : Int) * 65536 + (c : Int) * 256 := by simp
    rw [h] at this
    rw [this]
    clear h this key
    simp only [Int.natCast_add, Int.natCast_mul]
    generalize (a : Int) = A
    generalize (b : Int) = B
    generalize (c : Int) = C
    generalize (d : Int) = D
    simp only [Int.add_mul, Int.mul_assoc]
    rfl
end Frm
def Oi (w : World) (base : Nat) (A : Option Addr) (n cap : Nat) (l : List Int) : Prop := w.ownsRow base 3 1 (.slice A n cap) n (iv l) ∧ I64 l
theorem info_i64 : (Tryz.prog.info? 3).map (fun i => (i.zero, i.size, i.bytes)) = some (some (.int .i64 0), 1, 8) := by kernel_rfl
theorem Oi_more {w : World} {base : Nat} {v : Value} {n : Nat} {xs : List Value} {e : TypeId} (h : w.ownsRow (base + 3) e 1 v n xs) : w.ownsRow base e 1 v n xs := by
  refine ⟨h.1, ?_⟩
  rcases h.2 with e | ⟨g, c, cur, e, hb', rest⟩
  · exact .inl e
  · exact .inr ⟨g, c, cur, e, by omega, rest⟩
def GPost (w : World) (n : Nat) (many : Int) (l : List Int) (e : Ending) (w' : World) : Prop :=
  ((many < 0 ∧ e = .returned (.tuple #[.slice none 0 0, .int .i64 2])) ∨ (0 ≤ many ∧ (n : Int) / 4 < many ∧ e = .returned (.tuple #[.slice none 0 0, .int .i64 4])) ∨ (0 ≤ many ∧ 4 * many < (n : Int) ∧ many ≤ (n : Int) / 4 ∧ e = .returned (.tuple #[.slice none 0 0, .int .i64 5]))
    ∨ ((n : Int) = 4 * many ∧ ∃ A' cap', e = .returned (.tuple #[.slice A' many.toNat cap', .int .i64 0]) ∧ Oi w' w.heap.size A' many.toNat cap' (Frm.gn l many.toNat))) ∧ Below w.heap.size w w'
theorem get_err (A : Option Addr) (n cap : Nat) (many : Int) (l : List Int) (w : World) (hn : n ≤ 140737488355328) (hm : -9223372036854775808 ≤ many ∧ many ≤ 9223372036854775807) (h : ¬ (n : Int) = 4 * many) :
    Calls Tryz.prog 164 #[.slice A n cap, .int .i64 many] w fun e w' => GPost w n many l e w' := by
  obtain ⟨hm0, hm1⟩ := hm
  rcases Int.lt_or_le many 0 with h1 | h1
  · clear h
    go_enter Tryz.func164, Tryz.ntmps164
    go_wp2_with fail
    go_ret2
    exact ⟨.inl ⟨h1, rfl⟩, A9⟩
  rcases Int.lt_or_le ((n : Int) / 4) many with h2 | h2
  · clear h
    go_enter Tryz.func164, Tryz.ntmps164
    go_wp2_with fail
    go_ret2
    exact ⟨.inr (.inl ⟨h1, h2, rfl⟩), A9⟩
  · have h3 : 4 * many < (n : Int) := by omega
    clear h
    go_enter Tryz.func164, Tryz.ntmps164
    go_wp2_with fail
    go_ret2
    exact ⟨.inr (.inr (.inl ⟨h1, h3, h2, rfl⟩)), A9⟩
theorem get_tail {B0 p m : Nat} {l : List Int} {w W w2 : World} {A1 A2 : Option Addr} {cap1 cap2 k : Nat} {pre : List (Fin m)} {hk : k < m} {y : Int} {X : Obj} {M : Nat} (hB : Below p w W) (hz : M ≤ W.heap.size) (hM : M = p + 3) (hp : p ≤ W.heap.size)
    (hv : Boxed W p 26 (.slice A1 pre.length cap1)) (hrow : W.ownsRow (p + 3) 3 1 (.slice A1 pre.length cap1) pre.length (iv (pre.map fun x => Frm.gnAt l x.1)))
    (hg1 : ((W.alloc X).drew).grownBy w2 (Value.slice A1 pre.length cap1).ownBlock) (hown1 : w2.ownsRow (p + 3) 3 1 (.slice A2 (pre.length + 1) cap2) (pre.length + 1) (iv (pre.map fun x => Frm.gnAt l x.1) ++ [.int .i64 y]))
    (he : Frm.gnAt l k = y) :
    KeepsFrom B0 W (w2.setCell ⟨p, 0, none⟩ (.slice A2 (pre.length + 1) cap2)) ∧ KpC p (p + 1) (p + 2) W (w2.setCell ⟨p, 0, none⟩ (.slice A2 (pre.length + 1) cap2)) ∧
    (∃ v, Boxed (w2.setCell ⟨p, 0, none⟩ (.slice A2 (pre.length + 1) cap2)) p 26 v ∧ (w2.setCell ⟨p, 0, none⟩ (.slice A2 (pre.length + 1) cap2)).ownsRow (p + 3) 3 1 v (pre ++ [(⟨k, hk⟩ : Fin m)]).length (iv ((pre ++ [(⟨k, hk⟩ : Fin m)]).map fun x : Fin m => Frm.gnAt l x.1)) ∧ True) ∧
      Below p w (w2.setCell ⟨p, 0, none⟩ (.slice A2 (pre.length + 1) cap2)) ∧ M ≤ (w2.setCell ⟨p, 0, none⟩ (.slice A2 (pre.length + 1) cap2)).heap.size := by
  have hne : ∀ q, q < p + 3 → some q ≠ (Value.slice A1 pre.length cap1).ownBlock := fun q hq e => by have := (hrow.lt _ e.symm).1; omega
  have hblk : ∀ q, q < p + 3 → q < W.heap.size → w2.heap[q]? = W.heap[q]? := fun q hq hq2 => (hg1.block q C6 (hne q hq)).trans (Below.heap_alloc W X q hq2)
  have hv1 : Boxed w2 p 26 (.slice A1 pre.length cap1) := (hblk p Cb hv.lt).trans hv
  have hbel : Below p W (w2.setCell ⟨p, 0, none⟩ (.slice A2 (pre.length + 1) cap2)) :=
    (Below.grown (w := (W.alloc X).drew) (Below.drew ((Below.refl p W).alloc hp X)) hg1 C6 (fun g hg => by have := (hrow.lt g hg).1; omega)).setCell (p := ⟨p, 0, none⟩) (Nat.le_refl _) _
  refine ⟨?_, ⟨hbel, ?_, ?_⟩, ⟨_, hv1.set _, ?_, trivial⟩, hB.trans hbel, ?_⟩
  · refine KeepsOthers.from ?_ _
    refine ((((KeepsOthers.alloc W X).trans (⟨Nat.le_refl _, fun _ _ h _ => h⟩ : KeepsOthers (W.alloc X) (W.alloc X).drew)).trans (KeepsOthers.of_grownBy hg1 fun j o ej hj => ?_)).trans (KeepsOthers.setCell _ _ _))
    rcases (World.ownsRow.drew (World.ownsRow.alloc hrow X)).2 with ⟨e2, _⟩ | ⟨g, cap, cur, e2, _, hgb, _⟩
    · rw [e2] at ej; simp [Value.ownBlock] at ej
    · rw [e2] at ej
      obtain rfl : g = j := by simpa [Value.ownBlock] using ej
      rw [hgb] at hj; cases hj; rfl
  · exact (Below.heap_setCell w2 ⟨p, 0, none⟩ _ (p + 1) C9).trans (hblk _ Cb Cb)
  · exact (Below.heap_setCell w2 ⟨p, 0, none⟩ _ (p + 2) C9).trans (hblk _ Cb Cb)
  · have h2 : w2.ownsRow (p + 3) 3 1 (.slice A2 (pre.length + 1) cap2) (pre ++ [(⟨k, hk⟩ : Fin m)]).length (iv ((pre ++ [(⟨k, hk⟩ : Fin m)]).map fun x : Fin m => Frm.gnAt l x.1)) := by
      have e1 : iv ((pre ++ [(⟨k, hk⟩ : Fin m)]).map fun x : Fin m => Frm.gnAt l x.1) = iv (pre.map fun x => Frm.gnAt l x.1) ++ [.int .i64 y] := by simp [iv, he]
      rw [e1, List.length_append]
      exact hown1
    refine h2.kept (grownBy_setCell' w2 p _) (.inr fun e => ?_)
    have := (h2.lt _ e).1
    omega
  · have := hbel.size
    omega
theorem Co {p : Prop} (h : p := by
  refine AllReadyH.cons rfl (fun K hK => ?_) AllReadyH.nil
  go_simp
  refine hK.out _ _ Ag (fun hHeld => ?_)
  clear hK K
  refine wpAnyH_ready (rs := [24]) C7 C9 ?_; refine AllReadyH.cons rfl (fun K hK => ?_) AllReadyH.nil; refine step_append_any _ rfl (.tmp 26) (.tmp 49) 26 rfl (w.heap.size + 3) 3 i0 _ 1 8 Tryz.underlying26 hi0 hz0 hz1 hz2 rfl Cb (.slice A1 pre.length cap1) pre.length _ rfl (World.ownsRow.drew (World.ownsRow.alloc hrow _)) (W.heap.size + 1) (some ⟨W.heap.size, 0, none⟩) 1 1 [.int .i64 y] rfl (Reads.drew (Reads.new W #[.int .i64 y] 3)) Bt Bn Cb C6 ?_; intro v1 w2 hown1 hg1 hat1; obtain ⟨A2, cap2, rfl⟩ := own_form hown1; have hkeep : ∀ q off, q < w.heap.size + 3 → q < W.heap.size → w2.cell? ⟨q, off, none⟩ = W.cell? ⟨q, off, none⟩ := (fun q off hq hq2 => (World.cell?_of_block (hg1.block q C6 (fun e => by have := (hrow.lt _ e.symm).1; omega))).trans (World.cell?_alloc_lt W _ ⟨q, off, none⟩ hq2)); have hv1 : Boxed w2 w.heap.size 26 (.slice A1 pre.length cap1) := (show w2.heap[w.heap.size]? = _ from (hg1.block w.heap.size C6 (fun e => by have := (hrow.lt _ e.symm).1; omega)).trans (blk_drew (blk_alloc hv _))); have hc2 := hv1.cell; have hf2 := hv1.frozen; refine hK.out _ _ ⟨(hkeep _ _ Cb hbW).trans c0, (hkeep _ _ Cb hbW).trans c1, (hkeep _ _ Cb hbW).trans c2, (hkeep _ _ Cb hbW).trans c3⟩ (fun hHeld => ?_); clear hK K; obtain ⟨d0, d1, d2, d3⟩ := hHeld; have hne : b ≠ w.heap.size := Cb; refine wpAnyH_ready (rs := [25]) C7 C9 ?_; refine AllReadyH.cons rfl (fun K hK => ?_) AllReadyH.nil; go_simp; refine hK.out _ _ Ag (fun hHeld => ?_); clear hK K; refine wpAnyH_done C7 ?_ _; exact get_tail hB hzW0 z0 hzW hv hrow hg1 hown1 EG.out
 ) : p := h
set_option maxRecDepth 100000 in
set_option maxHeartbeats 1000000 in
theorem get_in (n : Nat) (hn : 3 ≤ n) (A : Option Addr) (b o m cap : Nat) (l : List Int) (w : World) (hm : 8 * m ≤ 140737488355328) (hcap : 4 * m ≤ cap) (hcm : cap ≤ 9223372036854775807) (h : Rd w w.heap.size A (4 * m) l) (hA : 0 < m → A = some ⟨b, o, none⟩) :
    CallsIn Fence.wide n Tryz.prog 164 #[.slice A (4 * m) cap, .int .i64 m] w fun e w' => ∃ A' cap', e = .returned (.tuple #[.slice A' m cap', .int .i64 0]) ∧ Oi w' w.heap.size A' m cap' (Frm.gn l m) ∧ Below w.heap.size w w' := by
  obtain ⟨i0, hi0, hz0, hz1, hz2⟩ := info_parts info_i64
  have HH := Lib.hid h
  clear h
  have HC := Lib.hid (fun W => chunk_new A (4 * m) cap W)
  refine callsIn_of_wp_marks Tryz.func164 rfl trivial ?_ rfl
  simp only [Tryz.ntmps164, List.size_toArray, List.length_cons, List.length_nil, Nat.reduceAdd, Nat.reduceSub, Array.replicate_succ, Array.replicate_zero, List.push_toArray, List.append_toArray, List.nil_append, List.cons_append]
  gi_wp2
  trace "0"
  refine ⟨trivial, fun hh => (by simp [Fence.wide] at hh), callsIn_wide.2 ((HC.out _).mono ?_)⟩
  rintro e w' ⟨rfl, rfl⟩
  gi_wp2
  obtain ⟨W0, hW0⟩ : ∃ W0 : World, W0 = ((w.alloc (.cells #[.slice none 0 0] 26)).alloc (.cells #[.slice A (4 * m) cap] 47)).alloc (.cells #[.int .i64 4] 3) := ⟨_, rfl⟩
  have z0 : W0.heap.size = w.heap.size + 3 := by rw [hW0]; simp
  have q0 : W0.heap[w.heap.size]? = some (.cells #[.slice none 0 0] 26 (0, 0)) := by rw [hW0]; exact blk_alloc (blk_alloc (heap_new _ _) _) _
  have q1 : W0.heap[w.heap.size + 1]? = some (.cells #[.slice A (4 * m) cap] 47 (0, 0)) := by rw [hW0]; exact blk_alloc (heap_new' _ _ _ C9) _
  have q2 : W0.heap[w.heap.size + 2]? = some (.cells #[.int .i64 4] 3 (0, 0)) := by rw [hW0]; exact heap_new' _ _ _ C9
  have B0 : Below w.heap.size w W0 := by rw [hW0]; exact (((Below.refl _ w).alloc (Nat.le_refl _) _).alloc C9 _).alloc C6 _
  rw [← hW0]
  clear hW0
  have hseq : SeqStopsK Fence.wide (n - 1) Tryz.prog 182 #[.pointer (some ⟨w.heap.size + 1, 0, none⟩), .pointer (some ⟨w.heap.size + 1 + 1, 0, none⟩)] (fun x : Fin m => #[Value.slice (some ⟨b, o + 4 * x.1, none⟩) 4 4]) (KpC w.heap.size (w.heap.size + 1) (w.heap.size + 2)) (fun ys => ys = List.finRange m) (fun pre => pre <+: List.finRange m) m W0 :=
    fun l J Jx W hW hJ hJx hY h0 => chunk1 (n - 1) l w.heap.size (w.heap.size + 1) (w.heap.size + 2) A b o m cap Cb hcap hcm hA J Jx hY W (blk_below q1 hW Cb) (blk_below q2 hW Cb) h0 (fun s V hs => hJ s V V.drew none hs (only_drew (World.grownBy.refl _ _)) (fun r e => by cases e))
  have h1 : 1 ≤ n := by omega
  trace "1"
  refine wpIn_rangeFunc_ownG (F := Fence.wide) rfl h1 (gf := 182) (lb := #[.pointer (some ⟨w.heap.size + 1, 0, none⟩), .pointer (some ⟨w.heap.size + 1 + 1, 0, none⟩)]) ?hg trivial ?eg
    hseq ?hKt ?hKb ?hb0 ?hps
    (fun pre W => (∃ v, Boxed W w.heap.size 26 v ∧ W.ownsRow (w.heap.size + 3) 3 1 v pre.length (iv (pre.map fun x => Frm.gnAt l x.1)) ∧ True) ∧ Below w.heap.size w W ∧ W0.heap.size ≤ W.heap.size)
    (fun _ _ _ => False)
    ?hI ?hIx ?h0
    (fun x => { tmps := #[.slice A (4 * m) cap, .int .i64 m, undef, undef, .slice none 0 0, .int .i64 0, .pointer (some ⟨w.heap.size, 0, none⟩), .slice (some ⟨b, o + 4 * x.1, none⟩) 4 4,
      .bool (decide ((m : Int) < 0)), .int .i64 m, .bool (decide ((m : Int) < 0)), .bool false, .slice A (4 * m) cap, .int .i64 (4 * (m : Int)), .int .i64 m, .int .i64 m, .bool false, .bool false, .slice A (4 * m) cap, .int .i64 (4 * (m : Int)),
      .int .i64 m, .int .i64 (4 * (m : Int)), .bool false, .slice A (4 * m) cap, .func (.func 182) #[] #[.pointer (some ⟨w.heap.size + 1, 0, none⟩), .pointer (some ⟨w.heap.size + 1 + 1, 0, none⟩)], .slice (some ⟨b, o + 4 * x.1, none⟩) 4 4,
      undef, undef, undef, undef, undef, undef, undef, undef, undef, undef, undef, undef, undef, undef, undef, undef, undef, undef, undef, undef, undef, undef, undef, undef, undef, undef], defers := [] }) ?assign ?body ?done ?stop
  trace "hg"
  case hg => rfl
  trace "eg"
  case eg => exact enters_of Tryz.func182 C7 rfl
  trace "hKt"
  case hKt => exact fun h k => KpC.t h k
  trace "hKb"
  case hKb => exact fun W l o o' hl h h1 h2 => ⟨belowK_b (w := W0) Cb W l o o' hl h h1 h2, World.putObj_heap_other Cb, World.putObj_heap_other Cb⟩
  trace "hb0"
  case hb0 => exact Below.refl _ _
  trace "hps"
  case hps => exact fun _ => rfl
  trace "hI"
  case hI =>
    have hO := holdsRow_own (w.heap.size + 3) w.heap.size 26 3 1 (fun pre : List (Fin m) => pre.length) (fun pre => iv (pre.map fun x => Frm.gnAt l x.1)) (fun _ _ => True)
    have hO' := Own.from hO W0.heap.size
    have hBl := ownFrom_below (β := List (Fin m)) (n₀ := w.heap.size) (B := W0.heap.size) (w₀ := w) (Nat.le_refl _) Cb
    trace "hI2"
    intro s A B row hs hg hr
    exact ⟨hO' s A B row hs.1 hg hr, hBl s A B row hs.2.1 hg hr, Nat.le_trans hs.2.2 hg.size⟩
  trace "hIx"
  case hIx => exact fun _ _ _ _ _ hs _ _ => hs
  trace "h0"
  case h0 => exact ⟨⟨_, q0, by simpa [iv] using World.ownsRow_nil W0 (w.heap.size + 3) _ _, trivial⟩, B0, Nat.le_refl _⟩
  trace "assign"
  case assign =>
    intro l x W K hK
    gi_wp2
    exact hK
  case stop =>
    rintro D c pre W _ _ h _
    exact h.elim
  case body =>
    rintro l' pre ⟨k, hk⟩ W ⟨⟨v, hv, hrow, _⟩, hB, hzW0⟩ hpre
    obtain ⟨A1, cap1, rfl⟩ := own_form hrow
    have eA := hA Cb
    subst eA
    have HR := HH.out.below hB (Nat.le_refl _)
    obtain ⟨b', o', e', hbl, hcl⟩ := HR.2.2 Cb
    injection e' with e'; injection e' with eb eo; subst eb; subst eo
    have c0 := hcl (4 * k) Cb
    have c1 := hcl (4 * k + 1) Cb
    rw [← Nat.add_assoc] at c1
    have c2 := hcl (4 * k + 2) Cb
    rw [← Nat.add_assoc] at c2
    have c3 := hcl (4 * k + 3) Cb
    rw [← Nat.add_assoc] at c3
    have hby := HH.out.2.1
    have b0 := hby.at_ (4 * k); have b1 := hby.at_ (4 * k + 1); have b2 := hby.at_ (4 * k + 2); have b3 := hby.at_ (4 * k + 3)
    have EG := Lib.hid (show Frm.gnAt l k = ((l.getD (4 * k) 0 * 256 + l.getD (4 * k + 1) 0) * 256 + l.getD (4 * k + 2) 0) * 256 + l.getD (4 * k + 3) 0 from rfl)
    generalize l.getD (4 * k) 0 = x0 at c0 b0 EG
    generalize l.getD (4 * k + 1) 0 = x1 at c1 b1 EG
    generalize l.getD (4 * k + 2) 0 = x2 at c2 b2 EG
    generalize l.getD (4 * k + 3) 0 = x3 at c3 b3 EG
    obtain ⟨w1, w2, w3⟩ := Frm.or4 x0 x1 x2 x3 b0 b1 b2 b3
    have hcb := hv.cell
    have hfb := hv.frozen
    have v0 : IntKind.i64.wrap x0 = x0 := IntWalk.i64_in _ Cb
    have v1 : IntKind.i64.wrap x1 = x1 := IntWalk.i64_in _ Cb
    have v2 : IntKind.i64.wrap x2 = x2 := IntWalk.i64_in _ Cb
    have v3 : IntKind.i64.wrap x3 = x3 := IntWalk.i64_in _ Cb
    have u0 : IntKind.i64.wrap (x0 * 16777216) = x0 * 16777216 := IntWalk.i64_in _ Cb
    have u1 : IntKind.i64.wrap (x1 * 65536) = x1 * 65536 := IntWalk.i64_in _ Cb
    have u2 : IntKind.i64.wrap (x2 * 256) = x2 * 256 := IntWalk.i64_in _ Cb
    dsimp only
    refine wpIn_block ?_
    refine region_round (S := fun w' => w'.cell? ⟨b, o + 4 * k, none⟩ = some (.int .u8 x0) ∧ w'.cell? ⟨b, o + 4 * k + 1, none⟩ = some (.int .u8 x1) ∧ w'.cell? ⟨b, o + 4 * k + 2, none⟩ = some (.int .u8 x2) ∧ w'.cell? ⟨b, o + 4 * k + 3, none⟩ = some (.int .u8 x3)) C7 C7 (by rintro ⟨a, w, h⟩; exact h) ⟨c0, c1, c2, c3⟩ ?_
    intro hHeld
    refine wpAnyH_take (i := 1 ) (v := ?_) rfl C7 C7 C7 (fun _ _ _ h => h) (Or.inl ⟨by rfl, ?_⟩) Ca ?_; rotate_left; · ((intro w hSw; (try dsimp only at hSw); go_simp) <;> with_reducible rfl); (try simp only [Act.put, List.getElem_toArray, List.getElem_cons_zero, List.getElem_cons_succ, List.setIfInBounds_toArray, List.set_cons_zero, List.set_cons_succ])
    refine wpAnyH_take (i := 2 ) (v := ?_) rfl C7 C7 C7 (fun _ _ _ h => h) (Or.inl ⟨by rfl, ?_⟩) Ca ?_; rotate_left; · ((intro w hSw; (try dsimp only at hSw); go_simp) <;> with_reducible rfl); (try simp only [Act.put, List.getElem_toArray, List.getElem_cons_zero, List.getElem_cons_succ, List.setIfInBounds_toArray, List.set_cons_zero, List.set_cons_succ])
    refine wpAnyH_take (i := 3 ) (v := ?_) rfl C7 C7 C7 (fun _ _ _ h => h) (Or.inl ⟨by rfl, ?_⟩) Ca ?_; rotate_left; · ((intro w hSw; (try dsimp only at hSw); go_simp) <;> with_reducible rfl); (try simp only [Act.put, List.getElem_toArray, List.getElem_cons_zero, List.getElem_cons_succ, List.setIfInBounds_toArray, List.set_cons_zero, List.set_cons_succ])
    refine wpAnyH_take (i := 4 ) (v := ?_) rfl C7 C7 C7 (fun _ _ _ h => h) (Or.inl ⟨by rfl, ?_⟩) Ca ?_; rotate_left; · ((intro w hSw; (try dsimp only at hSw); go_simp) <;> with_reducible rfl); (try simp only [Act.put, List.getElem_toArray, List.getElem_cons_zero, List.getElem_cons_succ, List.setIfInBounds_toArray, List.set_cons_zero, List.set_cons_succ])
    refine wpAnyH_take (i := 5 ) (v := ?_) rfl C7 C7 C7 (fun _ _ _ h => h) (Or.inl ⟨by rfl, ?_⟩) Ca ?_; rotate_left; · ((intro w hSw; (try dsimp only at hSw); go_simp) <;> with_reducible rfl); (try simp only [Act.put, List.getElem_toArray, List.getElem_cons_zero, List.getElem_cons_succ, List.setIfInBounds_toArray, List.set_cons_zero, List.set_cons_succ])
    refine wpAnyH_take (i := 6 ) (v := ?_) rfl C7 C7 C7 (fun _ _ _ h => h) (Or.inl ⟨by rfl, ?_⟩) Ca ?_; rotate_left; · ((intro w hSw; (try dsimp only at hSw); go_simp) <;> with_reducible rfl); (try simp only [Act.put, List.getElem_toArray, List.getElem_cons_zero, List.getElem_cons_succ, List.setIfInBounds_toArray, List.set_cons_zero, List.set_cons_succ])
    refine wpAnyH_take (i := 7 ) (v := ?_) rfl C7 C7 C7 (fun _ _ _ h => h) (Or.inl ⟨by rfl, ?_⟩) Ca ?_; rotate_left; · ((intro w hSw; (try dsimp only at hSw); go_simp) <;> with_reducible rfl); (try simp only [Act.put, List.getElem_toArray, List.getElem_cons_zero, List.getElem_cons_succ, List.setIfInBounds_toArray, List.set_cons_zero, List.set_cons_succ])
    refine wpAnyH_take (i := 8 ) (v := ?_) rfl C7 C7 C7 (fun _ _ _ h => h) (Or.inl ⟨by rfl, ?_⟩) Ca ?_; rotate_left; · ((intro w hSw; (try dsimp only at hSw); go_simp) <;> with_reducible rfl); (try simp only [Act.put, List.getElem_toArray, List.getElem_cons_zero, List.getElem_cons_succ, List.setIfInBounds_toArray, List.set_cons_zero, List.set_cons_succ])
    refine wpAnyH_take (i := 9 ) (v := ?_) rfl C7 C7 C7 (fun _ _ _ h => h) (Or.inl ⟨by rfl, ?_⟩) Ca ?_; rotate_left; · ((intro w hSw; (try dsimp only at hSw); go_simp) <;> with_reducible rfl); (try simp only [Act.put, List.getElem_toArray, List.getElem_cons_zero, List.getElem_cons_succ, List.setIfInBounds_toArray, List.set_cons_zero, List.set_cons_succ])
    refine wpAnyH_take (i := 10 ) (v := ?_) rfl C7 C7 C7 (fun _ _ _ h => h) (Or.inl ⟨by rfl, ?_⟩) Ca ?_; rotate_left; · ((intro w hSw; (try dsimp only at hSw); go_simp) <;> with_reducible rfl); (try simp only [Act.put, List.getElem_toArray, List.getElem_cons_zero, List.getElem_cons_succ, List.setIfInBounds_toArray, List.set_cons_zero, List.set_cons_succ])
    refine wpAnyH_take (i := 11 ) (v := ?_) rfl C7 C7 C7 (fun _ _ _ h => h) (Or.inl ⟨by rfl, ?_⟩) Ca ?_; rotate_left; · ((intro w hSw; (try dsimp only at hSw); go_simp) <;> with_reducible rfl); (try simp only [Act.put, List.getElem_toArray, List.getElem_cons_zero, List.getElem_cons_succ, List.setIfInBounds_toArray, List.set_cons_zero, List.set_cons_succ])
    refine wpAnyH_take (i := 12 ) (v := ?_) rfl C7 C7 C7 (fun _ _ _ h => h) (Or.inl ⟨by rfl, ?_⟩) Ca ?_; rotate_left; · ((intro w hSw; (try dsimp only at hSw); go_simp) <;> with_reducible rfl); (try simp only [Act.put, List.getElem_toArray, List.getElem_cons_zero, List.getElem_cons_succ, List.setIfInBounds_toArray, List.set_cons_zero, List.set_cons_succ])
    refine wpAnyH_take (i := 13 ) (v := ?_) rfl C7 C7 C7 (fun _ _ _ h => h) (Or.inl ⟨by rfl, ?_⟩) Ca ?_; rotate_left; · ((intro w hSw; (try dsimp only at hSw); go_simp) <;> with_reducible rfl); (try simp only [Act.put, List.getElem_toArray, List.getElem_cons_zero, List.getElem_cons_succ, List.setIfInBounds_toArray, List.set_cons_zero, List.set_cons_succ])
    refine wpAnyH_take (i := 14 ) (v := ?_) rfl C7 C7 C7 (fun _ _ _ h => h) (Or.inl ⟨by rfl, ?_⟩) Ca ?_; rotate_left; · ((intro w hSw; (try dsimp only at hSw); go_simp) <;> with_reducible rfl); (try simp only [Act.put, List.getElem_toArray, List.getElem_cons_zero, List.getElem_cons_succ, List.setIfInBounds_toArray, List.set_cons_zero, List.set_cons_succ])
    refine wpAnyH_take (i := 15 ) (v := ?_) rfl C7 C7 C7 (fun _ _ _ h => h) (Or.inl ⟨by rfl, ?_⟩) Ca ?_; rotate_left; · ((intro w hSw; (try dsimp only at hSw); go_simp) <;> with_reducible rfl); (try simp only [Act.put, List.getElem_toArray, List.getElem_cons_zero, List.getElem_cons_succ, List.setIfInBounds_toArray, List.set_cons_zero, List.set_cons_succ])
    refine wpAnyH_take (i := 16 ) (v := ?_) rfl C7 C7 C7 (fun _ _ _ h => h) (Or.inl ⟨by rfl, ?_⟩) Ca ?_; rotate_left; · ((intro w hSw; (try dsimp only at hSw); go_simp) <;> with_reducible rfl); (try simp only [Act.put, List.getElem_toArray, List.getElem_cons_zero, List.getElem_cons_succ, List.setIfInBounds_toArray, List.set_cons_zero, List.set_cons_succ])
    refine wpAnyH_take (i := 17 ) (v := ?_) rfl C7 C7 C7 (fun _ _ _ h => h) (Or.inl ⟨by rfl, ?_⟩) Ca ?_; rotate_left; · ((intro w hSw; (try dsimp only at hSw); go_simp) <;> with_reducible rfl); (try simp only [Act.put, List.getElem_toArray, List.getElem_cons_zero, List.getElem_cons_succ, List.setIfInBounds_toArray, List.set_cons_zero, List.set_cons_succ])
    refine wpAnyH_take (i := 18 ) (v := ?_) rfl C7 C7 C7 (fun _ _ _ h => h) (Or.inl ⟨by rfl, ?_⟩) Ca ?_; rotate_left; · ((intro w hSw; (try dsimp only at hSw); go_simp) <;> with_reducible rfl); (try simp only [Act.put, List.getElem_toArray, List.getElem_cons_zero, List.getElem_cons_succ, List.setIfInBounds_toArray, List.set_cons_zero, List.set_cons_succ])
    refine wpAnyH_take (i := 19 ) (v := ?_) rfl C7 C7 C7 (fun _ _ _ h => h) (Or.inl ⟨by rfl, ?_⟩) Ca ?_; rotate_left; · ((intro w hSw; (try dsimp only at hSw); go_simp) <;> with_reducible rfl); (try simp only [Act.put, List.getElem_toArray, List.getElem_cons_zero, List.getElem_cons_succ, List.setIfInBounds_toArray, List.set_cons_zero, List.set_cons_succ])
    refine wpAnyH_take (i := 20 ) (v := ?_) rfl C7 C7 C7 (fun _ _ _ h => h) (Or.inl ⟨by rfl, ?_⟩) Ca ?_; rotate_left; · ((intro w hSw; (try dsimp only at hSw); go_simp) <;> with_reducible rfl); (try simp only [Act.put, List.getElem_toArray, List.getElem_cons_zero, List.getElem_cons_succ, List.setIfInBounds_toArray, List.set_cons_zero, List.set_cons_succ])
    refine wpAnyH_take (i := 21 ) (v := ?_) rfl C7 C7 C7 (fun _ _ _ h => h) (Or.inl ⟨by rfl, ?_⟩) Ca ?_; rotate_left; · ((intro w hSw; (try dsimp only at hSw); go_simp) <;> with_reducible rfl); (try simp only [Act.put, List.getElem_toArray, List.getElem_cons_zero, List.getElem_cons_succ, List.setIfInBounds_toArray, List.set_cons_zero, List.set_cons_succ])
    refine wpAnyH_take (i := 22 ) (v := ?_) rfl C7 C7 C7 (fun _ _ _ h => h) (Or.inl ⟨by rfl, ?_⟩) Ca ?_; rotate_left; · ((intro w hSw; (try dsimp only at hSw); go_simp) <;> with_reducible rfl); (try simp only [Act.put, List.getElem_toArray, List.getElem_cons_zero, List.getElem_cons_succ, List.setIfInBounds_toArray, List.set_cons_zero, List.set_cons_succ])
    clear v0 v1 v2 v3 u0 u1 u2 w1 w2 w3
    have hbp := (EG.out ▸ Frm.gnAt_bd hby k : 0 ≤ ((x0 * 256 + x1) * 256 + x2) * 256 + x3 ∧ ((x0 * 256 + x1) * 256 + x2) * 256 + x3 ≤ 4294967295)
    generalize hy : ((x0 * 256 + x1) * 256 + x2) * 256 + x3 = y at *
    have HY := Lib.hid hy
    clear hy
    have hzW := hB.size
    have hbW : b < W.heap.size := by omega
    have hpW : w.heap.size < W.heap.size := hv.lt
    refine wpAnyH_ready (rs := [0, 23]) C7 C9 ?_
    refine AllReadyH.cons rfl (fun K hK => ?_) (AllReadyH.cons rfl (fun K hK => ?_) AllReadyH.nil)
    · go_simp
      refine hK.out _ _ ⟨c0, c1, c2, c3⟩ (fun hHeld => ?_)
      clear hK K
      refine wpAnyH_ready (rs := [23]) C7 C9 ?_
      exact Co
    · go_simp
      refine hK.out _ _ Ag (fun hHeld => ?_)
      clear hK K
      refine wpAnyH_ready (rs := [0]) C7 C9 ?_
      exact Co
  case done =>
    rintro D ys W hD rfl ⟨⟨v, hv, hrow, _⟩, hB, hzW0⟩ hK
    have hc := hv.cell
    obtain ⟨A1, cap1, rfl⟩ := own_form hrow
    gi_wp2
    refine ⟨by simp, .inl ⟨_, _, rfl, run_takeDeferred hK, ?_⟩⟩
    have hfl : (List.finRange m).length = m := by simp
    rw [hfl] at hrow
    refine ⟨.tuple #[.slice A1 m cap1, .int .i64 0], by simp [results, Tryz.results164, go_sem], A1, cap1, rfl, ⟨?_, Frm.gn_i64 HH.out.2.1 m⟩, ?_⟩
    · have hx : List.map (fun x : Fin m => Frm.gnAt l x.1) (List.finRange m) = Frm.gn l m := by
        apply List.ext_getElem
        · simp [Frm.gn]
        · intro i h1 h2
          simp [Frm.gn]
      rw [hx] at hrow
      exact Oi_more (ownsRow_putObj hrow _ hK rfl)
    · exact hB.trans (belowK_b (w := w) (Nat.le_refl _) W D _ _ Cb hK rfl rfl)
theorem get_any (A : Option Addr) (n cap : Nat) (many : Int) (l : List Int) (w : World) (hn : n ≤ 70368744177664) (hcap : n ≤ cap) (hcm : cap ≤ 9223372036854775807) (hm : -9223372036854775808 ≤ many ∧ many ≤ 9223372036854775807) (h : Rd w w.heap.size A n l) :
    Calls Tryz.prog 164 #[.slice A n cap, .int .i64 many] w fun e w' => GPost w n many l e w' := by
  by_cases e : (n : Int) = 4 * many
  · obtain ⟨m, rfl⟩ : ∃ m : Nat, many = m := ⟨many.toNat, by omega⟩
    obtain rfl : n = 4 * m := by omega
    have key : ∀ b o, (0 < m → A = some ⟨b, o, none⟩) → Calls Tryz.prog 164 #[.slice A (4 * m) cap, .int .i64 m] w fun e w' => GPost w (4 * m) m l e w' := fun b o hA =>
      (callsIn_wide.1 (get_in 5 C8 A b o m cap l w Cb hcap hcm h hA)).mono fun e' w' ⟨A', cap', h1, h2, h3⟩ => ⟨.inr (.inr (.inr ⟨e, A', cap', h1, h2⟩)), h3⟩
    rcases Nat.eq_zero_or_pos m with h0 | h0
    · exact key 0 0 (fun hh => by omega)
    · obtain ⟨b, o, hA, _⟩ := h.2.2 Cb
      exact key b o (fun _ => hA)
  · exact get_err A n cap many l w Cb hm e
end Go.Proofs.YtdocdgcdldpagaaGreat
namespace Go.Proofs.YtdocdgcdldpagaaGreat
open Go.RowKit
set_option maxHeartbeats 4000000
set_option linter.unusedSimpArgs false
set_option linter.unusedVariables false
namespace Frm
def gOk (n : Nat) (many : Int) : Bool := decide ((n : Int) = 4 * many)
def gL (l : List Int) (n : Nat) (many : Int) : List Int := if gOk n many = true then gn l many.toNat else []
def gE (n : Nat) (many : Int) : Int := if many < 0 then 2 else if (n : Int) / 4 < many then 4 else if 4 * many < (n : Int) then 5 else 0
end Frm
def GuPost (w : World) (l : List Int) (n : Nat) (many : Int) (e : Ending) (w' : World) : Prop := ∃ A cap, e = .returned (.tuple #[.slice A (Frm.gL l n many).length cap, .int .i64 (Frm.gE n many)]) ∧ Oi w' w.heap.size A (Frm.gL l n many).length cap (Frm.gL l n many) ∧ Below w.heap.size w w'
theorem gpost_uni {w w' : World} {l : List Int} {n : Nat} {many : Int} {e : Ending} (h : GPost w n many l e w') : GuPost w l n many e w' := by
  obtain ⟨h | h | h | ⟨h1, A, c, h2, h3⟩, hb⟩ := h
  · refine ⟨none, 0, ?_, ?_, hb⟩
    · have ho : Frm.gOk n many = false := by simp [Frm.gOk]; omega
      simp [Frm.gL, ho, Frm.gE, h]
    · have ho : Frm.gOk n many = false := by simp [Frm.gOk]; omega
      simp only [Frm.gL, ho]
      exact ⟨World.ownsRow_nil _ _ _ _, by intro x hx; cases hx⟩
  · have ho : Frm.gOk n many = false := by simp [Frm.gOk]; omega
    refine ⟨none, 0, ?_, ?_, hb⟩
    · rw [h.2.2, show Frm.gE n many = 4 by rw [Frm.gE, if_neg (by have := h.1; omega), if_pos h.2.1], show Frm.gL l n many = [] by simp [Frm.gL, ho]]; rfl
    · simp only [Frm.gL, ho]
      exact ⟨World.ownsRow_nil _ _ _ _, by intro x hx; cases hx⟩
  · have ho : Frm.gOk n many = false := by simp [Frm.gOk]; omega
    refine ⟨none, 0, ?_, ?_, hb⟩
    · rw [h.2.2.2, show Frm.gE n many = 5 by rw [Frm.gE, if_neg (by have := h.1; omega), if_neg (by have := h.2.2.1; omega), if_pos h.2.1], show Frm.gL l n many = [] by simp [Frm.gL, ho]]; rfl
    · simp only [Frm.gL, ho]
      exact ⟨World.ownsRow_nil _ _ _ _, by intro x hx; cases hx⟩
  · have ho : Frm.gOk n many = true := by simp [Frm.gOk, h1]
    refine ⟨A, c, ?_, ?_, hb⟩
    · rw [h2, Frm.gL, if_pos ho, Frm.gE, if_neg Cb, if_neg Cb, if_neg Cb, Frm.gn_len]
    · rw [Frm.gL, if_pos ho, Frm.gn_len]; exact h3
theorem get_uni (A : Option Addr) (n cap : Nat) (many : Int) (l : List Int) (w : World) (hn : n ≤ 70368744177664) (hcap : n ≤ cap) (hcm : cap ≤ 9223372036854775807) (hm : -9223372036854775808 ≤ many ∧ many ≤ 9223372036854775807) (h : Rd w w.heap.size A n l) :
    Calls Tryz.prog 164 #[.slice A n cap, .int .i64 many] w fun e w' => GuPost w l n many e w' := (get_any A n cap many l w hn hcap hcm hm h).mono fun e w' => gpost_uni
theorem Oi.ri {w : World} {base : Nat} {A : Option Addr} {n cap : Nat} {l : List Int} (h : Oi w base A n cap l) : Ri w w.heap.size A n l := Ri.of_own h.1 h.2
end Go.Proofs.YtdocdgcdldpagaaGreat

/- GetNumbers. -/
import Derived.Test.YtjidchaejicjaaaFrB
import Derived.Deep.DrawnRows
import Derived.Test.YtjidchaejicjaaaFrA
import Derived.Laws.CopyOwn
import Derived.Deep.AppendSrc
import Derived.Lib.AppendZerosOnto
import Derived.ProofKit
import Derived.OpenShut
import Derived.ShutString
import Derived.ChangeOld
import Derived.Lib.SmallJoins
import Derived.Deep.Slices
import Derived.Deep.Fields
import Derived.ChangeSame
import Derived.Carry
namespace Go.Proofs.Ytjidchaejicjaaa
open Go.RowKit Go.Shelf
attribute [local go_sem] Oper.semAt_some
set_option maxHeartbeats 4000000
set_option linter.unusedSimpArgs false
set_option linter.unusedVariables false
namespace Frm
/-- the number at place k -/
def gnAt (l : List Int) (k : Nat) : Int := ((l.getD (4 * k) 0 * 256 + l.getD (4 * k + 1) 0) * 256 + l.getD (4 * k + 2) 0) * 256 + l.getD (4 * k + 3) 0
def gn (l : List Int) (m : Nat) : List Int := (List.range m).map (gnAt l)
theorem gn_len (l : List Int) (m : Nat) : (gn l m).length = m := by simp [gn]
theorem gn_succ (l : List Int) (m : Nat) : gn l (m + 1) = gn l m ++ [gnAt l m] := by simp [gn, List.range_succ]
theorem gnAt_bd {l : List Int} (h : By l) (k : Nat) : 0 ≤ gnAt l k ∧ gnAt l k ≤ 4294967295 := by
  have a := h.at_ (4 * k); have b := h.at_ (4 * k + 1); have c := h.at_ (4 * k + 2); have d := h.at_ (4 * k + 3)
  unfold gnAt; omega
theorem gn_i64 {l : List Int} (h : By l) (m : Nat) : I64 (gn l m) := by
  intro x hx
  simp only [gn, List.mem_map] at hx
  obtain ⟨k, _, rfl⟩ := hx
  have := gnAt_bd h k
  omega
set_option maxRecDepth 100000 in
theorem or4 (x0 x1 x2 x3 : Int) (h0 : 0 ≤ x0 ∧ x0 < 256) (h1 : 0 ≤ x1 ∧ x1 < 256) (h2 : 0 ≤ x2 ∧ x2 < 256) (h3 : 0 ≤ x3 ∧ x3 < 256) :
    bits .or .i64 (x0 * 16777216) (x1 * 65536) = x0 * 16777216 + x1 * 65536 ∧ bits .or .i64 (x0 * 16777216 + x1 * 65536) (x2 * 256) = x0 * 16777216 + x1 * 65536 + x2 * 256 ∧
    bits .or .i64 (x0 * 16777216 + x1 * 65536 + x2 * 256) x3 = ((x0 * 256 + x1) * 256 + x2) * 256 + x3 := by
  have key : ∀ (a c s : Nat), a < 4294967296 → c < 2 ^ s → s ≤ 24 → a % 2 ^ s = 0 → bits .or .i64 (a : Int) (c : Int) = ((a + c : Nat) : Int) := by
    intro a c s ha hc hs hm
    have hc' : c < 2 ^ 24 := Nat.lt_of_lt_of_le hc (Nat.pow_le_pow_right (by decide) hs)
    show IntKind.i64.wrap ((BitVec.ofInt 64 (a : Int) ||| BitVec.ofInt 64 (c : Int)).toNat : Int) = _
    rw [BitVec.toNat_or, ofInt_nat 64 _ (by omega), ofInt_nat 64 c (by omega)]
    have e : a = (a / 2 ^ s) <<< s := by rw [Nat.shiftLeft_eq]; have := Nat.div_add_mod a (2 ^ s); rw [hm, Nat.mul_comm] at this; omega
    have : a ||| c = a + c := by
      conv => lhs; rw [e]
      rw [← Nat.shiftLeft_add_eq_or_of_lt hc, ← e]
    rw [this, IntKind.wrap_i64]
    omega
  obtain ⟨a, rfl⟩ : ∃ a : Nat, x0 = a := ⟨x0.toNat, by omega⟩
  obtain ⟨b, rfl⟩ : ∃ a : Nat, x1 = a := ⟨x1.toNat, by omega⟩
  obtain ⟨c, rfl⟩ : ∃ a : Nat, x2 = a := ⟨x2.toNat, by omega⟩
  obtain ⟨d, rfl⟩ : ∃ a : Nat, x3 = a := ⟨x3.toNat, by omega⟩
  refine ⟨?_, ?_, ?_⟩
  · have := key (a * 16777216) (b * 65536) 24 (by omega) (by omega) (by omega) (by omega)
    simpa using this
  · have := key (a * 16777216 + b * 65536) (c * 256) 16 (by omega) (by omega) (by omega) (by omega)
    simpa using this
  · have := key (a * 16777216 + b * 65536 + c * 256) d 8 (by omega) (by omega) (by omega) (by omega)
    have h : ((a * 16777216 + b * 65536 + c * 256 : Nat) : Int) = (a : Int) * 16777216 + (b : Int) * 65536 + (c : Int) * 256 := by simp
    rw [h] at this
    rw [this]
    clear h this key
    simp only [Int.natCast_add, Int.natCast_mul]
    generalize (a : Int) = A
    generalize (b : Int) = B
    generalize (c : Int) = C
    generalize (d : Int) = D
    simp only [Int.add_mul, Int.mul_assoc]
    rfl
end Frm
/-- numbers that a call owns -/
def Oi (w : World) (base : Nat) (A : Option Addr) (n cap : Nat) (l : List Int) : Prop := w.ownsRow base 3 1 (.slice A n cap) n (iv l) ∧ I64 l
theorem info_i64 : (Try.prog.info? 3).map (fun i => (i.zero, i.size, i.bytes)) = some (some (.int .i64 0), 1, 8) := by kernel_rfl
theorem Oi_more {w : World} {base : Nat} {v : Value} {n : Nat} {xs : List Value} {e : TypeId} (h : w.ownsRow (base + 3) e 1 v n xs) : w.ownsRow base e 1 v n xs := by
  refine ⟨h.1, ?_⟩
  rcases h.2 with e | ⟨g, c, cur, e, hb', rest⟩
  · exact .inl e
  · exact .inr ⟨g, c, cur, e, by omega, rest⟩
/-- what GetNumbers leaves -/
def GPost (w : World) (n : Nat) (many : Int) (l : List Int) (e : Ending) (w' : World) : Prop :=
  ((many < 0 ∧ e = .returned (.tuple #[.slice none 0 0, .int .i64 2])) ∨ (0 ≤ many ∧ (n : Int) / 4 < many ∧ e = .returned (.tuple #[.slice none 0 0, .int .i64 4])) ∨ (0 ≤ many ∧ 4 * many < (n : Int) ∧ many ≤ (n : Int) / 4 ∧ e = .returned (.tuple #[.slice none 0 0, .int .i64 5]))
    ∨ ((n : Int) = 4 * many ∧ ∃ A' cap', e = .returned (.tuple #[.slice A' many.toNat cap', .int .i64 0]) ∧ Oi w' w.heap.size A' many.toNat cap' (Frm.gn l many.toNat))) ∧ Below w.heap.size w w'
theorem get_err (A : Option Addr) (n cap : Nat) (many : Int) (l : List Int) (w : World) (hn : n ≤ 140737488355328) (hm : -9223372036854775808 ≤ many ∧ many ≤ 9223372036854775807) (h : ¬ (n : Int) = 4 * many) :
    Calls Try.prog 58 #[.slice A n cap, .int .i64 many] w fun e w' => GPost w n many l e w' := by
  obtain ⟨hm0, hm1⟩ := hm
  rcases Int.lt_or_le many 0 with h1 | h1
  · clear h
    go_enter Try.func58, Try.ntmps58
    go_wp2_with fail
    go_ret2
    exact ⟨.inl ⟨h1, rfl⟩, (by repeat (first | (with_reducible exact Below.refl _ _) | (with_reducible refine Below.drew ?_) | (with_reducible refine below_drewN ?_ _) | ((with_reducible refine Below.alloc ?_ ?_ _); rotate_left; (first | omega | (simp <;> omega)); rotate_right) | ((with_reducible refine Below.setCell ?_ ?_ _); rotate_left; (first | omega | (simp <;> omega)); rotate_right) | (with_reducible assumption) | (refine Below.trans ?_ (Below.mono (by assumption) ?_); rotate_left; (first | omega | (simp <;> omega)); rotate_right)))⟩
  rcases Int.lt_or_le ((n : Int) / 4) many with h2 | h2
  · clear h
    go_enter Try.func58, Try.ntmps58
    go_wp2_with fail
    go_ret2
    exact ⟨.inr (.inl ⟨h1, h2, rfl⟩), (by repeat (first | (with_reducible exact Below.refl _ _) | (with_reducible refine Below.drew ?_) | (with_reducible refine below_drewN ?_ _) | ((with_reducible refine Below.alloc ?_ ?_ _); rotate_left; (first | omega | (simp <;> omega)); rotate_right) | ((with_reducible refine Below.setCell ?_ ?_ _); rotate_left; (first | omega | (simp <;> omega)); rotate_right) | (with_reducible assumption) | (refine Below.trans ?_ (Below.mono (by assumption) ?_); rotate_left; (first | omega | (simp <;> omega)); rotate_right)))⟩
  · have h3 : 4 * many < (n : Int) := by omega
    clear h
    go_enter Try.func58, Try.ntmps58
    go_wp2_with fail
    go_ret2
    exact ⟨.inr (.inr (.inl ⟨h1, h3, h2, rfl⟩)), (by repeat (first | (with_reducible exact Below.refl _ _) | (with_reducible refine Below.drew ?_) | (with_reducible refine below_drewN ?_ _) | ((with_reducible refine Below.alloc ?_ ?_ _); rotate_left; (first | omega | (simp <;> omega)); rotate_right) | ((with_reducible refine Below.setCell ?_ ?_ _); rotate_left; (first | omega | (simp <;> omega)); rotate_right) | (with_reducible assumption) | (refine Below.trans ?_ (Below.mono (by assumption) ?_); rotate_left; (first | omega | (simp <;> omega)); rotate_right)))⟩
theorem get_tail {B0 p m : Nat} {l : List Int} {w W w2 : World} {A1 A2 : Option Addr} {cap1 cap2 k : Nat} {pre : List (Fin m)} {hk : k < m} {y : Int} {X : Obj} {M : Nat} (hB : Below p w W) (hz : M ≤ W.heap.size) (hM : M = p + 3) (hp : p ≤ W.heap.size)
    (hv : Boxed W p 65 (.slice A1 pre.length cap1)) (hrow : W.ownsRow (p + 3) 3 1 (.slice A1 pre.length cap1) pre.length (iv (pre.map fun x => Frm.gnAt l x.1)))
    (hg1 : ((W.alloc X).drew).grownBy w2 (Value.slice A1 pre.length cap1).ownBlock) (hown1 : w2.ownsRow (p + 3) 3 1 (.slice A2 (pre.length + 1) cap2) (pre.length + 1) (iv (pre.map fun x => Frm.gnAt l x.1) ++ [.int .i64 y]))
    (he : Frm.gnAt l k = y) :
    KeepsFrom B0 W (w2.setCell ⟨p, 0, none⟩ (.slice A2 (pre.length + 1) cap2)) ∧ KpC p (p + 1) (p + 2) W (w2.setCell ⟨p, 0, none⟩ (.slice A2 (pre.length + 1) cap2)) ∧
    (∃ v, Boxed (w2.setCell ⟨p, 0, none⟩ (.slice A2 (pre.length + 1) cap2)) p 65 v ∧ (w2.setCell ⟨p, 0, none⟩ (.slice A2 (pre.length + 1) cap2)).ownsRow (p + 3) 3 1 v (pre ++ [(⟨k, hk⟩ : Fin m)]).length (iv ((pre ++ [(⟨k, hk⟩ : Fin m)]).map fun x : Fin m => Frm.gnAt l x.1)) ∧ True) ∧
      Below p w (w2.setCell ⟨p, 0, none⟩ (.slice A2 (pre.length + 1) cap2)) ∧ M ≤ (w2.setCell ⟨p, 0, none⟩ (.slice A2 (pre.length + 1) cap2)).heap.size := by
  have hne : ∀ q, q < p + 3 → some q ≠ (Value.slice A1 pre.length cap1).ownBlock := fun q hq e => by have := (hrow.lt _ e.symm).1; omega
  have hblk : ∀ q, q < p + 3 → q < W.heap.size → w2.heap[q]? = W.heap[q]? := fun q hq hq2 => (hg1.block q (by simp; omega) (hne q hq)).trans (Below.heap_alloc W X q hq2)
  have hv1 : Boxed w2 p 65 (.slice A1 pre.length cap1) := (hblk p (by omega) hv.lt).trans hv
  have hbel : Below p W (w2.setCell ⟨p, 0, none⟩ (.slice A2 (pre.length + 1) cap2)) :=
    (Below.grown (w := (W.alloc X).drew) (Below.drew ((Below.refl p W).alloc hp X)) hg1 (by simp; omega) (fun g hg => by have := (hrow.lt g hg).1; omega)).setCell (p := ⟨p, 0, none⟩) (Nat.le_refl _) _
  refine ⟨?_, ⟨hbel, ?_, ?_⟩, ⟨_, hv1.set _, ?_, trivial⟩, hB.trans hbel, ?_⟩
  · refine KeepsOthers.from ?_ _
    refine ((((KeepsOthers.alloc W X).trans (⟨Nat.le_refl _, fun _ _ h _ => h⟩ : KeepsOthers (W.alloc X) (W.alloc X).drew)).trans (KeepsOthers.of_grownBy hg1 fun j o ej hj => ?_)).trans (KeepsOthers.setCell _ _ _))
    rcases (World.ownsRow.drew (World.ownsRow.alloc hrow X)).2 with ⟨e2, _⟩ | ⟨g, cap, cur, e2, _, hgb, _⟩
    · rw [e2] at ej; simp [Value.ownBlock] at ej
    · rw [e2] at ej
      obtain rfl : g = j := by simpa [Value.ownBlock] using ej
      rw [hgb] at hj; cases hj; rfl
  · exact (Below.heap_setCell w2 ⟨p, 0, none⟩ _ (p + 1) (by simp)).trans (hblk _ (by omega) (by omega))
  · exact (Below.heap_setCell w2 ⟨p, 0, none⟩ _ (p + 2) (by simp)).trans (hblk _ (by omega) (by omega))
  · have h2 : w2.ownsRow (p + 3) 3 1 (.slice A2 (pre.length + 1) cap2) (pre ++ [(⟨k, hk⟩ : Fin m)]).length (iv ((pre ++ [(⟨k, hk⟩ : Fin m)]).map fun x : Fin m => Frm.gnAt l x.1)) := by
      have e1 : iv ((pre ++ [(⟨k, hk⟩ : Fin m)]).map fun x : Fin m => Frm.gnAt l x.1) = iv (pre.map fun x => Frm.gnAt l x.1) ++ [.int .i64 y] := by simp [iv, he]
      rw [e1, List.length_append]
      exact hown1
    refine h2.kept (grownBy_setCell' w2 p _) (.inr fun e => ?_)
    have := (h2.lt _ e).1
    omega
  · have := hbel.size
    omega
set_option maxRecDepth 100000 in
set_option maxHeartbeats 1000000 in
theorem get_in (n : Nat) (hn : 3 ≤ n) (A : Option Addr) (b o m cap : Nat) (l : List Int) (w : World) (hm : 8 * m ≤ 140737488355328) (hcap : 4 * m ≤ cap) (hcm : cap ≤ 9223372036854775807) (h : Rd w w.heap.size A (4 * m) l) (hA : 0 < m → A = some ⟨b, o, none⟩) :
    CallsIn Fence.wide n Try.prog 58 #[.slice A (4 * m) cap, .int .i64 m] w fun e w' => ∃ A' cap', e = .returned (.tuple #[.slice A' m cap', .int .i64 0]) ∧ Oi w' w.heap.size A' m cap' (Frm.gn l m) ∧ Below w.heap.size w w' := by
  obtain ⟨i0, hi0, hz0, hz1, hz2⟩ := info_parts info_i64
  have HH := Lib.hid h
  clear h
  have HC := Lib.hid (fun W => chunk_new A (4 * m) cap W)
  refine callsIn_of_wp_marks Try.func58 rfl trivial ?_ rfl
  simp only [Try.ntmps58, List.size_toArray, List.length_cons, List.length_nil, Nat.reduceAdd, Nat.reduceSub, Array.replicate_succ, Array.replicate_zero, List.push_toArray, List.append_toArray, List.nil_append, List.cons_append]
  gi_wp2
  trace "0"
  refine ⟨trivial, fun hh => (by simp [Fence.wide] at hh), callsIn_wide.2 ((HC.out _).mono ?_)⟩
  rintro e w' ⟨rfl, rfl⟩
  gi_wp2
  obtain ⟨W0, hW0⟩ : ∃ W0 : World, W0 = ((w.alloc (.cells #[.slice none 0 0] 65)).alloc (.cells #[.slice A (4 * m) cap] 33)).alloc (.cells #[.int .i64 4] 3) := ⟨_, rfl⟩
  have z0 : W0.heap.size = w.heap.size + 3 := by rw [hW0]; simp
  have q0 : W0.heap[w.heap.size]? = some (.cells #[.slice none 0 0] 65 (0, 0)) := by rw [hW0]; exact blk_alloc (blk_alloc (heap_new _ _) _) _
  have q1 : W0.heap[w.heap.size + 1]? = some (.cells #[.slice A (4 * m) cap] 33 (0, 0)) := by rw [hW0]; exact blk_alloc (heap_new' _ _ _ (by simp)) _
  have q2 : W0.heap[w.heap.size + 2]? = some (.cells #[.int .i64 4] 3 (0, 0)) := by rw [hW0]; exact heap_new' _ _ _ (by simp)
  have B0 : Below w.heap.size w W0 := by rw [hW0]; exact (((Below.refl _ w).alloc (Nat.le_refl _) _).alloc (by simp) _).alloc (by simp; omega) _
  rw [← hW0]
  clear hW0
  have hseq : SeqStopsK Fence.wide (n - 1) Try.prog 84 #[.pointer (some ⟨w.heap.size + 1, 0, none⟩), .pointer (some ⟨w.heap.size + 1 + 1, 0, none⟩)] (fun x : Fin m => #[Value.slice (some ⟨b, o + 4 * x.1, none⟩) 4 4]) (KpC w.heap.size (w.heap.size + 1) (w.heap.size + 2)) (fun ys => ys = List.finRange m) (fun pre => pre <+: List.finRange m) m W0 :=
    fun l J Jx W hW hJ hJx hY h0 => chunk1 (n - 1) l w.heap.size (w.heap.size + 1) (w.heap.size + 2) A b o m cap (by omega) hcap hcm hA J Jx hY W (blk_below q1 hW (by omega)) (blk_below q2 hW (by omega)) h0 (fun s V hs => hJ s V V.drew none hs (only_drew (World.grownBy.refl _ _)) (fun r e => by cases e))
  have h1 : 1 ≤ n := by omega
  trace "1"
  refine wpIn_rangeFunc_ownG (F := Fence.wide) rfl h1 (gf := 84) (lb := #[.pointer (some ⟨w.heap.size + 1, 0, none⟩), .pointer (some ⟨w.heap.size + 1 + 1, 0, none⟩)]) ?hg trivial ?eg
    hseq ?hKt ?hKb ?hb0 ?hps
    (fun pre W => (∃ v, Boxed W w.heap.size 65 v ∧ W.ownsRow (w.heap.size + 3) 3 1 v pre.length (iv (pre.map fun x => Frm.gnAt l x.1)) ∧ True) ∧ Below w.heap.size w W ∧ W0.heap.size ≤ W.heap.size)
    (fun _ _ _ => False)
    ?hI ?hIx ?h0
    (fun x => { tmps := #[.slice A (4 * m) cap, .int .i64 m, undef, undef, .slice none 0 0, .int .i64 0, .pointer (some ⟨w.heap.size, 0, none⟩), .slice (some ⟨b, o + 4 * x.1, none⟩) 4 4,
      .bool (decide ((m : Int) < 0)), .int .i64 m, .bool (decide ((m : Int) < 0)), .bool false, .slice A (4 * m) cap, .int .i64 (4 * (m : Int)), .int .i64 m, .int .i64 m, .bool false, .bool false, .slice A (4 * m) cap, .int .i64 (4 * (m : Int)),
      .int .i64 m, .int .i64 (4 * (m : Int)), .bool false, .slice A (4 * m) cap, .func (.func 84) #[] #[.pointer (some ⟨w.heap.size + 1, 0, none⟩), .pointer (some ⟨w.heap.size + 1 + 1, 0, none⟩)], .slice (some ⟨b, o + 4 * x.1, none⟩) 4 4,
      undef, undef, undef, undef, undef, undef, undef, undef, undef, undef, undef, undef, undef, undef, undef, undef, undef, undef, undef, undef, undef, undef, undef, undef, undef, undef], defers := [] }) ?assign ?body ?done ?stop
  trace "hg"
  case hg => rfl
  trace "eg"
  case eg => exact enters_of Try.func84 (by kernel_rfl) rfl
  trace "hKt"
  case hKt => exact fun h k => KpC.t h k
  trace "hKb"
  case hKb => exact fun W l o o' hl h h1 h2 => ⟨belowK_b (w := W0) (by omega) W l o o' hl h h1 h2, World.putObj_heap_other (by omega), World.putObj_heap_other (by omega)⟩
  trace "hb0"
  case hb0 => exact Below.refl _ _
  trace "hps"
  case hps => exact fun _ => rfl
  trace "hI"
  case hI =>
    have hO := holdsRow_own (w.heap.size + 3) w.heap.size 65 3 1 (fun pre : List (Fin m) => pre.length) (fun pre => iv (pre.map fun x => Frm.gnAt l x.1)) (fun _ _ => True)
    have hO' := Own.from hO W0.heap.size
    have hBl := ownFrom_below (β := List (Fin m)) (n₀ := w.heap.size) (B := W0.heap.size) (w₀ := w) (Nat.le_refl _) (by omega)
    trace "hI2"
    intro s A B row hs hg hr
    exact ⟨hO' s A B row hs.1 hg hr, hBl s A B row hs.2.1 hg hr, Nat.le_trans hs.2.2 hg.size⟩
  trace "hIx"
  case hIx => exact fun _ _ _ _ _ hs _ _ => hs
  trace "h0"
  case h0 => exact ⟨⟨_, q0, by simpa [iv] using World.ownsRow_nil W0 (w.heap.size + 3) _ _, trivial⟩, B0, Nat.le_refl _⟩
  trace "assign"
  case assign =>
    intro l x W K hK
    gi_wp2
    exact hK
  case stop =>
    rintro D c pre W _ _ h _
    exact h.elim
  case body =>
    rintro l' pre ⟨k, hk⟩ W ⟨⟨v, hv, hrow, _⟩, hB, hzW0⟩ hpre
    obtain ⟨A1, cap1, rfl⟩ := own_form hrow
    have eA := hA (by omega)
    subst eA
    have HR := HH.out.below hB (Nat.le_refl _)
    obtain ⟨b', o', e', hbl, hcl⟩ := HR.2.2 (by omega)
    injection e' with e'; injection e' with eb eo; subst eb; subst eo
    have c0 := hcl (4 * k) (by omega)
    have c1 := hcl (4 * k + 1) (by omega)
    rw [← Nat.add_assoc] at c1
    have c2 := hcl (4 * k + 2) (by omega)
    rw [← Nat.add_assoc] at c2
    have c3 := hcl (4 * k + 3) (by omega)
    rw [← Nat.add_assoc] at c3
    have hby := HH.out.2.1
    have b0 := hby.at_ (4 * k); have b1 := hby.at_ (4 * k + 1); have b2 := hby.at_ (4 * k + 2); have b3 := hby.at_ (4 * k + 3)
    have EG := Lib.hid (show Frm.gnAt l k = ((l.getD (4 * k) 0 * 256 + l.getD (4 * k + 1) 0) * 256 + l.getD (4 * k + 2) 0) * 256 + l.getD (4 * k + 3) 0 from rfl)
    generalize l.getD (4 * k) 0 = x0 at c0 b0 EG
    generalize l.getD (4 * k + 1) 0 = x1 at c1 b1 EG
    generalize l.getD (4 * k + 2) 0 = x2 at c2 b2 EG
    generalize l.getD (4 * k + 3) 0 = x3 at c3 b3 EG
    obtain ⟨w1, w2, w3⟩ := Frm.or4 x0 x1 x2 x3 b0 b1 b2 b3
    have hcb := hv.cell
    have hfb := hv.frozen
    have v0 : IntKind.i64.wrap x0 = x0 := IntWalk.i64_in _ (by omega)
    have v1 : IntKind.i64.wrap x1 = x1 := IntWalk.i64_in _ (by omega)
    have v2 : IntKind.i64.wrap x2 = x2 := IntWalk.i64_in _ (by omega)
    have v3 : IntKind.i64.wrap x3 = x3 := IntWalk.i64_in _ (by omega)
    have u0 : IntKind.i64.wrap (x0 * 16777216) = x0 * 16777216 := IntWalk.i64_in _ (by omega)
    have u1 : IntKind.i64.wrap (x1 * 65536) = x1 * 65536 := IntWalk.i64_in _ (by omega)
    have u2 : IntKind.i64.wrap (x2 * 256) = x2 * 256 := IntWalk.i64_in _ (by omega)
    dsimp only
    refine wpIn_block ?_
    refine region_round (S := fun w' => w'.cell? ⟨b, o + 4 * k, none⟩ = some (.int .u8 x0) ∧ w'.cell? ⟨b, o + 4 * k + 1, none⟩ = some (.int .u8 x1) ∧ w'.cell? ⟨b, o + 4 * k + 2, none⟩ = some (.int .u8 x2) ∧ w'.cell? ⟨b, o + 4 * k + 3, none⟩ = some (.int .u8 x3)) (by kernel_rfl) (by kernel_rfl) (by rintro ⟨a, w, h⟩; exact h) ⟨c0, c1, c2, c3⟩ ?_
    intro hHeld
    refine wpAnyH_take (i := 1 ) (v := ?_) rfl (by kernel_rfl) (by kernel_rfl) (by kernel_rfl) (fun _ _ _ h => h) (Or.inl ⟨by rfl, ?_⟩) (by with_reducible assumption) ?_; rotate_left; · ((intro w hSw; (try dsimp only at hSw); go_simp) <;> with_reducible rfl); (try simp only [Act.put, List.getElem_toArray, List.getElem_cons_zero, List.getElem_cons_succ, List.setIfInBounds_toArray, List.set_cons_zero, List.set_cons_succ])
    refine wpAnyH_take (i := 2 ) (v := ?_) rfl (by kernel_rfl) (by kernel_rfl) (by kernel_rfl) (fun _ _ _ h => h) (Or.inl ⟨by rfl, ?_⟩) (by with_reducible assumption) ?_; rotate_left; · ((intro w hSw; (try dsimp only at hSw); go_simp) <;> with_reducible rfl); (try simp only [Act.put, List.getElem_toArray, List.getElem_cons_zero, List.getElem_cons_succ, List.setIfInBounds_toArray, List.set_cons_zero, List.set_cons_succ])
    refine wpAnyH_take (i := 3 ) (v := ?_) rfl (by kernel_rfl) (by kernel_rfl) (by kernel_rfl) (fun _ _ _ h => h) (Or.inl ⟨by rfl, ?_⟩) (by with_reducible assumption) ?_; rotate_left; · ((intro w hSw; (try dsimp only at hSw); go_simp) <;> with_reducible rfl); (try simp only [Act.put, List.getElem_toArray, List.getElem_cons_zero, List.getElem_cons_succ, List.setIfInBounds_toArray, List.set_cons_zero, List.set_cons_succ])
    refine wpAnyH_take (i := 4 ) (v := ?_) rfl (by kernel_rfl) (by kernel_rfl) (by kernel_rfl) (fun _ _ _ h => h) (Or.inl ⟨by rfl, ?_⟩) (by with_reducible assumption) ?_; rotate_left; · ((intro w hSw; (try dsimp only at hSw); go_simp) <;> with_reducible rfl); (try simp only [Act.put, List.getElem_toArray, List.getElem_cons_zero, List.getElem_cons_succ, List.setIfInBounds_toArray, List.set_cons_zero, List.set_cons_succ])
    refine wpAnyH_take (i := 5 ) (v := ?_) rfl (by kernel_rfl) (by kernel_rfl) (by kernel_rfl) (fun _ _ _ h => h) (Or.inl ⟨by rfl, ?_⟩) (by with_reducible assumption) ?_; rotate_left; · ((intro w hSw; (try dsimp only at hSw); go_simp) <;> with_reducible rfl); (try simp only [Act.put, List.getElem_toArray, List.getElem_cons_zero, List.getElem_cons_succ, List.setIfInBounds_toArray, List.set_cons_zero, List.set_cons_succ])
    refine wpAnyH_take (i := 6 ) (v := ?_) rfl (by kernel_rfl) (by kernel_rfl) (by kernel_rfl) (fun _ _ _ h => h) (Or.inl ⟨by rfl, ?_⟩) (by with_reducible assumption) ?_; rotate_left; · ((intro w hSw; (try dsimp only at hSw); go_simp) <;> with_reducible rfl); (try simp only [Act.put, List.getElem_toArray, List.getElem_cons_zero, List.getElem_cons_succ, List.setIfInBounds_toArray, List.set_cons_zero, List.set_cons_succ])
    refine wpAnyH_take (i := 7 ) (v := ?_) rfl (by kernel_rfl) (by kernel_rfl) (by kernel_rfl) (fun _ _ _ h => h) (Or.inl ⟨by rfl, ?_⟩) (by with_reducible assumption) ?_; rotate_left; · ((intro w hSw; (try dsimp only at hSw); go_simp) <;> with_reducible rfl); (try simp only [Act.put, List.getElem_toArray, List.getElem_cons_zero, List.getElem_cons_succ, List.setIfInBounds_toArray, List.set_cons_zero, List.set_cons_succ])
    refine wpAnyH_take (i := 8 ) (v := ?_) rfl (by kernel_rfl) (by kernel_rfl) (by kernel_rfl) (fun _ _ _ h => h) (Or.inl ⟨by rfl, ?_⟩) (by with_reducible assumption) ?_; rotate_left; · ((intro w hSw; (try dsimp only at hSw); go_simp) <;> with_reducible rfl); (try simp only [Act.put, List.getElem_toArray, List.getElem_cons_zero, List.getElem_cons_succ, List.setIfInBounds_toArray, List.set_cons_zero, List.set_cons_succ])
    refine wpAnyH_take (i := 9 ) (v := ?_) rfl (by kernel_rfl) (by kernel_rfl) (by kernel_rfl) (fun _ _ _ h => h) (Or.inl ⟨by rfl, ?_⟩) (by with_reducible assumption) ?_; rotate_left; · ((intro w hSw; (try dsimp only at hSw); go_simp) <;> with_reducible rfl); (try simp only [Act.put, List.getElem_toArray, List.getElem_cons_zero, List.getElem_cons_succ, List.setIfInBounds_toArray, List.set_cons_zero, List.set_cons_succ])
    refine wpAnyH_take (i := 10 ) (v := ?_) rfl (by kernel_rfl) (by kernel_rfl) (by kernel_rfl) (fun _ _ _ h => h) (Or.inl ⟨by rfl, ?_⟩) (by with_reducible assumption) ?_; rotate_left; · ((intro w hSw; (try dsimp only at hSw); go_simp) <;> with_reducible rfl); (try simp only [Act.put, List.getElem_toArray, List.getElem_cons_zero, List.getElem_cons_succ, List.setIfInBounds_toArray, List.set_cons_zero, List.set_cons_succ])
    refine wpAnyH_take (i := 11 ) (v := ?_) rfl (by kernel_rfl) (by kernel_rfl) (by kernel_rfl) (fun _ _ _ h => h) (Or.inl ⟨by rfl, ?_⟩) (by with_reducible assumption) ?_; rotate_left; · ((intro w hSw; (try dsimp only at hSw); go_simp) <;> with_reducible rfl); (try simp only [Act.put, List.getElem_toArray, List.getElem_cons_zero, List.getElem_cons_succ, List.setIfInBounds_toArray, List.set_cons_zero, List.set_cons_succ])
    refine wpAnyH_take (i := 12 ) (v := ?_) rfl (by kernel_rfl) (by kernel_rfl) (by kernel_rfl) (fun _ _ _ h => h) (Or.inl ⟨by rfl, ?_⟩) (by with_reducible assumption) ?_; rotate_left; · ((intro w hSw; (try dsimp only at hSw); go_simp) <;> with_reducible rfl); (try simp only [Act.put, List.getElem_toArray, List.getElem_cons_zero, List.getElem_cons_succ, List.setIfInBounds_toArray, List.set_cons_zero, List.set_cons_succ])
    refine wpAnyH_take (i := 13 ) (v := ?_) rfl (by kernel_rfl) (by kernel_rfl) (by kernel_rfl) (fun _ _ _ h => h) (Or.inl ⟨by rfl, ?_⟩) (by with_reducible assumption) ?_; rotate_left; · ((intro w hSw; (try dsimp only at hSw); go_simp) <;> with_reducible rfl); (try simp only [Act.put, List.getElem_toArray, List.getElem_cons_zero, List.getElem_cons_succ, List.setIfInBounds_toArray, List.set_cons_zero, List.set_cons_succ])
    refine wpAnyH_take (i := 14 ) (v := ?_) rfl (by kernel_rfl) (by kernel_rfl) (by kernel_rfl) (fun _ _ _ h => h) (Or.inl ⟨by rfl, ?_⟩) (by with_reducible assumption) ?_; rotate_left; · ((intro w hSw; (try dsimp only at hSw); go_simp) <;> with_reducible rfl); (try simp only [Act.put, List.getElem_toArray, List.getElem_cons_zero, List.getElem_cons_succ, List.setIfInBounds_toArray, List.set_cons_zero, List.set_cons_succ])
    refine wpAnyH_take (i := 15 ) (v := ?_) rfl (by kernel_rfl) (by kernel_rfl) (by kernel_rfl) (fun _ _ _ h => h) (Or.inl ⟨by rfl, ?_⟩) (by with_reducible assumption) ?_; rotate_left; · ((intro w hSw; (try dsimp only at hSw); go_simp) <;> with_reducible rfl); (try simp only [Act.put, List.getElem_toArray, List.getElem_cons_zero, List.getElem_cons_succ, List.setIfInBounds_toArray, List.set_cons_zero, List.set_cons_succ])
    refine wpAnyH_take (i := 16 ) (v := ?_) rfl (by kernel_rfl) (by kernel_rfl) (by kernel_rfl) (fun _ _ _ h => h) (Or.inl ⟨by rfl, ?_⟩) (by with_reducible assumption) ?_; rotate_left; · ((intro w hSw; (try dsimp only at hSw); go_simp) <;> with_reducible rfl); (try simp only [Act.put, List.getElem_toArray, List.getElem_cons_zero, List.getElem_cons_succ, List.setIfInBounds_toArray, List.set_cons_zero, List.set_cons_succ])
    refine wpAnyH_take (i := 17 ) (v := ?_) rfl (by kernel_rfl) (by kernel_rfl) (by kernel_rfl) (fun _ _ _ h => h) (Or.inl ⟨by rfl, ?_⟩) (by with_reducible assumption) ?_; rotate_left; · ((intro w hSw; (try dsimp only at hSw); go_simp) <;> with_reducible rfl); (try simp only [Act.put, List.getElem_toArray, List.getElem_cons_zero, List.getElem_cons_succ, List.setIfInBounds_toArray, List.set_cons_zero, List.set_cons_succ])
    refine wpAnyH_take (i := 18 ) (v := ?_) rfl (by kernel_rfl) (by kernel_rfl) (by kernel_rfl) (fun _ _ _ h => h) (Or.inl ⟨by rfl, ?_⟩) (by with_reducible assumption) ?_; rotate_left; · ((intro w hSw; (try dsimp only at hSw); go_simp) <;> with_reducible rfl); (try simp only [Act.put, List.getElem_toArray, List.getElem_cons_zero, List.getElem_cons_succ, List.setIfInBounds_toArray, List.set_cons_zero, List.set_cons_succ])
    refine wpAnyH_take (i := 19 ) (v := ?_) rfl (by kernel_rfl) (by kernel_rfl) (by kernel_rfl) (fun _ _ _ h => h) (Or.inl ⟨by rfl, ?_⟩) (by with_reducible assumption) ?_; rotate_left; · ((intro w hSw; (try dsimp only at hSw); go_simp) <;> with_reducible rfl); (try simp only [Act.put, List.getElem_toArray, List.getElem_cons_zero, List.getElem_cons_succ, List.setIfInBounds_toArray, List.set_cons_zero, List.set_cons_succ])
    refine wpAnyH_take (i := 20 ) (v := ?_) rfl (by kernel_rfl) (by kernel_rfl) (by kernel_rfl) (fun _ _ _ h => h) (Or.inl ⟨by rfl, ?_⟩) (by with_reducible assumption) ?_; rotate_left; · ((intro w hSw; (try dsimp only at hSw); go_simp) <;> with_reducible rfl); (try simp only [Act.put, List.getElem_toArray, List.getElem_cons_zero, List.getElem_cons_succ, List.setIfInBounds_toArray, List.set_cons_zero, List.set_cons_succ])
    refine wpAnyH_take (i := 21 ) (v := ?_) rfl (by kernel_rfl) (by kernel_rfl) (by kernel_rfl) (fun _ _ _ h => h) (Or.inl ⟨by rfl, ?_⟩) (by with_reducible assumption) ?_; rotate_left; · ((intro w hSw; (try dsimp only at hSw); go_simp) <;> with_reducible rfl); (try simp only [Act.put, List.getElem_toArray, List.getElem_cons_zero, List.getElem_cons_succ, List.setIfInBounds_toArray, List.set_cons_zero, List.set_cons_succ])
    refine wpAnyH_take (i := 22 ) (v := ?_) rfl (by kernel_rfl) (by kernel_rfl) (by kernel_rfl) (fun _ _ _ h => h) (Or.inl ⟨by rfl, ?_⟩) (by with_reducible assumption) ?_; rotate_left; · ((intro w hSw; (try dsimp only at hSw); go_simp) <;> with_reducible rfl); (try simp only [Act.put, List.getElem_toArray, List.getElem_cons_zero, List.getElem_cons_succ, List.setIfInBounds_toArray, List.set_cons_zero, List.set_cons_succ])
    clear v0 v1 v2 v3 u0 u1 u2 w1 w2 w3
    have hbp := (EG.out ▸ Frm.gnAt_bd hby k : 0 ≤ ((x0 * 256 + x1) * 256 + x2) * 256 + x3 ∧ ((x0 * 256 + x1) * 256 + x2) * 256 + x3 ≤ 4294967295)
    generalize hy : ((x0 * 256 + x1) * 256 + x2) * 256 + x3 = y at *
    have HY := Lib.hid hy
    clear hy
    have hzW := hB.size
    have hbW : b < W.heap.size := by omega
    have hpW : w.heap.size < W.heap.size := hv.lt
    refine wpAnyH_ready (rs := [0, 23]) (by kernel_rfl) (by simp) ?_
    refine AllReadyH.cons rfl (fun K hK => ?_) (AllReadyH.cons rfl (fun K hK => ?_) AllReadyH.nil)
    · go_simp
      refine hK.out _ _ ⟨c0, c1, c2, c3⟩ (fun hHeld => ?_)
      clear hK K
      refine wpAnyH_ready (rs := [23]) (by kernel_rfl) (by simp) ?_
      refine AllReadyH.cons rfl (fun K hK => ?_) AllReadyH.nil
      go_simp
      refine hK.out _ _ (by refine ⟨?_, ?_, ?_, ?_⟩ <;> (repeat (first | (with_reducible assumption) | (with_reducible refine cell_drew_keep ?_) | (with_reducible refine cell_alloc_keep ?_) | ((with_reducible refine cell_far_keep ?_ ?_); rotate_left; (simp; omega))))) (fun hHeld => ?_)
      clear hK K
      refine wpAnyH_ready (rs := [24]) (by kernel_rfl) (by simp) ?_; refine AllReadyH.cons rfl (fun K hK => ?_) AllReadyH.nil; refine step_append_any _ rfl (.tmp 26) (.tmp 49) 65 rfl (w.heap.size + 3) 3 i0 _ 1 8 Try.underlying65 hi0 hz0 hz1 hz2 rfl (by omega) (.slice A1 pre.length cap1) pre.length _ rfl (World.ownsRow.drew (World.ownsRow.alloc hrow _)) (W.heap.size + 1) (some ⟨W.heap.size, 0, none⟩) 1 1 [.int .i64 y] rfl (Reads.drew (Reads.new W #[.int .i64 y] 3)) (by simp [Value.oneCell']) (by simp only [maxLen]; omega) (by omega) (by simp; omega) ?_; intro v1 w2 hown1 hg1 hat1; obtain ⟨A2, cap2, rfl⟩ := own_form hown1; have hkeep : ∀ q off, q < w.heap.size + 3 → q < W.heap.size → w2.cell? ⟨q, off, none⟩ = W.cell? ⟨q, off, none⟩ := (fun q off hq hq2 => (World.cell?_of_block (hg1.block q (by simp; omega) (fun e => by have := (hrow.lt _ e.symm).1; omega))).trans (World.cell?_alloc_lt W _ ⟨q, off, none⟩ hq2)); have hv1 : Boxed w2 w.heap.size 65 (.slice A1 pre.length cap1) := (show w2.heap[w.heap.size]? = _ from (hg1.block w.heap.size (by simp; omega) (fun e => by have := (hrow.lt _ e.symm).1; omega)).trans (blk_drew (blk_alloc hv _))); have hc2 := hv1.cell; have hf2 := hv1.frozen; refine hK.out _ _ ⟨(hkeep _ _ (by omega) hbW).trans c0, (hkeep _ _ (by omega) hbW).trans c1, (hkeep _ _ (by omega) hbW).trans c2, (hkeep _ _ (by omega) hbW).trans c3⟩ (fun hHeld => ?_); clear hK K; obtain ⟨d0, d1, d2, d3⟩ := hHeld; have hne : b ≠ w.heap.size := (by omega); refine wpAnyH_ready (rs := [25]) (by kernel_rfl) (by simp) ?_; refine AllReadyH.cons rfl (fun K hK => ?_) AllReadyH.nil; go_simp; refine hK.out _ _ (by refine ⟨?_, ?_, ?_, ?_⟩ <;> (repeat (first | (with_reducible assumption) | (with_reducible refine cell_drew_keep ?_) | (with_reducible refine cell_alloc_keep ?_) | ((with_reducible refine cell_far_keep ?_ ?_); rotate_left; (simp; omega))))) (fun hHeld => ?_); clear hK K; refine wpAnyH_done (by kernel_rfl) ?_ _; exact get_tail hB hzW0 z0 hzW hv hrow hg1 hown1 EG.out
    · go_simp
      refine hK.out _ _ (by refine ⟨?_, ?_, ?_, ?_⟩ <;> (repeat (first | (with_reducible assumption) | (with_reducible refine cell_drew_keep ?_) | (with_reducible refine cell_alloc_keep ?_) | ((with_reducible refine cell_far_keep ?_ ?_); rotate_left; (simp; omega))))) (fun hHeld => ?_)
      clear hK K
      refine wpAnyH_ready (rs := [0]) (by kernel_rfl) (by simp) ?_
      refine AllReadyH.cons rfl (fun K hK => ?_) AllReadyH.nil
      go_simp
      refine hK.out _ _ (by refine ⟨?_, ?_, ?_, ?_⟩ <;> (repeat (first | (with_reducible assumption) | (with_reducible refine cell_drew_keep ?_) | (with_reducible refine cell_alloc_keep ?_) | ((with_reducible refine cell_far_keep ?_ ?_); rotate_left; (simp; omega))))) (fun hHeld => ?_)
      clear hK K
      refine wpAnyH_ready (rs := [24]) (by kernel_rfl) (by simp) ?_; refine AllReadyH.cons rfl (fun K hK => ?_) AllReadyH.nil; refine step_append_any _ rfl (.tmp 26) (.tmp 49) 65 rfl (w.heap.size + 3) 3 i0 _ 1 8 Try.underlying65 hi0 hz0 hz1 hz2 rfl (by omega) (.slice A1 pre.length cap1) pre.length _ rfl (World.ownsRow.drew (World.ownsRow.alloc hrow _)) (W.heap.size + 1) (some ⟨W.heap.size, 0, none⟩) 1 1 [.int .i64 y] rfl (Reads.drew (Reads.new W #[.int .i64 y] 3)) (by simp [Value.oneCell']) (by simp only [maxLen]; omega) (by omega) (by simp; omega) ?_; intro v1 w2 hown1 hg1 hat1; obtain ⟨A2, cap2, rfl⟩ := own_form hown1; have hkeep : ∀ q off, q < w.heap.size + 3 → q < W.heap.size → w2.cell? ⟨q, off, none⟩ = W.cell? ⟨q, off, none⟩ := (fun q off hq hq2 => (World.cell?_of_block (hg1.block q (by simp; omega) (fun e => by have := (hrow.lt _ e.symm).1; omega))).trans (World.cell?_alloc_lt W _ ⟨q, off, none⟩ hq2)); have hv1 : Boxed w2 w.heap.size 65 (.slice A1 pre.length cap1) := (show w2.heap[w.heap.size]? = _ from (hg1.block w.heap.size (by simp; omega) (fun e => by have := (hrow.lt _ e.symm).1; omega)).trans (blk_drew (blk_alloc hv _))); have hc2 := hv1.cell; have hf2 := hv1.frozen; refine hK.out _ _ ⟨(hkeep _ _ (by omega) hbW).trans c0, (hkeep _ _ (by omega) hbW).trans c1, (hkeep _ _ (by omega) hbW).trans c2, (hkeep _ _ (by omega) hbW).trans c3⟩ (fun hHeld => ?_); clear hK K; obtain ⟨d0, d1, d2, d3⟩ := hHeld; have hne : b ≠ w.heap.size := (by omega); refine wpAnyH_ready (rs := [25]) (by kernel_rfl) (by simp) ?_; refine AllReadyH.cons rfl (fun K hK => ?_) AllReadyH.nil; go_simp; refine hK.out _ _ (by refine ⟨?_, ?_, ?_, ?_⟩ <;> (repeat (first | (with_reducible assumption) | (with_reducible refine cell_drew_keep ?_) | (with_reducible refine cell_alloc_keep ?_) | ((with_reducible refine cell_far_keep ?_ ?_); rotate_left; (simp; omega))))) (fun hHeld => ?_); clear hK K; refine wpAnyH_done (by kernel_rfl) ?_ _; exact get_tail hB hzW0 z0 hzW hv hrow hg1 hown1 EG.out
  case done =>
    rintro D ys W hD rfl ⟨⟨v, hv, hrow, _⟩, hB, hzW0⟩ hK
    have hc := hv.cell
    obtain ⟨A1, cap1, rfl⟩ := own_form hrow
    gi_wp2
    refine ⟨by simp, .inl ⟨_, _, rfl, run_takeDeferred hK, ?_⟩⟩
    have hfl : (List.finRange m).length = m := by simp
    rw [hfl] at hrow
    refine ⟨.tuple #[.slice A1 m cap1, .int .i64 0], by simp [results, Try.results58, go_sem], A1, cap1, rfl, ⟨?_, Frm.gn_i64 HH.out.2.1 m⟩, ?_⟩
    · have hx : List.map (fun x : Fin m => Frm.gnAt l x.1) (List.finRange m) = Frm.gn l m := by
        apply List.ext_getElem
        · simp [Frm.gn]
        · intro i h1 h2
          simp [Frm.gn]
      rw [hx] at hrow
      exact Oi_more (ownsRow_putObj hrow _ hK rfl)
    · exact hB.trans (belowK_b (w := w) (Nat.le_refl _) W D _ _ (by omega) hK rfl rfl)
theorem get_any (A : Option Addr) (n cap : Nat) (many : Int) (l : List Int) (w : World) (hn : n ≤ 70368744177664) (hcap : n ≤ cap) (hcm : cap ≤ 9223372036854775807) (hm : -9223372036854775808 ≤ many ∧ many ≤ 9223372036854775807) (h : Rd w w.heap.size A n l) :
    Calls Try.prog 58 #[.slice A n cap, .int .i64 many] w fun e w' => GPost w n many l e w' := by
  by_cases e : (n : Int) = 4 * many
  · obtain ⟨m, rfl⟩ : ∃ m : Nat, many = m := ⟨many.toNat, by omega⟩
    obtain rfl : n = 4 * m := by omega
    have key : ∀ b o, (0 < m → A = some ⟨b, o, none⟩) → Calls Try.prog 58 #[.slice A (4 * m) cap, .int .i64 m] w fun e w' => GPost w (4 * m) m l e w' := fun b o hA =>
      (callsIn_wide.1 (get_in 5 (by decide) A b o m cap l w (by omega) hcap hcm h hA)).mono fun e' w' ⟨A', cap', h1, h2, h3⟩ => ⟨.inr (.inr (.inr ⟨e, A', cap', h1, h2⟩)), h3⟩
    rcases Nat.eq_zero_or_pos m with h0 | h0
    · exact key 0 0 (fun hh => by omega)
    · obtain ⟨b, o, hA, _⟩ := h.2.2 (by omega)
      exact key b o (fun _ => hA)
  · exact get_err A n cap many l w (by omega) hm e
end Go.Proofs.Ytjidchaejicjaaa
/- The reference's GetNumbers. -/
namespace Go.Proofs.Ytjidchaejicjaaa
open Go.RowKit
set_option maxHeartbeats 8000000
set_option linter.unusedSimpArgs false
set_option linter.unusedVariables false
attribute [local go_sem ↓] Go.wp_at_zero Go.wp_at_succ
theorem rget_err (A : Option Addr) (n cap : Nat) (many : Int) (l : List Int) (w : World) (hn : n ≤ 140737488355328) (hm : -9223372036854775808 ≤ many ∧ many ≤ 9223372036854775807) (h : ¬ (n : Int) = 4 * many) :
    Calls Try.prog 75 #[.slice A n cap, .int .i64 many] w fun e w' => GPost w n many l e w' := by
  obtain ⟨hm0, hm1⟩ := hm
  rcases Int.lt_or_le many 0 with h1 | h1
  · clear h
    go_enter Try.func75, Try.ntmps75
    go_wp2_with fail
    go_ret2
    exact ⟨.inl ⟨h1, rfl⟩, (by repeat (first | (with_reducible exact Below.refl _ _) | (with_reducible refine Below.drew ?_) | (with_reducible refine below_drewN ?_ _) | ((with_reducible refine Below.alloc ?_ ?_ _); rotate_left; (first | omega | (simp <;> omega)); rotate_right) | ((with_reducible refine Below.setCell ?_ ?_ _); rotate_left; (first | omega | (simp <;> omega)); rotate_right) | (with_reducible assumption) | (refine Below.trans ?_ (Below.mono (by assumption) ?_); rotate_left; (first | omega | (simp <;> omega)); rotate_right)))⟩
  rcases Int.lt_or_le ((n : Int) / 4) many with h2 | h2
  · clear h
    go_enter Try.func75, Try.ntmps75
    go_wp2_with fail
    go_ret2
    exact ⟨.inr (.inl ⟨h1, h2, rfl⟩), (by repeat (first | (with_reducible exact Below.refl _ _) | (with_reducible refine Below.drew ?_) | (with_reducible refine below_drewN ?_ _) | ((with_reducible refine Below.alloc ?_ ?_ _); rotate_left; (first | omega | (simp <;> omega)); rotate_right) | ((with_reducible refine Below.setCell ?_ ?_ _); rotate_left; (first | omega | (simp <;> omega)); rotate_right) | (with_reducible assumption) | (refine Below.trans ?_ (Below.mono (by assumption) ?_); rotate_left; (first | omega | (simp <;> omega)); rotate_right)))⟩
  · have h3 : 4 * many < (n : Int) := by omega
    have z : ((n : Int) != 4 * many) = true := by simpa using h
    clear h
    go_enter Try.func75, Try.ntmps75
    go_wp2_with fail
    go_ret2
    exact ⟨.inr (.inr (.inl ⟨h1, h3, h2, rfl⟩)), (by repeat (first | (with_reducible exact Below.refl _ _) | (with_reducible refine Below.drew ?_) | (with_reducible refine below_drewN ?_ _) | ((with_reducible refine Below.alloc ?_ ?_ _); rotate_left; (first | omega | (simp <;> omega)); rotate_right) | ((with_reducible refine Below.setCell ?_ ?_ _); rotate_left; (first | omega | (simp <;> omega)); rotate_right) | (with_reducible assumption) | (refine Below.trans ?_ (Below.mono (by assumption) ?_); rotate_left; (first | omega | (simp <;> omega)); rotate_right)))⟩
set_option maxRecDepth 100000 in
theorem rget_ok (A : Option Addr) (m cap : Nat) (l : List Int) (w : World) (hm : 8 * m ≤ 140737488355328) (h : Rd w w.heap.size A (4 * m) l) :
    Calls Try.prog 75 #[.slice A (4 * m) cap, .int .i64 m] w fun e w' => ∃ A' cap', e = .returned (.tuple #[.slice A' m cap', .int .i64 0]) ∧ Oi w' w.heap.size A' m cap' (Frm.gn l m) ∧ Below w.heap.size w w' := by
  obtain ⟨i0, hi0, hz0, hz1, hz2⟩ := info_parts info_i64
  have HH := Lib.hid h
  clear h
  go_enter Try.func75, Try.ntmps75
  go_wp2_with fail
  go_loopw [6, 7] (fun s6 s7 wr => ∃ j : Nat, s7 = .int .i64 j ∧ j ≤ m ∧ wr.ownsRow w.heap.size 3 1 s6 j (iv (Frm.gn l j)) ∧ Below w.heap.size w wr) (fun _ s7 _ => m - (intOf s7).toNat)
  case atStart => exact ⟨0, by go_num, by omega, by simpa [Frm.gn, iv] using World.ownsRow_nil w w.heap.size _ 1, (by repeat (first | (with_reducible exact Below.refl _ _) | (with_reducible refine Below.drew ?_) | (with_reducible refine below_drewN ?_ _) | ((with_reducible refine Below.alloc ?_ ?_ _); rotate_left; (first | omega | (simp <;> omega)); rotate_right) | ((with_reducible refine Below.setCell ?_ ?_ _); rotate_left; (first | omega | (simp <;> omega)); rotate_right) | (with_reducible assumption) | (refine Below.trans ?_ (Below.mono (by assumption) ?_); rotate_left; (first | omega | (simp <;> omega)); rotate_right)))⟩
  case round =>
    obtain ⟨j, rfl, hj, hown, hB⟩ := hrel
    obtain ⟨A4, cap4, rfl⟩ := own_form hown
    have hzr := hB.size
    by_cases hlt : j < m
    · have HR := HH.out.below hB (Nat.le_refl _)
      obtain ⟨b, o, rfl, hbl, hcl⟩ := HR.2.2 (by omega)
      have c0 := hcl (4 * j) (by omega)
      have c1 := hcl (4 * j + 1) (by omega)
      have c2 := hcl (4 * j + 2) (by omega)
      have c3 := hcl (4 * j + 3) (by omega)
      have hby := HH.out.2.1
      have b0 := hby.at_ (4 * j); have b1 := hby.at_ (4 * j + 1); have b2 := hby.at_ (4 * j + 2); have b3 := hby.at_ (4 * j + 3)
      have EG := Lib.hid (show Frm.gnAt l j = ((l.getD (4 * j) 0 * 256 + l.getD (4 * j + 1) 0) * 256 + l.getD (4 * j + 2) 0) * 256 + l.getD (4 * j + 3) 0 from rfl)
      have ES := Lib.hid (Frm.gn_succ l j)
      generalize l.getD (4 * j) 0 = x0 at c0 b0 EG
      generalize l.getD (4 * j + 1) 0 = x1 at c1 b1 EG
      generalize l.getD (4 * j + 2) 0 = x2 at c2 b2 EG
      generalize l.getD (4 * j + 3) 0 = x3 at c3 b3 EG
      clear hcl HR hby
      have hbr : b < wr.heap.size := by omega
      go_upto_region 11 with fail
      have v0 : IntKind.i64.wrap x0 = x0 := IntWalk.i64_in _ (by omega)
      have v1 : IntKind.i64.wrap x1 = x1 := IntWalk.i64_in _ (by omega)
      have v2 : IntKind.i64.wrap x2 = x2 := IntWalk.i64_in _ (by omega)
      have v3 : IntKind.i64.wrap x3 = x3 := IntWalk.i64_in _ (by omega)
      have u0 : IntKind.i64.wrap (x0 * 256) = x0 * 256 := IntWalk.i64_in _ (by omega)
      have u1 : IntKind.i64.wrap (x0 * 256 + x1) = x0 * 256 + x1 := IntWalk.i64_in _ (by omega)
      have u2 : IntKind.i64.wrap ((x0 * 256 + x1) * 256) = (x0 * 256 + x1) * 256 := IntWalk.i64_in _ (by omega)
      have u3 : IntKind.i64.wrap ((x0 * 256 + x1) * 256 + x2) = (x0 * 256 + x1) * 256 + x2 := IntWalk.i64_in _ (by omega)
      have u4 : IntKind.i64.wrap (((x0 * 256 + x1) * 256 + x2) * 256) = ((x0 * 256 + x1) * 256 + x2) * 256 := IntWalk.i64_in _ (by omega)
      have u5 : IntKind.i64.wrap (((x0 * 256 + x1) * 256 + x2) * 256 + x3) = ((x0 * 256 + x1) * 256 + x2) * 256 + x3 := IntWalk.i64_in _ (by omega)
      have t0 : IntKind.i64.wrap (4 * (j : Int)) = 4 * (j : Int) := IntWalk.i64_in _ (by omega)
      have t1 : IntKind.i64.wrap (4 * (j : Int) + 1) = 4 * (j : Int) + 1 := IntWalk.i64_in _ (by omega)
      have t2 : IntKind.i64.wrap (4 * (j : Int) + 2) = 4 * (j : Int) + 2 := IntWalk.i64_in _ (by omega)
      have t3 : IntKind.i64.wrap (4 * (j : Int) + 3) = 4 * (j : Int) + 3 := IntWalk.i64_in _ (by omega)
      have n0 : 4 * (j : Int) < 4 * (m : Int) := by omega
      have n1 : 4 * (j : Int) + 1 < 4 * (m : Int) := by omega
      have n2 : 4 * (j : Int) + 2 < 4 * (m : Int) := by omega
      have n3 : 4 * (j : Int) + 3 < 4 * (m : Int) := by omega
      have p0 : 0 ≤ 4 * (j : Int) := by omega
      have p1 : 0 ≤ 4 * (j : Int) + 1 := by omega
      have p2 : 0 ≤ 4 * (j : Int) + 2 := by omega
      have p3 : 0 ≤ 4 * (j : Int) + 3 := by omega
      have q0 : (4 * (j : Int)).toNat = 4 * j := by omega
      have q1 : (4 * (j : Int) + 1).toNat = 4 * j + 1 := by omega
      have q2 : (4 * (j : Int) + 2).toNat = 4 * j + 2 := by omega
      have q3 : (4 * (j : Int) + 3).toNat = 4 * j + 3 := by omega
      go_region_held3 (fun w' => w'.cell? ⟨b, o + 4 * j, none⟩ = some (.int .u8 x0) ∧ w'.cell? ⟨b, o + (4 * j + 1), none⟩ = some (.int .u8 x1) ∧ w'.cell? ⟨b, o + (4 * j + 2), none⟩ = some (.int .u8 x2) ∧ w'.cell? ⟨b, o + (4 * j + 3), none⟩ = some (.int .u8 x3)) (refine ⟨?_, ?_, ?_, ?_⟩ <;> (repeat (first | (with_reducible assumption) | (with_reducible refine cell_drew_keep ?_) | (with_reducible refine cell_alloc_keep ?_)))) (first | (refine step_append_any _ rfl (.tmp 25) (.tmp 59) _ rfl w.heap.size 3 i0 _ 1 8 Try.underlying65 hi0 hz0 hz1 hz2 rfl (by omega) _ j _ rfl (World.ownsRow.drew (World.ownsRow.alloc hown _)) (wr.heap.size + 1) (some ⟨wr.heap.size, 0, none⟩) 1 1 [.int .i64 (((x0 * 256 + x1) * 256 + x2) * 256 + x3)] rfl (Reads.drew (Reads.new wr #[.int .i64 (((x0 * 256 + x1) * 256 + x2) * 256 + x3)] 3)) (by simp [Value.oneCell']) (by simp only [maxLen]; omega) (by omega) (by simp; omega) ?_; intro v1' w2 hown1 hg1 hat1; have hk0 : w2.cell? ⟨b, o + 4 * j, none⟩ = some (.int .u8 x0) := (World.cell?_of_block (hg1.block b (by simp; omega) (fun e => by have := (hown.lt _ e.symm).1; omega))).trans (cell_alloc_keep c0); have hk1 : w2.cell? ⟨b, o + (4 * j + 1), none⟩ = some (.int .u8 x1) := (World.cell?_of_block (hg1.block b (by simp; omega) (fun e => by have := (hown.lt _ e.symm).1; omega))).trans (cell_alloc_keep c1); have hk2 : w2.cell? ⟨b, o + (4 * j + 2), none⟩ = some (.int .u8 x2) := (World.cell?_of_block (hg1.block b (by simp; omega) (fun e => by have := (hown.lt _ e.symm).1; omega))).trans (cell_alloc_keep c2); have hk3 : w2.cell? ⟨b, o + (4 * j + 3), none⟩ = some (.int .u8 x3) := (World.cell?_of_block (hg1.block b (by simp; omega) (fun e => by have := (hown.lt _ e.symm).1; omega))).trans (cell_alloc_keep c3)))
      clear v0 v1 v2 v3 u0 u1 u2 u3 u4 u5 t0 t1 t2 t3 n0 n1 n2 n3 p0 p1 p2 p3 q0 q1 q2 q3
      go_wp2_with fail
      go_roundw
      case rel =>
        refine ⟨j + 1, by go_num, by omega, ?_, Below.grown (w := ((wr.alloc (.cells #[.int .i64 (((x0 * 256 + x1) * 256 + x2) * 256 + x3)] 3)).drew)) (by repeat (first | (with_reducible exact Below.refl _ _) | (with_reducible refine Below.drew ?_) | (with_reducible refine below_drewN ?_ _) | ((with_reducible refine Below.alloc ?_ ?_ _); rotate_left; (first | omega | (simp <;> omega)); rotate_right) | ((with_reducible refine Below.setCell ?_ ?_ _); rotate_left; (first | omega | (simp <;> omega)); rotate_right) | (with_reducible assumption) | (refine Below.trans ?_ (Below.mono (by assumption) ?_); rotate_left; (first | omega | (simp <;> omega)); rotate_right))) hg1 (by simp; omega) (fun g hg => (hown.lt g hg).1)⟩
        rw [ES.out, EG.out]
        have hx := hown1
        simp only [iv, List.map_append, List.map_cons, List.map_nil] at hx ⊢
        exact hx
      case measure => simp [intOf]; omega
    · obtain rfl : j = m := by omega
      have HO := Lib.hid (Frm.gn_i64 HH.out.2.1 j)
      go_wp2_with fail
      go_ret2
      exact ⟨A4, cap4, rfl, ⟨hown, HO.out⟩, hB⟩
theorem rget_any (A : Option Addr) (n cap : Nat) (many : Int) (l : List Int) (w : World) (hn : n ≤ 70368744177664) (hm : -9223372036854775808 ≤ many ∧ many ≤ 9223372036854775807) (h : Rd w w.heap.size A n l) :
    Calls Try.prog 75 #[.slice A n cap, .int .i64 many] w fun e w' => GPost w n many l e w' := by
  by_cases e : (n : Int) = 4 * many
  · obtain ⟨m, rfl⟩ : ∃ m : Nat, many = m := ⟨many.toNat, by omega⟩
    obtain rfl : n = 4 * m := by omega
    exact (rget_ok A m cap l w (by omega) h).mono fun e' w' ⟨A', cap', h1, h2, h3⟩ => ⟨.inr (.inr (.inr ⟨e, A', cap', h1, h2⟩)), h3⟩
  · exact rget_err A n cap many l w (by omega) hm e
end Go.Proofs.Ytjidchaejicjaaa
/- Numbers and their encodings, in one form for lists and errors. -/
namespace Go.Proofs.Ytjidchaejicjaaa
open Go.RowKit
set_option maxHeartbeats 4000000
set_option linter.unusedSimpArgs false
set_option linter.unusedVariables false
namespace Frm
def pOk (l : List Int) : Bool := decide (l.length ≤ 16) && okAll l
def pL (l : List Int) : List Int := if pOk l = true then pn l else []
def pE (l : List Int) : Int := if pOk l = true then 0 else 2
def gOk (n : Nat) (many : Int) : Bool := decide ((n : Int) = 4 * many)
def gL (l : List Int) (n : Nat) (many : Int) : List Int := if gOk n many = true then gn l many.toNat else []
def gE (n : Nat) (many : Int) : Int := if many < 0 then 2 else if (n : Int) / 4 < many then 4 else if 4 * many < (n : Int) then 5 else 0
theorem gnAt_cons (a b c d : Int) (l : List Int) (k : Nat) : gnAt (a :: b :: c :: d :: l) (k + 1) = gnAt l k := by
  simp only [gnAt]
  rw [show 4 * (k + 1) = 4 * k + 4 by omega]
  simp [List.getD]
theorem gn_pn : ∀ (l : List Int), okAll l = true → gn (pn l) l.length = l
  | [], _ => rfl
  | x :: t, h => by
    simp only [okAll, List.all_cons, Bool.and_eq_true] at h
    have ih := gn_pn t h.2
    have hx := okN_iff.1 h.1
    rw [gn, List.length_cons, List.range_succ_eq_map, List.map_cons, List.map_map]
    have e0 : gnAt (pn (x :: t)) 0 = x := by
      simp only [gnAt, pn, num4]
      simp [List.getD]
      try omega
    rw [e0]
    congr 1
end Frm
def PuPost (w : World) (l : List Int) (e : Ending) (w' : World) : Prop := ∃ A cap, e = .returned (.tuple #[.slice A (Frm.pL l).length cap, .int .i64 (Frm.pE l)]) ∧ Ow w' w.heap.size A (Frm.pL l).length cap (Frm.pL l) ∧ Below w.heap.size w w'
def GuPost (w : World) (l : List Int) (n : Nat) (many : Int) (e : Ending) (w' : World) : Prop := ∃ A cap, e = .returned (.tuple #[.slice A (Frm.gL l n many).length cap, .int .i64 (Frm.gE n many)]) ∧ Oi w' w.heap.size A (Frm.gL l n many).length cap (Frm.gL l n many) ∧ Below w.heap.size w w'
theorem ppost_uni {w w' : World} {l : List Int} {n : Nat} {e : Ending} (hl : l.length = n) (h : PPost w n l e w') : PuPost w l e w' := by
  rcases h with ⟨hx, he, hb⟩ | ⟨hx, A, c, he, ho, hb⟩
  · have hk : Frm.pOk l = false := by
      simp only [Frm.pOk, Bool.and_eq_false_iff, decide_eq_false_iff_not]
      rcases hx with h1 | h1
      · left; omega
      · exact .inr h1
    exact ⟨none, 0, by simp [he, Frm.pL, Frm.pE, hk], by simpa [Frm.pL, hk] using Ow.nil w' _, hb⟩
  · have hk : Frm.pOk l = true := by
      simp only [Frm.pOk, Bool.and_eq_true, decide_eq_true_eq]
      exact ⟨by omega, hx.2⟩
    have hlen : (Frm.pn l).length = 4 * n := by rw [Frm.pn_len, hl]
    exact ⟨A, c, by simp [he, Frm.pL, Frm.pE, hk, hlen], by simpa [Frm.pL, hk, hlen] using ho, hb⟩
theorem rput_uni (A : Option Addr) (n cap : Nat) (l : List Int) (w : World) (hn : n ≤ 140737488355328) (h : Ri w w.heap.size A n l) : Calls Try.prog 71 #[.slice A n cap] w fun e w' => PuPost w l e w' :=
  (rput_any A n cap l w hn h).mono fun e w' hh => ppost_uni h.1 hh
theorem gpost_uni {w w' : World} {l : List Int} {n : Nat} {many : Int} {e : Ending} (h : GPost w n many l e w') : GuPost w l n many e w' := by
  obtain ⟨h | h | h | ⟨h1, A, c, h2, h3⟩, hb⟩ := h
  · refine ⟨none, 0, ?_, ?_, hb⟩
    · have ho : Frm.gOk n many = false := by simp [Frm.gOk]; omega
      simp [Frm.gL, ho, Frm.gE, h]
    · have ho : Frm.gOk n many = false := by simp [Frm.gOk]; omega
      simp only [Frm.gL, ho]
      exact ⟨World.ownsRow_nil _ _ _ _, by intro x hx; cases hx⟩
  · have ho : Frm.gOk n many = false := by simp [Frm.gOk]; omega
    refine ⟨none, 0, ?_, ?_, hb⟩
    · rw [h.2.2, show Frm.gE n many = 4 by rw [Frm.gE, if_neg (by have := h.1; omega), if_pos h.2.1], show Frm.gL l n many = [] by simp [Frm.gL, ho]]; rfl
    · simp only [Frm.gL, ho]
      exact ⟨World.ownsRow_nil _ _ _ _, by intro x hx; cases hx⟩
  · have ho : Frm.gOk n many = false := by simp [Frm.gOk]; omega
    refine ⟨none, 0, ?_, ?_, hb⟩
    · rw [h.2.2.2, show Frm.gE n many = 5 by rw [Frm.gE, if_neg (by have := h.1; omega), if_neg (by have := h.2.2.1; omega), if_pos h.2.1], show Frm.gL l n many = [] by simp [Frm.gL, ho]]; rfl
    · simp only [Frm.gL, ho]
      exact ⟨World.ownsRow_nil _ _ _ _, by intro x hx; cases hx⟩
  · have ho : Frm.gOk n many = true := by simp [Frm.gOk, h1]
    refine ⟨A, c, ?_, ?_, hb⟩
    · rw [h2, Frm.gL, if_pos ho, Frm.gE, if_neg (by omega), if_neg (by omega), if_neg (by omega), Frm.gn_len]
    · rw [Frm.gL, if_pos ho, Frm.gn_len]; exact h3
theorem get_uni (A : Option Addr) (n cap : Nat) (many : Int) (l : List Int) (w : World) (hn : n ≤ 70368744177664) (hcap : n ≤ cap) (hcm : cap ≤ 9223372036854775807) (hm : -9223372036854775808 ≤ many ∧ many ≤ 9223372036854775807) (h : Rd w w.heap.size A n l) :
    Calls Try.prog 58 #[.slice A n cap, .int .i64 many] w fun e w' => GuPost w l n many e w' := (get_any A n cap many l w hn hcap hcm hm h).mono fun e w' => gpost_uni
theorem rget_uni (A : Option Addr) (n cap : Nat) (many : Int) (l : List Int) (w : World) (hn : n ≤ 70368744177664) (hm : -9223372036854775808 ≤ many ∧ many ≤ 9223372036854775807) (h : Rd w w.heap.size A n l) :
    Calls Try.prog 75 #[.slice A n cap, .int .i64 many] w fun e w' => GuPost w l n many e w' := (rget_any A n cap many l w hn hm h).mono fun e w' => gpost_uni
theorem Oi.ri {w : World} {base : Nat} {A : Option Addr} {n cap : Nat} {l : List Int} (h : Oi w base A n cap l) : Ri w w.heap.size A n l := Ri.of_own h.1 h.2
end Go.Proofs.Ytjidchaejicjaaa
/- A slice that a call owns, at any place of its block, of elements of any size; what a call may turn. -/
namespace Go.Proofs.Ytjidchaejicjaaa
open Go.RowKit
set_option linter.unusedSimpArgs false
set_option linter.unusedVariables false
/-- only the blocks of S, and new ones, have turned -/
structure Keeps (S : Nat → Prop) (w w' : World) : Prop where
  os : w'.os = w.os
  tape : w'.tape = w.tape
  output : w'.output = w.output
  size : w.heap.size ≤ w'.heap.size
  block : ∀ i, i < w.heap.size → ¬ S i → w'.heap[i]? = w.heap[i]?
section
variable {S S' : Nat → Prop} {w w' w1 : World}
theorem Keeps.refl (S : Nat → Prop) (w : World) : Keeps S w w := ⟨rfl, rfl, rfl, Nat.le_refl _, fun _ _ _ => rfl⟩
theorem Keeps.trans (h : Keeps S w w1) (k : Keeps S' w1 w') (hS : ∀ i, i < w.heap.size → S' i → S i) : Keeps S w w' :=
  ⟨k.os.trans h.os, k.tape.trans h.tape, k.output.trans h.output, Nat.le_trans h.size k.size, fun i hi hn => (k.block i (Nat.lt_of_lt_of_le hi h.size) (fun hs => hn (hS i hi hs))).trans (h.block i hi hn)⟩
theorem Keeps.of_below (h : Below w.heap.size w w') : Keeps S w w' := ⟨h.os, h.tape, h.output, h.size, fun i hi _ => h.block i hi⟩
theorem Keeps.of_below' {B : Nat} (h : Below B w w') (hB : ∀ i, B ≤ i → i < w.heap.size → S i) : Keeps S w w' := ⟨h.os, h.tape, h.output, h.size, fun i hi hn => h.block i (by
  rcases Nat.lt_or_ge i B with hh | hh
  · exact hh
  · exact absurd (hB i hh hi) hn)⟩
theorem Keeps.of_grown {row : Option Nat} (h : w.grownBy w' row) (hS : ∀ g, row = some g → S g) : Keeps S w w' := ⟨h.os, h.tape, h.output, h.size, fun i hi hn => h.block i hi (fun e => hn (hS i e.symm))⟩
theorem Keeps.drew (h : Keeps S w w') : Keeps S w w'.drew := ⟨h.os, h.tape, h.output, h.size, h.block⟩
theorem Keeps.drewN (h : Keeps S w w') (n : Nat) : Keeps S w (w'.drewN n) := ⟨h.os, h.tape, h.output, h.size, h.block⟩
theorem Keeps.alloc (h : Keeps S w w') (o : Obj) : Keeps S w (w'.alloc o) := ⟨h.os, h.tape, h.output, Nat.le_trans h.size (by simp), fun i hi hn => (Below.heap_alloc w' o i (Nat.lt_of_lt_of_le hi h.size)).trans (h.block i hi hn)⟩
theorem Keeps.setCell (h : Keeps S w w') {p : Addr} (hp : S p.block ∨ w.heap.size ≤ p.block) (u : Value) : Keeps S w (w'.setCell p u) :=
  ⟨h.os, h.tape, h.output, by simpa [World.setCell] using h.size, fun i hi hn => (Below.heap_setCell w' p u i (by
    rintro rfl
    rcases hp with hp | hp
    · exact hn hp
    · omega)).trans (h.block i hi hn)⟩
theorem Keeps.below {B : Nat} (h : Keeps S w w') (hS : ∀ i, i < w.heap.size → S i → B ≤ i) (hB : B ≤ w.heap.size) : Below B w w' :=
  ⟨h.os, h.tape, h.output, h.size, fun i hi => h.block i (by omega) (fun hs => by have := hS i (by omega) hs; omega)⟩
theorem Keeps.mono (h : Keeps S w w') (hS : ∀ i, i < w.heap.size → S i → S' i) : Keeps S' w w' := ⟨h.os, h.tape, h.output, h.size, fun i hi hn => h.block i hi (fun hs => hn (hS i hi hs))⟩
theorem blk_keep {q : Nat} {x : Obj} (h : w.heap[q]? = some x) (k : Keeps S w w') (hq : ¬ S q) : w'.heap[q]? = some x := (k.block q (lt_of_block h) hq).trans h
theorem Keeps.rd {B : Nat} {A : Option Addr} {n : Nat} {l : List Int} (k : Keeps S w w') (h : Rd w B A n l) (hB : B ≤ w.heap.size) (hS : ∀ i, i < B → ¬ S i) : Rd w' B A n l :=
  h.keep fun b o hb => World.cell?_of_block (k.block b (by omega) (hS b hb))
end
/-- the slice at A of n elements (size cells each, type e) with room c is the call's own, from block base on: it reads xs, and its spare cells may be written -/
def Row (w : World) (base : Nat) (e : TypeId) (size : Nat) (A : Option Addr) (n c : Nat) (xs : List Value) : Prop :=
  xs.length = n * size ∧ ((A = none ∧ n = 0 ∧ c = 0) ∨
   ∃ g o cur, A = some ⟨g, o, none⟩ ∧ base ≤ g ∧ w.heap[g]? = some (.cells cur e (0, 0)) ∧ n ≤ c ∧ c ≤ maxLen ∧ o + c * size ≤ cur.size ∧ (cur.toList.drop o).take (n * size) = xs)
/-- the block of a slice -/
def blkOf : Option Addr → Option Nat
  | some a => some a.block
  | none => none
section
variable {w w' : World} {base base' : Nat} {e : TypeId} {size n c : Nat} {A : Option Addr} {xs : List Value}
theorem Row.nil (w : World) (base : Nat) (e : TypeId) (size : Nat) : Row w base e size none 0 0 [] := ⟨by simp, .inl ⟨rfl, rfl, rfl⟩⟩
theorem Row.lt (h : Row w base e size A n c xs) {g : Nat} (hg : blkOf A = some g) : base ≤ g ∧ g < w.heap.size := by
  rcases h.2 with ⟨rfl, _⟩ | ⟨g', o, cur, rfl, hb, hh, _⟩
  · simp [blkOf] at hg
  · simp [blkOf] at hg
    subst hg
    exact ⟨hb, lt_of_block hh⟩
theorem Row.le (h : Row w base e size A n c xs) : n ≤ c ∧ c ≤ maxLen := by
  rcases h.2 with ⟨_, h1, h2⟩ | ⟨g', o, cur, rfl, hb, hh, h1, h2, _⟩
  · subst h1; subst h2; exact ⟨Nat.le_refl _, by unfold maxLen; omega⟩
  · exact ⟨h1, h2⟩
theorem Row.of_block {g o : Nat} {cur : Array Value} (h : w.heap[g]? = some (.cells cur e (0, 0))) (hb : base ≤ g) (hn : n ≤ c) (hc : c ≤ maxLen) (ho : o + c * size ≤ cur.size) (hx : (cur.toList.drop o).take (n * size) = xs) : Row w base e size (some ⟨g, o, none⟩) n c xs := by
  refine ⟨?_, .inr ⟨g, o, cur, rfl, hb, h, hn, hc, ho, hx⟩⟩
  rw [← hx, List.length_take, List.length_drop, Array.length_toList]
  have : n * size ≤ c * size := Nat.mul_le_mul_right _ hn
  omega
theorem Row.kept {S : Nat → Prop} (h : Row w base e size A n c xs) (k : Keeps S w w') (hS : ∀ g, blkOf A = some g → ¬ S g) : Row w' base e size A n c xs := by
  refine ⟨h.1, ?_⟩
  rcases h.2 with hn | ⟨g, o, cur, rfl, hb, hh, rest⟩
  · exact .inl hn
  · exact .inr ⟨g, o, cur, rfl, hb, blk_keep hh k (hS g rfl), rest⟩
theorem Row.grown {row : Option Nat} (h : Row w base e size A n c xs) (k : w.grownBy w' row) (hS : ∀ g, blkOf A = some g → some g ≠ row) : Row w' base e size A n c xs :=
  h.kept (Keeps.of_grown (S := fun g => some g = row) k (fun g hg => hg.symm)) hS
theorem Row.below {B : Nat} (h : Row w base e size A n c xs) (k : Below B w w') (hB : w.heap.size ≤ B) : Row w' base e size A n c xs :=
  h.kept (S := fun _ => False) (w' := w') ⟨k.os, k.tape, k.output, k.size, fun i hi _ => k.block i (by omega)⟩ (fun _ _ h => h)
theorem Row.drew (h : Row w base e size A n c xs) : Row w.drew base e size A n c xs := h
theorem Row.drewN (h : Row w base e size A n c xs) (k : Nat) : Row (w.drewN k) base e size A n c xs := h
theorem Row.alloc (h : Row w base e size A n c xs) (o : Obj) : Row (w.alloc o) base e size A n c xs := h.kept ((Keeps.refl (fun _ => False) w).alloc o) (fun _ _ h => h)
theorem Row.far (h : Row w base e size A n c xs) {p : Addr} (hp : ∀ g, blkOf A = some g → g ≠ p.block) (u : Value) : Row (w.setCell p u) base e size A n c xs :=
  h.kept ((Keeps.refl (fun g => g = p.block) w).setCell (.inl rfl) u) (fun g hg => hp g hg)
theorem Row.more (h : Row w base e size A n c xs) (hb : base' ≤ base) : Row w base' e size A n c xs := by
  refine ⟨h.1, ?_⟩
  rcases h.2 with hn | ⟨g, o, cur, h1, h2, rest⟩
  · exact .inl hn
  · exact .inr ⟨g, o, cur, h1, by omega, rest⟩
theorem Row.some_ (h : Row w base e size A n c xs) (hn : 0 < n) : ∃ g o cur, A = some ⟨g, o, none⟩ ∧ base ≤ g ∧ g < w.heap.size ∧ w.heap[g]? = some (.cells cur e (0, 0)) ∧ n ≤ c ∧ c ≤ maxLen ∧ o + c * size ≤ cur.size ∧ (cur.toList.drop o).take (n * size) = xs ∧ (∀ j u, xs[j]? = some u → w.cell? ⟨g, o + j, none⟩ = some u) ∧ ∀ j, w.frozen? ⟨g, j, none⟩ = false := by
  rcases h.2 with ⟨_, h0, _⟩ | ⟨g, o, cur, h1, h2, h3, h4, h5, h6, h7⟩
  · omega
  · refine ⟨g, o, cur, h1, h2, lt_of_block h3, h3, h4, h5, h6, h7, fun j u hu => ?_, fun j => blk_free h3 j⟩
    rw [← h7, List.getElem?_take] at hu
    split at hu
    · rw [List.getElem?_drop] at hu
      simp only [World.cell?, h3]
      simpa using hu
    · cases hu
theorem Row.reads (h : Row w base e size A n c xs) : Reads w w.heap.size size A n xs := by
  refine ⟨h.1, fun hn => ?_⟩
  obtain ⟨g, o, cur, rfl, _, hlt, _, _, _, _, _, hc, _⟩ := h.some_ hn
  exact ⟨_, rfl, hlt, fun j u hu => by rw [addr_add]; exact hc j u hu⟩
theorem Row.cut (h : Row w base e size A n c xs) {k : Nat} (hk : k ≤ n) : Row w base e size (if c = k then A else A.map (·.add (k * size))) (n - k) (c - k) (xs.drop (k * size)) := by
  rcases h.2 with ⟨rfl, h1, h2⟩ | ⟨g, o, cur, rfl, h2, h3, h4, h5, h6, h7⟩
  · subst h1; subst h2
    have : k = 0 := by omega
    subst this
    have hx : xs = [] := List.eq_nil_of_length_eq_zero (by simpa using h.1)
    subst hx
    simpa using Row.nil w base e size
  · have hks : k * size ≤ n * size := Nat.mul_le_mul_right _ hk
    have hcs : n * size ≤ c * size := Nat.mul_le_mul_right _ h4
    by_cases hc : c = k
    · rw [if_pos hc]
      have h0 : n - k = 0 := by omega
      have h0' : c - k = 0 := by omega
      rw [h0, h0']
      refine Row.of_block h3 h2 (Nat.le_refl _) (by omega) (by omega) ?_
      have : xs.drop (k * size) = [] := List.drop_eq_nil_of_le (by rw [h.1]; exact Nat.mul_le_mul_right _ (by omega))
      rw [this]; simp
    · rw [if_neg hc]
      simp only [Option.map_some, addr_add]
      refine Row.of_block h3 h2 (by omega) (by omega) ?_ ?_
      · have : (c - k) * size = c * size - k * size := Nat.sub_mul _ _ _
        omega
      · rw [← h7, List.drop_take, List.drop_drop, Nat.sub_mul]
end
section
variable {P : Program} (w : World)
theorem run_copy_rowS (dT sT ty elem : TypeId) (size g o dLen dCap : Nat) (a : Addr) (sLen sCap : Nat) (cur : Array Value) (t : TypeId) (cs : List Value)
    (hu : P.underlying dT = some (.slice elem)) (hs : (P.info? elem).map (·.size) = some size)
    (hg : w.heap[g]? = some (.cells cur t (0, 0))) (k : Nat) (hk : k = Nat.min sLen dLen) (hn : cs.length = k * size)
    (hsrc : ∀ j v, cs[j]? = some v → w.cell? (a.add j) = some v) (hfit : o + cs.length ≤ cur.size) (h1 : ∀ v ∈ cs, v.oneCell' = true) :
    (Builtin.copy_ #[dT, sT] ty #[.slice (some ⟨g, o, none⟩) dLen dCap, .slice (some a) sLen sCap]).run P w =
      .ok (goInt k) (w.setRow g (splice cur.toList o cs).toArray) := by
  have hst := run_storeCells_at P g o t cs 0 cur w hg (by simpa using hfit) h1
  have hf := run_firstCells_some (P := P) w size k a sLen sCap cs hn hsrc
  cases hq : P.info? elem with
  | none => simp [hq] at hs
  | some i =>
    have hi : i.size = size := by simpa [hq] using hs
    simp [Builtin.copy_, run_underlying hu, Builtin.lenOf, sizeOf, typeInfo, hq, hi, ← hk, hf, hst, splice]
variable {w}
/-- append onto a slice of the call's own: one law for nil, for room and for none -/
theorem run_append_row (base : Nat) (t ty e : TypeId) (i : TypeInfo) (z : Value) (size bytes : Nat) (ht : P.underlying t = some (.slice e)) (hi : P.info? e = some i) (hz : i.zero = some z)
    (hsize : i.size = size) (hby : i.bytes = bytes) (hzs : z.cells.size = size) (A : Option Addr) (n c : Nat) (xs : List Value) (hown : Row w base e size A n c xs)
    (a : Addr) (m d : Nat) (news : List Value) (hl : news.length = m * size) (hnews : ∀ j u, news[j]? = some u → w.cell? (a.add j) = some u) (h1 : ∀ u ∈ news, u.oneCell' = true) (hm : 0 < m)
    (h63 : n + m ≤ maxLen) (hbytes : (n + m) * bytes ≤ 140737488355328) (hbase : base ≤ w.heap.size) :
    ∃ A' c' w', (Builtin.append_ #[t, t] ty #[.slice A n c, .slice (some a) m d]).run P w = .ok (.slice A' (n + m) c') w' ∧ Row w' base e size A' (n + m) c' (xs ++ news) ∧ w.grownBy w' (blkOf A) ∧
      (blkOf A' = blkOf A ∨ blkOf A' = some w.heap.size) := by
  subst hsize
  have hlen := hown.1
  by_cases hroom : n + m ≤ c
  · rcases hown.2 with ⟨rfl, h0, h00⟩ | ⟨g, o, cur, rfl, hb, hg, hnc, hcm, hfit, htake⟩
    · omega
    · have hmul : (n + m) * i.size ≤ c * i.size := Nat.mul_le_mul_right _ hroom
      rw [Nat.add_mul] at hmul
      have hf := run_firstCells_some (P := P) w i.size m a m d news hl hnews
      have hst := run_storeCells_at P g (o + n * i.size) e news 0 cur w hg (by rw [hl]; omega) h1
      simp only [Nat.add_zero] at hst
      refine ⟨some ⟨g, o, none⟩, c, w.setRow g (splice cur.toList (o + n * i.size) news).toArray, ?_, ?_, ⟨rfl, rfl, rfl, by simp [World.setRow], fun k _ hk => setRow_other w g k _ (fun e => hk (by simp [e, blkOf]))⟩, .inl rfl⟩
      · simp [Builtin.append_, run_underlying ht, sizeOf, typeInfo, hi, Builtin.lenOf, hroom, hf, Addr.add_lit, hst, splice]
      · refine Row.of_block (setRow_heap w g cur _ e _ hg) hb hroom hcm ?_ ?_
        · simp [splice]; omega
        · have hsz : (cur.toList).length = cur.size := Array.length_toList
          simp only [splice]
          rw [List.drop_append_of_le_length (by rw [List.length_take, hsz]; omega), List.drop_take]
          rw [show o + n * i.size - o = n * i.size by omega, htake, ← List.append_assoc, List.take_append_of_le_length (by rw [List.length_append, hlen, hl, Nat.add_mul]; omega), List.take_of_length_le (by rw [List.length_append, hlen, hl, Nat.add_mul]; omega)]
  · have hsrc : Src P i.size t (.slice (some a) m d) m news w := Src.ofSlice w ht a m d news hl hnews h1
    have hold : (Builtin.firstCells i.size n (.slice A n c)).run P w.drew = .ok xs.toArray w.drew := by
      rcases hown.2 with ⟨rfl, h0, h00⟩ | ⟨g, o, cur, rfl, hb, hg, hnc, hcm, hfit, htake⟩
      · subst h0
        have hx : xs = [] := List.eq_nil_of_length_eq_zero (by simpa using hlen)
        subst hx
        exact run_firstCells_none w.drew i.size 0 0 c
      · refine run_firstCells_some (P := P) w.drew i.size n _ n c xs hlen (fun j u hu => ?_)
        rw [addr_add]
        have hn : 0 < n := by
          rcases Nat.eq_zero_or_pos n with h0 | h0
          · subst h0
            have hx : xs = [] := List.eq_nil_of_length_eq_zero (by simpa using hlen)
            subst hx
            simp at hu
          · exact h0
        obtain ⟨g', o', cur', he, _, _, _, _, _, _, _, hc, _⟩ := hown.some_ hn
        injection he with he; injection he with e1 e2
        subst e1; subst e2
        exact hc j u hu
    have hsmall : n + m ≤ 9223372036854775807 := by simp only [maxLen] at h63; omega
    have hfit : Builtin.nextslicecap (n + m) c * i.bytes ≤ 281474976710656 := by
      have := nextslicecap_le (need := n + m) (old := c) (by omega)
      rw [hby]
      exact Nat.le_trans (Nat.mul_le_mul_right _ this) (by rw [Nat.mul_assoc]; omega)
    have hr := run_append_grow_src (P := P) w t t ty e i z ht hi hz A n c xs hold _ m news hsrc (by omega) (by omega) hfit
    have hge := grownCap_ge w (n + m) c e
    have hcm : grownCap w (n + m) c e ≤ maxLen := grownCap_le_maxLen w (n + m) c e h63
    refine ⟨_, _, _, hr, ?_, ⟨rfl, rfl, rfl, by simp, fun k hk _ => Below.heap_alloc w.drew _ k hk⟩, .inr rfl⟩
    refine Row.of_block (heap_alloc_new w.drew _) hbase hge hcm ?_ ?_
    · simp only [Array.size_append, List.size_toArray, List.length_append, size_zeroCells, hzs, hlen, hl, ← Nat.add_mul, Nat.zero_add]
      have : n + m + (grownCap w (n + m) c e - (n + m)) = grownCap w (n + m) c e := by omega
      rw [this]
      exact Nat.le_refl _
    · simp only [Array.toList_append, List.drop_zero]
      rw [List.take_append_of_le_length (by simp [hlen, hl, Nat.add_mul]), List.take_of_length_le (by simp [hlen, hl, Nat.add_mul])]
theorem wp_append_row {o : Oper} {a : Act} {K : Act → World → Prop} {Q : Exit → Act → World → Prop} (s x : Operand) (t : TypeId)
    (ho : o.op = .call { callee := .builtin .append, args := #[s, x], argTypes := #[t, t] })
    (base : Nat) (e : TypeId) (i : TypeInfo) (z : Value) (size bytes : Nat) (ht : P.underlying t = some (.slice e)) (hi : P.info? e = some i) (hz : i.zero = some z)
    (hsize : i.size = size) (hby : i.bytes = bytes) (hzs : z.cells.size = size) (A : Option Addr) (n c : Nat) (xs : List Value) (hs : a.eval s = .slice A n c) (hown : Row w base e size A n c xs)
    (ad : Addr) (m d : Nat) (news : List Value) (hx : a.eval x = .slice (some ad) m d) (hl : news.length = m * size) (hnews : ∀ j u, news[j]? = some u → w.cell? (ad.add j) = some u) (h1 : ∀ u ∈ news, u.oneCell' = true) (hm : 0 < m)
    (h63 : n + m ≤ maxLen) (hbytes : (n + m) * bytes ≤ 140737488355328) (hbase : base ≤ w.heap.size)
    (h : ∀ A' c' w', Row w' base e size A' (n + m) c' (xs ++ news) → w.grownBy w' (blkOf A) → (blkOf A' = blkOf A ∨ blkOf A' = some w.heap.size) → K (a.put o.dst (.slice A' (n + m) c')) w') : o.wp P a w K Q := by
  obtain ⟨A', c', w', hrun, h2, h3, h4⟩ := run_append_row (P := P) base t o.type e i z size bytes ht hi hz hsize hby hzs A n c xs hown ad m d news hl hnews h1 hm h63 hbytes hbase
  unfold Oper.wp execOp
  simp only [ho, resolve, invoke, builtin, Sem.run_bind, Sem.run_pure, Result.andThen_ok, List.map_toArray, List.map_cons, List.map_nil, hs, hx, hrun]
  exact h A' c' w' h2 h3 h4
theorem wpList_append_row {ops : Array Oper} {rest : List Oper} {o : Oper} {a : Act} {Q : Exit → Act → World → Prop} (hgd : o.guard = none) (s x : Operand) (t : TypeId)
    (ho : o.op = .call { callee := .builtin .append, args := #[s, x], argTypes := #[t, t] })
    (base : Nat) (e : TypeId) (i : TypeInfo) (z : Value) (size bytes : Nat) (ht : P.underlying t = some (.slice e)) (hi : P.info? e = some i) (hz : i.zero = some z)
    (hsize : i.size = size) (hby : i.bytes = bytes) (hzs : z.cells.size = size) (A : Option Addr) (n c : Nat) (xs : List Value) (hs : a.eval s = .slice A n c) (hown : Row w base e size A n c xs)
    (ad : Addr) (m d : Nat) (news : List Value) (hx : a.eval x = .slice (some ad) m d) (hl : news.length = m * size) (hnews : ∀ j u, news[j]? = some u → w.cell? (ad.add j) = some u) (h1 : ∀ u ∈ news, u.oneCell' = true) (hm : 0 < m)
    (h63 : n + m ≤ maxLen) (hbytes : (n + m) * bytes ≤ 140737488355328) (hbase : base ≤ w.heap.size)
    (h : ∀ A' c' w', Row w' base e size A' (n + m) c' (xs ++ news) → w.grownBy w' (blkOf A) → (blkOf A' = blkOf A ∨ blkOf A' = some w.heap.size) → wpList P ops Q rest (a.put o.dst (.slice A' (n + m) c')) w') : wpList P ops Q (o :: rest) a w :=
  wpList_plain hgd fun _ hK => wp_append_row s x t ho base e i z size bytes ht hi hz hsize hby hzs A n c xs hs hown ad m d news hx hl hnews h1 hm h63 hbytes hbase fun A' c' w' h2 h3 h4 => hK _ _ (h A' c' w' h2 h3 h4)
end
theorem Row.of_own {w : World} {base : Nat} {e : TypeId} {size n c : Nat} {A : Option Addr} {xs : List Value} (h : w.ownsRow base e size (.slice A n c) n xs) : Row w base e size A n c xs := by
  refine ⟨h.1, ?_⟩
  rcases h.2 with ⟨h1, h2⟩ | ⟨g, cap, cur, h1, h2, h3, h4, h5, h6, h7⟩
  · injection h1 with e1 e2 e3
    exact .inl ⟨e1, h2, e3⟩
  · injection h1 with e1 e2 e3
    subst e3
    exact .inr ⟨g, 0, cur, e1, h2, h3, h4, h5, by omega, by simpa using h7⟩
theorem own_formS {w : World} {base : Nat} {e : TypeId} {size n : Nat} {v : Value} {xs : List Value} (h : w.ownsRow base e size v n xs) : ∃ A cap, v = .slice A n cap := by
  rcases h.2 with ⟨rfl, rfl⟩ | ⟨g, c, cur, rfl, _⟩
  · exact ⟨_, _, rfl⟩
  · exact ⟨_, _, rfl⟩
end Go.Proofs.Ytjidchaejicjaaa
/- Slices of frames that a call owns. -/
namespace Go.Proofs.Ytjidchaejicjaaa
open Go.RowKit
set_option maxHeartbeats 4000000
set_option linter.unusedSimpArgs false
set_option linter.unusedVariables false
/-- a frame as a value: its cells -/
structure FV where
  x : Fr
  A : Option Addr
  cap : Nat
def FV.cells (v : FV) : List Value := [.int .i64 v.x.k, .int .i64 v.x.f, .int .i64 v.x.t, .int .i64 v.x.s, .slice v.A v.x.d.length v.cap]
theorem FV.cells_at : ∀ (vs : List FV) (i j : Nat) (h : i < vs.length), j < 5 → (vs.flatMap FV.cells)[i * 5 + j]? = (FV.cells vs[i])[j]?
  | [], i, j, h, _ => by simp at h
  | v :: vs, 0, j, h, hj => by
    rw [List.flatMap_cons, List.getElem?_append_left (by simp [FV.cells]; omega)]
    simp
  | v :: vs, i + 1, j, h, hj => by
    rw [List.flatMap_cons, List.getElem?_append_right (by simp [FV.cells]; omega)]
    rw [show (i + 1) * 5 + j - (FV.cells v).length = i * 5 + j by simp [FV.cells]; omega]
    rw [FV.cells_at vs i j (by simpa using h) hj]
    simp
/-- a slice of frames that a call owns, with the bytes of each -/
def Rof (w : World) (base : Nat) (v : Value) (l : List Fr) : Prop :=
  ∃ vs : List FV, vs.map (·.x) = l ∧ w.ownsRow base 35 5 v l.length (vs.flatMap FV.cells) ∧ ∀ y ∈ vs, Ow w base y.A y.x.d.length y.cap y.x.d
section
variable {w w' : World} {base : Nat} {v : Value} {l : List Fr}
theorem own_ne {b1 b2 s1 s2 n1 n2 : Nat} {e1 e2 : TypeId} {v1 v2 : Value} {x1 x2 : List Value} (h : w.ownsRow b1 e1 s1 v1 n1 x1) (g : w.ownsRow b2 e2 s2 v2 n2 x2) (hne : e1 ≠ e2) (q : Nat) (h1 : v1.ownBlock = some q) : some q ≠ v2.ownBlock := by
  intro h2
  rcases h.2 with ⟨e, _⟩ | ⟨a, _, _, e, _, ha, _⟩
  · rw [e] at h1; cases h1
  · rcases g.2 with ⟨e', _⟩ | ⟨c, _, _, e', _, hc, _⟩
    · rw [e'] at h2; cases h2
    · rw [e] at h1; rw [e'] at h2
      obtain rfl : a = q := by simpa [Value.ownBlock] using h1
      obtain rfl : a = c := by simpa [Value.ownBlock] using h2
      rw [ha] at hc
      injection hc with hc
      injection hc with _ hc
      exact hne hc
theorem Rof.nil (w : World) (base : Nat) : Rof w base (.slice none 0 0) [] := ⟨[], rfl, World.ownsRow_nil w base _ _, fun y hy => by cases hy⟩
theorem Rof.len {A : Option Addr} {n cap : Nat} (h : Rof w base (.slice A n cap) l) : l.length = n := by
  obtain ⟨vs, _, h2, _⟩ := h
  rcases h2.2 with ⟨e, h0⟩ | ⟨g, c, cur, e, _⟩
  · injection e with _ e _; omega
  · injection e with _ e _; omega
theorem Rof.form (h : Rof w base v l) : ∃ A cap, v = .slice A l.length cap := by
  obtain ⟨vs, _, h2, _⟩ := h
  rcases h2.2 with ⟨rfl, h0⟩ | ⟨g, c, cur, rfl, _⟩
  · exact ⟨none, 0, by rw [h0]⟩
  · exact ⟨_, _, rfl⟩
theorem Rof.below {B : Nat} (h : Rof w base v l) (k : Below B w w') (hB : w.heap.size ≤ B) : Rof w' base v l := by
  obtain ⟨vs, h1, h2, h3⟩ := h
  refine ⟨vs, h1, h2.kept (row := none) ⟨k.os, k.tape, k.output, k.size, fun i hi _ => k.block i (by omega)⟩ ?_, fun y hy => (h3 y hy).below k hB⟩
  rcases h2.2 with ⟨rfl, _⟩ | ⟨g, c, cur, rfl, _⟩
  · left; rfl
  · right; simp [Value.ownBlock]
theorem Rof.drewN (h : Rof w base v l) (q : Nat) : Rof (w.drewN q) base v l := h
theorem Rof.drew (h : Rof w base v l) : Rof w.drew base v l := h
theorem Rof.alloc (h : Rof w base v l) (o : Obj) : Rof (w.alloc o) base v l := h.below ((Below.refl w.heap.size w).alloc (Nat.le_refl _) o) (Nat.le_refl _)
theorem Rof.more {base' : Nat} (h : Rof w base v l) (hb : base' ≤ base) : Rof w base' v l := by
  obtain ⟨vs, h1, h2, h3⟩ := h
  refine ⟨vs, h1, ⟨h2.1, ?_⟩, fun y hy => (h3 y hy).more hb⟩
  rcases h2.2 with e | ⟨g, c, cur, e, hb', rest⟩
  · exact .inl e
  · exact .inr ⟨g, c, cur, e, by omega, rest⟩
/-- behind an append of one frame -/
theorem Rof.append {v' : Value} {vs : List FV} {y : FV} (h1 : vs.map (·.x) = l) (h2 : w.ownsRow base 35 5 v l.length (vs.flatMap FV.cells)) (h3 : ∀ y ∈ vs, Ow w base y.A y.x.d.length y.cap y.x.d) (hy : Ow w base y.A y.x.d.length y.cap y.x.d)
    (hg : w.grownBy w' v.ownBlock) (ho : w'.ownsRow base 35 5 v' (l.length + 1) (vs.flatMap FV.cells ++ y.cells)) : Rof w' base v' (l ++ [y.x]) := by
  refine ⟨vs ++ [y], by simp [h1], ?_, fun z hz => ?_⟩
  · rw [List.length_append, List.flatMap_append]
    simpa using ho
  · have hz' : Ow w base z.A z.x.d.length z.cap z.x.d := by
      rcases List.mem_append.1 hz with h | h
      · exact h3 z h
      · rw [List.mem_singleton.1 h]; exact hy
    exact hz'.grown hg (fun g e => own_ne hz'.1 h2 (by decide) g (by rw [e]; rfl))
theorem Rof.rf {A : Option Addr} {n cap : Nat} (h : Rof w base (.slice A n cap) l) : Rf w w.heap.size A n l := by
  have hl := h.len
  obtain ⟨vs, h1, h2, h3⟩ := h
  rw [hl] at h2
  refine ⟨hl, fun hn => ?_⟩
  rcases h2.2 with ⟨_, h0⟩ | ⟨g, c, cur, e, _, hh, _⟩
  · omega
  · injection e with e1 e2 e3
    subst e1; subst e3
    refine ⟨g, 0, rfl, lt_of_block hh, fun i hi => ?_⟩
    have hvl : vs.length = n := by rw [← hl, ← h1]; simp
    have hiv : i < vs.length := by omega
    have hx : l.getD i fr0 = vs[i].x := by rw [← h1]; simp [List.getD, List.getElem?_eq_getElem hiv]
    rw [hx]
    have hc : ∀ j u, j < 5 → (FV.cells vs[i])[j]? = some u → w.cell? ⟨g, i * 5 + j, none⟩ = some u := fun j u hj hu => by
      have := World.ownsRow.cellAt h2 (g := g) (i * 5 + j) (by omega)
      rw [this, FV.cells_at vs i j hiv hj, hu]
    have ho := h3 vs[i] (List.getElem_mem hiv)
    refine ⟨vs[i].A, vs[i].cap, ?_, ?_, ?_, ?_, ?_, ho.rd, ?_, ?_, ?_⟩
    · have := hc 0 _ (by omega) rfl; simpa using this
    · have := hc 1 _ (by omega) rfl; simpa using this
    · have := hc 2 _ (by omega) rfl; simpa using this
    · have := hc 3 _ (by omega) rfl; simpa using this
    · have := hc 4 _ (by omega) rfl; simpa using this
    · intro hA
      rcases ho.form with ⟨_, hz, hcp⟩ | ⟨q, hq, _⟩
      · exact ⟨hz, hcp⟩
      · rw [hA] at hq; cases hq
    · rcases ho.form with ⟨_, hz, hcp⟩ | ⟨q, hq, _, _, hle, _⟩ <;> omega
    · rcases ho.form with ⟨_, hz, hcp⟩ | ⟨q, hq, _, _, _, hle⟩
      · rw [hcp]; exact Nat.zero_le _
      · exact hle
end
theorem own_below {base size n : Nat} {e : TypeId} {v : Value} {xs : List Value} {w w' : World} (h : w.ownsRow base e size v n xs) (k : Below w.heap.size w w') : w'.ownsRow base e size v n xs := by
  refine h.kept (row := none) ⟨k.os, k.tape, k.output, k.size, fun i hi _ => k.block i hi⟩ ?_
  rcases h.2 with ⟨rfl, _⟩ | ⟨g, c, cur, rfl, _⟩
  · left; rfl
  · right; simp [Value.ownBlock]
theorem own_far {base size n : Nat} {e : TypeId} {v : Value} {xs : List Value} {w : World} {p : Addr} (h : w.ownsRow base e size v n xs) (hp : p.block < base) (u : Value) : (w.setCell p u).ownsRow base e size v n xs := by
  refine h.kept (row := some p.block) ⟨rfl, rfl, rfl, by simp [World.setCell], fun i hi hne => Below.heap_setCell w p u i (fun e => hne (by rw [e]))⟩ ?_
  right
  intro e
  have := (h.lt _ e).1
  omega
theorem Reads.newN (w : World) (cs : Array Value) (t : TypeId) (n size : Nat) (h : cs.size = n * size) : Reads (w.alloc (.cells cs t)) (w.heap.size + 1) size (some ⟨w.heap.size, 0, none⟩) n cs.toList := by
  refine ⟨by simpa using h, fun _ => ⟨_, rfl, by simp, fun i u hu => ?_⟩⟩
  rw [addr_add, Nat.zero_add]
  have h := heap_new w (.cells cs t)
  simp only [World.cell?, h]
  simpa using hu
theorem FV.one (y : FV) : ∀ v ∈ y.cells, v.oneCell' = true := by
  intro v hv
  simp only [FV.cells, List.mem_cons, List.not_mem_nil, or_false] at hv
  rcases hv with rfl | rfl | rfl | rfl | rfl <;> rfl
theorem info_fr : (Try.prog.info? 35).map (fun i => (i.zero, i.size, i.bytes)) = some (some (.agg #[.int .i64 0, .int .i64 0, .int .i64 0, .int .i64 0, .slice none 0 0]), 5, 56) := by kernel_rfl
end Go.Proofs.Ytjidchaejicjaaa
/- What a law's walk is told of the arguments that came in: integers, bytes, numbers, frames, slices of these. -/
namespace Go.Proofs.Ytjidchaejicjaaa
open Go.ChangeShapes Go.WideShapes Go.ChangeAt Go.RowKit Go.Deep Go.Joins
set_option maxRecDepth 100000
set_option linter.unusedVariables false
set_option linter.unusedSimpArgs false
set_option maxHeartbeats 4000000
section
variable {H : Type} {enc : TypeId × Value → H} {P : Program} {w : World} {base : Nat} {spare : Nat → Bool} {held : Bool}
theorem cell_lt {w : World} {a : Addr} {v : Value} (h : w.cell? a = some v) : a.block < w.heap.size := by
  rcases Nat.lt_or_ge a.block w.heap.size with hlt | hge
  · exact hlt
  · simp [World.cell?, Array.getElem?_eq_none hge] at h
theorem open_slice_fields {t e : TypeId} {fs : Array Field} {fuel : Nat} {cs : List Value} {x : DataW H × List MemPlace} (ht : P.underlying t = some (.slice e)) (he : P.underlying e = some (.struct fs))
    (hone : oneCellFields P fs = true) (hC : P.cellsOf e = fs.size) (h : DataW.trod enc P w base spare held fuel t cs = some x) :
    (cs = [.slice none 0 0] ∧ x = (.nil, [])) ∨
    ∃ (a : Addr) (len cap m : Nat) (D : Nat → DataW H) (Pl : Nat → List MemPlace), cs = [.slice (some a) len cap] ∧ base ≤ a.block ∧ len ≤ cap ∧ cap ≤ maxLen ∧ m = (if spare a.block then cap else len) ∧
      x = (.slice ((List.range len).map D) ((List.range (m - len)).map fun j => D (len + j)), MemPlace.row a (m * fs.size) ++ (List.range m).flatMap Pl) ∧
      ∀ i, i < m → ∃ (ys : List (DataW H × List MemPlace)) (n : Nat), D i = .agg (ys.map (·.1)) ∧ Pl i = ys.flatMap (·.2) ∧ ys.length = fs.size ∧
        ∀ (j : Nat) (f : Field), fs[j]? = some f → ∃ (v : Value) (y : DataW H × List MemPlace), w.cell? (a.add (i * fs.size + j)) = some v ∧ ys[j]? = some y ∧ DataW.trod enc P w base spare held n f.type [v] = some y := by
  rcases open_slice ht h with h0 | ⟨a, len, cap, m, n, D, Pl, hcs, hb, hl, hm, hmm, hx, hi⟩
  · exact .inl h0
  · refine .inr ⟨a, len, cap, m, D, Pl, hcs, hb, hl, hm, hmm, by rw [hC] at hx; exact hx, fun i him => ?_⟩
    obtain ⟨cs', hc, ht'⟩ := hi i him
    rw [hC] at hc
    obtain ⟨ys, n', hn', hy, hlen, hyl, hf⟩ := DataW.trod_struct he ht'
    obtain ⟨_, hcl, hat⟩ := World.cells?_some hc
    simp only [Prod.mk.injEq] at hy
    refine ⟨ys, n', hy.1, hy.2, hyl, fun j f hj => ?_⟩
    obtain ⟨ho, hk⟩ := hone_of hone j f hj
    have hjl : j < fs.size := (Array.getElem?_eq_some_iff.1 hj).1
    have hcell := hat j hjl
    have hv : cs'[j]? = some (cs'[j]'(by omega)) := List.getElem?_eq_getElem (by omega)
    have h1 := hf j f hj
    rw [ho, hk] at h1
    have hone' : (cs'.drop j).take 1 = [cs'[j]'(by omega)] := by
      rw [List.drop_eq_getElem_cons (by omega)]
      rfl
    rw [hone'] at h1
    have hys : ys[j]? = some (ys[j]'(by omega)) := List.getElem?_eq_getElem (by omega)
    refine ⟨_, _, ?_, hys, h1.trans hys⟩
    rw [← Go.Deep.add_add, hcell, hv]
theorem open_agg5 {r : Reach} {b0 : Nat} {t : TypeId} {f0 f1 f2 f3 f4 : Field} {v : Value} {d : DataW H} {p : List MemPlace} (hs : P.underlying t = some (.struct #[f0, f1, f2, f3, f4])) (hone : oneCellFields P #[f0, f1, f2, f3, f4] = true) (hC : P.cellsOf t = 5)
    (hv : Value.okWide P w r b0 t v) (h : DataW.Trod enc P w base spare held t v d p) :
    ∃ (v0 v1 v2 v3 v4 : Value) (y0 y1 y2 y3 y4 : DataW H × List MemPlace) (n : Nat), v = .agg #[v0, v1, v2, v3, v4] ∧ d = .agg [y0.1, y1.1, y2.1, y3.1, y4.1] ∧ p = y0.2 ++ (y1.2 ++ (y2.2 ++ (y3.2 ++ y4.2))) ∧
      DataW.trod enc P w base spare held n f0.type [v0] = some y0 ∧ DataW.trod enc P w base spare held n f1.type [v1] = some y1 ∧ DataW.trod enc P w base spare held n f2.type [v2] = some y2 ∧ DataW.trod enc P w base spare held n f3.type [v3] = some y3 ∧ DataW.trod enc P w base spare held n f4.type [v4] = some y4 := by
  obtain ⟨cs, rfl, hsz⟩ := okWide_struct hs hv
  obtain ⟨l⟩ := cs
  match l, hsz.trans hC with
  | [c0, c1, c2, c3, c4], _ =>
    obtain ⟨fuel, hf⟩ := h
    obtain ⟨xs, n, _, hx, _, hlen, hg⟩ := DataW.trod_struct hs hf
    obtain ⟨o0, k0⟩ := hone_of hone 0 f0 rfl
    obtain ⟨o1, k1⟩ := hone_of hone 1 f1 rfl
    obtain ⟨o2, k2⟩ := hone_of hone 2 f2 rfl
    obtain ⟨o3, k3⟩ := hone_of hone 3 f3 rfl
    obtain ⟨o4, k4⟩ := hone_of hone 4 f4 rfl
    match xs, hlen with
    | [y0, y1, y2, y3, y4], _ =>
      simp only [Prod.mk.injEq] at hx
      exact ⟨c0, c1, c2, c3, c4, y0, y1, y2, y3, y4, n, rfl, by simpa using hx.1, by simpa using hx.2, by simpa [Value.cells, o0, k0] using hg 0 f0 rfl, by simpa [Value.cells, o1, k1] using hg 1 f1 rfl, by simpa [Value.cells, o2, k2] using hg 2 f2 rfl, by simpa [Value.cells, o3, k3] using hg 3 f3 rfl, by simpa [Value.cells, o4, k4] using hg 4 f4 rfl⟩
theorem add_none (b o n : Nat) : (⟨b, o, none⟩ : Addr).add n = ⟨b, o + n, none⟩ := by unfold Addr.add; split <;> simp_all
/-- a slice that came in, its room aside -/
def Room (a : Option Addr) (len cap : Nat) : Prop := len ≤ cap ∧ cap ≤ maxLen ∧ (a = none → len = 0 ∧ cap = 0)
theorem row_of {k : IntKind} {t e : TypeId} {fuel : Nat} {c : Value} {x : DataW H × List MemPlace} (ht : P.underlying t = some (.slice e)) (he : P.underlying e = some (.int k)) (hC : P.cellsOf e = 1)
    (hf : DataW.trod enc P w 0 (fun _ => true) true fuel t [c] = some x) : ∃ (a : Option Addr) (len cap : Nat) (l : List Int), c = .slice a len cap ∧ Room a len cap ∧ l.length = len ∧ (∀ z ∈ l, (Lit.int k z).wf = true) ∧
      (0 < len → ∃ b o, a = some ⟨b, o, none⟩ ∧ b < w.heap.size ∧ ∀ i, i < len → w.cell? ⟨b, o + i, none⟩ = some (.int k (l.getD i 0))) := by
  rcases open_ints ht he hC hf with ⟨hcs, _⟩ | ⟨x, l, c', zs, hcs, _, hl, hm, hz, _, hcell, hwz⟩
  · simp at hcs
    exact ⟨none, 0, 0, [], hcs, ⟨by omega, by unfold maxLen; omega, fun _ => ⟨rfl, rfl⟩⟩, rfl, (by intro z hz; cases hz), fun h => absurd h (by omega)⟩
  · simp at hcs
    simp at hz
    subst hcs
    have hlen : (zs.take l).length = l := by rw [List.length_take]; omega
    refine ⟨some x, l, c', zs.take l, rfl, ⟨hl, hm, (fun h => by cases h)⟩, hlen, fun z hz' => hwz _ (List.mem_of_mem_take hz'), fun h0 => ?_⟩
    obtain ⟨b, o, spot⟩ := x
    have g0 := hcell 0 (by omega)
    have hspot : spot = none := by simpa [Addr.add] using World.cell?_spot g0
    subst hspot
    refine ⟨b, o, rfl, (by simpa [Addr.add] using cell_lt g0), fun i hi => ?_⟩
    have := hcell i (by omega)
    rw [add_none] at this
    rw [this]
    simp [List.getD, List.getElem?_take_of_lt hi]
end
section
variable {H : Type} {enc : TypeId × Value → H} {w : World} {fuel : Nat} {c : Value} {x : DataW H × List MemPlace}
theorem u8_wf {z : Int} (h : (Lit.int .u8 z).wf = true) : 0 ≤ z ∧ z < 256 := by
  have h' : IntKind.u8.min ≤ z ∧ z ≤ IntKind.u8.max := by simpa [Lit.wf] using h
  exact ⟨Int.le_trans (by decide) h'.1, Int.lt_of_le_of_lt h'.2 (by decide)⟩
theorem i64_wf {z : Int} (h : (Lit.int .i64 z).wf = true) : -9223372036854775808 ≤ z ∧ z ≤ 9223372036854775807 := by
  have h' : IntKind.i64.min ≤ z ∧ z ≤ IntKind.i64.max := by simpa [Lit.wf] using h
  exact ⟨Int.le_trans (by decide) h'.1, Int.le_trans h'.2 (by decide)⟩
theorem bytes_of (hf : DataW.trod enc Try.prog w 0 (fun _ => true) true fuel 33 [c] = some x) : ∃ (a : Option Addr) (len cap : Nat) (l : List Int), c = .slice a len cap ∧ Room a len cap ∧ Rd w w.heap.size a len l := by
  obtain ⟨a, len, cap, l, h1, h2, h3, h4, h5⟩ := row_of Try.underlying33 Try.underlying5 (by kernel_rfl) hf
  exact ⟨a, len, cap, l, h1, h2, h3, fun z hz => u8_wf (h4 z hz), h5⟩
theorem ints_of (hf : DataW.trod enc Try.prog w 0 (fun _ => true) true fuel 65 [c] = some x) : ∃ (a : Option Addr) (len cap : Nat) (l : List Int), c = .slice a len cap ∧ Room a len cap ∧ Ri w w.heap.size a len l := by
  obtain ⟨a, len, cap, l, h1, h2, h3, h4, h5⟩ := row_of Try.underlying65 Try.underlying3 (by kernel_rfl) hf
  exact ⟨a, len, cap, l, h1, h2, h3, fun z hz => i64_wf (h4 z hz), h5⟩
theorem cellsFr : Try.prog.cellsOf 35 = 5 := by kernel_rfl
/-- a frame that came in is within Go's ints -/
def FrOk (y : Fr) : Prop := (-9223372036854775808 ≤ y.k ∧ y.k ≤ 9223372036854775807) ∧ (-9223372036854775808 ≤ y.f ∧ y.f ≤ 9223372036854775807) ∧ (-9223372036854775808 ≤ y.t ∧ y.t ≤ 9223372036854775807) ∧ (-9223372036854775808 ≤ y.s ∧ y.s ≤ 9223372036854775807)
theorem frames_of (hf : DataW.trod enc Try.prog w 0 (fun _ => true) true fuel 42 [c] = some x) : ∃ (a : Option Addr) (len cap : Nat) (l : List Fr), c = .slice a len cap ∧ Room a len cap ∧ Rf w w.heap.size a len l ∧ ∀ y ∈ l, FrOk y := by
  rcases open_slice_fields (fs := #[_, _, _, _, _]) Try.underlying42 Try.underlying35 (by kernel_rfl) cellsFr hf with ⟨hcs, _⟩ | ⟨x, l, c', m, D, Pl, hcs, _, hl, hm, hmm, _, hc⟩
  · simp at hcs
    exact ⟨none, 0, 0, [], hcs, ⟨by omega, by unfold maxLen; omega, fun _ => ⟨rfl, rfl⟩⟩, Rf.nil _ _ _, by intro y hy; cases hy⟩
  · simp at hcs
    subst hcs
    simp at hmm
    subst hmm
    obtain ⟨b, o, spot⟩ := x
    have key : ∀ i, i < l → ∃ y : Fr, FrOk y ∧ ∃ (A : Option Addr) (cap : Nat), w.cell? ((⟨b, o, spot⟩ : Addr).add (i * 5 + 0)) = some (.int .i64 y.k) ∧ w.cell? ((⟨b, o, spot⟩ : Addr).add (i * 5 + 1)) = some (.int .i64 y.f) ∧ w.cell? ((⟨b, o, spot⟩ : Addr).add (i * 5 + 2)) = some (.int .i64 y.t) ∧ w.cell? ((⟨b, o, spot⟩ : Addr).add (i * 5 + 3)) = some (.int .i64 y.s) ∧
        w.cell? ((⟨b, o, spot⟩ : Addr).add (i * 5 + 4)) = some (.slice A y.d.length cap) ∧ Rd w w.heap.size A y.d.length y.d ∧ Room A y.d.length cap := by
      intro i h1
      obtain ⟨ys, n, _, _, _, hj⟩ := hc i (by omega)
      obtain ⟨v0, y0, c0, _, t0⟩ := hj 0 _ rfl
      obtain ⟨v1, y1, c1, _, t1⟩ := hj 1 _ rfl
      obtain ⟨v2, y2, c2, _, t2⟩ := hj 2 _ rfl
      obtain ⟨v3, y3, c3, _, t3⟩ := hj 3 _ rfl
      obtain ⟨v4, y4, c4, _, t4⟩ := hj 4 _ rfl
      obtain ⟨k0, e0, _, w0⟩ := DataW.trod_int Try.underlying32 t0
      obtain ⟨k1, e1, _, w1⟩ := DataW.trod_int Try.underlying3 t1
      obtain ⟨k2, e2, _, w2⟩ := DataW.trod_int Try.underlying3 t2
      obtain ⟨k3, e3, _, w3⟩ := DataW.trod_int Try.underlying3 t3
      obtain ⟨A, ln, cp, d, e4, hroom, hrd⟩ := bytes_of t4
      simp at e0 e1 e2 e3
      subst e0; subst e1; subst e2; subst e3; subst e4
      have hd := hrd.1
      subst hd
      exact ⟨⟨k0, k1, k2, k3, d⟩, ⟨i64_wf w0, i64_wf w1, i64_wf w2, i64_wf w3⟩, A, cp, c0, c1, c2, c3, c4, hrd, hroom⟩
    have ch : ∃ F : Nat → Fr, ∀ i, i < l → FrOk (F i) ∧ ∃ (A : Option Addr) (cap : Nat), w.cell? ((⟨b, o, spot⟩ : Addr).add (i * 5 + 0)) = some (.int .i64 (F i).k) ∧ w.cell? ((⟨b, o, spot⟩ : Addr).add (i * 5 + 1)) = some (.int .i64 (F i).f) ∧ w.cell? ((⟨b, o, spot⟩ : Addr).add (i * 5 + 2)) = some (.int .i64 (F i).t) ∧ w.cell? ((⟨b, o, spot⟩ : Addr).add (i * 5 + 3)) = some (.int .i64 (F i).s) ∧
        w.cell? ((⟨b, o, spot⟩ : Addr).add (i * 5 + 4)) = some (.slice A (F i).d.length cap) ∧ Rd w w.heap.size A (F i).d.length (F i).d ∧ Room A (F i).d.length cap := by
      refine ⟨fun i => if h : i < l then Classical.choose (key i h) else fr0, fun i hi => ?_⟩
      simp only [dif_pos hi]
      exact Classical.choose_spec (key i hi)
    obtain ⟨F, hF⟩ := ch
    refine ⟨some ⟨b, o, spot⟩, l, m, (List.range l).map F, rfl, ⟨hl, hm, (fun h => by cases h)⟩, ⟨by simp, fun h0 => ?_⟩, fun y hy => ?_⟩
    · obtain ⟨_, A, cp, g0, _⟩ := hF 0 h0
      have hspot : spot = none := by simpa [Addr.add] using World.cell?_spot g0
      subst hspot
      refine ⟨b, o, rfl, by have := cell_lt g0; rwa [add_none] at this, fun i hi => ?_⟩
      have hg : ((List.range l).map F).getD i fr0 = F i := by simp [List.getD, hi]
      rw [hg]
      obtain ⟨_, A, cp, g0, g1, g2, g3, g4, g5, g6⟩ := hF i hi
      rw [add_none] at g0 g1 g2 g3 g4
      exact ⟨A, cp, by simpa using g0, by simpa [Nat.add_assoc] using g1, by simpa [Nat.add_assoc] using g2, by simpa [Nat.add_assoc] using g3, by simpa [Nat.add_assoc] using g4, g5, fun e => g6.2.2 e, g6.1, g6.2.1⟩
    · simp only [List.mem_map, List.mem_range] at hy
      obtain ⟨i, hi, rfl⟩ := hy
      exact (hF i hi).1
theorem frame_of {v : Value} {d : DataW H} {p : List MemPlace} {r : Reach} {b0 : Nat} (hv : Value.okWide Try.prog w r b0 35 v) (h : DataW.Trod enc Try.prog w 0 (fun _ => true) true 35 v d p) :
    ∃ (y : Fr) (A : Option Addr) (cap : Nat), v = .agg #[.int .i64 y.k, .int .i64 y.f, .int .i64 y.t, .int .i64 y.s, .slice A y.d.length cap] ∧ FrOk y ∧ Rd w w.heap.size A y.d.length y.d ∧ Room A y.d.length cap := by
  obtain ⟨v0, v1, v2, v3, v4, y0, y1, y2, y3, y4, n, rfl, _, _, t0, t1, t2, t3, t4⟩ := open_agg5 Try.underlying35 (by kernel_rfl) cellsFr hv h
  obtain ⟨k0, e0, _, w0⟩ := DataW.trod_int Try.underlying32 t0
  obtain ⟨k1, e1, _, w1⟩ := DataW.trod_int Try.underlying3 t1
  obtain ⟨k2, e2, _, w2⟩ := DataW.trod_int Try.underlying3 t2
  obtain ⟨k3, e3, _, w3⟩ := DataW.trod_int Try.underlying3 t3
  obtain ⟨A, ln, cp, d, e4, hroom, hrd⟩ := bytes_of t4
  simp at e0 e1 e2 e3
  subst e0; subst e1; subst e2; subst e3; subst e4
  have hd := hrd.1
  subst hd
  exact ⟨⟨k0, k1, k2, k3, d⟩, A, cp, rfl, ⟨i64_wf w0, i64_wf w1, i64_wf w2, i64_wf w3⟩, hrd, hroom⟩
end
end Go.Proofs.Ytjidchaejicjaaa

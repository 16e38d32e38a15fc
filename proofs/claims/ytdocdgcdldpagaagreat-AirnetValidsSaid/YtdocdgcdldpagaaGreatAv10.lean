import Derived.Test.YtdocdgcdldpagaaGreatAp
import Derived.Test.YtdocdgcdldpagaaGreatAv01
import Derived.Test.YtdocdgcdldpagaaGreatAv02
import Derived.Laws.CopyOwn
import Derived.Deep.AppendSrc
import Derived.Lib.AppendZerosOnto
namespace Go.Proofs.YtdocdgcdldpagaaGreat
namespace Lnk
open Go.RowKit
set_option linter.unusedSimpArgs false
set_option linter.unusedVariables false
abbrev Msg := Int × List Int
def ins (m : Msg) : List Msg → List Msg
  | [] => [m]
  | a :: l => if a.1 ≤ m.1 then a :: ins m l else m :: a :: l
theorem ins_le {m a : Msg} (l : List Msg) (h : a.1 ≤ m.1) : ins m (a :: l) = a :: ins m l := by simp only [ins, if_pos h]
theorem ins_gt {m a : Msg} (l : List Msg) (h : ¬ a.1 ≤ m.1) : ins m (a :: l) = m :: a :: l := by simp only [ins, if_neg h]
def srt (u : List Msg) : List Msg := u.foldl (fun l m => ins m l) []
def Sorted (l : List Msg) : Prop := l.Pairwise (fun a b => a.1 ≤ b.1)
theorem length_ins (m : Msg) : ∀ l, (ins m l).length = l.length + 1
  | [] => rfl
  | a :: l => by
    unfold ins
    split
    · simp [length_ins m l]
    · simp
theorem mem_ins {m x : Msg} : ∀ {l}, x ∈ ins m l ↔ x = m ∨ x ∈ l
  | [] => by simp [ins]
  | a :: l => by
    unfold ins
    split
    · simp only [List.mem_cons, mem_ins (l := l)]
      constructor
      · rintro (h | h | h) <;> simp [h]
      · rintro (h | h | h) <;> simp [h]
    · simp only [List.mem_cons]
theorem srt_snoc (u : List Msg) (m : Msg) : srt (u ++ [m]) = ins m (srt u) := by simp [srt, List.foldl_append]
theorem rev_ind {P : List Msg → Prop} (h0 : P []) (h1 : ∀ u m, P u → P (u ++ [m])) (u : List Msg) : P u := by
  suffices ∀ v : List Msg, P v.reverse by simpa using this u.reverse
  intro v
  induction v with
  | nil => simpa using h0
  | cons m v ih => simpa using h1 _ m ih
theorem length_srt (u : List Msg) : (srt u).length = u.length := by
  refine rev_ind (P := fun u => (srt u).length = u.length) rfl ?_ u
  intro u m h
  rw [srt_snoc, length_ins, h]; simp
theorem mem_srt {x : Msg} {u : List Msg} : x ∈ srt u ↔ x ∈ u := by
  refine rev_ind (P := fun u => x ∈ srt u ↔ x ∈ u) (by simp [srt]) ?_ u
  intro u m h
  rw [srt_snoc, mem_ins, h]
  simp [or_comm]
theorem sorted_ins {m : Msg} : ∀ {l}, Sorted l → Sorted (ins m l)
  | [], _ => by simp [ins, Sorted]
  | a :: l, h => by
    unfold Sorted at h ⊢
    rw [List.pairwise_cons] at h
    unfold ins
    split
    · rename_i hc
      rw [List.pairwise_cons]
      refine ⟨fun b hb => ?_, sorted_ins (l := l) h.2⟩
      rcases mem_ins.1 hb with rfl | hb
      · exact hc
      · exact h.1 b hb
    · rename_i hc
      rw [List.pairwise_cons, List.pairwise_cons]
      refine ⟨fun b hb => ?_, h.1, h.2⟩
      rcases List.mem_cons.1 hb with rfl | hb
      · omega
      · have := h.1 b hb; omega
theorem sorted_srt (u : List Msg) : Sorted (srt u) := by
  refine rev_ind (P := fun u => Sorted (srt u)) (by simp [srt, Sorted]) ?_ u
  intro u m h
  rw [srt_snoc]
  exact sorted_ins h
theorem filter_ins (p : Msg → Bool) {m : Msg} : ∀ {l}, Sorted l → (ins m l).filter p = if p m then ins m (l.filter p) else l.filter p
  | [], _ => by simp [ins, List.filter_cons]
  | a :: l, h => by
    have h' := h
    unfold Sorted at h
    rw [List.pairwise_cons] at h
    by_cases hc : a.1 ≤ m.1
    · rw [ins_le _ hc, List.filter_cons, filter_ins p (l := l) h.2, List.filter_cons]
      by_cases ha : p a = true
      · rw [if_pos ha, if_pos ha]
        by_cases hm : p m = true
        · rw [if_pos hm, if_pos hm, ins_le _ hc]
        · rw [if_neg hm, if_neg hm]
      · rw [if_neg ha, if_neg ha]
    · rw [ins_gt _ hc]
      have hl : ∀ b ∈ (a :: l).filter p, m.1 < b.1 := by
        intro b hb
        rw [List.mem_filter] at hb
        rcases List.mem_cons.1 hb.1 with rfl | hb'
        · omega
        · have := h.1 b hb'; omega
      have e : ins m ((a :: l).filter p) = m :: (a :: l).filter p := by
        generalize (a :: l).filter p = q at hl
        cases q with
        | nil => rfl
        | cons c q => rw [ins_gt _ (by have := hl c C9; omega)]
      rw [e, List.filter_cons]
theorem filter_srt (p : Msg → Bool) (u : List Msg) : srt (u.filter p) = (srt u).filter p := by
  refine rev_ind (P := fun u => srt (u.filter p) = (srt u).filter p) rfl ?_ u
  intro u m h
  rw [srt_snoc, filter_ins p (sorted_srt u), List.filter_append]
  by_cases hm : p m = true
  · rw [if_pos hm, ← h]
    simp [List.filter_cons, hm, srt_snoc]
  · rw [if_neg hm, ← h]
    simp [List.filter_cons, hm]
theorem ins_at {m : Msg} : ∀ {l : List Msg} {i : Nat}, i ≤ l.length → (∀ j (h : j < l.length), j < i → l[j].1 ≤ m.1) → (∀ (h : i < l.length), m.1 < l[i].1) → ins m l = l.take i ++ m :: l.drop i
  | [], i, hi, _, _ => by
    have : i = 0 := by simpa using hi
    subst this; rfl
  | a :: l, 0, _, _, h2 => by
    have h3 : m.1 < a.1 := h2 C9
    rw [ins_gt _ Cb]
    rfl
  | a :: l, i + 1, hi, h1, h2 => by
    have h0 : a.1 ≤ m.1 := h1 0 C9 Cb
    rw [ins_le _ h0, ins_at (l := l) (i := i) (by simpa using hi) (fun j hj hji => h1 (j + 1) (by simpa using hj) Cb) (fun h => h2 C4)]
    rfl
theorem ins_find {m : Msg} {l : List Msg} (hs : Sorted l) {i : Nat} (hi : i ≤ l.length) (h1 : ∀ (h : 0 < i), (l[i-1]'Cb).1 ≤ m.1) (h2 : ∀ j (h : j < l.length), i ≤ j → m.1 < l[j].1) : ins m l = l.take i ++ m :: l.drop i := by
  refine ins_at hi (fun j hj hji => ?_) (fun h => h2 i h (Nat.le_refl _))
  have h0 := h1 Cb
  rcases Nat.lt_or_ge j (i - 1) with h | h
  · have := List.pairwise_iff_getElem.1 hs j (i - 1) hj Cb h
    omega
  · have : j = i - 1 := by omega
    subst this
    exact h0
theorem cut_srt {l : List Msg} (hs : Sorted l) {k : Nat} {t : Int} (hk : k ≤ l.length) (h1 : ∀ j (h : j < l.length), j < k → l[j].1 ≤ t) (h2 : ∀ (h : k < l.length), t < l[k].1) :
    l.filter (fun m => decide (m.1 ≤ t)) = l.take k ∧ l.filter (fun m => decide (t < m.1)) = l.drop k := by
  have hA : ∀ x ∈ l.take k, x.1 ≤ t := by
    intro x hx
    obtain ⟨j, hj, rfl⟩ := List.getElem_of_mem hx
    rw [List.getElem_take]
    exact h1 j _ (by simp at hj; omega)
  have hB : ∀ x ∈ l.drop k, t < x.1 := by
    intro x hx
    obtain ⟨j, hj, rfl⟩ := List.getElem_of_mem hx
    rw [List.getElem_drop]
    simp at hj
    have h0 := h2 Cb
    rcases Nat.eq_zero_or_pos j with h | h
    · subst h; simpa using h0
    · have := List.pairwise_iff_getElem.1 hs k (k + j) Cb Cb Cb
      omega
  constructor
  · conv => lhs; rw [← List.take_append_drop k l]
    rw [List.filter_append, List.filter_eq_self.2 (fun x hx => by simpa using hA x hx), List.filter_eq_nil_iff.2 (fun x hx => by have := hB x hx; simp; omega), List.append_nil]
  · conv => lhs; rw [← List.take_append_drop k l]
    rw [List.filter_append, List.filter_eq_nil_iff.2 (fun x hx => by have := hA x hx; simp; omega), List.filter_eq_self.2 (fun x hx => by simpa using hB x hx), List.nil_append]
structure Ru where
  loss : Int
  twice : Int
  least : Int
  most : Int
  seed : Int
def vld (r : Ru) : Bool := decide ((0 ≤ r.loss ∧ r.loss ≤ 1000) ∧ (0 ≤ r.twice ∧ r.twice ≤ 1000) ∧ (0 ≤ r.least ∧ r.least ≤ r.most) ∧ r.most ≤ 60000 ∧ 0 ≤ r.seed)
theorem vld_iff {r : Ru} : vld r = true ↔ ((0 ≤ r.loss ∧ r.loss ≤ 1000) ∧ (0 ≤ r.twice ∧ r.twice ≤ 1000) ∧ (0 ≤ r.least ∧ r.least ≤ r.most) ∧ r.most ≤ 60000 ∧ 0 ≤ r.seed) := by unfold vld; exact decide_eq_true_iff
structure St where
  x : Int
  now : Int
  u : List Msg
  sent : Int
  lost : Int
  dbl : Int
def nx (x : Int) : Int := IntKind.u64.wrap (6364136223846793005 * x + 1442695040888963407)
def dr (x : Int) : Int := nx x / 8589934592
theorem nx_bd (x : Int) : 0 ≤ nx x ∧ nx x ≤ 18446744073709551615 := by unfold nx; rw [IntKind.wrap_u64]; omega
theorem dr_bd (x : Int) : 0 ≤ dr x ∧ dr x ≤ 2147483647 := by have := nx_bd x; unfold dr; omega
def put (r : Ru) (s : St) (b : List Int) : St := { s with x := nx s.x, u := s.u ++ [(s.now + r.least + dr s.x % (r.most - r.least + 1), b)] }
def sendE (s : St) (now : Int) (n : Nat) : Int := if ¬ (1 ≤ n ∧ n ≤ 128) then 2 else if ¬ (s.now ≤ now ∧ now ≤ 1073741824) then 3 else if 999 ≤ s.u.length then 7 else 0
def send0 (s : St) (now : Int) : St := { s with now := now, sent := s.sent + 1, x := nx s.x }
def sendL (r : Ru) (s : St) : Bool := decide (dr s.x % 1000 < r.loss)
def send1 (r : Ru) (s : St) (now : Int) (b : List Int) : St := put r (send0 s now) b
def sendT (r : Ru) (s : St) : Bool := decide (dr s.x % 1000 < r.twice)
def send2 (r : Ru) (s : St) (b : List Int) : St := put r { s with x := nx s.x, dbl := s.dbl + 1 } b
def send (r : Ru) (s : St) (now : Int) (b : List Int) : St :=
  if sendE s now b.length = 0 then
    if sendL r s then { send0 s now with lost := s.lost + 1 }
    else if sendT r (send1 r s now b) then send2 r (send1 r s now b) b else { send1 r s now b with x := nx (send1 r s now b).x }
  else s
def recvE (s : St) (now : Int) : Int := if s.now ≤ now ∧ now ≤ 1073741824 then 0 else 3
def got (s : St) (now : Int) : List Msg := if recvE s now = 0 then srt (s.u.filter (fun m => decide (m.1 ≤ now))) else []
def recv (s : St) (now : Int) : St := if recvE s now = 0 then { s with now := now, u := s.u.filter (fun m => decide (now < m.1)) } else s
def MOk (m : Msg) : Prop := 0 ≤ m.1 ∧ m.1 ≤ 1073801824 ∧ By m.2 ∧ m.2.length ≤ 128
def Inv (s : St) : Prop := (0 ≤ s.x ∧ s.x ≤ 18446744073709551615) ∧ (0 ≤ s.now ∧ s.now ≤ 1073741824) ∧ s.u.length ≤ 1000 ∧ (∀ m ∈ s.u, MOk m) ∧ (0 ≤ s.sent ∧ s.sent ≤ 1000000000000000) ∧ (0 ≤ s.lost ∧ s.lost ≤ s.sent) ∧ (0 ≤ s.dbl ∧ s.dbl ≤ s.sent)
def new (r : Ru) : St := ⟨r.seed, 0, [], 0, 0, 0⟩
end Lnk
end Go.Proofs.YtdocdgcdldpagaaGreat
namespace Go.Proofs.YtdocdgcdldpagaaGreat
open Go.RowKit
set_option linter.unusedSimpArgs false
set_option linter.unusedVariables false
structure Keeps (S : Nat → Prop) (w w' : World) : Prop where
  os : w'.os = w.os
  tape : w'.tape = w.tape
  output : w'.output = w.output
  size : w.heap.size ≤ w'.heap.size
  block : ∀ i, i < w.heap.size → ¬ S i → w'.heap[i]? = w.heap[i]?
section
variable {S S' : Nat → Prop} {w w' w1 : World}
theorem Keeps.refl (S : Nat → Prop) (w : World) : Keeps S w w := ⟨rfl, rfl, rfl, Nat.le_refl _, fun _ _ _ => rfl⟩
theorem Keeps.trans (h : Keeps S w w1) (k : Keeps S' w1 w') (hS : ∀ i, i < w.heap.size → S' i → S i) : Keeps S w w' :=
  ⟨k.os.trans h.os, k.tape.trans h.tape, k.output.trans h.output, Nat.le_trans h.size k.size, fun i hi hn => (k.block i (Nat.lt_of_lt_of_le hi h.size) (fun hs => hn (hS i hi hs))).trans (h.block i hi hn)⟩
theorem Keeps.of_below (h : Below w.heap.size w w') : Keeps S w w' := ⟨h.os, h.tape, h.output, h.size, fun i hi _ => h.block i hi⟩
theorem Keeps.of_grown {row : Option Nat} (h : w.grownBy w' row) (hS : ∀ g, row = some g → S g) : Keeps S w w' := ⟨h.os, h.tape, h.output, h.size, fun i hi hn => h.block i hi (fun e => hn (hS i e.symm))⟩
theorem Keeps.drew (h : Keeps S w w') : Keeps S w w'.drew := ⟨h.os, h.tape, h.output, h.size, h.block⟩
theorem Keeps.drewN (h : Keeps S w w') (n : Nat) : Keeps S w (w'.drewN n) := ⟨h.os, h.tape, h.output, h.size, h.block⟩
theorem Keeps.alloc (h : Keeps S w w') (o : Obj) : Keeps S w (w'.alloc o) := ⟨h.os, h.tape, h.output, Nat.le_trans h.size C9, fun i hi hn => (Below.heap_alloc w' o i (Nat.lt_of_lt_of_le hi h.size)).trans (h.block i hi hn)⟩
theorem Keeps.setCell (h : Keeps S w w') {p : Addr} (hp : S p.block ∨ w.heap.size ≤ p.block) (u : Value) : Keeps S w (w'.setCell p u) :=
  ⟨h.os, h.tape, h.output, by simpa [World.setCell] using h.size, fun i hi hn => (Below.heap_setCell w' p u i (by
    rintro rfl
    rcases hp with hp | hp
    · exact hn hp
    · omega)).trans (h.block i hi hn)⟩
theorem Keeps.below {B : Nat} (h : Keeps S w w') (hS : ∀ i, i < w.heap.size → S i → B ≤ i) (hB : B ≤ w.heap.size) : Below B w w' :=
  ⟨h.os, h.tape, h.output, h.size, fun i hi => h.block i Cb (fun hs => by have := hS i Cb hs; omega)⟩
theorem Keeps.mono (h : Keeps S w w') (hS : ∀ i, i < w.heap.size → S i → S' i) : Keeps S' w w' := ⟨h.os, h.tape, h.output, h.size, fun i hi hn => h.block i hi (fun hs => hn (hS i hi hs))⟩
theorem blk_keep {q : Nat} {x : Obj} (h : w.heap[q]? = some x) (k : Keeps S w w') (hq : ¬ S q) : w'.heap[q]? = some x := (k.block q (lt_of_block h) hq).trans h
theorem Keeps.rd {B : Nat} {A : Option Addr} {n : Nat} {l : List Int} (k : Keeps S w w') (h : Rd w B A n l) (hB : B ≤ w.heap.size) (hS : ∀ i, i < B → ¬ S i) : Rd w' B A n l :=
  h.keep fun b o hb => World.cell?_of_block (k.block b Cb (hS b hb))
end
def Row (w : World) (base : Nat) (e : TypeId) (size : Nat) (A : Option Addr) (n c : Nat) (xs : List Value) : Prop :=
  xs.length = n * size ∧ ((A = none ∧ n = 0 ∧ c = 0) ∨
   ∃ g o cur, A = some ⟨g, o, none⟩ ∧ base ≤ g ∧ w.heap[g]? = some (.cells cur e (0, 0)) ∧ n ≤ c ∧ c ≤ maxLen ∧ o + c * size ≤ cur.size ∧ (cur.toList.drop o).take (n * size) = xs)
def blkOf : Option Addr → Option Nat
  | some a => some a.block
  | none => none
section
variable {w w' : World} {base base' : Nat} {e : TypeId} {size n c : Nat} {A : Option Addr} {xs : List Value}
theorem Row.nil (w : World) (base : Nat) (e : TypeId) (size : Nat) : Row w base e size none 0 0 [] := ⟨by simp, .inl ⟨rfl, rfl, rfl⟩⟩
theorem Row.lt (h : Row w base e size A n c xs) {g : Nat} (hg : blkOf A = some g) : base ≤ g ∧ g < w.heap.size := by
  rcases h.2 with ⟨rfl, _⟩ | ⟨g', o, cur, rfl, hb, hh, _⟩
  · simp [blkOf] at hg
  · simp [blkOf] at hg
    subst hg
    exact ⟨hb, lt_of_block hh⟩
theorem Row.le (h : Row w base e size A n c xs) : n ≤ c ∧ c ≤ maxLen := by
  rcases h.2 with ⟨_, h1, h2⟩ | ⟨g', o, cur, rfl, hb, hh, h1, h2, _⟩
  · subst h1; subst h2; exact ⟨Nat.le_refl _, by unfold maxLen; omega⟩
  · exact ⟨h1, h2⟩
theorem Row.of_block {g o : Nat} {cur : Array Value} (h : w.heap[g]? = some (.cells cur e (0, 0))) (hb : base ≤ g) (hn : n ≤ c) (hc : c ≤ maxLen) (ho : o + c * size ≤ cur.size) (hx : (cur.toList.drop o).take (n * size) = xs) : Row w base e size (some ⟨g, o, none⟩) n c xs := by
  refine ⟨?_, .inr ⟨g, o, cur, rfl, hb, h, hn, hc, ho, hx⟩⟩
  rw [← hx, List.length_take, List.length_drop, Array.length_toList]
  have : n * size ≤ c * size := Nat.mul_le_mul_right _ hn
  omega
theorem Row.kept {S : Nat → Prop} (h : Row w base e size A n c xs) (k : Keeps S w w') (hS : ∀ g, blkOf A = some g → ¬ S g) : Row w' base e size A n c xs := by
  refine ⟨h.1, ?_⟩
  rcases h.2 with hn | ⟨g, o, cur, rfl, hb, hh, rest⟩
  · exact .inl hn
  · exact .inr ⟨g, o, cur, rfl, hb, blk_keep hh k (hS g rfl), rest⟩
theorem Row.grown {row : Option Nat} (h : Row w base e size A n c xs) (k : w.grownBy w' row) (hS : ∀ g, blkOf A = some g → some g ≠ row) : Row w' base e size A n c xs :=
  h.kept (Keeps.of_grown (S := fun g => some g = row) k (fun g hg => hg.symm)) hS
theorem Row.below {B : Nat} (h : Row w base e size A n c xs) (k : Below B w w') (hB : w.heap.size ≤ B) : Row w' base e size A n c xs :=
  h.kept (S := fun _ => False) (w' := w') ⟨k.os, k.tape, k.output, k.size, fun i hi _ => k.block i Cb⟩ (fun _ _ h => h)
theorem Row.drew (h : Row w base e size A n c xs) : Row w.drew base e size A n c xs := h
theorem Row.drewN (h : Row w base e size A n c xs) (k : Nat) : Row (w.drewN k) base e size A n c xs := h
theorem Row.alloc (h : Row w base e size A n c xs) (o : Obj) : Row (w.alloc o) base e size A n c xs := h.kept ((Keeps.refl (fun _ => False) w).alloc o) (fun _ _ h => h)
theorem Row.far (h : Row w base e size A n c xs) {p : Addr} (hp : ∀ g, blkOf A = some g → g ≠ p.block) (u : Value) : Row (w.setCell p u) base e size A n c xs :=
  h.kept ((Keeps.refl (fun g => g = p.block) w).setCell (.inl rfl) u) (fun g hg => hp g hg)
theorem Row.more (h : Row w base e size A n c xs) (hb : base' ≤ base) : Row w base' e size A n c xs := by
  refine ⟨h.1, ?_⟩
  rcases h.2 with hn | ⟨g, o, cur, h1, h2, rest⟩
  · exact .inl hn
  · exact .inr ⟨g, o, cur, h1, by omega, rest⟩
theorem Row.some_ (h : Row w base e size A n c xs) (hn : 0 < n) : ∃ g o cur, A = some ⟨g, o, none⟩ ∧ base ≤ g ∧ g < w.heap.size ∧ w.heap[g]? = some (.cells cur e (0, 0)) ∧ n ≤ c ∧ c ≤ maxLen ∧ o + c * size ≤ cur.size ∧ (cur.toList.drop o).take (n * size) = xs ∧ (∀ j u, xs[j]? = some u → w.cell? ⟨g, o + j, none⟩ = some u) ∧ ∀ j, w.frozen? ⟨g, j, none⟩ = false := by
  rcases h.2 with ⟨_, h0, _⟩ | ⟨g, o, cur, h1, h2, h3, h4, h5, h6, h7⟩
  · omega
  · refine ⟨g, o, cur, h1, h2, lt_of_block h3, h3, h4, h5, h6, h7, fun j u hu => ?_, fun j => blk_free h3 j⟩
    rw [← h7, List.getElem?_take] at hu
    split at hu
    · rw [List.getElem?_drop] at hu
      simp only [World.cell?, h3]
      simpa using hu
    · cases hu
theorem Row.reads (h : Row w base e size A n c xs) : Reads w w.heap.size size A n xs := by
  refine ⟨h.1, fun hn => ?_⟩
  obtain ⟨g, o, cur, rfl, _, hlt, _, _, _, _, _, hc, _⟩ := h.some_ hn
  exact ⟨_, rfl, hlt, fun j u hu => by rw [addr_add]; exact hc j u hu⟩
theorem Row.cut (h : Row w base e size A n c xs) {k : Nat} (hk : k ≤ n) : Row w base e size (if c = k then A else A.map (·.add (k * size))) (n - k) (c - k) (xs.drop (k * size)) := by
  rcases h.2 with ⟨rfl, h1, h2⟩ | ⟨g, o, cur, rfl, h2, h3, h4, h5, h6, h7⟩
  · subst h1; subst h2
    have : k = 0 := by omega
    subst this
    have hx : xs = [] := List.eq_nil_of_length_eq_zero (by simpa using h.1)
    subst hx
    simpa using Row.nil w base e size
  · have hks : k * size ≤ n * size := Nat.mul_le_mul_right _ hk
    have hcs : n * size ≤ c * size := Nat.mul_le_mul_right _ h4
    by_cases hc : c = k
    · rw [if_pos hc]
      have h0 : n - k = 0 := by omega
      have h0' : c - k = 0 := by omega
      rw [h0, h0']
      refine Row.of_block h3 h2 (Nat.le_refl _) Cb Cb ?_
      have : xs.drop (k * size) = [] := List.drop_eq_nil_of_le (by rw [h.1]; exact Nat.mul_le_mul_right _ Cb)
      rw [this]; simp
    · rw [if_neg hc]
      simp only [Option.map_some, addr_add]
      refine Row.of_block h3 h2 Cb Cb ?_ ?_
      · have : (c - k) * size = c * size - k * size := Nat.sub_mul _ _ _
        omega
      · rw [← h7, List.drop_take, List.drop_drop, Nat.sub_mul]
end
section
variable {P : Program} (w : World)
theorem run_copy_rowS (dT sT ty elem : TypeId) (size g o dLen dCap : Nat) (a : Addr) (sLen sCap : Nat) (cur : Array Value) (t : TypeId) (cs : List Value)
    (hu : P.underlying dT = some (.slice elem)) (hs : (P.info? elem).map (·.size) = some size)
    (hg : w.heap[g]? = some (.cells cur t (0, 0))) (k : Nat) (hk : k = Nat.min sLen dLen) (hn : cs.length = k * size)
    (hsrc : ∀ j v, cs[j]? = some v → w.cell? (a.add j) = some v) (hfit : o + cs.length ≤ cur.size) (h1 : ∀ v ∈ cs, v.oneCell' = true) :
    (Builtin.copy_ #[dT, sT] ty #[.slice (some ⟨g, o, none⟩) dLen dCap, .slice (some a) sLen sCap]).run P w =
      .ok (goInt k) (w.setRow g (splice cur.toList o cs).toArray) := by
  have hst := run_storeCells_at P g o t cs 0 cur w hg (by simpa using hfit) h1
  have hf := run_firstCells_some (P := P) w size k a sLen sCap cs hn hsrc
  cases hq : P.info? elem with
  | none => simp [hq] at hs
  | some i =>
    have hi : i.size = size := by simpa [hq] using hs
    simp [Builtin.copy_, run_underlying hu, Builtin.lenOf, sizeOf, typeInfo, hq, hi, ← hk, hf, hst, splice]
variable {w}
theorem run_append_row (base : Nat) (t ty e : TypeId) (i : TypeInfo) (z : Value) (size bytes : Nat) (ht : P.underlying t = some (.slice e)) (hi : P.info? e = some i) (hz : i.zero = some z)
    (hsize : i.size = size) (hby : i.bytes = bytes) (hzs : z.cells.size = size) (A : Option Addr) (n c : Nat) (xs : List Value) (hown : Row w base e size A n c xs)
    (a : Addr) (m d : Nat) (news : List Value) (hl : news.length = m * size) (hnews : ∀ j u, news[j]? = some u → w.cell? (a.add j) = some u) (h1 : ∀ u ∈ news, u.oneCell' = true) (hm : 0 < m)
    (h63 : n + m ≤ maxLen) (hbytes : (n + m) * bytes ≤ 140737488355328) (hbase : base ≤ w.heap.size) :
    ∃ A' c' w', (Builtin.append_ #[t, t] ty #[.slice A n c, .slice (some a) m d]).run P w = .ok (.slice A' (n + m) c') w' ∧ Row w' base e size A' (n + m) c' (xs ++ news) ∧ w.grownBy w' (blkOf A) ∧
      (blkOf A' = blkOf A ∨ blkOf A' = some w.heap.size) := by
  subst hsize
  have hlen := hown.1
  by_cases hroom : n + m ≤ c
  · rcases hown.2 with ⟨rfl, h0, h00⟩ | ⟨g, o, cur, rfl, hb, hg, hnc, hcm, hfit, htake⟩
    · omega
    · have hmul : (n + m) * i.size ≤ c * i.size := Nat.mul_le_mul_right _ hroom
      rw [Nat.add_mul] at hmul
      have hf := run_firstCells_some (P := P) w i.size m a m d news hl hnews
      have hst := run_storeCells_at P g (o + n * i.size) e news 0 cur w hg (by rw [hl]; omega) h1
      simp only [Nat.add_zero] at hst
      refine ⟨some ⟨g, o, none⟩, c, w.setRow g (splice cur.toList (o + n * i.size) news).toArray, ?_, ?_, ⟨rfl, rfl, rfl, by simp [World.setRow], fun k _ hk => setRow_other w g k _ (fun e => hk (by simp [e, blkOf]))⟩, .inl rfl⟩
      · simp [Builtin.append_, run_underlying ht, sizeOf, typeInfo, hi, Builtin.lenOf, hroom, hf, Addr.add_lit, hst, splice]
      · refine Row.of_block (setRow_heap w g cur _ e _ hg) hb hroom hcm ?_ ?_
        · simp [splice]; omega
        · have hsz : (cur.toList).length = cur.size := Array.length_toList
          simp only [splice]
          rw [List.drop_append_of_le_length (by rw [List.length_take, hsz]; omega), List.drop_take]
          rw [show o + n * i.size - o = n * i.size by omega, htake, ← List.append_assoc, List.take_append_of_le_length (by rw [List.length_append, hlen, hl, Nat.add_mul]; omega), List.take_of_length_le (by rw [List.length_append, hlen, hl, Nat.add_mul]; omega)]
  · have hsrc : Src P i.size t (.slice (some a) m d) m news w := Src.ofSlice w ht a m d news hl hnews h1
    have hold : (Builtin.firstCells i.size n (.slice A n c)).run P w.drew = .ok xs.toArray w.drew := by
      rcases hown.2 with ⟨rfl, h0, h00⟩ | ⟨g, o, cur, rfl, hb, hg, hnc, hcm, hfit, htake⟩
      · subst h0
        have hx : xs = [] := List.eq_nil_of_length_eq_zero (by simpa using hlen)
        subst hx
        exact run_firstCells_none w.drew i.size 0 0 c
      · refine run_firstCells_some (P := P) w.drew i.size n _ n c xs hlen (fun j u hu => ?_)
        rw [addr_add]
        have hn : 0 < n := by
          rcases Nat.eq_zero_or_pos n with h0 | h0
          · subst h0
            have hx : xs = [] := List.eq_nil_of_length_eq_zero (by simpa using hlen)
            subst hx
            simp at hu
          · exact h0
        obtain ⟨g', o', cur', he, _, _, _, _, _, _, _, hc, _⟩ := hown.some_ hn
        injection he with he; injection he with e1 e2
        subst e1; subst e2
        exact hc j u hu
    have hsmall : n + m ≤ 9223372036854775807 := by simp only [maxLen] at h63; omega
    have hfit : Builtin.nextslicecap (n + m) c * i.bytes ≤ 281474976710656 := by
      have := nextslicecap_le (need := n + m) (old := c) Cb
      rw [hby]
      exact Nat.le_trans (Nat.mul_le_mul_right _ this) (by rw [Nat.mul_assoc]; omega)
    have hr := run_append_grow_src (P := P) w t t ty e i z ht hi hz A n c xs hold _ m news hsrc Cb Cb hfit
    have hge := grownCap_ge w (n + m) c e
    have hcm : grownCap w (n + m) c e ≤ maxLen := grownCap_le_maxLen w (n + m) c e h63
    refine ⟨_, _, _, hr, ?_, ⟨rfl, rfl, rfl, by simp, fun k hk _ => Below.heap_alloc w.drew _ k hk⟩, .inr rfl⟩
    refine Row.of_block (heap_alloc_new w.drew _) hbase hge hcm ?_ ?_
    · simp only [Array.size_append, List.size_toArray, List.length_append, size_zeroCells, hzs, hlen, hl, ← Nat.add_mul, Nat.zero_add]
      have : n + m + (grownCap w (n + m) c e - (n + m)) = grownCap w (n + m) c e := by omega
      rw [this]
      exact Nat.le_refl _
    · simp only [Array.toList_append, List.drop_zero]
      rw [List.take_append_of_le_length (by simp [hlen, hl, Nat.add_mul]), List.take_of_length_le (by simp [hlen, hl, Nat.add_mul])]
theorem wp_append_row {o : Oper} {a : Act} {K : Act → World → Prop} {Q : Exit → Act → World → Prop} (s x : Operand) (t : TypeId)
    (ho : o.op = .call { callee := .builtin .append, args := #[s, x], argTypes := #[t, t] })
    (base : Nat) (e : TypeId) (i : TypeInfo) (z : Value) (size bytes : Nat) (ht : P.underlying t = some (.slice e)) (hi : P.info? e = some i) (hz : i.zero = some z)
    (hsize : i.size = size) (hby : i.bytes = bytes) (hzs : z.cells.size = size) (A : Option Addr) (n c : Nat) (xs : List Value) (hs : a.eval s = .slice A n c) (hown : Row w base e size A n c xs)
    (ad : Addr) (m d : Nat) (news : List Value) (hx : a.eval x = .slice (some ad) m d) (hl : news.length = m * size) (hnews : ∀ j u, news[j]? = some u → w.cell? (ad.add j) = some u) (h1 : ∀ u ∈ news, u.oneCell' = true) (hm : 0 < m)
    (h63 : n + m ≤ maxLen) (hbytes : (n + m) * bytes ≤ 140737488355328) (hbase : base ≤ w.heap.size)
    (h : ∀ A' c' w', Row w' base e size A' (n + m) c' (xs ++ news) → w.grownBy w' (blkOf A) → (blkOf A' = blkOf A ∨ blkOf A' = some w.heap.size) → K (a.put o.dst (.slice A' (n + m) c')) w') : o.wp P a w K Q := by
  obtain ⟨A', c', w', hrun, h2, h3, h4⟩ := run_append_row (P := P) base t o.type e i z size bytes ht hi hz hsize hby hzs A n c xs hown ad m d news hl hnews h1 hm h63 hbytes hbase
  unfold Oper.wp execOp
  simp only [ho, resolve, invoke, builtin, Sem.run_bind, Sem.run_pure, Result.andThen_ok, List.map_toArray, List.map_cons, List.map_nil, hs, hx, hrun]
  exact h A' c' w' h2 h3 h4
theorem wpList_append_row {ops : Array Oper} {rest : List Oper} {o : Oper} {a : Act} {Q : Exit → Act → World → Prop} (hgd : o.guard = none) (s x : Operand) (t : TypeId)
    (ho : o.op = .call { callee := .builtin .append, args := #[s, x], argTypes := #[t, t] })
    (base : Nat) (e : TypeId) (i : TypeInfo) (z : Value) (size bytes : Nat) (ht : P.underlying t = some (.slice e)) (hi : P.info? e = some i) (hz : i.zero = some z)
    (hsize : i.size = size) (hby : i.bytes = bytes) (hzs : z.cells.size = size) (A : Option Addr) (n c : Nat) (xs : List Value) (hs : a.eval s = .slice A n c) (hown : Row w base e size A n c xs)
    (ad : Addr) (m d : Nat) (news : List Value) (hx : a.eval x = .slice (some ad) m d) (hl : news.length = m * size) (hnews : ∀ j u, news[j]? = some u → w.cell? (ad.add j) = some u) (h1 : ∀ u ∈ news, u.oneCell' = true) (hm : 0 < m)
    (h63 : n + m ≤ maxLen) (hbytes : (n + m) * bytes ≤ 140737488355328) (hbase : base ≤ w.heap.size)
    (h : ∀ A' c' w', Row w' base e size A' (n + m) c' (xs ++ news) → w.grownBy w' (blkOf A) → (blkOf A' = blkOf A ∨ blkOf A' = some w.heap.size) → wpList P ops Q rest (a.put o.dst (.slice A' (n + m) c')) w') : wpList P ops Q (o :: rest) a w :=
  wpList_plain hgd fun _ hK => wp_append_row s x t ho base e i z size bytes ht hi hz hsize hby hzs A n c xs hs hown ad m d news hx hl hnews h1 hm h63 hbytes hbase fun A' c' w' h2 h3 h4 => hK _ _ (h A' c' w' h2 h3 h4)
end
theorem Row.of_own {w : World} {base : Nat} {e : TypeId} {size n c : Nat} {A : Option Addr} {xs : List Value} (h : w.ownsRow base e size (.slice A n c) n xs) : Row w base e size A n c xs := by
  refine ⟨h.1, ?_⟩
  rcases h.2 with ⟨h1, h2⟩ | ⟨g, cap, cur, h1, h2, h3, h4, h5, h6, h7⟩
  · injection h1 with e1 e2 e3
    exact .inl ⟨e1, h2, e3⟩
  · injection h1 with e1 e2 e3
    subst e3
    exact .inr ⟨g, 0, cur, e1, h2, h3, h4, h5, by omega, by simpa using h7⟩
theorem own_formS {w : World} {base : Nat} {e : TypeId} {size n : Nat} {v : Value} {xs : List Value} (h : w.ownsRow base e size v n xs) : ∃ A cap, v = .slice A n cap := by
  rcases h.2 with ⟨rfl, rfl⟩ | ⟨g, c, cur, rfl, _⟩
  · exact ⟨_, _, rfl⟩
  · exact ⟨_, _, rfl⟩
end Go.Proofs.YtdocdgcdldpagaaGreat

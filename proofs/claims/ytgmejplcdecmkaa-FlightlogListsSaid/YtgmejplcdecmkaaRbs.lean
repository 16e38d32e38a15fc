/- Slices of slices of bytes. -/
import Derived.Test.YtgmejplcdecmkaaRw
import Derived.Test.YtgmejplcdecmkaaSame
import Derived.Lib.ConvBytes
namespace Go.Proofs.Ytgmejplcdecmkaa
open Go.RowKit
set_option linter.unusedSimpArgs false
set_option linter.unusedVariables false
set_option maxRecDepth 100000
/-- the slice at A of n elements (size cells each) reads the cells xs, and lies below block B -/
def Rds (w : World) (B size : Nat) (A : Option Addr) (n : Nat) (xs : List Value) : Prop :=
  xs.length = n * size ∧ (0 < n → ∃ b o, A = some ⟨b, o, none⟩ ∧ b < B ∧ ∀ j u, xs[j]? = some u → w.cell? ⟨b, o + j, none⟩ = some u)
section
variable {w w' : World} {B B' size n : Nat} {A : Option Addr} {xs : List Value}
theorem Rds.nil (w : World) (B size : Nat) (A : Option Addr) : Rds w B size A 0 [] := ⟨by simp, fun h => absurd h (by omega)⟩
theorem Rds.keep {S : Nat → Prop} (h : Rds w B size A n xs) (k : Keeps S w w') (hB : B ≤ w.heap.size) (hS : ∀ a, A = some a → ¬ S a.block) : Rds w' B size A n xs :=
  ⟨h.1, fun hn => by
    obtain ⟨b, o, e, hb, hc⟩ := h.2 hn
    exact ⟨b, o, e, hb, fun j u hu => (World.cell?_of_block (k.block b (by omega) (hS _ e))).trans (hc j u hu)⟩⟩
theorem Rds.below (h : Rds w B size A n xs) (k : Below B' w w') (hB : B ≤ B') : Rds w' B size A n xs :=
  ⟨h.1, fun hn => by
    obtain ⟨b, o, e, hb, hc⟩ := h.2 hn
    exact ⟨b, o, e, hb, fun j u hu => (World.cell?_of_block (k.block b (by omega))).trans (hc j u hu)⟩⟩
theorem Rds.more (h : Rds w B size A n xs) (hB : B ≤ B') : Rds w B' size A n xs :=
  ⟨h.1, fun hn => by
    obtain ⟨b, o, e, hb, hc⟩ := h.2 hn
    exact ⟨b, o, e, by omega, hc⟩⟩
theorem Rds.drew (h : Rds w B size A n xs) : Rds w.drew B size A n xs := h
theorem Rds.drewN (h : Rds w B size A n xs) (k : Nat) : Rds (w.drewN k) B size A n xs := h
theorem Rds.alloc (h : Rds w B size A n xs) (hB : B ≤ w.heap.size) (o : Obj) : Rds (w.alloc o) B size A n xs := h.below ((Below.refl _ _).alloc (Nat.le_refl _) o) hB
theorem Rds.reads (h : Rds w B size A n xs) : Reads w B size A n xs :=
  ⟨h.1, fun hn => by
    obtain ⟨b, o, e, hb, hc⟩ := h.2 hn
    exact ⟨_, e, hb, fun j u hu => by rw [addr_add]; exact hc j u hu⟩⟩
theorem Rds.of_row {base : Nat} {e : TypeId} {c : Nat} (h : Row w base e size A n c xs) : Rds w w.heap.size size A n xs :=
  ⟨h.1, fun hn => by
    obtain ⟨g, o, cur, rfl, _, hlt, _, _, _, _, _, hc, _⟩ := h.some_ hn
    exact ⟨g, o, rfl, hlt, hc⟩⟩
theorem Rds.of_own {base : Nat} {e : TypeId} {c : Nat} (h : w.ownsRow base e size (.slice A n c) n xs) : Rds w w.heap.size size A n xs := by
  refine ⟨h.1, fun hn => ?_⟩
  obtain ⟨g, cap, hv, _, hlt⟩ := h.form hn
  have hA : A = some ⟨g, 0, none⟩ := by injection hv
  subst hA
  exact ⟨g, 0, rfl, hlt, fun j u hu => by rw [← addr_add]; exact h.cells (g := g) rfl j u hu⟩
theorem Rds.cut (h : Rds w B size A n xs) {k cap : Nat} (hk : k ≤ n) (hc : n ≤ cap) : Rds w B size (if cap = k then A else A.map (·.add (k * size))) (n - k) (xs.drop (k * size)) := by
  refine ⟨by rw [List.length_drop, h.1, Nat.sub_mul], fun hn => ?_⟩
  obtain ⟨b, o, rfl, hb, hcell⟩ := h.2 (by omega)
  rw [if_neg (by omega)]
  refine ⟨b, o + k * size, by simp [addr_add], hb, fun j u hu => ?_⟩
  rw [Nat.add_assoc]
  exact hcell _ u (by rw [← hu, List.getElem?_drop])
theorem Rds.take (h : Rds w B size A n xs) {k : Nat} (hk : k ≤ n) : Rds w B size A k (xs.take (k * size)) := by
  have : k * size ≤ n * size := Nat.mul_le_mul_right _ hk
  refine ⟨by rw [List.length_take, h.1]; omega, fun hn => ?_⟩
  obtain ⟨b, o, rfl, hb, hcell⟩ := h.2 (by omega)
  refine ⟨b, o, rfl, hb, fun j u hu => hcell j u ?_⟩
  rw [List.getElem?_take] at hu
  split at hu
  · exact hu
  · cases hu
end
/-- bytes that lie at A, with room c -/
structure RB where
  A : Option Addr
  c : Nat
  d : List Int
def rbc (x : RB) : Value := .slice x.A x.d.length x.c
def rbcs (l : List RB) : List Value := l.map rbc
/-- all of them read as they should, from block lo on and below block B -/
def BGood (w : World) (lo B : Nat) (l : List RB) : Prop := ∀ x ∈ l, Rd w B x.A x.d.length x.d ∧ (∀ a, x.A = some a → lo ≤ a.block) ∧ x.d.length ≤ x.c ∧ x.c ≤ maxLen ∧ (x.A = none → x.d.length = 0)
/-- the slice at A of n slices of bytes reads l -/
def Rb (w : World) (lo B : Nat) (A : Option Addr) (n : Nat) (l : List (List Int)) : Prop := ∃ rl : List RB, rl.map (·.d) = l ∧ Rds w B 1 A n (rbcs rl) ∧ BGood w lo B rl ∧ (∀ a, A = some a → 0 < n → lo ≤ a.block)
section
variable {w w' : World} {lo B B' n : Nat} {A : Option Addr} {l : List (List Int)} {rl : List RB}
theorem BGood.keep {S : Nat → Prop} (h : BGood w lo B rl) (k : Keeps S w w') (hB : B ≤ w.heap.size) (hS : ∀ i, lo ≤ i → i < B → ¬ S i) : BGood w' lo B rl := fun x hx => by
  obtain ⟨h1, h2, h3⟩ := h x hx
  refine ⟨⟨h1.1, h1.2.1, fun hn => ?_⟩, h2, h3⟩
  obtain ⟨b, o, e, hb, hc⟩ := h1.2.2 hn
  exact ⟨b, o, e, hb, fun i hi => (World.cell?_of_block (k.block b (by omega) (hS b (h2 _ e) hb))).trans (hc i hi)⟩
theorem BGood.kept {S : Nat → Prop} (h : BGood w lo B rl) (k : Keeps S w w') (hB : B ≤ w.heap.size) (hS : ∀ x ∈ rl, ∀ a, x.A = some a → ¬ S a.block) : BGood w' lo B rl := fun x hx => by
  obtain ⟨h1, h2, h3⟩ := h x hx
  refine ⟨⟨h1.1, h1.2.1, fun hn => ?_⟩, h2, h3⟩
  obtain ⟨b, o, e, hb, hc⟩ := h1.2.2 hn
  exact ⟨b, o, e, hb, fun i hi => (World.cell?_of_block (k.block b (by omega) (hS x hx _ e))).trans (hc i hi)⟩
theorem BGood.more (h : BGood w lo B rl) (hB : B ≤ B') : BGood w lo B' rl := fun x hx => ⟨(h x hx).1.more hB, (h x hx).2⟩
theorem BGood.below (h : BGood w lo B rl) (k : Below B' w w') (hB : B ≤ B') : BGood w' lo B rl := fun x hx => ⟨(h x hx).1.below k hB, (h x hx).2⟩
theorem BGood.nil (w : World) (lo B : Nat) : BGood w lo B [] := fun x hx => by cases hx
theorem BGood.snoc {x : RB} (h : BGood w lo B rl) (hx : Rd w B x.A x.d.length x.d ∧ (∀ a, x.A = some a → lo ≤ a.block) ∧ x.d.length ≤ x.c ∧ x.c ≤ maxLen ∧ (x.A = none → x.d.length = 0)) : BGood w lo B (rl ++ [x]) := fun y hy => by
  rcases List.mem_append.1 hy with hy | hy
  · exact h y hy
  · rw [List.mem_singleton.1 hy]; exact hx
theorem BGood.lower (h : BGood w lo B rl) {lo' : Nat} (hl : lo' ≤ lo) : BGood w lo' B rl := fun x hx => ⟨(h x hx).1, fun a ha => Nat.le_trans hl ((h x hx).2.1 a ha), (h x hx).2.2⟩
theorem rbcs_one (rl : List RB) : ∀ v ∈ rbcs rl, v.oneCell' = true := by
  intro v hv
  simp only [rbcs, List.mem_map] at hv
  obtain ⟨x, _, rfl⟩ := hv
  rfl
theorem length_rbcs (rl : List RB) : (rbcs rl).length = rl.length := by simp [rbcs]
theorem rbcs_snoc (rl : List RB) (x : RB) : rbcs (rl ++ [x]) = rbcs rl ++ [rbc x] := by simp [rbcs]
theorem Rb.below (h : Rb w lo B A n l) (k : Below B' w w') (hB : B ≤ B') : Rb w' lo B A n l := by
  obtain ⟨rl, h1, h2, h3, h4⟩ := h
  exact ⟨rl, h1, h2.below k hB, h3.below k hB, h4⟩
theorem Rb.more (h : Rb w lo B A n l) (hB : B ≤ B') : Rb w lo B' A n l := by
  obtain ⟨rl, h1, h2, h3, h4⟩ := h
  exact ⟨rl, h1, h2.more hB, h3.more hB, h4⟩
theorem Rb.len (h : Rb w lo B A n l) : l.length = n := by
  obtain ⟨rl, h1, h2, h3, _⟩ := h
  have := h2.1
  rw [length_rbcs] at this
  rw [← h1, List.length_map]; omega
theorem Rb.nil (w : World) (lo B : Nat) (A : Option Addr) : Rb w lo B A 0 [] := ⟨[], rfl, ⟨rfl, fun h => absurd h (by omega)⟩, BGood.nil w lo B, fun _ _ h => absurd h (by omega)⟩
theorem Rb.keep {S : Nat → Prop} (h : Rb w lo B A n l) (k : Keeps S w w') (hB : B ≤ w.heap.size) (hS : ∀ i, lo ≤ i → ¬ S i) : Rb w' lo B A n l := by
  obtain ⟨rl, h1, h2, h3, h4⟩ := h
  refine ⟨rl, h1, ⟨h2.1, fun hn => ?_⟩, h3.keep k hB (fun i hi _ => hS i hi), h4⟩
  obtain ⟨b, o, e, hb, hc⟩ := h2.2 hn
  exact ⟨b, o, e, hb, fun j u hu => (World.cell?_of_block (k.block b (by omega) (hS _ (h4 _ e hn)))).trans (hc j u hu)⟩
/-- the element j -/
theorem Rb.at_ (h : Rb w lo B A n l) {j : Nat} (hj : j < n) : ∃ b o A' c', A = some ⟨b, o, none⟩ ∧ b < B ∧ w.cell? ⟨b, o + j, none⟩ = some (.slice A' (l.getD j []).length c') ∧ Rd w B A' (l.getD j []).length (l.getD j []) ∧ (l.getD j []).length ≤ c' ∧ c' ≤ maxLen ∧ (A' = none → (l.getD j []).length = 0) ∧ (∀ a, A' = some a → lo ≤ a.block) := by
  obtain ⟨rl, h1, h2, h3, _⟩ := h
  have hlen := h2.1
  rw [length_rbcs, Nat.mul_one] at hlen
  obtain ⟨b, o, rfl, hb, hc⟩ := h2.2 (by omega)
  have hx : rl[j]? = some rl[j] := List.getElem?_eq_getElem (by omega)
  have hl : l.getD j [] = rl[j].d := by rw [← h1]; simp [List.getD, hx]
  obtain ⟨g1, g2, g3, g4, g5⟩ := h3 rl[j] (List.getElem_mem _)
  refine ⟨b, o, rl[j].A, rl[j].c, rfl, hb, ?_, ?_, ?_, g4, ?_, g2⟩
  · rw [hl, hc j (rbc rl[j]) (by rw [rbcs, List.getElem?_map, hx]; rfl)]; rfl
  · rw [hl]; exact g1
  · rw [hl]; exact g3
  · rw [hl]; exact g5
end
/-- '[]byte(s)' of the bytes d -/
theorem conv_bytes (d : List Int) (hd : By d) (w : World) (hl : d.length ≤ 1000000) : ∃ w' c, (convert 9 28 (.string (strOfNums d))).run Try.prog w = .ok (.slice (some ⟨w.heap.size, 0, none⟩) d.length c) w' ∧
    Rd w' (w.heap.size + 1) (some ⟨w.heap.size, 0, none⟩) d.length d ∧ Below w.heap.size w w' ∧ w'.heap.size = w.heap.size + 1 ∧ d.length ≤ c ∧ c ≤ maxLen := by
  have hs : (strOfNums d).size = d.length := by
    show (strOfNums d).data.size = _
    rw [← Array.length_toList, strOfNums_data]; simp
  have hr := Lib.run_convert_string_bytes (P := Try.prog) w 9 28 5 (strOfNums d) Try.underlying9 Try.underlying28 Try.underlying5
  rw [hs] at hr
  refine ⟨_, _, hr, ⟨rfl, hd, fun hn => ⟨_, 0, rfl, by omega, fun i hi => ?_⟩⟩, ?_, Lib.bytesWorld_size _ _ _, grownCap_ge _ _ _ _, grownCap_le_maxLen _ _ _ _ (by unfold maxLen; omega)⟩
  · rw [Nat.zero_add, Lib.bytesWorld_cell _ _ _ _ (by omega)]
    have h0 := hd.at_ i
    have : (strOfNums d).data.toList.getD i 0 = UInt8.ofNat (d.getD i 0).toNat := by
      rw [strOfNums_data]
      simp [List.getD, List.getElem?_map, List.getElem?_eq_getElem hi]
    rw [this]
    clear this
    generalize d.getD i 0 = x at h0 ⊢
    congr 2
    simp
    omega
  · refine ⟨rfl, rfl, rfl, ?_, fun j hj => Lib.bytesWorld_at_old _ _ _ j hj⟩
    rw [Lib.bytesWorld_size]; omega
end Go.Proofs.Ytgmejplcdecmkaa

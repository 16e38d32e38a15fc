/- Slices of numbers; SameInts. -/
import Derived.Test.YtiidkmnagfhgiaaOpen
namespace Go.Proofs.Ytiidkmnagfhgiaa
open Go.RowKit
set_option maxHeartbeats 4000000
set_option linter.unusedSimpArgs false
set_option linter.unusedVariables false
/-- numbers that fit an int -/
def I64 (l : List Int) : Prop := ∀ x ∈ l, -9223372036854775808 ≤ x ∧ x ≤ 9223372036854775807
def iv (l : List Int) : List Value := l.map (Value.int .i64)
/-- the slice at A of n elements reads as the numbers l; they lie below block B -/
def Ri (w : World) (B : Nat) (A : Option Addr) (n : Nat) (l : List Int) : Prop :=
  l.length = n ∧ I64 l ∧ (0 < n → ∃ b o, A = some ⟨b, o, none⟩ ∧ b < B ∧ ∀ i, i < n → w.cell? ⟨b, o + i, none⟩ = some (.int .i64 (l.getD i 0)))
section
variable {w w' : World} {B : Nat} {A : Option Addr} {n : Nat} {l : List Int}
theorem Ri.keep (h : Ri w B A n l) (hk : ∀ b o, b < B → w'.cell? ⟨b, o, none⟩ = w.cell? ⟨b, o, none⟩) : Ri w' B A n l :=
  ⟨h.1, h.2.1, fun hn => by
    obtain ⟨b, o, e, hb, hc⟩ := h.2.2 hn
    exact ⟨b, o, e, hb, fun i hi => (hk b _ hb).trans (hc i hi)⟩⟩
theorem Ri.below {B' : Nat} (h : Ri w B A n l) (k : Below B' w w') (hB : B ≤ B') : Ri w' B A n l := h.keep fun b o hb => k.cell (p := ⟨b, o, none⟩) (Nat.lt_of_lt_of_le hb hB)
theorem Ri.more {B' : Nat} (h : Ri w B A n l) (hB : B ≤ B') : Ri w B' A n l :=
  ⟨h.1, h.2.1, fun hn => by
    obtain ⟨b, o, e, hb, hc⟩ := h.2.2 hn
    exact ⟨b, o, e, by omega, hc⟩⟩
theorem Ri.drewN (h : Ri w B A n l) (k : Nat) : Ri (w.drewN k) B A n l := h
theorem Ri.nil (w : World) (B : Nat) (A : Option Addr) : Ri w B A 0 [] := ⟨rfl, (by intro x hx; cases hx), fun h => absurd h (by omega)⟩
theorem I64.at_ (h : I64 l) (i : Nat) : -9223372036854775808 ≤ l.getD i 0 ∧ l.getD i 0 ≤ 9223372036854775807 := by
  by_cases hi : i < l.length
  · have : l.getD i 0 ∈ l := by simp [List.getD, List.getElem?_eq_getElem hi]
    exact h _ this
  · simp [List.getD, List.getElem?_eq_none (by omega : l.length ≤ i)]
theorem Ri.of_own {base : Nat} {e : TypeId} {c : Nat} (h : w.ownsRow base e 1 (.slice A n c) n (iv l)) (hb : I64 l) : Ri w w.heap.size A n l := by
  have hlen : l.length = n := by have := h.1; simpa [iv] using this
  refine ⟨hlen, hb, fun hn => ?_⟩
  rcases h.2 with ⟨he, _⟩ | ⟨g, cap, cur, hv, _, hh, h1, h2, h3, h4⟩
  · simp at he; omega
  · injection hv with hv
    subst hv
    have hlt := lt_of_block hh
    refine ⟨g, 0, rfl, hlt, fun i hi => ?_⟩
    have hc := World.ownsRow.cellAt h (g := g) i (by omega)
    rw [Nat.zero_add, hc, iv]
    simp [List.getElem?_eq_getElem (by omega : i < l.length), List.getD]
end
theorem samei_any (A C : Option Addr) (n m cap caq : Nat) (l k : List Int) (w : World) (hn : n ≤ 140737488355328) (hm : m ≤ 140737488355328) (h : Ri w w.heap.size A n l) (g : Ri w w.heap.size C m k) :
    Calls Try.prog 23 #[.slice A n cap, .slice C m caq] w fun e w' => e = .returned (.bool (decide (l = k))) ∧ ∃ q, w' = w.drewN q := by
  obtain ⟨hl, hb, hr⟩ := h
  obtain ⟨gl, gb, gr⟩ := g
  by_cases hnm : n = m
  · subst hnm
    have HL := Lib.hid hl; have GL := Lib.hid gl; have HB := Lib.hid hb; have GB := Lib.hid gb
    clear hl gl hb gb
    go_enter Try.func23, Try.ntmps23
    go_wp2_with fail
    go_loopw [5] (fun s wr => ∃ (j q : Nat), s = .int .i64 j ∧ j ≤ n ∧ wr = w.drewN q ∧ Hid (∀ i, i < j → l.getD i 0 = k.getD i 0)) (fun s _ => n - (intOf s).toNat)
    case atStart => exact ⟨0, 0, by go_num, by omega, rfl, Lib.hid (fun i hi => absurd hi (by omega))⟩
    case round =>
      obtain ⟨j, q, rfl, hj, rfl, HA⟩ := hrel
      by_cases hlt : j < n
      · obtain ⟨b, o, rfl, hbl, hcl⟩ := hr (by omega)
        obtain ⟨b', o', rfl, hbl', hcl'⟩ := gr (by omega)
        have c1 := hcl j hlt
        have c2 := hcl' j hlt
        have E := Lib.hid (show ∀ x y : Int, l.getD j 0 = x → k.getD j 0 = y → x ≠ y → decide (l = k) = false from fun x y e1 e2 hxy => by
          rw [decide_eq_false_iff_not]
          rintro rfl
          exact hxy (e1.symm.trans e2))
        have F := Lib.hid (show ∀ x y : Int, l.getD j 0 = x → k.getD j 0 = y → x = y → ∀ i, i < j + 1 → l.getD i 0 = k.getD i 0 from fun x y e1 e2 hxy i hi => by
          rcases Nat.lt_or_ge i j with h | h
          · exact HA.out i h
          · obtain rfl : i = j := by omega
            rw [e1, e2, hxy])
        clear hr gr hcl hcl' HA
        obtain ⟨x, hx⟩ : ∃ x, l.getD j 0 = x := ⟨_, rfl⟩
        obtain ⟨y, hy⟩ : ∃ y, k.getD j 0 = y := ⟨_, rfl⟩
        rw [hx] at c1
        rw [hy] at c2
        have E1 := Lib.hid (E.out x y hx hy)
        have F1 := Lib.hid (F.out x y hx hy)
        clear E F hx hy
        by_cases hxy : x = y
        · have E2 := Lib.hid (F1.out hxy)
          subst hxy
          clear E1 F1
          go_wp2_with fail
          go_quiet (fail)
          go_wp2_with fail
          go_roundw
          case rel => exact ⟨j + 1, _, by go_num, by omega, rfl, E2⟩
          case measure => simp [intOf]; omega
        · have E2 := Lib.hid (E1.out hxy)
          have z : (x != y) = true := by simpa using hxy
          clear E1 F1 hxy
          go_wp2_with fail
          go_quiet (fail)
          go_wp2_with fail
          go_ret
          exact ⟨ret_bool E2.out.symm, _, World.drewN_drewN _ _ _⟩
      · obtain rfl : j = n := by omega
        have E := Lib.hid (show decide (l = k) = true from decide_eq_true (getD_eq (HL.out.trans GL.out.symm) (fun i hi => HA.out i (by rw [HL.out] at hi; exact hi))))
        clear hr gr HA
        go_wp2_with fail
        go_ret
        exact ⟨ret_bool E.out.symm, q, rfl⟩
  · have z : ((n : Int) != (m : Int)) = true := by simp; omega
    have E := Lib.hid (show decide (l = k) = false by rw [decide_eq_false_iff_not]; rintro rfl; omega)
    clear hl gl hr gr hnm hb gb
    go_enter Try.func23, Try.ntmps23
    go_wp2_with fail
    go_ret
    exact ⟨ret_bool E.out.symm, 0, rfl⟩
end Go.Proofs.Ytiidkmnagfhgiaa

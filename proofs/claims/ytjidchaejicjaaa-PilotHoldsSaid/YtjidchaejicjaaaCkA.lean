/- Plain facts about the numbers of clocks: no program in sight. -/
import Derived.Test.YtjidchaejicjaaaRows
import Derived.WalkKit
import Derived.WalkSpells
import Derived.WalkLawsBesides
import Derived.Deep.QuietTactic
import Derived.BigQuiet
import Derived.BigRegion
import Derived.Lib.Hide
import Derived.IntWalk
import Derived.KernelRfl
import Derived.Deep.RegionHeld3
import Derived.Deep.RegionLaw
import Derived.Deep.DeepCutAuto
namespace Go.Proofs.Ytjidchaejicjaaa.Ck
namespace Clk
set_option linter.unusedVariables false
set_option linter.unusedSimpArgs false
theorem tdiv_down (a b : Int) (h : 0 < b) : (if a.tmod b < 0 then a.tdiv b - 1 else a.tdiv b) = a / b := by
  have e : b * a.tdiv b + a.tmod b = a := Int.mul_tdiv_add_tmod a b
  have u : a.tmod b < b := Int.tmod_lt_of_pos a h
  have l : -b < a.tmod b := Int.lt_tmod_of_pos a h
  split
  · rename_i hn
    exact ((Int.ediv_emod_unique (a := a) (r := a.tmod b + b) (q := a.tdiv b - 1) h).2 ⟨by rw [Int.mul_sub]; omega, by omega, by omega⟩).1.symm
  · rename_i hn
    exact ((Int.ediv_emod_unique (a := a) (r := a.tmod b) (q := a.tdiv b) h).2 ⟨by omega, by omega, by omega⟩).1.symm
theorem grow_hi (l d : Int) (hd : 0 ≤ d) (hd' : d ≤ 100000) : -((-(l+1)*1000000) / (1000000 - d)) = ((l+1)*1000000 + (1000000 - d) - 1) / (1000000 - d) := by
  generalize hn : (l+1) * 1000000 = n
  rw [show -(l+1)*1000000 = -n by omega]
  generalize hk : 1000000 - d = k
  have hk0 : 0 < k := by omega
  have e := Int.mul_ediv_add_emod (-n) k
  have e1 := Int.emod_nonneg (-n) (b := k) (by omega)
  have e2 := Int.emod_lt_of_pos (-n) hk0
  refine ((Int.ediv_emod_unique (a := n + k - 1) (r := k - 1 - (-n) % k) (q := -(-n / k)) hk0).2 ⟨by rw [Int.mul_neg]; omega, by omega, by omega⟩).1.symm
theorem lo_le (l d : Int) (hl : 1 ≤ l) (hd : 0 ≤ d) (hd' : d ≤ 100000) : 0 ≤ (l-1) * 1000000 / (1000000 + d) ∧ (l-1) * 1000000 / (1000000 + d) ≤ l - 1 := by
  have hk0 : 0 < 1000000 + d := by omega
  have h0 : 0 ≤ (l-1) * d := Int.mul_nonneg (by omega) hd
  refine ⟨Int.ediv_nonneg (by omega) (by omega), Int.ediv_le_of_le_mul hk0 (by rw [Int.mul_add]; omega)⟩
theorem hi_ge (l d : Int) (hl : 0 ≤ l) (hd : 0 ≤ d) (hd' : d ≤ 100000) : l + 1 ≤ ((l+1) * 1000000 + (1000000 - d) - 1) / (1000000 - d) ∧ ((l+1) * 1000000 + (1000000 - d) - 1) / (1000000 - d) ≤ 2 * l + 3 := by
  have hk0 : 0 < 1000000 - d := by omega
  have h0 : 0 ≤ (l+1) * d := Int.mul_nonneg (by omega) hd
  have h1 : (l+1) * d ≤ (l+1) * 100000 := Int.mul_le_mul_of_nonneg_left hd' (by omega)
  refine ⟨(Int.le_ediv_iff_mul_le hk0).2 (by rw [Int.mul_sub]; omega), Int.ediv_le_of_le_mul hk0 ?_⟩
  rw [Int.mul_sub, show (2*l+3)*d = 2 * ((l+1)*d) + d by rw [Int.add_mul, Int.add_mul]; have := Int.mul_assoc 2 l d; omega]
  omega
def inB (n a b : Int) : Bool := decide (a ≤ n) && decide (n ≤ b)
theorem inB_iff {n a b : Int} : inB n a b = true ↔ a ≤ n ∧ n ≤ b := by simp [inB]
theorem inB_no {n a b : Int} : inB n a b = false ↔ ¬ (a ≤ n ∧ n ≤ b) := by rw [← inB_iff]; simp
def vB (lo hi : Int) : Bool := decide (-1073741824 ≤ lo) && decide (lo ≤ hi) && decide (hi ≤ 1073741824)
theorem vB_iff {lo hi : Int} : vB lo hi = true ↔ -1073741824 ≤ lo ∧ lo ≤ hi ∧ hi ≤ 1073741824 := by simp [vB, and_assoc]
theorem vB_no {lo hi : Int} : vB lo hi = false ↔ ¬ (-1073741824 ≤ lo ∧ lo ≤ hi ∧ hi ≤ 1073741824) := by rw [← vB_iff]; simp
/-- what bounds grow by -/
def up (d l : Int) : Int := (l - 1) * 1000000 / (1000000 + d)
def vp (d l : Int) : Int := ((l + 1) * 1000000 + (1000000 - d) - 1) / (1000000 - d)
def gLo (lo d l : Int) : Int := if 1 ≤ l then lo + up d l else lo
def gHi (hi d l : Int) : Int := hi + vp d l
/-- the parts of a grown bound, and the error -/
def rLo (lo hi d l : Int) : Int := if gHi hi d l ≤ 1073741824 then gLo lo d l else 0
def rHi (hi d l : Int) : Int := if gHi hi d l ≤ 1073741824 then gHi hi d l else 0
def rE (hi d l : Int) : Int := if gHi hi d l ≤ 1073741824 then 0 else 3
theorem vp_ge (d l : Int) (hl : 0 ≤ l) (hd : 0 ≤ d) (hd' : d ≤ 100000) : l + 1 ≤ vp d l ∧ vp d l ≤ 2 * l + 3 := hi_ge l d hl hd hd'
theorem rE_01 (hi d l : Int) : rE hi d l = 0 ∨ rE hi d l = 3 := by unfold rE; split <;> simp
theorem rE_three {hi d l : Int} (h : rE hi d l ≠ 0) : rE hi d l = 3 := by have := rE_01 hi d l; omega
theorem gLo_bd {lo d l : Int} (hl : 0 ≤ l) (hd : 0 ≤ d) (hd' : d ≤ 100000) : lo ≤ gLo lo d l ∧ gLo lo d l ≤ lo + l := by
  unfold gLo up
  split
  · rename_i h; have := lo_le l d h hd hd'; omega
  · omega
/-- where growing does not fail: the parts lie as they should -/
theorem r_ok {lo hi d l : Int} (h : rE hi d l = 0) (h1 : -1073741824 ≤ lo) (h2 : lo ≤ hi) (hl : 0 ≤ l) (hd : 0 ≤ d) (hd' : d ≤ 100000) :
    lo ≤ rLo lo hi d l ∧ rLo lo hi d l ≤ rHi hi d l ∧ rHi hi d l ≤ 1073741824 ∧ hi + l + 1 ≤ rHi hi d l ∧ rLo lo hi d l ≤ lo + l := by
  have a := vp_ge d l hl hd hd'
  have b := gLo_bd (lo := lo) hl hd hd'
  unfold rE at h
  split at h
  · rename_i g
    rw [rLo, rHi, if_pos g, if_pos g]
    unfold gHi at *
    omega
  · omega
def xOk (a g k h : Int) : Bool := decide (-1073741824 ≤ a) && decide (a ≤ h) && decide (h ≤ 1073741824) && decide (0 ≤ g) && decide (g ≤ k) && decide (k ≤ 3600000)
theorem xOk_iff {a g k h : Int} : xOk a g k h = true ↔ -1073741824 ≤ a ∧ a ≤ h ∧ h ≤ 1073741824 ∧ 0 ≤ g ∧ g ≤ k ∧ k ≤ 3600000 := by simp [xOk, and_assoc]
def nLo (d r : Int) (s : Bool) (lo hi k h : Int) : Int := if s then max (rLo lo hi d (h - r)) k else k
def nHi (d r : Int) (s : Bool) (hi a g h : Int) : Int := if s then min (rHi hi d (h - r)) (rHi g d (h - a)) else rHi g d (h - a)
def addE (d r : Int) (s : Bool) (lo hi a g k h : Int) : Int :=
  if xOk a g k h = false then 2 else if s = true ∧ h < r then 3 else if s = true ∧ rE hi d (h - r) ≠ 0 then 3 else if rE g d (h - a) ≠ 0 then 3 else
  if nHi d r s hi a g h < nLo d r s lo hi k h then 10 else 0
def addR (d r : Int) (s : Bool) (lo hi a g k h : Int) : Int := if addE d r s lo hi a g k h = 0 then h else r
def addS (d r : Int) (s : Bool) (lo hi a g k h : Int) : Bool := if addE d r s lo hi a g k h = 0 then true else s
def addLo (d r : Int) (s : Bool) (lo hi a g k h : Int) : Int := if addE d r s lo hi a g k h = 0 then nLo d r s lo hi k h else lo
def addHi (d r : Int) (s : Bool) (lo hi a g k h : Int) : Int := if addE d r s lo hi a g k h = 0 then nHi d r s hi a g h else hi
theorem addE_bad {d r : Int} {s : Bool} {lo hi a g k h : Int} (x : xOk a g k h = false) : addE d r s lo hi a g k h = 2 := by rw [addE, if_pos x]
theorem addE_early {d r : Int} {lo hi a g k h : Int} (x : xOk a g k h = true) (y : h < r) : addE d r true lo hi a g k h = 3 := by simp [addE, x, y]
theorem addE_old {d r : Int} {lo hi a g k h : Int} (x : xOk a g k h = true) (y : r ≤ h) (z : rE hi d (h - r) ≠ 0) : addE d r true lo hi a g k h = 3 := by simp [addE, x, z]
theorem addE_said {d r : Int} {s : Bool} {lo hi a g k h : Int} (x : xOk a g k h = true) (y : s = true → r ≤ h ∧ rE hi d (h - r) = 0) (z : rE g d (h - a) ≠ 0) : addE d r s lo hi a g k h = 3 := by
  cases s
  · simp [addE, x, z]
  · obtain ⟨y1, y2⟩ := y rfl
    simp [addE, x, y2, z]
theorem addE_check {d r : Int} {s : Bool} {lo hi a g k h : Int} (x : xOk a g k h = true) (y : s = true → r ≤ h ∧ rE hi d (h - r) = 0) (z : rE g d (h - a) = 0) (v : nHi d r s hi a g h < nLo d r s lo hi k h) : addE d r s lo hi a g k h = 10 := by
  cases s
  · simp [addE, x, z, v]
  · obtain ⟨y1, y2⟩ := y rfl
    simp [addE, x, y2, z, v]; omega
theorem addE_ok {d r : Int} {s : Bool} {lo hi a g k h : Int} (x : xOk a g k h = true) (y : s = true → r ≤ h ∧ rE hi d (h - r) = 0) (z : rE g d (h - a) = 0) (v : nLo d r s lo hi k h ≤ nHi d r s hi a g h) : addE d r s lo hi a g k h = 0 := by
  cases s
  · simp [addE, x, z]; omega
  · obtain ⟨y1, y2⟩ := y rfl
    simp [addE, x, y2, z]; omega
theorem nLo_if {d r lo hi k h : Int} : nLo d r true lo hi k h = if rLo lo hi d (h - r) < k then k else rLo lo hi d (h - r) := by unfold nLo; rw [if_pos rfl]; split <;> omega
theorem nHi_if {d r hi a g h : Int} : nHi d r true hi a g h = if rHi g d (h - a) < rHi hi d (h - r) then rHi g d (h - a) else rHi hi d (h - r) := by unfold nHi; rw [if_pos rfl]; split <;> omega
theorem next_check' {d r lo hi a g k h : Int} (x : xOk a g k h = true) (y : r ≤ h) (u : (rE hi d (h - r) != 0) = false) (z : (rE g d (h - a) != 0) = false) (v : nHi d r true hi a g h < nLo d r true lo hi k h) : addE d r true lo hi a g k h = 10 :=
  addE_check x (fun _ => ⟨y, by simpa using u⟩) (by simpa using z) v
theorem next_ok' {d r lo hi a g k h : Int} (x : xOk a g k h = true) (y : r ≤ h) (u : (rE hi d (h - r) != 0) = false) (z : (rE g d (h - a) != 0) = false) (v : nLo d r true lo hi k h ≤ nHi d r true hi a g h) : addE d r true lo hi a g k h = 0 :=
  addE_ok x (fun _ => ⟨y, by simpa using u⟩) (by simpa using z) v
theorem first_said {d r lo hi a g k h : Int} (x : xOk a g k h = true) (z : (rE g d (h - a) != 0) = true) : addE d r false lo hi a g k h = rE g d (h - a) ∧ rE g d (h - a) ≠ 0 := by
  have z' := bne_iff_ne.1 z
  exact ⟨(addE_said x (by simp) z').trans (rE_three z').symm, z'⟩
theorem first_check {d r lo hi a g k h : Int} (x : xOk a g k h = true) (z : (rE g d (h - a) != 0) = false) (v : rHi g d (h - a) < k) : addE d r false lo hi a g k h = 10 :=
  addE_check x (by simp) (by simpa using z) (by simpa [nHi, nLo] using v)
theorem first_ok {d r lo hi a g k h : Int} (x : xOk a g k h = true) (z : (rE g d (h - a) != 0) = false) (v : k ≤ rHi g d (h - a)) : addE d r false lo hi a g k h = 0 :=
  addE_ok x (by simp) (by simpa using z) (by simpa [nHi, nLo] using v)
theorem next_old {d r lo hi a g k h : Int} (x : xOk a g k h = true) (y : r ≤ h) (z : (rE hi d (h - r) != 0) = true) : addE d r true lo hi a g k h = rE hi d (h - r) ∧ rE hi d (h - r) ≠ 0 := by
  have z' := bne_iff_ne.1 z
  exact ⟨(addE_old x y z').trans (rE_three z').symm, z'⟩
theorem next_said {d r lo hi a g k h : Int} (x : xOk a g k h = true) (y : r ≤ h) (u : (rE hi d (h - r) != 0) = false) (z : (rE g d (h - a) != 0) = true) : addE d r true lo hi a g k h = rE g d (h - a) ∧ rE g d (h - a) ≠ 0 := by
  have z' := bne_iff_ne.1 z
  exact ⟨(addE_said x (fun _ => ⟨y, by simpa using u⟩) z').trans (rE_three z').symm, z'⟩
theorem next_check {d r lo hi a g k h : Int} (x : xOk a g k h = true) (y : r ≤ h) (u : (rE hi d (h - r) != 0) = false) (z : (rE g d (h - a) != 0) = false) (v : min (rHi hi d (h - r)) (rHi g d (h - a)) < max (rLo lo hi d (h - r)) k) : addE d r true lo hi a g k h = 10 :=
  addE_check x (fun _ => ⟨y, by simpa using u⟩) (by simpa using z) (by unfold nHi nLo; rw [if_pos rfl, if_pos rfl]; exact v)
theorem next_ok {d r lo hi a g k h : Int} (x : xOk a g k h = true) (y : r ≤ h) (u : (rE hi d (h - r) != 0) = false) (z : (rE g d (h - a) != 0) = false) (v : max (rLo lo hi d (h - r)) k ≤ min (rHi hi d (h - r)) (rHi g d (h - a))) : addE d r true lo hi a g k h = 0 :=
  addE_ok x (fun _ => ⟨y, by simpa using u⟩) (by simpa using z) (by unfold nHi nLo; rw [if_pos rfl, if_pos rfl]; exact v)
/-- how many places below n say no -/
def cnt (p : Nat → Bool) : Nat → Nat
  | 0 => 0
  | n + 1 => cnt p n + if p n then 0 else 1
theorem cnt_le (p : Nat → Bool) : ∀ n, cnt p n ≤ n
  | 0 => Nat.le_refl _
  | n + 1 => by have := cnt_le p n; unfold cnt; split <;> omega
theorem cnt_all (p : Nat → Bool) : ∀ n, (∀ t, t < n → p t = false) → cnt p n = n
  | 0, _ => rfl
  | n + 1, h => by unfold cnt; rw [cnt_all p n (fun t ht => h t (by omega)), h n (by omega)]; rfl
theorem cnt_eq (p : Nat → Bool) (m : Nat) : ∀ n, m ≤ n → (∀ t, t < m → p t = false) → (∀ t, m ≤ t → t < n → p t = true) → cnt p n = m
  | 0, h, _, _ => by have : m = 0 := by omega
                     subst this; rfl
  | n + 1, h, h1, h2 => by
    by_cases e : m = n + 1
    · subst e; exact cnt_all p _ h1
    · unfold cnt
      rw [cnt_eq p m n (by omega) h1 (fun t a b => h2 t a (by omega)), h2 n (by omega) (by omega)]
      rfl
theorem up_mono {d a b : Int} (hd : 0 ≤ d) (h : a ≤ b) : up d a ≤ up d b := by
  unfold up
  exact Int.ediv_le_ediv (by omega) (Int.mul_le_mul_of_nonneg_right (by omega) (by omega))
theorem gLo_mono {lo d a b : Int} (hd : 0 ≤ d) (hd' : d ≤ 100000) (ha : 0 ≤ a) (h : a ≤ b) : gLo lo d a ≤ gLo lo d b := by
  by_cases h1 : 1 ≤ a
  · rw [gLo, gLo, if_pos h1, if_pos (by omega)]; have := up_mono (d := d) hd h; omega
  · have e : gLo lo d a = lo := by rw [gLo, if_neg h1]
    have := gLo_bd (lo := lo) (d := d) (l := b) (by omega) hd hd'
    omega
def suP (d lo time : Int) (i : Nat) : Bool := decide (time ≤ gLo lo d i)
theorem suP_mono {d lo time : Int} (hd : 0 ≤ d) (hd' : d ≤ 100000) (a b : Nat) (h : a ≤ b) (p : suP d lo time a = true) : suP d lo time b = true := by
  unfold suP at *
  have := gLo_mono (lo := lo) (d := d) (a := a) (b := b) hd hd' (by omega) (by omega)
  simp at *; omega
def suN (r : Int) : Nat := (1073741824 - r + 1).toNat
def suM (d r lo time : Int) : Nat := cnt (suP d lo time) (suN r)
def suE (d r : Int) (s : Bool) (lo time : Int) : Int := if inB time 0 3600000 = false then 2 else if s = false then 9 else if suM d r lo time = suN r then 3 else 0
def suV (d r : Int) (s : Bool) (lo time : Int) : Int := if suE d r s lo time = 0 then r + suM d r lo time else 0
/-- what a clock holds, always -/
def CInv (d r lo hi : Int) : Prop := 0 ≤ d ∧ d ≤ 100000 ∧ -1073741824 ≤ r ∧ r ≤ 1073741824 ∧ -1073741824 ≤ lo ∧ lo ≤ hi ∧ hi ≤ 1073741824
theorem add_inv {d r : Int} {s : Bool} {lo hi a g k h : Int} (c : CInv d r lo hi) : CInv d (addR d r s lo hi a g k h) (addLo d r s lo hi a g k h) (addHi d r s lo hi a g k h) := by
  unfold addR addLo addHi
  by_cases e : addE d r s lo hi a g k h = 0
  · rw [if_pos e, if_pos e, if_pos e]
    obtain ⟨c1, c2, c3, c4, c5, c6, c7⟩ := c
    have x : xOk a g k h = true := by
      cases hx : xOk a g k h with
      | true => rfl
      | false => rw [addE, if_pos hx] at e; omega
    rw [addE, if_neg (by simp [x])] at e
    rw [xOk_iff] at x
    split at e
    · omega
    split at e
    · omega
    split at e
    · omega
    split at e
    · omega
    rename_i n1 n2 n3 n4
    have e3 : rE g d (h - a) = 0 := by omega
    have o := r_ok (lo := g) e3 (by omega) (by omega) (by omega) c1 c2
    refine ⟨c1, c2, by omega, by omega, ?_, by omega, ?_⟩
    · unfold nLo; split <;> omega
    · unfold nHi; split <;> omega
  · rw [if_neg e, if_neg e, if_neg e]; exact c
end Clk
end Go.Proofs.Ytjidchaejicjaaa.Ck
/- Contracts of the functions on plain numbers and bounds. -/
namespace Go.Proofs.Ytjidchaejicjaaa.Ck
open Go.RowKit
set_option maxHeartbeats 4000000
theorem ret_bool {a b : Bool} (h : a = b) : Ending.returned (.bool a) = .returned (.bool b) := by rw [h]
theorem ret_int {k : IntKind} {a b : Int} (h : a = b) : Ending.returned (.int k a) = .returned (.int k b) := by rw [h]
theorem ret_ii {k j : IntKind} {a b c d : Int} (h : a = b) (g : c = d) : Ending.returned (.tuple #[.int k a, .int j c]) = .returned (.tuple #[.int k b, .int j d]) := by rw [h, g]
theorem ret_bb {k j l : IntKind} {a b c d e f : Int} (h : a = b) (g : c = d) (i : e = f) : Ending.returned (.tuple #[.agg #[.int k a, .int j c], .int l e]) = .returned (.tuple #[.agg #[.int k b, .int j d], .int l f]) := by rw [h, g, i]
theorem bcell {W w1 : World} (hb : Below W.heap.size W w1) : (∀ b o, b < W.heap.size → w1.cell? ⟨b, o, none⟩ = W.cell? ⟨b, o, none⟩) ∧ (∀ b o, b < W.heap.size → w1.frozen? ⟨b, o, none⟩ = W.frozen? ⟨b, o, none⟩) :=
  ⟨fun b o h => hb.cell (p := ⟨b, o, none⟩) h, fun b o h => hb.frozen (p := ⟨b, o, none⟩) h⟩
theorem within_any (n a b : Int) (w : World) :
    Calls Try.prog 53 #[.int .i64 n, .int .i64 a, .int .i64 b] w fun e w' => e = .returned (.bool (Clk.inB n a b)) ∧ w = w' := by
  by_cases h : a ≤ n
  all_goals
    go_enter Try.func53, Try.ntmps53
    go_wp2_with fail
    go_ret
    exact ⟨ret_bool (by simp [Clk.inB, h]; try omega), rfl⟩
theorem within_yes (n a b : Int) (w : World) (h : a ≤ n ∧ n ≤ b) :
    Calls Try.prog 53 #[.int .i64 n, .int .i64 a, .int .i64 b] w fun e w' => e = .returned (.bool true) ∧ w = w' :=
  (within_any n a b w).mono fun e w' ⟨h1, h2⟩ => ⟨by rw [h1, Clk.inB_iff.2 h], h2⟩
theorem to_any (n a b : Int) (w : World) :
    Calls Try.prog 73 #[.int .i64 n, .int .i64 a, .int .i64 b] w fun e w' => e = .returned (.bool (Clk.inB n a b)) ∧ w = w' := by
  by_cases h : a ≤ n
  all_goals
    go_enter Try.func73, Try.ntmps73
    go_wp2_with fail
    go_ret
    exact ⟨ret_bool (by simp [Clk.inB, h]; try omega), rfl⟩
theorem to_yes (n a b : Int) (w : World) (h : a ≤ n ∧ n ≤ b) :
    Calls Try.prog 73 #[.int .i64 n, .int .i64 a, .int .i64 b] w fun e w' => e = .returned (.bool true) ∧ w = w' :=
  (to_any n a b w).mono fun e w' ⟨h1, h2⟩ => ⟨by rw [h1, Clk.inB_iff.2 h], h2⟩
theorem down_any (a b : Int) (w : World) (h : 0 < b) (ha : -9000000000000000000 ≤ a ∧ a ≤ 9000000000000000000) :
    Calls Try.prog 89 #[.int .i64 a, .int .i64 b] w fun e w' => e = .returned (.int .i64 (a / b)) ∧ w = w' := by
  have H := Lib.hid (Clk.tdiv_down a b h)
  have q1 : -9000000000000000000 ≤ a.tdiv b ∧ a.tdiv b ≤ 9000000000000000000 := by
    have := Int.natAbs_tdiv_le_natAbs a b
    omega
  go_enter Try.func89, Try.ntmps89
  go_wp2_with fail
  all_goals go_ret
  · exact ⟨ret_int (by rw [← H.out, if_pos (by assumption)]), rfl⟩
  · exact ⟨ret_int (by rw [← H.out, if_neg (by omega)]), rfl⟩
/-- what a clock shows, and the error -/
def lV (o r t : Int) : Int := if Clk.inB o (-3600000) 3600000 && Clk.inB r (-100000) 100000 && Clk.inB t 0 3600000 then o + t * (1000000 + r) / 1000000 else 0
def lE (o r t : Int) : Int := if Clk.inB o (-3600000) 3600000 && Clk.inB r (-100000) 100000 && Clk.inB t 0 3600000 then 0 else 2
theorem rvalid_any (a b : Int) (w : World) :
    Calls Try.prog 88 #[.agg #[.int .i64 a, .int .i64 b]] w fun e w' => e = .returned (.bool (Clk.vB a b)) ∧ Below w.heap.size w w' := by
  by_cases h : -1073741824 ≤ a
  all_goals by_cases h2 : a ≤ b
  all_goals
    go_enter Try.func88, Try.ntmps88
    go_wp2_with fail
    go_ret
    exact ⟨ret_bool (by simp [Clk.vB, h, h2]; try omega), (by repeat (first | (with_reducible exact Below.refl _ _) | (with_reducible refine Below.drew ?_) | (with_reducible refine below_drewN ?_ _) | ((with_reducible refine Below.alloc ?_ ?_ _); rotate_left; (first | omega | (simp <;> omega)); rotate_right) | ((with_reducible refine Below.setCell ?_ ?_ _); rotate_left; (first | omega | (simp <;> omega)); rotate_right) | (with_reducible assumption) | (refine Below.trans ?_ (Below.mono (by assumption) ?_); rotate_left; (first | omega | (simp <;> omega)); rotate_right)))⟩
set_option maxRecDepth 100000 in
theorem grow_any (lo hi d l : Int) (w : World) (h1 : -1073741824 ≤ lo) (h2 : lo ≤ hi) (h3 : hi ≤ 1073741824) (hd0 : 0 ≤ d) (hd1 : d ≤ 100000) (hl0 : 0 ≤ l) (hl1 : l ≤ 2147483648) :
    Calls Try.prog 61 #[.agg #[.int .i64 lo, .int .i64 hi], .int .i64 d, .int .i64 l] w fun e w' => e = .returned (.tuple #[.agg #[.int .i64 (Clk.rLo lo hi d l), .int .i64 (Clk.rHi hi d l)], .int .i64 (Clk.rE hi d l)]) ∧ Below w.heap.size w w' := by
  have a2 := Clk.hi_ge l d hl0 hd0 hd1
  by_cases hl : 1 ≤ l
  · have a1 := Clk.lo_le l d hl hd0 hd1
    have c1 := Lib.hid (show Clk.gHi hi d l ≤ 1073741824 → Clk.rLo lo hi d l = lo + (l - 1) * 1000000 / (1000000 + d) ∧ Clk.rHi hi d l = hi + ((l+1)*1000000 + (1000000 - d) - 1) / (1000000 - d) ∧ Clk.rE hi d l = 0 from fun h => ⟨by rw [Clk.rLo, if_pos h, Clk.gLo, if_pos hl]; rfl, by rw [Clk.rHi, if_pos h]; rfl, by rw [Clk.rE, if_pos h]⟩)
    have c2 := Lib.hid (show ¬ Clk.gHi hi d l ≤ 1073741824 → Clk.rLo lo hi d l = 0 ∧ Clk.rHi hi d l = 0 ∧ Clk.rE hi d l = 3 from fun h => ⟨by rw [Clk.rLo, if_neg h], by rw [Clk.rHi, if_neg h], by rw [Clk.rE, if_neg h]⟩)
    go_enter Try.func61, Try.ntmps61
    go_wp2_with fail
    go_region
    all_goals go_wp2_with fail
    all_goals go_region
    all_goals go_wp2_with fail
    · obtain ⟨d1, d2, d3⟩ := c2.out (by simp only [Clk.gHi, Clk.vp]; omega)
      refine bodyPost_ret (v := .tuple #[.agg #[.int .i64 0, .int .i64 0], .int .i64 3]) (by simp [results, Try.results61, go_sem]) rfl ⟨ret_bb d1.symm d2.symm d3.symm, (by repeat (first | (with_reducible exact Below.refl _ _) | (with_reducible refine Below.drew ?_) | (with_reducible refine below_drewN ?_ _) | ((with_reducible refine Below.alloc ?_ ?_ _); rotate_left; (first | omega | (simp <;> omega)); rotate_right) | ((with_reducible refine Below.setCell ?_ ?_ _); rotate_left; (first | omega | (simp <;> omega)); rotate_right) | (with_reducible assumption) | (refine Below.trans ?_ (Below.mono (by assumption) ?_); rotate_left; (first | omega | (simp <;> omega)); rotate_right)))⟩
    · obtain ⟨d1, d2, d3⟩ := c1.out (by simp only [Clk.gHi, Clk.vp]; omega)
      refine bodyPost_ret (v := .tuple #[.agg #[.int .i64 (lo + (l - 1) * 1000000 / (1000000 + d)), .int .i64 (hi + ((l+1)*1000000 + (1000000 - d) - 1) / (1000000 - d))], .int .i64 0]) (by simp [results, Try.results61, go_sem]) rfl ⟨ret_bb d1.symm d2.symm d3.symm, (by repeat (first | (with_reducible exact Below.refl _ _) | (with_reducible refine Below.drew ?_) | (with_reducible refine below_drewN ?_ _) | ((with_reducible refine Below.alloc ?_ ?_ _); rotate_left; (first | omega | (simp <;> omega)); rotate_right) | ((with_reducible refine Below.setCell ?_ ?_ _); rotate_left; (first | omega | (simp <;> omega)); rotate_right) | (with_reducible assumption) | (refine Below.trans ?_ (Below.mono (by assumption) ?_); rotate_left; (first | omega | (simp <;> omega)); rotate_right)))⟩
  · obtain rfl : l = 0 := by omega
    have c1 := Lib.hid (show Clk.gHi hi d 0 ≤ 1073741824 → Clk.rLo lo hi d 0 = lo ∧ Clk.rHi hi d 0 = hi + ((0+1)*1000000 + (1000000 - d) - 1) / (1000000 - d) ∧ Clk.rE hi d 0 = 0 from fun h => ⟨by rw [Clk.rLo, if_pos h, Clk.gLo, if_neg hl], by rw [Clk.rHi, if_pos h]; rfl, by rw [Clk.rE, if_pos h]⟩)
    have c2 := Lib.hid (show ¬ Clk.gHi hi d 0 ≤ 1073741824 → Clk.rLo lo hi d 0 = 0 ∧ Clk.rHi hi d 0 = 0 ∧ Clk.rE hi d 0 = 3 from fun h => ⟨by rw [Clk.rLo, if_neg h], by rw [Clk.rHi, if_neg h], by rw [Clk.rE, if_neg h]⟩)
    simp only [Int.zero_add, Int.one_mul] at a2 c1
    go_enter Try.func61, Try.ntmps61
    go_wp2_with fail
    go_region
    all_goals go_wp2_with fail
    all_goals go_region
    all_goals go_wp2_with fail
    · obtain ⟨d1, d2, d3⟩ := c2.out (by simp only [Clk.gHi, Clk.vp, Int.zero_add, Int.one_mul]; omega)
      refine bodyPost_ret (v := .tuple #[.agg #[.int .i64 0, .int .i64 0], .int .i64 3]) (by simp [results, Try.results61, go_sem]) rfl ⟨ret_bb d1.symm d2.symm d3.symm, (by repeat (first | (with_reducible exact Below.refl _ _) | (with_reducible refine Below.drew ?_) | (with_reducible refine below_drewN ?_ _) | ((with_reducible refine Below.alloc ?_ ?_ _); rotate_left; (first | omega | (simp <;> omega)); rotate_right) | ((with_reducible refine Below.setCell ?_ ?_ _); rotate_left; (first | omega | (simp <;> omega)); rotate_right) | (with_reducible assumption) | (refine Below.trans ?_ (Below.mono (by assumption) ?_); rotate_left; (first | omega | (simp <;> omega)); rotate_right)))⟩
    · obtain ⟨d1, d2, d3⟩ := c1.out (by simp only [Clk.gHi, Clk.vp, Int.zero_add, Int.one_mul]; omega)
      refine bodyPost_ret (v := .tuple #[.agg #[.int .i64 lo, .int .i64 (hi + (1000000 + (1000000 - d) - 1) / (1000000 - d))], .int .i64 0]) (by simp [results, Try.results61, go_sem]) rfl ⟨ret_bb d1.symm d2.symm d3.symm, (by repeat (first | (with_reducible exact Below.refl _ _) | (with_reducible refine Below.drew ?_) | (with_reducible refine below_drewN ?_ _) | ((with_reducible refine Below.alloc ?_ ?_ _); rotate_left; (first | omega | (simp <;> omega)); rotate_right) | ((with_reducible refine Below.setCell ?_ ?_ _); rotate_left; (first | omega | (simp <;> omega)); rotate_right) | (with_reducible assumption) | (refine Below.trans ?_ (Below.mono (by assumption) ?_); rotate_left; (first | omega | (simp <;> omega)); rotate_right)))⟩
end Go.Proofs.Ytjidchaejicjaaa.Ck
/- Contracts of the clock's small methods. -/
namespace Go.Proofs.Ytjidchaejicjaaa.Ck
open Go.RowKit
set_option maxHeartbeats 4000000
set_option linter.unusedSimpArgs false
set_option linter.unusedVariables false
/-- block b of the world is a clock -/
def IsClk (w : World) (b : Nat) (d r : Int) (m s : Bool) (lo hi : Int) : Prop := w.heap[b]? = some (.cells #[.int .i64 d, .int .i64 r, .bool m, .bool s, .int .i64 lo, .int .i64 hi] 100 (0, 0))
theorem heap_new (w : World) (o : Obj) : (w.alloc o).heap[w.heap.size]? = some o := by show (w.heap.push o)[w.heap.size]? = _; simp
theorem heap_new' (w : World) (o : Obj) (q : Nat) (hq : q = w.heap.size) : (w.alloc o).heap[q]? = some o := by subst hq; exact heap_new w o
theorem clk_cells {w : World} {b : Nat} {d r : Int} {m s : Bool} {lo hi : Int} (h : IsClk w b d r m s lo hi) :
    w.cell? ⟨b, 0, none⟩ = some (.int .i64 d) ∧ w.cell? ⟨b, 1, none⟩ = some (.int .i64 r) ∧ w.cell? ⟨b, 2, none⟩ = some (.bool m) ∧ w.cell? ⟨b, 3, none⟩ = some (.bool s) ∧ w.cell? ⟨b, 4, none⟩ = some (.int .i64 lo) ∧ w.cell? ⟨b, 5, none⟩ = some (.int .i64 hi) := by
  unfold IsClk at h
  simp [World.cell?, h]
theorem clk_free {w : World} {b : Nat} {d r : Int} {m s : Bool} {lo hi : Int} (h : IsClk w b d r m s lo hi) :
    w.frozen? ⟨b, 0, none⟩ = false ∧ w.frozen? ⟨b, 1, none⟩ = false ∧ w.frozen? ⟨b, 2, none⟩ = false ∧ w.frozen? ⟨b, 3, none⟩ = false ∧ w.frozen? ⟨b, 4, none⟩ = false ∧ w.frozen? ⟨b, 5, none⟩ = false := by
  unfold IsClk at h
  simp [World.frozen?, h]
theorem blk_cell {w : World} {q : Nat} {l : List Value} {t : TypeId} (h : w.heap[q]? = some (.cells l.toArray t (0, 0))) (i : Nat) {v : Value} (hv : l[i]? = some v) : w.cell? ⟨q, i, none⟩ = some v := by simp [World.cell?, h, hv]
theorem clk_blk {w : World} {b : Nat} {d r : Int} {m s : Bool} {lo hi : Int} (h : IsClk w b d r m s lo hi) : w.heap[b]? = some (.cells #[.int .i64 d, .int .i64 r, .bool m, .bool s, .int .i64 lo, .int .i64 hi] 100 (0, 0)) := h
theorem blk_free {w : World} {q : Nat} {cs : Array Value} {t : TypeId} (h : w.heap[q]? = some (.cells cs t (0, 0))) (i : Nat) : w.frozen? ⟨q, i, none⟩ = false := by simp [World.frozen?, h]
theorem blk_alloc {w : World} {q : Nat} {x : Obj} (h : w.heap[q]? = some x) (o : Obj) : (w.alloc o).heap[q]? = some x := (Below.heap_alloc w o q (lt_of_block h)).trans h
theorem blk_drew {w : World} {q : Nat} {x : Obj} (h : w.heap[q]? = some x) : w.drew.heap[q]? = some x := h
theorem blk_far {w : World} {q : Nat} {x : Obj} (h : w.heap[q]? = some x) {a : Addr} (ha : q ≠ a.block) (u : Value) : (w.setCell a u).heap[q]? = some x := (Below.heap_setCell w a u q ha).trans h
theorem blk_set {w : World} {q : Nat} {cs : Array Value} {t : TypeId} (h : w.heap[q]? = some (.cells cs t (0, 0))) (i : Nat) (u : Value) : (w.setCell ⟨q, i, none⟩ u).heap[q]? = some (.cells (cs.setIfInBounds i u) t (0, 0)) := by
  have hlt := lt_of_block h
  have h' : w.heap[q] = .cells cs t (0, 0) := by simpa [Array.getElem?_eq_getElem hlt] using h
  show (w.heap.modify q _)[q]? = _
  rw [Array.getElem?_eq_getElem (by simpa using hlt), Array.getElem_modify_self, h']
  rfl
theorem blk_below {B : Nat} {w w' : World} {q : Nat} {x : Obj} (h : w.heap[q]? = some x) (k : Below B w w') (hq : q < B) : w'.heap[q]? = some x := (k.block q hq).trans h
theorem clk_lt {w : World} {b : Nat} {d r : Int} {m s : Bool} {lo hi : Int} (h : IsClk w b d r m s lo hi) : b < w.heap.size := lt_of_block h
theorem clk_below {B : Nat} {w w' : World} {b : Nat} {d r : Int} {m s : Bool} {lo hi : Int} (h : IsClk w b d r m s lo hi) (k : Below B w w') (hb : b < B) : IsClk w' b d r m s lo hi := (k.block b hb).trans h
theorem clk_alloc {w : World} {b : Nat} {d r : Int} {m s : Bool} {lo hi : Int} (h : IsClk w b d r m s lo hi) (o : Obj) : IsClk (w.alloc o) b d r m s lo hi := (Below.heap_alloc w o b (clk_lt h)).trans h
theorem clk_far {w : World} {b : Nat} {d r : Int} {m s : Bool} {lo hi : Int} (h : IsClk w b d r m s lo hi) {a : Addr} (ha : b ≠ a.block) (u : Value) : IsClk (w.setCell a u) b d r m s lo hi := blk_far h ha u
theorem clk_drew {w : World} {b : Nat} {d r : Int} {m s : Bool} {lo hi : Int} (h : IsClk w b d r m s lo hi) : IsClk w.drew b d r m s lo hi := h
/-- only block g, and what is new, has turned -/
theorem only_drew {a w : World} {row : Option Nat} (h : a.grownBy w row) : a.grownBy w.drew row := ⟨h.os, h.tape, h.output, h.size, h.block⟩
theorem only_alloc {a w : World} {row : Option Nat} (h : a.grownBy w row) (o : Obj) : a.grownBy (w.alloc o) row :=
  ⟨h.os, h.tape, h.output, Nat.le_trans h.size (by simp), fun i hi hne => (Below.heap_alloc w o i (Nat.lt_of_lt_of_le hi h.size)).trans (h.block i hi hne)⟩
theorem only_setCell {a w : World} {g : Nat} (h : a.grownBy w (some g)) {p : Addr} (hp : p.block = g ∨ a.heap.size ≤ p.block) (u : Value) : a.grownBy (w.setCell p u) (some g) :=
  ⟨h.os, h.tape, h.output, by simpa [World.setCell] using h.size, fun i hi hne => (Below.heap_setCell w p u i (by
    rintro rfl
    rcases hp with hp | hp
    · exact hne (by rw [hp])
    · omega)).trans (h.block i hi hne)⟩
theorem only_of_below {a w : World} (h : Below a.heap.size a w) (row : Option Nat) : a.grownBy w row := ⟨h.os, h.tape, h.output, h.size, fun i hi _ => h.block i hi⟩
theorem only_below {a w w' : World} {row : Option Nat} {B : Nat} (h : a.grownBy w row) (k : Below B w w') (hB : a.heap.size ≤ B) : a.grownBy w' row :=
  ⟨k.os.trans h.os, k.tape.trans h.tape, k.output.trans h.output, Nat.le_trans h.size k.size, fun i hi hne => (k.block i (by omega)).trans (h.block i hi hne)⟩
theorem below_of_only {B : Nat} {a w w' : World} {g : Nat} (h : Below B a w) (k : w.grownBy w' (some g)) (hB : B ≤ w.heap.size) (hg : B ≤ g) : Below B a w' := h.grown k hB (fun i hi => by cases hi; exact hg)
theorem only_drewN {a w : World} {row : Option Nat} (h : a.grownBy w row) (n : Nat) : a.grownBy (w.drewN n) row := ⟨h.os, h.tape, h.output, h.size, h.block⟩
theorem below_drewN {B : Nat} {a w : World} (h : Below B a w) (n : Nat) : Below B a (w.drewN n) := ⟨h.os, h.tape, h.output, h.size, h.block⟩
theorem clk_drewN {w : World} {b : Nat} {d r : Int} {m s : Bool} {lo hi : Int} (h : IsClk w b d r m s lo hi) (n : Nat) : IsClk (w.drewN n) b d r m s lo hi := h
theorem blk_drewN {w : World} {q : Nat} {x : Obj} (h : w.heap[q]? = some x) (n : Nat) : (w.drewN n).heap[q]? = some x := h
theorem none_made (b : Nat) (d r : Int) (s : Bool) (lo hi : Int) (w : World) (hk : IsClk w b d r true s lo hi) :
    Calls Try.prog 60 #[.pointer (some ⟨b, 0, none⟩)] w fun e w' => e = .returned (.bool false) ∧ w = w' := by
  obtain ⟨q0, q1, q2, q3, q4, q5⟩ := clk_cells hk; obtain ⟨z0, z1, z2, z3, z4, z5⟩ := clk_free hk; have hlt := clk_lt hk
  go_enter Try.func60, Try.ntmps60
  go_wp2_with fail
  go_ret
  exact ⟨rfl, rfl⟩
theorem none_zero (b : Nat) (d r : Int) (s : Bool) (lo hi : Int) (w : World) (hk : IsClk w b d r false s lo hi) :
    Calls Try.prog 60 #[.pointer (some ⟨b, 0, none⟩)] w fun e w' => e = .returned (.bool true) ∧ w = w' := by
  obtain ⟨q0, q1, q2, q3, q4, q5⟩ := clk_cells hk; obtain ⟨z0, z1, z2, z3, z4, z5⟩ := clk_free hk; have hlt := clk_lt hk
  go_enter Try.func60, Try.ntmps60
  go_wp2_with fail
  go_ret
  exact ⟨rfl, rfl⟩
theorem none_nil (w : World) :
    Calls Try.prog 60 #[.pointer none] w fun e w' => e = .returned (.bool true) ∧ w = w' := by
  go_enter Try.func60, Try.ntmps60
  go_wp2_with fail
  go_ret
  exact ⟨rfl, rfl⟩


theorem copy_nil (w : World) :
    Calls Try.prog 51 #[.pointer none] w fun e w' => e = .returned (.pointer none) ∧ w = w' := by
  go_enter Try.func51, Try.ntmps51
  go_wp2_with fail
  go_ret
  exact ⟨rfl, rfl⟩
theorem copy_clk (b : Nat) (d r : Int) (m s : Bool) (lo hi : Int) (w : World) (hk : IsClk w b d r m s lo hi) :
    Calls Try.prog 51 #[.pointer (some ⟨b, 0, none⟩)] w fun e w' => e = .returned (.pointer (some ⟨w.heap.size, 0, none⟩)) ∧ IsClk w' w.heap.size d r m s lo hi ∧ Below w.heap.size w w' := by
  obtain ⟨q0, q1, q2, q3, q4, q5⟩ := clk_cells hk; obtain ⟨z0, z1, z2, z3, z4, z5⟩ := clk_free hk; have hlt := clk_lt hk
  go_enter Try.func51, Try.ntmps51
  go_wp2_with fail
  go_ret
  exact ⟨rfl, heap_new _ _, (by repeat (first | (with_reducible exact Below.refl _ _) | (with_reducible refine Below.drew ?_) | (with_reducible refine below_drewN ?_ _) | ((with_reducible refine Below.alloc ?_ ?_ _); rotate_left; (first | omega | (simp <;> omega)); rotate_right) | ((with_reducible refine Below.setCell ?_ ?_ _); rotate_left; (first | omega | (simp <;> omega)); rotate_right) | (with_reducible assumption) | (refine Below.trans ?_ (Below.mono (by assumption) ?_); rotate_left; (first | omega | (simp <;> omega)); rotate_right)))⟩
theorem new_no (d : Int) (w : World) (h : ¬ (0 ≤ d ∧ d ≤ 100000)) :
    Calls Try.prog 32 #[.int .i64 d] w fun e w' => e = .returned (.tuple #[.pointer none, .int .i64 2]) ∧ w = w' := by
  have H := Lib.hid (Clk.inB_no.2 h)
  go_enter Try.func32, Try.ntmps32
  go_wp2_with (go_at_call 53; refine (within_any _ _ _ _).mono ?_; rintro e w' ⟨rfl, rfl⟩; rw [H.out])
  go_ret2
  exact ⟨rfl, rfl⟩
theorem new_yes (d : Int) (w : World) (h : 0 ≤ d ∧ d ≤ 100000) :
    Calls Try.prog 32 #[.int .i64 d] w fun e w' => e = .returned (.tuple #[.pointer (some ⟨w.heap.size, 0, none⟩), .int .i64 0]) ∧ IsClk w' w.heap.size d 0 true false 0 0 ∧ Below w.heap.size w w' := by
  go_enter Try.func32, Try.ntmps32
  go_wp2_with (go_at_call 53; refine (within_yes _ _ _ _ (by omega)).mono ?_; rintro e w' ⟨rfl, rfl⟩)
  go_ret2
  exact ⟨rfl, heap_new _ _, (by repeat (first | (with_reducible exact Below.refl _ _) | (with_reducible refine Below.drew ?_) | (with_reducible refine below_drewN ?_ _) | ((with_reducible refine Below.alloc ?_ ?_ _); rotate_left; (first | omega | (simp <;> omega)); rotate_right) | ((with_reducible refine Below.setCell ?_ ?_ _); rotate_left; (first | omega | (simp <;> omega)); rotate_right) | (with_reducible assumption) | (refine Below.trans ?_ (Below.mono (by assumption) ?_); rotate_left; (first | omega | (simp <;> omega)); rotate_right)))⟩
theorem reading_clk (b : Nat) (d r : Int) (lo hi : Int) (w : World) (hk : IsClk w b d r true true lo hi) :
    Calls Try.prog 57 #[.pointer (some ⟨b, 0, none⟩)] w fun e w' => e = .returned (.tuple #[.int .i64 r, .agg #[.int .i64 lo, .int .i64 hi], .int .i64 0]) ∧ Below w.heap.size w w' := by
  obtain ⟨q0, q1, q2, q3, q4, q5⟩ := clk_cells hk; obtain ⟨z0, z1, z2, z3, z4, z5⟩ := clk_free hk; have hlt := clk_lt hk
  go_enter Try.func57, Try.ntmps57
  go_wp2_with (go_at_call 60; refine (none_made b d r true lo hi _ (by repeat (first | (with_reducible assumption) | (with_reducible refine clk_alloc ?_ _) | (with_reducible refine clk_drew ?_)))).mono ?_; rintro e w' ⟨rfl, rfl⟩)
  go_region
  all_goals go_wp2_with fail
  all_goals (refine bodyPost_ret (v := .tuple #[.int .i64 r, .agg #[.int .i64 lo, .int .i64 hi], .int .i64 0]) ?_ rfl ⟨rfl, ?_⟩; (· simp [results, Try.results57, go_sem]); (· exact (by repeat (first | (with_reducible exact Below.refl _ _) | (with_reducible refine Below.drew ?_) | (with_reducible refine below_drewN ?_ _) | ((with_reducible refine Below.alloc ?_ ?_ _); rotate_left; (first | omega | (simp <;> omega)); rotate_right) | ((with_reducible refine Below.setCell ?_ ?_ _); rotate_left; (first | omega | (simp <;> omega)); rotate_right) | (with_reducible assumption) | (refine Below.trans ?_ (Below.mono (by assumption) ?_); rotate_left; (first | omega | (simp <;> omega)); rotate_right)))))
theorem reading_none (b : Nat) (d r : Int) (lo hi : Int) (w : World) (hk : IsClk w b d r true false lo hi) :
    Calls Try.prog 57 #[.pointer (some ⟨b, 0, none⟩)] w fun e w' => e = .returned (.tuple #[.int .i64 0, .agg #[.int .i64 0, .int .i64 0], .int .i64 9]) ∧ Below w.heap.size w w' := by
  obtain ⟨q0, q1, q2, q3, q4, q5⟩ := clk_cells hk; obtain ⟨z0, z1, z2, z3, z4, z5⟩ := clk_free hk; have hlt := clk_lt hk
  go_enter Try.func57, Try.ntmps57
  go_wp2_with (go_at_call 60; refine (none_made b d r false lo hi _ (by repeat (first | (with_reducible assumption) | (with_reducible refine clk_alloc ?_ _) | (with_reducible refine clk_drew ?_)))).mono ?_; rintro e w' ⟨rfl, rfl⟩)
  refine bodyPost_ret (v := .tuple #[.int .i64 0, .agg #[.int .i64 0, .int .i64 0], .int .i64 9]) ?_ rfl ⟨rfl, ?_⟩
  · simp [results, Try.results57, go_sem]
  · exact (by repeat (first | (with_reducible exact Below.refl _ _) | (with_reducible refine Below.drew ?_) | (with_reducible refine below_drewN ?_ _) | ((with_reducible refine Below.alloc ?_ ?_ _); rotate_left; (first | omega | (simp <;> omega)); rotate_right) | ((with_reducible refine Below.setCell ?_ ?_ _); rotate_left; (first | omega | (simp <;> omega)); rotate_right) | (with_reducible assumption) | (refine Below.trans ?_ (Below.mono (by assumption) ?_); rotate_left; (first | omega | (simp <;> omega)); rotate_right)))
theorem reading_nil (w : World) :
    Calls Try.prog 57 #[.pointer none] w fun e w' => e = .returned (.tuple #[.int .i64 0, .agg #[.int .i64 0, .int .i64 0], .int .i64 1]) ∧ Below w.heap.size w w' := by
  go_enter Try.func57, Try.ntmps57
  go_wp2_with (go_at_call 60; refine (none_nil _).mono ?_; rintro e w' ⟨rfl, rfl⟩)
  refine bodyPost_ret (v := .tuple #[.int .i64 0, .agg #[.int .i64 0, .int .i64 0], .int .i64 1]) ?_ rfl ⟨rfl, ?_⟩
  · simp [results, Try.results57, go_sem]
  · exact (by repeat (first | (with_reducible exact Below.refl _ _) | (with_reducible refine Below.drew ?_) | (with_reducible refine below_drewN ?_ _) | ((with_reducible refine Below.alloc ?_ ?_ _); rotate_left; (first | omega | (simp <;> omega)); rotate_right) | ((with_reducible refine Below.setCell ?_ ?_ _); rotate_left; (first | omega | (simp <;> omega)); rotate_right) | (with_reducible assumption) | (refine Below.trans ?_ (Below.mono (by assumption) ?_); rotate_left; (first | omega | (simp <;> omega)); rotate_right)))
end Go.Proofs.Ytjidchaejicjaaa.Ck
/- The bounds of a clock at a local time. -/
namespace Go.Proofs.Ytjidchaejicjaaa.Ck
open Go.RowKit
set_option maxHeartbeats 4000000
set_option linter.unusedSimpArgs false
set_option linter.unusedVariables false
set_option maxRecDepth 100000 in
theorem at_yes (b : Nat) (d r : Int) (lo hi : Int) (x : Int) (w : World) (hk : IsClk w b d r true true lo hi) (h1 : -1073741824 ≤ lo) (h2 : lo ≤ hi) (h3 : hi ≤ 1073741824) (hd0 : 0 ≤ d) (hd1 : d ≤ 100000) (hr0 : -1073741824 ≤ r) (hr1 : r ≤ x) (hx : x ≤ 1073741824) :
    Calls Try.prog 40 #[.pointer (some ⟨b, 0, none⟩), .int .i64 x] w fun e w' => e = .returned (.tuple #[.agg #[.int .i64 (Clk.rLo lo hi d (x - r)), .int .i64 (Clk.rHi hi d (x - r))], .int .i64 (Clk.rE hi d (x - r))]) ∧ Below w.heap.size w w' := by
  obtain ⟨q0, q1, q2, q3, q4, q5⟩ := clk_cells hk; obtain ⟨z0, z1, z2, z3, z4, z5⟩ := clk_free hk; have hlt := clk_lt hk
  have k1 := IntWalk.i64_in (x - r) (by omega)
  go_enter Try.func40, Try.ntmps40
  go_wp2_with (first | (go_at_call 60; refine (none_made b d r true lo hi _ (by repeat (first | (with_reducible assumption) | (with_reducible refine clk_alloc ?_ _) | (with_reducible refine clk_drew ?_) | (with_reducible refine clk_drewN ?_ _) | ((with_reducible refine clk_far ?_ ?_ _); rotate_left; (first | omega | (simp <;> omega)); rotate_right)))).mono ?_; rintro e w' ⟨rfl, rfl⟩) | (go_at_call 53; refine (within_yes _ _ _ _ (by omega)).mono ?_; rintro e w' ⟨rfl, rfl⟩))
  go_region_held3 (fun w' => w'.cell? ⟨b, 0, none⟩ = some (.int .i64 d) ∧ w'.cell? ⟨b, 1, none⟩ = some (.int .i64 r) ∧ w'.cell? ⟨b, 4, none⟩ = some (.int .i64 lo) ∧ w'.cell? ⟨b, 5, none⟩ = some (.int .i64 hi)) (first | (refine ⟨?_, ?_, ?_, ?_⟩ <;> simp [go_sem, *]) | go_keep) (first | (go_at_call 61; refine (grow_any lo hi d (x - r) _ h1 h2 h3 hd0 hd1 (by omega) (by omega)).mono ?_; rintro e w2 ⟨rfl, hb2⟩; have hk2 := clk_below (show IsClk _ b d r true true lo hi from (by repeat (first | (with_reducible assumption) | (with_reducible refine clk_alloc ?_ _) | (with_reducible refine clk_drew ?_) | (with_reducible refine clk_drewN ?_ _) | ((with_reducible refine clk_far ?_ ?_ _); rotate_left; (first | omega | (simp <;> omega)); rotate_right)))) hb2 (by simp; omega); obtain ⟨q20, q21, q22, q23, q24, q25⟩ := clk_cells hk2; obtain ⟨z20, z21, z22, z23, z24, z25⟩ := clk_free hk2; have hlt2 := clk_lt hk2; have cs0_0 := (bcell hb2).1 (w.heap.size) 0 (by first | omega | (simp; done) | (simp; omega)); have fs0_0 := (bcell hb2).2 (w.heap.size) 0 (by first | omega | (simp; done) | (simp; omega)); have cs0_1 := (bcell hb2).1 (w.heap.size) 1 (by first | omega | (simp; done) | (simp; omega)); have fs0_1 := (bcell hb2).2 (w.heap.size) 1 (by first | omega | (simp; done) | (simp; omega)); try simp [go_sem] at cs0_0 fs0_0 cs0_1 fs0_1))
  · go_wp2_with fail
    refine bodyPost_ret (v := .tuple #[.agg #[.int .i64 (Clk.rLo lo hi d (x - r)), .int .i64 (Clk.rHi hi d (x - r))], .int .i64 (Clk.rE hi d (x - r))]) ?_ rfl ⟨rfl, ?_⟩
    · simp [results, Try.results40, go_sem, *]
    · exact (by repeat (first | (with_reducible exact Below.refl _ _) | (with_reducible refine Below.drew ?_) | (with_reducible refine below_drewN ?_ _) | ((with_reducible refine Below.alloc ?_ ?_ _); rotate_left; (first | omega | (simp <;> omega)); rotate_right) | ((with_reducible refine Below.setCell ?_ ?_ _); rotate_left; (first | omega | (simp <;> omega)); rotate_right) | (with_reducible assumption) | (refine Below.trans ?_ (Below.mono (by assumption) ?_); rotate_left; (first | omega | (simp <;> omega)); rotate_right)))
theorem at_range (b : Nat) (d r : Int) (lo hi : Int) (x : Int) (w : World) (hk : IsClk w b d r true true lo hi) (h : ¬ (r ≤ x ∧ x ≤ 1073741824)) :
    Calls Try.prog 40 #[.pointer (some ⟨b, 0, none⟩), .int .i64 x] w fun e w' => e = .returned (.tuple #[.agg #[.int .i64 0, .int .i64 0], .int .i64 3]) ∧ Below w.heap.size w w' := by
  obtain ⟨q0, q1, q2, q3, q4, q5⟩ := clk_cells hk; obtain ⟨z0, z1, z2, z3, z4, z5⟩ := clk_free hk; have hlt := clk_lt hk
  have H := Lib.hid (Clk.inB_no.2 h)
  clear h
  go_enter Try.func40, Try.ntmps40
  go_wp2_with (first | (go_at_call 60; refine (none_made b d r true lo hi _ (by repeat (first | (with_reducible assumption) | (with_reducible refine clk_alloc ?_ _) | (with_reducible refine clk_drew ?_) | (with_reducible refine clk_drewN ?_ _) | ((with_reducible refine clk_far ?_ ?_ _); rotate_left; (first | omega | (simp <;> omega)); rotate_right)))).mono ?_; rintro e w' ⟨rfl, rfl⟩) | (go_at_call 53; refine (within_any _ _ _ _).mono ?_; rintro e w' ⟨rfl, rfl⟩; rw [H.out]))
  refine bodyPost_ret (v := .tuple #[.agg #[.int .i64 0, .int .i64 0], .int .i64 3]) ?_ rfl ⟨rfl, ?_⟩
  · simp [results, Try.results40, go_sem]
  · exact (by repeat (first | (with_reducible exact Below.refl _ _) | (with_reducible refine Below.drew ?_) | (with_reducible refine below_drewN ?_ _) | ((with_reducible refine Below.alloc ?_ ?_ _); rotate_left; (first | omega | (simp <;> omega)); rotate_right) | ((with_reducible refine Below.setCell ?_ ?_ _); rotate_left; (first | omega | (simp <;> omega)); rotate_right) | (with_reducible assumption) | (refine Below.trans ?_ (Below.mono (by assumption) ?_); rotate_left; (first | omega | (simp <;> omega)); rotate_right)))
theorem at_none (b : Nat) (d r : Int) (lo hi : Int) (x : Int) (w : World) (hk : IsClk w b d r true false lo hi) :
    Calls Try.prog 40 #[.pointer (some ⟨b, 0, none⟩), .int .i64 x] w fun e w' => e = .returned (.tuple #[.agg #[.int .i64 0, .int .i64 0], .int .i64 9]) ∧ Below w.heap.size w w' := by
  obtain ⟨q0, q1, q2, q3, q4, q5⟩ := clk_cells hk; obtain ⟨z0, z1, z2, z3, z4, z5⟩ := clk_free hk; have hlt := clk_lt hk
  go_enter Try.func40, Try.ntmps40
  go_wp2_with (first | (go_at_call 60; refine (none_made b d r false lo hi _ (by repeat (first | (with_reducible assumption) | (with_reducible refine clk_alloc ?_ _) | (with_reducible refine clk_drew ?_) | (with_reducible refine clk_drewN ?_ _) | ((with_reducible refine clk_far ?_ ?_ _); rotate_left; (first | omega | (simp <;> omega)); rotate_right)))).mono ?_; rintro e w' ⟨rfl, rfl⟩))
  refine bodyPost_ret (v := .tuple #[.agg #[.int .i64 0, .int .i64 0], .int .i64 9]) ?_ rfl ⟨rfl, ?_⟩
  · simp [results, Try.results40, go_sem]
  · exact (by repeat (first | (with_reducible exact Below.refl _ _) | (with_reducible refine Below.drew ?_) | (with_reducible refine below_drewN ?_ _) | ((with_reducible refine Below.alloc ?_ ?_ _); rotate_left; (first | omega | (simp <;> omega)); rotate_right) | ((with_reducible refine Below.setCell ?_ ?_ _); rotate_left; (first | omega | (simp <;> omega)); rotate_right) | (with_reducible assumption) | (refine Below.trans ?_ (Below.mono (by assumption) ?_); rotate_left; (first | omega | (simp <;> omega)); rotate_right)))
theorem at_nil (x : Int) (w : World) :
    Calls Try.prog 40 #[.pointer none, .int .i64 x] w fun e w' => e = .returned (.tuple #[.agg #[.int .i64 0, .int .i64 0], .int .i64 1]) ∧ Below w.heap.size w w' := by
  go_enter Try.func40, Try.ntmps40
  go_wp2_with (first | (go_at_call 60; refine (none_nil _).mono ?_; rintro e w' ⟨rfl, rfl⟩))
  refine bodyPost_ret (v := .tuple #[.agg #[.int .i64 0, .int .i64 0], .int .i64 1]) ?_ rfl ⟨rfl, ?_⟩
  · simp [results, Try.results40, go_sem]
  · exact (by repeat (first | (with_reducible exact Below.refl _ _) | (with_reducible refine Below.drew ?_) | (with_reducible refine below_drewN ?_ _) | ((with_reducible refine Below.alloc ?_ ?_ _); rotate_left; (first | omega | (simp <;> omega)); rotate_right) | ((with_reducible refine Below.setCell ?_ ?_ _); rotate_left; (first | omega | (simp <;> omega)); rotate_right) | (with_reducible assumption) | (refine Below.trans ?_ (Below.mono (by assumption) ?_); rotate_left; (first | omega | (simp <;> omega)); rotate_right)))
def aOk (r : Int) (s : Bool) (x : Int) : Bool := s && Clk.inB x r 1073741824
def aLo (d r : Int) (s : Bool) (lo hi x : Int) : Int := if aOk r s x then Clk.rLo lo hi d (x - r) else 0
def aHi (d r : Int) (s : Bool) (hi x : Int) : Int := if aOk r s x then Clk.rHi hi d (x - r) else 0
def aE (d r : Int) (s : Bool) (hi x : Int) : Int := if aOk r s x then Clk.rE hi d (x - r) else if s then 3 else 9
theorem at_any (b : Nat) (d r : Int) (s : Bool) (lo hi : Int) (x : Int) (w : World) (hk : IsClk w b d r true s lo hi) (c : Clk.CInv d r lo hi) :
    Calls Try.prog 40 #[.pointer (some ⟨b, 0, none⟩), .int .i64 x] w fun e w' => e = .returned (.tuple #[.agg #[.int .i64 (aLo d r s lo hi x), .int .i64 (aHi d r s hi x)], .int .i64 (aE d r s hi x)]) ∧ Below w.heap.size w w' := by
  obtain ⟨c1, c2, c3, c4, c5, c6, c7⟩ := c
  cases s with
  | false =>
    refine (at_none b d r lo hi x w hk).mono ?_
    rintro e w' ⟨rfl, hb⟩
    exact ⟨by simp [aLo, aHi, aE, aOk], hb⟩
  | true =>
    by_cases h : r ≤ x ∧ x ≤ 1073741824
    · refine (at_yes b d r lo hi x w hk c5 c6 c7 c1 c2 c3 h.1 h.2).mono ?_
      rintro e w' ⟨rfl, hb⟩
      exact ⟨by simp [aLo, aHi, aE, aOk, Clk.inB_iff.2 h], hb⟩
    · refine (at_range b d r lo hi x w hk h).mono ?_
      rintro e w' ⟨rfl, hb⟩
      exact ⟨by simp [aLo, aHi, aE, aOk, Clk.inB_no.2 h], hb⟩
end Go.Proofs.Ytjidchaejicjaaa.Ck

/- Plain facts about the numbers of clocks: no program in sight. -/
namespace Go.Proofs.Ytfbkbpoabajgdaa
namespace Clk
set_option linter.unusedVariables false
set_option linter.unusedSimpArgs false
theorem tdiv_down (a b : Int) (h : 0 < b) : (if a.tmod b < 0 then a.tdiv b - 1 else a.tdiv b) = a / b := by
  have e : b * a.tdiv b + a.tmod b = a := Int.mul_tdiv_add_tmod a b
  have u : a.tmod b < b := Int.tmod_lt_of_pos a h
  have l : -b < a.tmod b := Int.lt_tmod_of_pos a h
  split
  · rename_i hn
    exact ((Int.ediv_emod_unique (a := a) (r := a.tmod b + b) (q := a.tdiv b - 1) h).2 ⟨by rw [Int.mul_sub]; omega, by omega, by omega⟩).1.symm
  · rename_i hn
    exact ((Int.ediv_emod_unique (a := a) (r := a.tmod b) (q := a.tdiv b) h).2 ⟨by omega, by omega, by omega⟩).1.symm
theorem grow_hi (l d : Int) (hd : 0 ≤ d) (hd' : d ≤ 100000) : -((-(l+1)*1000000) / (1000000 - d)) = ((l+1)*1000000 + (1000000 - d) - 1) / (1000000 - d) := by
  generalize hn : (l+1) * 1000000 = n
  rw [show -(l+1)*1000000 = -n by omega]
  generalize hk : 1000000 - d = k
  have hk0 : 0 < k := by omega
  have e := Int.mul_ediv_add_emod (-n) k
  have e1 := Int.emod_nonneg (-n) (b := k) (by omega)
  have e2 := Int.emod_lt_of_pos (-n) hk0
  refine ((Int.ediv_emod_unique (a := n + k - 1) (r := k - 1 - (-n) % k) (q := -(-n / k)) hk0).2 ⟨by rw [Int.mul_neg]; omega, by omega, by omega⟩).1.symm
theorem lo_le (l d : Int) (hl : 1 ≤ l) (hd : 0 ≤ d) (hd' : d ≤ 100000) : 0 ≤ (l-1) * 1000000 / (1000000 + d) ∧ (l-1) * 1000000 / (1000000 + d) ≤ l - 1 := by
  have hk0 : 0 < 1000000 + d := by omega
  have h0 : 0 ≤ (l-1) * d := Int.mul_nonneg (by omega) hd
  refine ⟨Int.ediv_nonneg (by omega) (by omega), Int.ediv_le_of_le_mul hk0 (by rw [Int.mul_add]; omega)⟩
theorem hi_ge (l d : Int) (hl : 0 ≤ l) (hd : 0 ≤ d) (hd' : d ≤ 100000) : l + 1 ≤ ((l+1) * 1000000 + (1000000 - d) - 1) / (1000000 - d) ∧ ((l+1) * 1000000 + (1000000 - d) - 1) / (1000000 - d) ≤ 2 * l + 3 := by
  have hk0 : 0 < 1000000 - d := by omega
  have h0 : 0 ≤ (l+1) * d := Int.mul_nonneg (by omega) hd
  have h1 : (l+1) * d ≤ (l+1) * 100000 := Int.mul_le_mul_of_nonneg_left hd' (by omega)
  refine ⟨(Int.le_ediv_iff_mul_le hk0).2 (by rw [Int.mul_sub]; omega), Int.ediv_le_of_le_mul hk0 ?_⟩
  rw [Int.mul_sub, show (2*l+3)*d = 2 * ((l+1)*d) + d by rw [Int.add_mul, Int.add_mul]; have := Int.mul_assoc 2 l d; omega]
  omega
def inB (n a b : Int) : Bool := decide (a ≤ n) && decide (n ≤ b)
theorem inB_iff {n a b : Int} : inB n a b = true ↔ a ≤ n ∧ n ≤ b := by simp [inB]
theorem inB_no {n a b : Int} : inB n a b = false ↔ ¬ (a ≤ n ∧ n ≤ b) := by rw [← inB_iff]; simp
def vB (lo hi : Int) : Bool := decide (-1073741824 ≤ lo) && decide (lo ≤ hi) && decide (hi ≤ 1073741824)
theorem vB_iff {lo hi : Int} : vB lo hi = true ↔ -1073741824 ≤ lo ∧ lo ≤ hi ∧ hi ≤ 1073741824 := by simp [vB, and_assoc]
theorem vB_no {lo hi : Int} : vB lo hi = false ↔ ¬ (-1073741824 ≤ lo ∧ lo ≤ hi ∧ hi ≤ 1073741824) := by rw [← vB_iff]; simp
/-- what bounds grow by -/
def up (d l : Int) : Int := (l - 1) * 1000000 / (1000000 + d)
def vp (d l : Int) : Int := ((l + 1) * 1000000 + (1000000 - d) - 1) / (1000000 - d)
def gLo (lo d l : Int) : Int := if 1 ≤ l then lo + up d l else lo
def gHi (hi d l : Int) : Int := hi + vp d l
/-- the parts of a grown bound, and the error -/
def rLo (lo hi d l : Int) : Int := if gHi hi d l ≤ 1073741824 then gLo lo d l else 0
def rHi (hi d l : Int) : Int := if gHi hi d l ≤ 1073741824 then gHi hi d l else 0
def rE (hi d l : Int) : Int := if gHi hi d l ≤ 1073741824 then 0 else 3
theorem vp_ge (d l : Int) (hl : 0 ≤ l) (hd : 0 ≤ d) (hd' : d ≤ 100000) : l + 1 ≤ vp d l ∧ vp d l ≤ 2 * l + 3 := hi_ge l d hl hd hd'
theorem rE_01 (hi d l : Int) : rE hi d l = 0 ∨ rE hi d l = 3 := by unfold rE; split <;> simp
theorem rE_three {hi d l : Int} (h : rE hi d l ≠ 0) : rE hi d l = 3 := by have := rE_01 hi d l; omega
theorem gLo_bd {lo d l : Int} (hl : 0 ≤ l) (hd : 0 ≤ d) (hd' : d ≤ 100000) : lo ≤ gLo lo d l ∧ gLo lo d l ≤ lo + l := by
  unfold gLo up
  split
  · rename_i h; have := lo_le l d h hd hd'; omega
  · omega
/-- where growing does not fail: the parts lie as they should -/
theorem r_ok {lo hi d l : Int} (h : rE hi d l = 0) (h1 : -1073741824 ≤ lo) (h2 : lo ≤ hi) (hl : 0 ≤ l) (hd : 0 ≤ d) (hd' : d ≤ 100000) :
    lo ≤ rLo lo hi d l ∧ rLo lo hi d l ≤ rHi hi d l ∧ rHi hi d l ≤ 1073741824 ∧ hi + l + 1 ≤ rHi hi d l ∧ rLo lo hi d l ≤ lo + l := by
  have a := vp_ge d l hl hd hd'
  have b := gLo_bd (lo := lo) hl hd hd'
  unfold rE at h
  split at h
  · rename_i g
    rw [rLo, rHi, if_pos g, if_pos g]
    unfold gHi at *
    omega
  · omega
def xOk (a g k h : Int) : Bool := decide (-1073741824 ≤ a) && decide (a ≤ h) && decide (h ≤ 1073741824) && decide (0 ≤ g) && decide (g ≤ k) && decide (k ≤ 3600000)
theorem xOk_iff {a g k h : Int} : xOk a g k h = true ↔ -1073741824 ≤ a ∧ a ≤ h ∧ h ≤ 1073741824 ∧ 0 ≤ g ∧ g ≤ k ∧ k ≤ 3600000 := by simp [xOk, and_assoc]
def nLo (d r : Int) (s : Bool) (lo hi k h : Int) : Int := if s then max (rLo lo hi d (h - r)) k else k
def nHi (d r : Int) (s : Bool) (hi a g h : Int) : Int := if s then min (rHi hi d (h - r)) (rHi g d (h - a)) else rHi g d (h - a)
def addE (d r : Int) (s : Bool) (lo hi a g k h : Int) : Int :=
  if xOk a g k h = false then 2 else if s = true ∧ h < r then 3 else if s = true ∧ rE hi d (h - r) ≠ 0 then 3 else if rE g d (h - a) ≠ 0 then 3 else
  if nHi d r s hi a g h < nLo d r s lo hi k h then 10 else 0
def addR (d r : Int) (s : Bool) (lo hi a g k h : Int) : Int := if addE d r s lo hi a g k h = 0 then h else r
def addS (d r : Int) (s : Bool) (lo hi a g k h : Int) : Bool := if addE d r s lo hi a g k h = 0 then true else s
def addLo (d r : Int) (s : Bool) (lo hi a g k h : Int) : Int := if addE d r s lo hi a g k h = 0 then nLo d r s lo hi k h else lo
def addHi (d r : Int) (s : Bool) (lo hi a g k h : Int) : Int := if addE d r s lo hi a g k h = 0 then nHi d r s hi a g h else hi
theorem addE_bad {d r : Int} {s : Bool} {lo hi a g k h : Int} (x : xOk a g k h = false) : addE d r s lo hi a g k h = 2 := by rw [addE, if_pos x]
theorem addE_early {d r : Int} {lo hi a g k h : Int} (x : xOk a g k h = true) (y : h < r) : addE d r true lo hi a g k h = 3 := by simp [addE, x, y]
theorem addE_old {d r : Int} {lo hi a g k h : Int} (x : xOk a g k h = true) (y : r ≤ h) (z : rE hi d (h - r) ≠ 0) : addE d r true lo hi a g k h = 3 := by simp [addE, x, z]
theorem addE_said {d r : Int} {s : Bool} {lo hi a g k h : Int} (x : xOk a g k h = true) (y : s = true → r ≤ h ∧ rE hi d (h - r) = 0) (z : rE g d (h - a) ≠ 0) : addE d r s lo hi a g k h = 3 := by
  cases s
  · simp [addE, x, z]
  · obtain ⟨y1, y2⟩ := y rfl
    simp [addE, x, y2, z]
theorem addE_check {d r : Int} {s : Bool} {lo hi a g k h : Int} (x : xOk a g k h = true) (y : s = true → r ≤ h ∧ rE hi d (h - r) = 0) (z : rE g d (h - a) = 0) (v : nHi d r s hi a g h < nLo d r s lo hi k h) : addE d r s lo hi a g k h = 10 := by
  cases s
  · simp [addE, x, z, v]
  · obtain ⟨y1, y2⟩ := y rfl
    simp [addE, x, y2, z, v]; omega
theorem addE_ok {d r : Int} {s : Bool} {lo hi a g k h : Int} (x : xOk a g k h = true) (y : s = true → r ≤ h ∧ rE hi d (h - r) = 0) (z : rE g d (h - a) = 0) (v : nLo d r s lo hi k h ≤ nHi d r s hi a g h) : addE d r s lo hi a g k h = 0 := by
  cases s
  · simp [addE, x, z]; omega
  · obtain ⟨y1, y2⟩ := y rfl
    simp [addE, x, y2, z]; omega
theorem nLo_if {d r lo hi k h : Int} : nLo d r true lo hi k h = if rLo lo hi d (h - r) < k then k else rLo lo hi d (h - r) := by unfold nLo; rw [if_pos rfl]; split <;> omega
theorem nHi_if {d r hi a g h : Int} : nHi d r true hi a g h = if rHi g d (h - a) < rHi hi d (h - r) then rHi g d (h - a) else rHi hi d (h - r) := by unfold nHi; rw [if_pos rfl]; split <;> omega
theorem next_check' {d r lo hi a g k h : Int} (x : xOk a g k h = true) (y : r ≤ h) (u : (rE hi d (h - r) != 0) = false) (z : (rE g d (h - a) != 0) = false) (v : nHi d r true hi a g h < nLo d r true lo hi k h) : addE d r true lo hi a g k h = 10 :=
  addE_check x (fun _ => ⟨y, by simpa using u⟩) (by simpa using z) v
theorem next_ok' {d r lo hi a g k h : Int} (x : xOk a g k h = true) (y : r ≤ h) (u : (rE hi d (h - r) != 0) = false) (z : (rE g d (h - a) != 0) = false) (v : nLo d r true lo hi k h ≤ nHi d r true hi a g h) : addE d r true lo hi a g k h = 0 :=
  addE_ok x (fun _ => ⟨y, by simpa using u⟩) (by simpa using z) v
theorem first_said {d r lo hi a g k h : Int} (x : xOk a g k h = true) (z : (rE g d (h - a) != 0) = true) : addE d r false lo hi a g k h = rE g d (h - a) ∧ rE g d (h - a) ≠ 0 := by
  have z' := bne_iff_ne.1 z
  exact ⟨(addE_said x (by simp) z').trans (rE_three z').symm, z'⟩
theorem first_check {d r lo hi a g k h : Int} (x : xOk a g k h = true) (z : (rE g d (h - a) != 0) = false) (v : rHi g d (h - a) < k) : addE d r false lo hi a g k h = 10 :=
  addE_check x (by simp) (by simpa using z) (by simpa [nHi, nLo] using v)
theorem first_ok {d r lo hi a g k h : Int} (x : xOk a g k h = true) (z : (rE g d (h - a) != 0) = false) (v : k ≤ rHi g d (h - a)) : addE d r false lo hi a g k h = 0 :=
  addE_ok x (by simp) (by simpa using z) (by simpa [nHi, nLo] using v)
theorem next_old {d r lo hi a g k h : Int} (x : xOk a g k h = true) (y : r ≤ h) (z : (rE hi d (h - r) != 0) = true) : addE d r true lo hi a g k h = rE hi d (h - r) ∧ rE hi d (h - r) ≠ 0 := by
  have z' := bne_iff_ne.1 z
  exact ⟨(addE_old x y z').trans (rE_three z').symm, z'⟩
theorem next_said {d r lo hi a g k h : Int} (x : xOk a g k h = true) (y : r ≤ h) (u : (rE hi d (h - r) != 0) = false) (z : (rE g d (h - a) != 0) = true) : addE d r true lo hi a g k h = rE g d (h - a) ∧ rE g d (h - a) ≠ 0 := by
  have z' := bne_iff_ne.1 z
  exact ⟨(addE_said x (fun _ => ⟨y, by simpa using u⟩) z').trans (rE_three z').symm, z'⟩
theorem next_check {d r lo hi a g k h : Int} (x : xOk a g k h = true) (y : r ≤ h) (u : (rE hi d (h - r) != 0) = false) (z : (rE g d (h - a) != 0) = false) (v : min (rHi hi d (h - r)) (rHi g d (h - a)) < max (rLo lo hi d (h - r)) k) : addE d r true lo hi a g k h = 10 :=
  addE_check x (fun _ => ⟨y, by simpa using u⟩) (by simpa using z) (by unfold nHi nLo; rw [if_pos rfl, if_pos rfl]; exact v)
theorem next_ok {d r lo hi a g k h : Int} (x : xOk a g k h = true) (y : r ≤ h) (u : (rE hi d (h - r) != 0) = false) (z : (rE g d (h - a) != 0) = false) (v : max (rLo lo hi d (h - r)) k ≤ min (rHi hi d (h - r)) (rHi g d (h - a))) : addE d r true lo hi a g k h = 0 :=
  addE_ok x (fun _ => ⟨y, by simpa using u⟩) (by simpa using z) (by unfold nHi nLo; rw [if_pos rfl, if_pos rfl]; exact v)
/-- how many places below n say no -/
def cnt (p : Nat → Bool) : Nat → Nat
  | 0 => 0
  | n + 1 => cnt p n + if p n then 0 else 1
theorem cnt_le (p : Nat → Bool) : ∀ n, cnt p n ≤ n
  | 0 => Nat.le_refl _
  | n + 1 => by have := cnt_le p n; unfold cnt; split <;> omega
theorem cnt_all (p : Nat → Bool) : ∀ n, (∀ t, t < n → p t = false) → cnt p n = n
  | 0, _ => rfl
  | n + 1, h => by unfold cnt; rw [cnt_all p n (fun t ht => h t (by omega)), h n (by omega)]; rfl
theorem cnt_eq (p : Nat → Bool) (m : Nat) : ∀ n, m ≤ n → (∀ t, t < m → p t = false) → (∀ t, m ≤ t → t < n → p t = true) → cnt p n = m
  | 0, h, _, _ => by have : m = 0 := by omega
                     subst this; rfl
  | n + 1, h, h1, h2 => by
    by_cases e : m = n + 1
    · subst e; exact cnt_all p _ h1
    · unfold cnt
      rw [cnt_eq p m n (by omega) h1 (fun t a b => h2 t a (by omega)), h2 n (by omega) (by omega)]
      rfl
theorem up_mono {d a b : Int} (hd : 0 ≤ d) (h : a ≤ b) : up d a ≤ up d b := by
  unfold up
  exact Int.ediv_le_ediv (by omega) (Int.mul_le_mul_of_nonneg_right (by omega) (by omega))
theorem gLo_mono {lo d a b : Int} (hd : 0 ≤ d) (hd' : d ≤ 100000) (ha : 0 ≤ a) (h : a ≤ b) : gLo lo d a ≤ gLo lo d b := by
  by_cases h1 : 1 ≤ a
  · rw [gLo, gLo, if_pos h1, if_pos (by omega)]; have := up_mono (d := d) hd h; omega
  · have e : gLo lo d a = lo := by rw [gLo, if_neg h1]
    have := gLo_bd (lo := lo) (d := d) (l := b) (by omega) hd hd'
    omega
def suP (d lo time : Int) (i : Nat) : Bool := decide (time ≤ gLo lo d i)
theorem suP_mono {d lo time : Int} (hd : 0 ≤ d) (hd' : d ≤ 100000) (a b : Nat) (h : a ≤ b) (p : suP d lo time a = true) : suP d lo time b = true := by
  unfold suP at *
  have := gLo_mono (lo := lo) (d := d) (a := a) (b := b) hd hd' (by omega) (by omega)
  simp at *; omega
def suN (r : Int) : Nat := (1073741824 - r + 1).toNat
def suM (d r lo time : Int) : Nat := cnt (suP d lo time) (suN r)
def suE (d r : Int) (s : Bool) (lo time : Int) : Int := if inB time 0 3600000 = false then 2 else if s = false then 9 else if suM d r lo time = suN r then 3 else 0
def suV (d r : Int) (s : Bool) (lo time : Int) : Int := if suE d r s lo time = 0 then r + suM d r lo time else 0
/-- what a clock holds, always -/
def CInv (d r lo hi : Int) : Prop := 0 ≤ d ∧ d ≤ 100000 ∧ -1073741824 ≤ r ∧ r ≤ 1073741824 ∧ -1073741824 ≤ lo ∧ lo ≤ hi ∧ hi ≤ 1073741824
theorem add_inv {d r : Int} {s : Bool} {lo hi a g k h : Int} (c : CInv d r lo hi) : CInv d (addR d r s lo hi a g k h) (addLo d r s lo hi a g k h) (addHi d r s lo hi a g k h) := by
  unfold addR addLo addHi
  by_cases e : addE d r s lo hi a g k h = 0
  · rw [if_pos e, if_pos e, if_pos e]
    obtain ⟨c1, c2, c3, c4, c5, c6, c7⟩ := c
    have x : xOk a g k h = true := by
      cases hx : xOk a g k h with
      | true => rfl
      | false => rw [addE, if_pos hx] at e; omega
    rw [addE, if_neg (by simp [x])] at e
    rw [xOk_iff] at x
    split at e
    · omega
    split at e
    · omega
    split at e
    · omega
    split at e
    · omega
    rename_i n1 n2 n3 n4
    have e3 : rE g d (h - a) = 0 := by omega
    have o := r_ok (lo := g) e3 (by omega) (by omega) (by omega) c1 c2
    refine ⟨c1, c2, by omega, by omega, ?_, by omega, ?_⟩
    · unfold nLo; split <;> omega
    · unfold nHi; split <;> omega
  · rw [if_neg e, if_neg e, if_neg e]; exact c
end Clk
end Go.Proofs.Ytfbkbpoabajgdaa

/- The check sum in plain numbers: no program in sight. -/
namespace Go.Proofs.Ytgmejplcdecmkaa
namespace Frm
set_option linter.unusedVariables false
set_option linter.unusedSimpArgs false
/-- one bit of the check sum, as the program has it -/
def step (d : Nat) : Nat := if d / 32768 = 1 then (d * 2 % 65536) ^^^ 4129 else d * 2 % 65536
def iter : Nat → Nat → Nat
  | 0, d => d
  | j + 1, d => step (iter j d)
def byteN (c y : Nat) : Nat := iter 8 (c ^^^ (y * 256))
def crcN (l : List Int) : Nat := l.foldl (fun c y => byteN c y.toNat) 65535
/-- one bit, as the reference has it -/
def rstep (n b : Nat) : Nat := if n / 32768 = b then n % 32768 * 2 else (n % 32768 * 2) ^^^ 4129
def riter (y : Nat) : Nat → Nat → Nat
  | 0, n => n
  | j + 1, n => rstep (riter y j n) (y / 2 ^ (7 - j) % 2)
theorem xor_lt {a b : Nat} (ha : a < 65536) (hb : b < 65536) : a ^^^ b < 65536 := Nat.xor_lt_two_pow (n := 16) ha hb
theorem step_lt {d : Nat} : step d < 65536 := by
  unfold step
  split
  · exact xor_lt (Nat.mod_lt _ (by decide)) (by decide)
  · exact Nat.mod_lt _ (by decide)
theorem iter_lt {d : Nat} (h : d < 65536) : ∀ j, iter j d < 65536
  | 0 => h
  | j + 1 => step_lt
theorem byteN_lt {c y : Nat} (hc : c < 65536) (hy : y < 256) : byteN c y < 65536 := iter_lt (xor_lt hc (by omega)) 8
theorem foldl_lt (l : List Int) (hb : ∀ x ∈ l, 0 ≤ x ∧ x < 256) : ∀ c, c < 65536 → l.foldl (fun c y => byteN c y.toNat) c < 65536 := by
  induction l with
  | nil => intro c hc; exact hc
  | cons x t ih =>
    intro c hc
    have hx := hb x (by simp)
    exact ih (fun y hy => hb y (by simp [hy])) _ (byteN_lt hc (by omega))
theorem crcN_lt {l : List Int} (hb : ∀ x ∈ l, 0 ≤ x ∧ x < 256) : crcN l < 65536 := foldl_lt l hb _ (by decide)
theorem crcN_snoc (l : List Int) (y : Int) : crcN (l ++ [y]) = byteN (crcN l) y.toNat := by simp [crcN]
theorem xor_div (a b k : Nat) : (a ^^^ b) / 2 ^ k = a / 2 ^ k ^^^ b / 2 ^ k := by
  rw [← Nat.shiftRight_eq_div_pow, ← Nat.shiftRight_eq_div_pow, ← Nat.shiftRight_eq_div_pow, Nat.shiftRight_xor_distrib]
theorem xor_mul (a b k : Nat) : (a ^^^ b) * 2 ^ k = a * 2 ^ k ^^^ b * 2 ^ k := by
  rw [← Nat.shiftLeft_eq, ← Nat.shiftLeft_eq, ← Nat.shiftLeft_eq, Nat.shiftLeft_xor_distrib]
theorem bit_xor {a b : Nat} (ha : a < 2) (hb : b < 2) : a ^^^ b = if a = b then 0 else 1 := by
  have h1 : a = 0 ∨ a = 1 := by omega
  have h2 : b = 0 ∨ b = 1 := by omega
  rcases h1 with rfl | rfl <;> rcases h2 with rfl | rfl <;> rfl
theorem step_rel {R r : Nat} (hR : R < 65536) (hr : r < 256) : step (R ^^^ (r * 256)) = rstep R (r / 128) ^^^ (r * 2 % 256 * 256) := by
  have e1 : (R ^^^ r * 256) / 32768 = if R / 32768 = r / 128 then 0 else 1 := by
    rw [show (32768 : Nat) = 2 ^ 15 from rfl, xor_div, show r * 256 / 2 ^ 15 = r / 128 by omega]
    exact bit_xor (by omega) (by omega)
  have e2 : (R ^^^ r * 256) * 2 % 65536 = (R % 32768 * 2) ^^^ (r * 2 % 256 * 256) := by
    rw [show (65536 : Nat) = 2 ^ 16 from rfl, show (R ^^^ r * 256) * 2 = (R ^^^ r * 256) * 2 ^ 1 from rfl, xor_mul, Nat.xor_mod_two_pow]
    rw [show R * 2 ^ 1 % 2 ^ 16 = R % 32768 * 2 by omega, show r * 256 * 2 ^ 1 % 2 ^ 16 = r * 2 % 256 * 256 by omega]
  unfold step rstep
  rw [e1, e2]
  by_cases h : R / 32768 = r / 128
  · simp [h]
  · simp only [h, if_false, if_true]
    rw [Nat.xor_assoc, Nat.xor_comm (r * 2 % 256 * 256) 4129, ← Nat.xor_assoc]
theorem rstep_lt {n b : Nat} : rstep n b < 65536 := by
  unfold rstep
  split
  · omega
  · exact xor_lt (by omega) (by decide)
theorem riter_lt {y n : Nat} (h : n < 65536) : ∀ j, riter y j n < 65536
  | 0 => h
  | j + 1 => rstep_lt
theorem iter_rel {c y : Nat} (hc : c < 65536) (hy : y < 256) : ∀ j, j ≤ 8 → iter j (c ^^^ (y * 256)) = riter y j c ^^^ (y * 2 ^ j % 256 * 256)
  | 0, _ => by simp only [iter, riter]; rw [show y * 2 ^ 0 % 256 = y by omega]
  | j + 1, h => by
    have ih := iter_rel hc hy j (by omega)
    rw [iter, ih, step_rel (riter_lt hc j) (Nat.mod_lt _ (by decide)), riter]
    have hb : y * 2 ^ j % 256 / 128 = y / 2 ^ (7 - j) % 2 ∧ y * 2 ^ j % 256 * 2 % 256 = y * 2 ^ (j + 1) % 256 := by
      have : j = 0 ∨ j = 1 ∨ j = 2 ∨ j = 3 ∨ j = 4 ∨ j = 5 ∨ j = 6 ∨ j = 7 := by omega
      rcases this with rfl | rfl | rfl | rfl | rfl | rfl | rfl | rfl
      all_goals (simp only [Nat.reduceSub, Nat.reducePow, Nat.reduceAdd] ; omega)
    rw [hb.1, hb.2]
theorem byteN_ref {c y : Nat} (hc : c < 65536) (hy : y < 256) : riter y 8 c = byteN c y := by
  rw [byteN, iter_rel hc hy 8 (Nat.le_refl _), show y * 2 ^ 8 % 256 * 256 = 0 by omega, Nat.xor_zero]
end Frm
end Go.Proofs.Ytgmejplcdecmkaa

/- What adding an exchange leaves. -/
import Derived.Test.YtfbkbpoabajgdaaAt
namespace Go.Proofs.Ytfbkbpoabajgdaa
open Go.RowKit
set_option maxHeartbeats 4000000
set_option linter.unusedSimpArgs false
set_option linter.unusedVariables false
set_option maxRecDepth 100000
/-- what adding an exchange leaves -/
def AddPost (w : World) (b : Nat) (d r : Int) (s : Bool) (lo hi a g k h : Int) (e : Ending) (w' : World) : Prop :=
  e = .returned (.int .i64 (Clk.addE d r s lo hi a g k h)) ∧ IsClk w' b d (Clk.addR d r s lo hi a g k h) true (Clk.addS d r s lo hi a g k h) (Clk.addLo d r s lo hi a g k h) (Clk.addHi d r s lo hi a g k h) ∧ w.grownBy w' (some b)
theorem post_err {w w' : World} {b : Nat} {d r : Int} {s : Bool} {lo hi a g k h n : Int} (hE : Clk.addE d r s lo hi a g k h = n) (hn : n ≠ 0) (hk : IsClk w' b d r true s lo hi) (hg : w.grownBy w' (some b)) : AddPost w b d r s lo hi a g k h (.returned (.int .i64 n)) w' := by
  have : ¬ Clk.addE d r s lo hi a g k h = 0 := by omega
  exact ⟨by rw [hE], by rw [Clk.addR, Clk.addS, Clk.addLo, Clk.addHi, if_neg this, if_neg this, if_neg this, if_neg this]; exact hk, hg⟩
theorem post_ok {w w' : World} {b : Nat} {d r : Int} {s : Bool} {lo hi a g k h x y : Int} (hE : Clk.addE d r s lo hi a g k h = 0) (h1 : Clk.nLo d r s lo hi k h = x) (h2 : Clk.nHi d r s hi a g h = y) (hk : IsClk w' b d h true true x y) (hg : w.grownBy w' (some b)) : AddPost w b d r s lo hi a g k h (.returned (.int .i64 0)) w' :=
  ⟨by rw [hE], by rw [Clk.addR, Clk.addS, Clk.addLo, Clk.addHi, if_pos hE, if_pos hE, if_pos hE, if_pos hE, h1, h2]; exact hk, hg⟩
/-- behind the exchange's own bounds -/
def AddCut (w : World) (b : Nat) (d r : Int) (s : Bool) (lo hi a g k h : Int) (s5 s6 : Value) (wx : World) : Prop :=
  ∃ q : Nat, s5 = .pointer (some ⟨q, 0, none⟩) ∧ s6 = .int .i64 (Clk.rE g d (h - a)) ∧ IsClk wx b d r true s lo hi ∧ wx.heap[w.heap.size]? = some (.cells #[.int .i64 a, .int .i64 g, .int .i64 k, .int .i64 h] 50 (0, 0)) ∧
    wx.heap[q]? = some (.cells #[.int .i64 (Clk.rLo g g d (h - a)), .int .i64 (Clk.rHi g d (h - a))] 30 (0, 0)) ∧ w.heap.size < q ∧ Below w.heap.size w wx
/-- behind the grown bounds -/
def NextCut (wc : World) (b : Nat) (d r : Int) (lo hi a g k h : Int) (q z : Nat) (s8 s9 : Value) (wy : World) : Prop :=
  ∃ p : Nat, s8 = .pointer (some ⟨p, 0, none⟩) ∧ s9 = .int .i64 (Clk.rE hi d (h - r)) ∧ IsClk wy b d r true true lo hi ∧ wy.heap[z]? = some (.cells #[.int .i64 a, .int .i64 g, .int .i64 k, .int .i64 h] 50 (0, 0)) ∧
    wy.heap[q]? = some (.cells #[.int .i64 (Clk.rLo g g d (h - a)), .int .i64 (Clk.rHi g d (h - a))] 30 (0, 0)) ∧ wy.heap[wc.heap.size]? = some (.cells #[.int .i64 (Clk.rLo g g d (h - a)), .int .i64 (Clk.rHi g d (h - a))] 30 (0, 0)) ∧
    wy.heap[p]? = some (.cells #[.int .i64 (Clk.rLo lo hi d (h - r)), .int .i64 (Clk.rHi hi d (h - r))] 30 (0, 0)) ∧ wc.heap.size < p ∧ Below wc.heap.size wc wy
end Go.Proofs.Ytfbkbpoabajgdaa

/- The examples of the chapter on frames, call by call. -/
import Derived.Test.YteakljjalmgicaaRScan
import Derived.Test.YteakljjalmgicaaRGet
import Derived.Lib.SlBytesConst
namespace Go.Proofs.Yteakljjalmgicaa
open Go.RowKit
set_option maxHeartbeats 4000000
set_option linter.unusedSimpArgs false
set_option linter.unusedVariables false
def armB : List Int := [213, 76, 2, 0, 3, 1, 2, 0, 79, 222]
theorem armB_by : By armB := by intro x hx; simp [armB] at hx; omega
theorem armB_enc : Frm.enc 2 0 3 258 [] = armB := by decide +kernel
theorem Rd.lit (w : World) (l : List Int) (h : By l) : Rd (w.alloc (.cells (bv l).toArray 5)) (w.heap.size + 1) (some ⟨w.heap.size, 0, none⟩) l.length l := Rd.of_block (heap_new _ _) (by simp) h
theorem Ri.lit (w : World) (l : List Int) (h : I64 l) : Ri (w.alloc (.cells (iv l).toArray 3)) (w.heap.size + 1) (some ⟨w.heap.size, 0, none⟩) l.length l := by
  refine ⟨rfl, h, fun hn => ⟨_, 0, rfl, by simp, fun i hi => ?_⟩⟩
  rw [Nat.zero_add]
  exact blk_cell (heap_new w (.cells (iv l).toArray 3)) i (by simp [iv, List.getElem?_eq_getElem hi, List.getD])
/-- a constant's bytes: the row with the run-time's mark -/
theorem Rd.litM (w : World) (l : List Int) (m : Nat × Nat) (h : By l) : Rd (w.alloc (.cells (bv l).toArray 5 m)) (w.alloc (.cells (bv l).toArray 5 m)).heap.size (some ⟨w.heap.size, 0, none⟩) l.length l := by
  refine ⟨rfl, h, fun hn => ⟨_, 0, rfl, by simp, fun i hi => ?_⟩⟩
  have hh := heap_new w (.cells (bv l).toArray 5 m)
  rw [Nat.zero_add, World.cell?]
  simp only [hh]
  simp [bv, List.getElem?_eq_getElem hi, List.getD]
theorem Rd.litA (w : World) (l : List Int) (q : Nat) (hq : q = w.heap.size) (h : By l) : Rd (w.alloc (.cells (bv l).toArray 5)) (w.alloc (.cells (bv l).toArray 5)).heap.size (some ⟨q, 0, none⟩) l.length l := by subst hq; exact (Rd.lit w l h).more (by simp)
theorem Ri.litA (w : World) (l : List Int) (q : Nat) (hq : q = w.heap.size) (h : I64 l) : Ri (w.alloc (.cells (iv l).toArray 3)) (w.alloc (.cells (iv l).toArray 3)).heap.size (some ⟨q, 0, none⟩) l.length l := by subst hq; exact (Ri.lit w l h).more (by simp)
theorem Rd.litS (w : World) (l : List Int) (h : By l) : Rd (w.alloc (.cells (bv l).toArray 5)) (w.alloc (.cells (bv l).toArray 5)).heap.size (some ⟨w.heap.size, 0, none⟩) l.length l := (Rd.lit w l h).more (by simp)
theorem Ri.litS (w : World) (l : List Int) (h : I64 l) : Ri (w.alloc (.cells (iv l).toArray 3)) (w.alloc (.cells (iv l).toArray 3)).heap.size (some ⟨w.heap.size, 0, none⟩) l.length l := (Ri.lit w l h).more (by simp)
theorem Rd.pre {w : World} {B b o n : Nat} {l : List Int} (h : Rd w B (some ⟨b, o, none⟩) n l) (m : Nat) (hm : m ≤ n) : Rd w B (some ⟨b, o, none⟩) m (l.take m) := by
  have := h.sub 0 m (by omega)
  simpa using this
theorem mk9 (W : World) : (Instr.makeSlice 23 (.int .i64 9) (.int .i64 9)).run Try.prog W = .ok (.slice (some ⟨W.heap.size, 0, none⟩) 9 9) (W.alloc (.cells (bv [0, 0, 0, 0, 0, 0, 0, 0, 0]).toArray 5)) := by kernel_rfl
theorem mk10 (W : World) : (Instr.makeSlice 23 (.int .i64 10) (.int .i64 10)).run Try.prog W = .ok (.slice (some ⟨W.heap.size, 0, none⟩) 10 10) (W.alloc (.cells (bv [0, 0, 0, 0, 0, 0, 0, 0, 0, 0]).toArray 5)) := by kernel_rfl
theorem Rf.lit1 (w : World) (k f t s : Int) : Rf (w.alloc (.cells #[.int .i64 k, .int .i64 f, .int .i64 t, .int .i64 s, .slice none 0 0] 25)) (w.alloc (.cells #[.int .i64 k, .int .i64 f, .int .i64 t, .int .i64 s, .slice none 0 0] 25)).heap.size (some ⟨w.heap.size, 0, none⟩) 1 [⟨k, f, t, s, []⟩] := by
  refine ⟨rfl, fun _ => ⟨_, 0, rfl, by simp, fun i hi => ?_⟩⟩
  obtain rfl : i = 0 := by omega
  have hh := heap_new w (.cells #[.int .i64 k, .int .i64 f, .int .i64 t, .int .i64 s, .slice none 0 0] 25)
  refine ⟨none, 0, blk_cell (l := [_, _, _, _, _]) hh 0 rfl, blk_cell (l := [_, _, _, _, _]) hh 1 rfl, blk_cell (l := [_, _, _, _, _]) hh 2 rfl, blk_cell (l := [_, _, _, _, _]) hh 3 rfl, blk_cell (l := [_, _, _, _, _]) hh 4 rfl, Rd.nil _ _ _, fun _ => ⟨rfl, rfl⟩, Nat.le_refl _, Nat.zero_le _⟩
theorem kf_samei (l : List Int) (A C : Option Addr) (n cap caq : Nat) (hn : n ≤ 1000) (w : World) (h : Ri w w.heap.size A n l) (g : Ri w w.heap.size C n l) :
    Calls Try.prog 28 #[.slice A n cap, .slice C n caq] w fun e w' => e = .returned (.bool true) ∧ ∃ q, w' = w.drewN q :=
  (samei_any A C n n cap caq l l w (by omega) (by omega) h g).mono fun e w' ⟨h1, h2⟩ => ⟨by rw [h1]; simp, h2⟩
theorem kf_samef (l : List Fr) (A C : Option Addr) (n cap caq : Nat) (hn : n ≤ 1000) (w : World) (h : Rf w w.heap.size A n l) (g : Rf w w.heap.size C n l) :
    Calls Try.prog 23 #[.slice A n cap, .slice C n caq] w fun e w' => e = .returned (.bool true) ∧ Below w.heap.size w w' :=
  (samef_any A C n n cap caq l l w (by omega) (by omega) h g).mono fun e w' ⟨h1, h2⟩ => ⟨by rw [h1, frsEq_iff.2 rfl], h2⟩
theorem kf_enc (w : World) : Calls Try.prog 16 #[.agg #[.int .i64 2, .int .i64 0, .int .i64 3, .int .i64 258, .slice none 0 0]] w
    fun e w' => ∃ A' cap', e = .returned (.tuple #[.slice A' 10 cap', .int .i64 0]) ∧ Ow w' w.heap.size A' 10 cap' armB ∧ Below w.heap.size w w' := by
  have := enc_yes 2 0 3 258 none 0 0 [] w (by decide) (Rd.nil _ _ _)
  rw [armB_enc, Nat.zero_add] at this
  exact this
theorem kf_sum (l : List Int) (s : Nat) (hs : Frm.crcN l = s) (A : Option Addr) (n cap : Nat) (w : World) (hn : n ≤ 1000) (h : Rd w w.heap.size A n l) : Calls Try.prog 13 #[.slice A n cap] w fun e w' => e = .returned (.int .i64 (s : Int)) ∧ w = w' := by
  rw [← hs]; exact sum_any A n cap l w (by omega) h
theorem kf_valid (k f t s : Int) (b : Bool) (hb : Frm.vd k f t s 0 = b) (w : World) : Calls Try.prog 11 #[.agg #[.int .i64 k, .int .i64 f, .int .i64 t, .int .i64 s, .slice none 0 0]] w fun e w' => e = .returned (.bool b) ∧ Below w.heap.size w w' := by
  rw [← hb]; exact valid_any k f t s none 0 0 w (by omega)
theorem kf_dec (l : List Int) (k : Int) (hk : k ≠ 0) (hd : Frm.dE l = k) (A : Option Addr) (n cap : Nat) (w : World) (hn : n ≤ 1000) (hc : n ≤ cap) (hcm : cap ≤ 1000000) (h : Rd w w.heap.size A n l) :
    Calls Try.prog 19 #[.slice A n cap] w fun e w' => e = .returned (.tuple #[.agg #[.int .i64 0, .int .i64 0, .int .i64 0, .int .i64 0, .slice none 0 0], .int .i64 k]) ∧ Below w.heap.size w w' :=
  (dec_any A n cap l w (by omega) hc (by omega) h).mono fun e w' hh => by
    rcases hh with ⟨_, he, hb⟩ | ⟨h0, _⟩
    · exact ⟨by rw [he, hd], hb⟩
    · omega
theorem kf_put (A : Option Addr) (cap : Nat) (w : World) (h : Ri w w.heap.size A 2 [258, 1]) : Calls Try.prog 24 #[.slice A 2 cap] w
    fun e w' => ∃ A' cap', e = .returned (.tuple #[.slice A' 8 cap', .int .i64 0]) ∧ Ow w' w.heap.size A' 8 cap' [0, 0, 1, 2, 0, 0, 0, 1] ∧ Below w.heap.size w w' := by
  have := put_yes A 2 cap [258, 1] w h (by omega) (by decide)
  rw [show Frm.pn [258, 1] = [0, 0, 1, 2, 0, 0, 0, 1] by decide +kernel] at this
  exact this
theorem kf_get1 (A : Option Addr) (cap : Nat) (w : World) (hc : 4 ≤ cap) (hcm : cap ≤ 1000000) (h : Rd w w.heap.size A 4 [0, 0, 1, 2]) : Calls Try.prog 26 #[.slice A 4 cap, .int .i64 1] w
    fun e w' => ∃ A' cap', e = .returned (.tuple #[.slice A' 1 cap', .int .i64 0]) ∧ Oi w' w.heap.size A' 1 cap' [258] ∧ Below w.heap.size w w' :=
  (get_any A 4 cap 1 _ w (by omega) hc (by omega) (by omega) h).mono fun e w' hh => by
    obtain ⟨h1 | h1 | h1 | ⟨_, A', cap', he, ho⟩, hb⟩ := hh
    · omega
    · have := h1.2.1; omega
    · have := h1.2.1; omega
    · exact ⟨A', cap', he, ho, hb⟩
theorem kf_get2 (A : Option Addr) (cap : Nat) (w : World) (hc : 3 ≤ cap) (hcm : cap ≤ 1000000) (h : Rd w w.heap.size A 3 [0, 0, 1]) : Calls Try.prog 26 #[.slice A 3 cap, .int .i64 1] w
    fun e w' => e = .returned (.tuple #[.slice none 0 0, .int .i64 4]) ∧ Below w.heap.size w w' :=
  (get_any A 3 cap 1 _ w (by omega) hc (by omega) (by omega) h).mono fun e w' hh => by
    obtain ⟨h1 | h1 | h1 | ⟨h1, _⟩, hb⟩ := hh
    · omega
    · exact ⟨h1.2.2, hb⟩
    · have := h1.2.1; omega
    · omega
def armF : Fr := ⟨2, 0, 3, 258, []⟩
theorem kf_scanv : Frm.scan ([7] ++ armB ++ [213]) 0 = ([armF], 11) := by
  rw [Frm.scan_none (by decide) (by decide) (by decide +kernel), Frm.scan_some (f := armF) (by decide) (by decide) (by rw [Frm.frAt_yes (by decide) (by decide) (by decide +kernel)]; rfl), Frm.scan_open (i := 0 + 1 + 10 + armF.d.length) (by decide)]
  rfl
theorem kf_scan (A : Option Addr) (cap : Nat) (w : World) (hc : 12 ≤ cap) (hcm : cap ≤ 9223372036854775807) (h : Rd w w.heap.size A 12 ([7] ++ armB ++ [213])) : Calls Try.prog 21 #[.slice A 12 cap] w
    fun e w' => ∃ A' cap', e = .returned (.tuple #[.slice A' 1 cap', .int .i64 11, .int .i64 0]) ∧ Rof w' w.heap.size (.slice A' 1 cap') [armF] ∧ Below w.heap.size w w' :=
  (scan_any A 12 cap _ w (by omega) hc hcm h).mono fun e w' hh => by
    obtain ⟨h1 | ⟨_, v, he, ho⟩, hb⟩ := hh
    · omega
    · rw [kf_scanv] at he ho
      obtain ⟨A', cap', rfl⟩ := ho.form
      exact ⟨A', cap', he, ho, hb⟩
theorem kf_same (l k : List Int) (hlk : l = k) (A C : Option Addr) (n m cap caq : Nat) (w : World) (h : Rd w w.heap.size A n l) (g : Rd w w.heap.size C m k) :
    Calls Try.prog 15 #[.slice A n cap, .slice C m caq] w fun e w' => e = .returned (.bool true) ∧ w = w' :=
  (sameb_any A C n m cap caq l k w h g).mono fun e w' ⟨h1, h2⟩ => ⟨by rw [h1, hlk]; simp, h2⟩
end Go.Proofs.Yteakljjalmgicaa

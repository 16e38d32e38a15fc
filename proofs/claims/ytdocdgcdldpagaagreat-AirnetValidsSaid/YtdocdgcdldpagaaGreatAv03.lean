import Derived.Test.YtdocdgcdldpagaaGreatAp
import Derived.Test.YtdocdgcdldpagaaGreatAv02
import Derived.StillTailTactics
import Derived.ProofKit
import Derived.OpenShut
import Derived.ShutString
import Derived.ChangeOld
import Derived.Lib.SmallJoins
import Derived.Deep.Slices
import Derived.Deep.Fields
import Derived.ChangeSame
import Derived.Carry
namespace Go.Proofs.YtdocdgcdldpagaaGreat
open Go.RowKit
set_option maxHeartbeats 4000000
set_option maxRecDepth 100000
set_option linter.unusedSimpArgs false
set_option linter.unusedVariables false
namespace Frm
def okN (x : Int) : Bool := inB x 0 4294967295
def okAll (l : List Int) : Bool := l.all okN
def num4 (x : Int) : List Int := [x / 16777216, x / 65536 % 256, x / 256 % 256, x % 256]
def pn : List Int → List Int
  | [] => []
  | x :: l => num4 x ++ pn l
theorem pn_append (l m : List Int) : pn (l ++ m) = pn l ++ pn m := by
  induction l with
  | nil => rfl
  | cons x t ih => simp [pn, ih]
theorem okN_iff {x : Int} : okN x = true ↔ 0 ≤ x ∧ x ≤ 4294967295 := inB_iff
theorem num4_by {x : Int} (h : okN x = true) : By (num4 x) := by
  rw [okN_iff] at h
  intro y hy
  simp [num4] at hy
  omega
theorem pn_by {l : List Int} (h : okAll l = true) : By (pn l) := by
  induction l with
  | nil => intro x hx; cases hx
  | cons x t ih =>
    simp [okAll] at h
    exact By.append (num4_by h.1) (ih (by simpa [okAll] using h.2))
theorem okAll_at {l : List Int} (h : okAll l = true) {j : Nat} (hj : j < l.length) : okN (l.getD j 0) = true := by
  rw [okAll, List.all_eq_true] at h
  have := h _ (List.getElem_mem hj)
  simpa [List.getD, List.getElem?_eq_getElem hj] using this
end Frm
theorem put1 (x : Int) (w : World) : Calls Tryz.prog 159 #[.int .i64 x] w fun e w' => e = .returned (.bool (!Frm.okN x)) ∧ w = w' := by
  go_enter Tryz.func159, Tryz.ntmps159
  go_wp2_with fail
  refine (fwithin_any _ _ _ _).mono ?_
  rintro e w1 ⟨rfl, rfl⟩
  go_wp2_with fail
  go_ret
  exact ⟨rfl, rfl⟩
theorem put1_is (x : Int) (r : Bool) (w : World) (h : Frm.okN x = !r) : Calls Tryz.prog 159 #[.int .i64 x] w fun e w' => e = .returned (.bool r) ∧ w = w' := by
  have := put1 x w
  rw [h, Bool.not_not] at this
  exact this
def IPost (l : List Int) (e : Ending) : Prop := (Frm.okAll l = true ∧ e = .returned (.int .i64 (-1))) ∨ (Frm.okAll l = false ∧ ∃ r : Nat, r < l.length ∧ e = .returned (.int .i64 r))
theorem index_any (A : Option Addr) (n cap : Nat) (l : List Int) (w : World) (hn : n ≤ 140737488355328) (h : Ri w w.heap.size A n l) :
    Calls Tryz.prog 174 #[.slice A n cap, .func (.func 159) #[] #[]] w fun e w' => IPost l e ∧ w = w' := by
  obtain ⟨hl, hb, hr⟩ := h
  have HL := Lib.hid hl
  clear hl hb
  go_enter Tryz.func174, Tryz.ntmps174
  go_wp2_with fail
  go_loop [8] (fun s => ∃ (j : Nat), s = .int .i64 j ∧ j ≤ n ∧ Hid (∀ i, i < j → Frm.okN (l.getD i 0) = true)) (fun s => n - (intOf s).toNat)
  case atStart => exact ⟨0, by go_num, by omega, Lib.hid (fun i hi => absurd hi Cb)⟩
  case round =>
    obtain ⟨j, rfl, hj, HA⟩ := hrel
    by_cases hlt : j < n
    · obtain ⟨b, o, rfl, hbl, hcl⟩ := hr Cb
      have c1 := hcl j hlt
      obtain ⟨x, hx⟩ : ∃ x, l.getD j 0 = x := ⟨_, rfl⟩
      rw [hx] at c1
      have HX := Lib.hid hx
      clear hr hcl hx
      cases ho : Frm.okN x
      · have P := Lib.hid (fun W : World => put1_is x true W (by simp [ho]))
        have E := Lib.hid (show Frm.okAll l = false by
          rw [Frm.okAll, List.all_eq_false]
          have hjl : j < l.length := by rw [HL.out]; exact hlt
          refine ⟨l[j], List.getElem_mem hjl, ?_⟩
          have : l[j] = x := by rw [← HX.out]; simp [List.getD, List.getElem?_eq_getElem hjl]
          rw [this, ho]; simp)
        have hjl := Lib.hid (show j < l.length by rw [HL.out]; exact hlt)
        clear ho
        go_wp2_with fail
        refine (P.out _).mono ?_
        rintro e w1 ⟨rfl, rfl⟩
        go_wp2_with fail
        go_ret
        exact ⟨.inr ⟨E.out, j, hjl.out, rfl⟩, rfl⟩
      · have P := Lib.hid (fun W : World => put1_is x false W (by simp [ho]))
        have E := Lib.hid (show ∀ i, i < j + 1 → Frm.okN (l.getD i 0) = true from fun i hi => by
          rcases Nat.lt_or_ge i j with h | h
          · exact HA.out i h
          · obtain rfl : i = j := by omega
            rw [HX.out, ho])
        clear ho HA
        go_wp2_with fail
        refine (P.out _).mono ?_
        rintro e w1 ⟨rfl, rfl⟩
        go_wp2_with fail
        go_round
        case rel => exact ⟨j + 1, by go_num, by omega, E⟩
        case measure => simp [intOf]; omega
    · obtain rfl : j = n := by omega
      have E := Lib.hid (show Frm.okAll l = true by
        rw [Frm.okAll, List.all_eq_true]
        intro x hx
        obtain ⟨i, hi, rfl⟩ := List.getElem_of_mem hx
        have := HA.out i (by rw [← HL.out]; exact hi)
        simpa [List.getD, List.getElem?_eq_getElem hi] using this)
      clear hr HA
      go_wp2_with fail
      go_ret
      exact ⟨.inl ⟨E.out, rfl⟩, rfl⟩
theorem contains_any (A : Option Addr) (n cap : Nat) (l : List Int) (w : World) (hn : n ≤ 140737488355328) (h : Ri w w.heap.size A n l) :
    Calls Tryz.prog 158 #[.slice A n cap, .func (.func 159) #[] #[]] w fun e w' => e = .returned (.bool (!Frm.okAll l)) ∧ w = w' := by
  have H := Lib.hid (index_any A n cap l w hn h)
  clear h
  go_enter Tryz.func158, Tryz.ntmps158
  go_wp2_with fail
  refine H.out.mono ?_
  rintro e w1 ⟨⟨h1, rfl⟩ | ⟨h1, r, hr, rfl⟩, rfl⟩
  · have HH := Lib.hid h1
    clear h1
    go_wp2_with fail
    go_ret
    exact ⟨ret_bool (by rw [HH.out]; simp), rfl⟩
  · have HH := Lib.hid h1
    clear h1 hr
    go_wp2_with fail
    go_ret
    exact ⟨ret_bool (by rw [HH.out]; simp), rfl⟩
theorem put_yes (A : Option Addr) (n cap : Nat) (l : List Int) (w : World) (h : Ri w w.heap.size A n l) (hn : n ≤ 16) (hx : Frm.okAll l = true) :
    Calls Tryz.prog 137 #[.slice A n cap] w fun e w' => ∃ A' cap', e = .returned (.tuple #[.slice A' (4 * n) cap', .int .i64 0]) ∧ Ow w' w.heap.size A' (4 * n) cap' (Frm.pn l) ∧ Below w.heap.size w w' := by
  obtain ⟨i0, hi0, hz0, hz1, hz2⟩ := info_parts info_u8
  have C := Lib.hid (contains_any A n cap l w Cb h)
  rw [hx] at C
  have HX := Lib.hid hx
  have HH := Lib.hid h
  clear h hx
  go_enter Tryz.func137, Tryz.ntmps137
  go_wp2_with fail
  refine C.out.mono ?_
  rintro e w1 ⟨rfl, rfl⟩
  go_wp2_with fail
  go_loopw [4, 16] (fun s4 s16 wr => ∃ j : Nat, s16 = .int .i64 j ∧ j ≤ n ∧ wr.ownsRow w.heap.size 5 1 s4 (4 * j) (bv (Frm.pn (l.take j))) ∧ Below w.heap.size w wr) (fun _ s16 _ => n - (intOf s16).toNat)
  case atStart => exact ⟨0, by go_num, by omega, by simpa [Frm.pn, bv] using World.ownsRow_nil w w.heap.size _ 1, A9⟩
  case round =>
    obtain ⟨j, rfl, hj, hown, hB⟩ := hrel
    obtain ⟨A4, cap4, rfl⟩ := own_form hown
    have hzr := hB.size
    have HR := HH.out.below hB (Nat.le_refl _)
    by_cases hlt : j < n
    · obtain ⟨bl, o, rfl, hbl, hcl⟩ := HR.2.2 Cb
      have hck := hcl j hlt
      have hlen := HR.1
      have hok := Frm.okN_iff.1 (Frm.okAll_at HX.out (j := j) Cb)
      have E := Lib.hid (show Frm.pn (l.take (j + 1)) = Frm.pn (l.take j) ++ Frm.num4 (l.getD j 0) by rw [take_snoc l j Cb, Frm.pn_append]; simp [Frm.pn])
      obtain ⟨y, hy⟩ : ∃ y, l.getD j 0 = y := ⟨_, rfl⟩
      rw [hy] at hck E hok
      obtain ⟨y0, y1⟩ := hok
      clear hcl HR hy hlen
      go_wp2_with (at_builtin; refine wpList_append_any _ rfl (.tmp 20) (.tmp 32) _ rfl w.heap.size 5 i0 _ 1 1 Tryz.underlying47 hi0 hz0 hz1 hz2 rfl Cb _ (4 * j) _ rfl (hown.alloc _) (wr.heap.size + 1) (some ⟨wr.heap.size, 0, none⟩) 4 4 (bv (Frm.num4 y)) rfl (Reads.new wr #[.int .u8 (y / 16777216), .int .u8 (y / 65536 % 256), .int .u8 (y / 256 % 256), .int .u8 (y % 256)] 5) (bv_one _) Bn Cb C6 ?_; intro v1 w2 hown1 hg1 hat1)
      have ET := E.out
      go_roundw
      case rel =>
        refine ⟨j + 1, by go_num, by omega, ?_, (hB.alloc hzr _).grown hg1 C6 (fun g hg => (hown.lt g hg).1)⟩
        rw [ET]
        have hx := hown1
        rw [show 4 * (j + 1) = 4 * j + 4 by omega]
        simp only [bv, List.map_append] at hx ⊢
        exact hx
      case measure => simp [intOf]; omega
    · obtain rfl : j = n := by omega
      have E := Lib.hid (show l.take j = l by rw [List.take_of_length_le (by rw [HH.out.1]; omega)])
      rw [E.out] at hown
      clear HR
      go_wp2_with fail
      go_ret2
      exact ⟨A4, cap4, rfl, ⟨hown, Frm.pn_by HX.out⟩, hB⟩
end Go.Proofs.YtdocdgcdldpagaaGreat
namespace Go.Proofs.YtdocdgcdldpagaaGreat
open Go.RowKit
set_option maxHeartbeats 4000000
set_option maxRecDepth 100000
set_option linter.unusedSimpArgs false
set_option linter.unusedVariables false
structure Fr where
  k : Int
  f : Int
  t : Int
  s : Int
  d : List Int
def fr0 : Fr := ⟨0, 0, 0, 0, []⟩
def FrAt (w : World) (B b p : Nat) (x : Fr) : Prop :=
  ∃ (A : Option Addr) (cap : Nat), w.cell? ⟨b, p, none⟩ = some (.int .i64 x.k) ∧ w.cell? ⟨b, p + 1, none⟩ = some (.int .i64 x.f) ∧ w.cell? ⟨b, p + 2, none⟩ = some (.int .i64 x.t) ∧ w.cell? ⟨b, p + 3, none⟩ = some (.int .i64 x.s) ∧
    w.cell? ⟨b, p + 4, none⟩ = some (.slice A x.d.length cap) ∧ Rd w B A x.d.length x.d ∧ (A = none → x.d.length = 0 ∧ cap = 0) ∧ x.d.length ≤ cap ∧ cap ≤ maxLen
def Rf (w : World) (B : Nat) (A : Option Addr) (n : Nat) (l : List Fr) : Prop :=
  l.length = n ∧ (0 < n → ∃ b o, A = some ⟨b, o, none⟩ ∧ b < B ∧ ∀ i, i < n → FrAt w B b (o + i * 5) (l.getD i fr0))
section
variable {w w' : World} {B : Nat} {A : Option Addr} {n : Nat} {l : List Fr}
theorem FrAt.keep {b p : Nat} {x : Fr} (h : FrAt w B b p x) (hb : b < B) (hk : ∀ b o, b < B → w'.cell? ⟨b, o, none⟩ = w.cell? ⟨b, o, none⟩) : FrAt w' B b p x := by
  obtain ⟨A, cap, h1, h2, h3, h4, h5, h6, h7⟩ := h
  exact ⟨A, cap, (hk _ _ hb).trans h1, (hk _ _ hb).trans h2, (hk _ _ hb).trans h3, (hk _ _ hb).trans h4, (hk _ _ hb).trans h5, h6.keep hk, h7⟩
theorem Rf.keep (h : Rf w B A n l) (hk : ∀ b o, b < B → w'.cell? ⟨b, o, none⟩ = w.cell? ⟨b, o, none⟩) : Rf w' B A n l :=
  ⟨h.1, fun hn => by
    obtain ⟨b, o, e, hb, hc⟩ := h.2 hn
    exact ⟨b, o, e, hb, fun i hi => (hc i hi).keep hb hk⟩⟩
theorem Rf.below {B' : Nat} (h : Rf w B A n l) (k : Below B' w w') (hB : B ≤ B') : Rf w' B A n l := h.keep fun b o hb => k.cell (p := ⟨b, o, none⟩) (Nat.lt_of_lt_of_le hb hB)
theorem FrAt.more {B' b p : Nat} {x : Fr} (h : FrAt w B b p x) (hB : B ≤ B') : FrAt w B' b p x := by
  obtain ⟨A, cap, h1, h2, h3, h4, h5, h6, h7⟩ := h
  exact ⟨A, cap, h1, h2, h3, h4, h5, h6.more hB, h7⟩
theorem Rf.more {B' : Nat} (h : Rf w B A n l) (hB : B ≤ B') : Rf w B' A n l :=
  ⟨h.1, fun hn => by
    obtain ⟨b, o, e, hb, hc⟩ := h.2 hn
    exact ⟨b, o, e, by omega, fun i hi => (hc i hi).more hB⟩⟩
theorem Rf.nil (w : World) (B : Nat) (A : Option Addr) : Rf w B A 0 [] := ⟨rfl, fun h => absurd h Cb⟩
end
end Go.Proofs.YtdocdgcdldpagaaGreat
namespace Go.Proofs.YtdocdgcdldpagaaGreat
open Go.ChangeShapes Go.WideShapes Go.ChangeAt Go.RowKit Go.Deep Go.Joins
set_option maxRecDepth 100000
set_option linter.unusedVariables false
set_option linter.unusedSimpArgs false
set_option maxHeartbeats 4000000
section
variable {H : Type} {enc : TypeId × Value → H} {P : Program} {w : World} {base : Nat} {spare : Nat → Bool} {held : Bool}
theorem cell_lt {w : World} {a : Addr} {v : Value} (h : w.cell? a = some v) : a.block < w.heap.size := by
  rcases Nat.lt_or_ge a.block w.heap.size with hlt | hge
  · exact hlt
  · simp [World.cell?, Array.getElem?_eq_none hge] at h
theorem add_none (b o n : Nat) : (⟨b, o, none⟩ : Addr).add n = ⟨b, o + n, none⟩ := by unfold Addr.add; split <;> simp_all
def Room (a : Option Addr) (len cap : Nat) : Prop := len ≤ cap ∧ cap ≤ maxLen ∧ (a = none → len = 0 ∧ cap = 0)
theorem row_of {k : IntKind} {t e : TypeId} {fuel : Nat} {c : Value} {x : DataW H × List MemPlace} (ht : P.underlying t = some (.slice e)) (he : P.underlying e = some (.int k)) (hC : P.cellsOf e = 1)
    (hf : DataW.trod enc P w 0 (fun _ => true) true fuel t [c] = some x) : ∃ (a : Option Addr) (len cap : Nat) (l : List Int), c = .slice a len cap ∧ Room a len cap ∧ l.length = len ∧ (∀ z ∈ l, (Lit.int k z).wf = true) ∧
      (0 < len → ∃ b o, a = some ⟨b, o, none⟩ ∧ b < w.heap.size ∧ ∀ i, i < len → w.cell? ⟨b, o + i, none⟩ = some (.int k (l.getD i 0))) := by
  rcases open_ints ht he hC hf with ⟨hcs, _⟩ | ⟨x, l, c', zs, hcs, _, hl, hm, hz, _, hcell, hwz⟩
  · simp at hcs
    exact ⟨none, 0, 0, [], hcs, ⟨by omega, by unfold maxLen; omega, fun _ => ⟨rfl, rfl⟩⟩, rfl, (by intro z hz; cases hz), fun h => absurd h Cb⟩
  · simp at hcs
    simp at hz
    subst hcs
    have hlen : (zs.take l).length = l := by rw [List.length_take]; omega
    refine ⟨some x, l, c', zs.take l, rfl, ⟨hl, hm, (fun h => by cases h)⟩, hlen, fun z hz' => hwz _ (List.mem_of_mem_take hz'), fun h0 => ?_⟩
    obtain ⟨b, o, spot⟩ := x
    have g0 := hcell 0 Cb
    have hspot : spot = none := by simpa [Addr.add] using World.cell?_spot g0
    subst hspot
    refine ⟨b, o, rfl, (by simpa [Addr.add] using cell_lt g0), fun i hi => ?_⟩
    have := hcell i Cb
    rw [add_none] at this
    rw [this]
    simp [List.getD, List.getElem?_take_of_lt hi]
end
section
variable {H : Type} {enc : TypeId × Value → H} {w : World} {fuel : Nat} {c : Value} {x : DataW H × List MemPlace}
theorem i64_wf {z : Int} (h : (Lit.int .i64 z).wf = true) : -9223372036854775808 ≤ z ∧ z ≤ 9223372036854775807 := by
  have h' : IntKind.i64.min ≤ z ∧ z ≤ IntKind.i64.max := by simpa [Lit.wf] using h
  exact ⟨Int.le_trans C8 h'.1, Int.le_trans h'.2 C8⟩
theorem ints_of (hf : DataW.trod enc Tryz.prog w 0 (fun _ => true) true fuel 26 [c] = some x) : ∃ (a : Option Addr) (len cap : Nat) (l : List Int), c = .slice a len cap ∧ Room a len cap ∧ Ri w w.heap.size a len l := by
  obtain ⟨a, len, cap, l, h1, h2, h3, h4, h5⟩ := row_of Tryz.underlying26 Tryz.underlying3 C7 hf
  exact ⟨a, len, cap, l, h1, h2, h3, fun z hz => i64_wf (h4 z hz), h5⟩
end
end Go.Proofs.YtdocdgcdldpagaaGreat
namespace Go.Proofs.YtdocdgcdldpagaaGreat.Ck
namespace Clk
set_option linter.unusedVariables false
set_option linter.unusedSimpArgs false
theorem tdiv_down (a b : Int) (h : 0 < b) : (if a.tmod b < 0 then a.tdiv b - 1 else a.tdiv b) = a / b := by
  have e : b * a.tdiv b + a.tmod b = a := Int.mul_tdiv_add_tmod a b
  have u : a.tmod b < b := Int.tmod_lt_of_pos a h
  have l : -b < a.tmod b := Int.lt_tmod_of_pos a h
  split
  · rename_i hn
    exact ((Int.ediv_emod_unique (a := a) (r := a.tmod b + b) (q := a.tdiv b - 1) h).2 ⟨by rw [Int.mul_sub]; omega, by omega, by omega⟩).1.symm
  · rename_i hn
    exact ((Int.ediv_emod_unique (a := a) (r := a.tmod b) (q := a.tdiv b) h).2 ⟨by omega, by omega, by omega⟩).1.symm
theorem grow_hi (l d : Int) (hd : 0 ≤ d) (hd' : d ≤ 100000) : -((-(l+1)*1000000) / (1000000 - d)) = ((l+1)*1000000 + (1000000 - d) - 1) / (1000000 - d) := by
  generalize hn : (l+1) * 1000000 = n
  rw [show -(l+1)*1000000 = -n by omega]
  generalize hk : 1000000 - d = k
  have hk0 : 0 < k := by omega
  have e := Int.mul_ediv_add_emod (-n) k
  have e1 := Int.emod_nonneg (-n) (b := k) Cb
  have e2 := Int.emod_lt_of_pos (-n) hk0
  refine ((Int.ediv_emod_unique (a := n + k - 1) (r := k - 1 - (-n) % k) (q := -(-n / k)) hk0).2 ⟨by rw [Int.mul_neg]; omega, by omega, by omega⟩).1.symm
theorem lo_le (l d : Int) (hl : 1 ≤ l) (hd : 0 ≤ d) (hd' : d ≤ 100000) : 0 ≤ (l-1) * 1000000 / (1000000 + d) ∧ (l-1) * 1000000 / (1000000 + d) ≤ l - 1 := by
  have hk0 : 0 < 1000000 + d := by omega
  have h0 : 0 ≤ (l-1) * d := Int.mul_nonneg Cb hd
  refine ⟨Int.ediv_nonneg Cb Cb, Int.ediv_le_of_le_mul hk0 (by rw [Int.mul_add]; omega)⟩
theorem hi_ge (l d : Int) (hl : 0 ≤ l) (hd : 0 ≤ d) (hd' : d ≤ 100000) : l + 1 ≤ ((l+1) * 1000000 + (1000000 - d) - 1) / (1000000 - d) ∧ ((l+1) * 1000000 + (1000000 - d) - 1) / (1000000 - d) ≤ 2 * l + 3 := by
  have hk0 : 0 < 1000000 - d := by omega
  have h0 : 0 ≤ (l+1) * d := Int.mul_nonneg Cb hd
  have h1 : (l+1) * d ≤ (l+1) * 100000 := Int.mul_le_mul_of_nonneg_left hd' Cb
  refine ⟨(Int.le_ediv_iff_mul_le hk0).2 (by rw [Int.mul_sub]; omega), Int.ediv_le_of_le_mul hk0 ?_⟩
  rw [Int.mul_sub, show (2*l+3)*d = 2 * ((l+1)*d) + d by rw [Int.add_mul, Int.add_mul]; have := Int.mul_assoc 2 l d; omega]
  omega
def inB (n a b : Int) : Bool := decide (a ≤ n) && decide (n ≤ b)
theorem inB_iff {n a b : Int} : inB n a b = true ↔ a ≤ n ∧ n ≤ b := by simp [inB]
theorem inB_no {n a b : Int} : inB n a b = false ↔ ¬ (a ≤ n ∧ n ≤ b) := by rw [← inB_iff]; simp
def vB (lo hi : Int) : Bool := decide (-1073741824 ≤ lo) && decide (lo ≤ hi) && decide (hi ≤ 1073741824)
theorem vB_iff {lo hi : Int} : vB lo hi = true ↔ -1073741824 ≤ lo ∧ lo ≤ hi ∧ hi ≤ 1073741824 := by simp [vB, and_assoc]
def up (d l : Int) : Int := (l - 1) * 1000000 / (1000000 + d)
def vp (d l : Int) : Int := ((l + 1) * 1000000 + (1000000 - d) - 1) / (1000000 - d)
def gLo (lo d l : Int) : Int := if 1 ≤ l then lo + up d l else lo
def gHi (hi d l : Int) : Int := hi + vp d l
def rLo (lo hi d l : Int) : Int := if gHi hi d l ≤ 1073741824 then gLo lo d l else 0
def rHi (hi d l : Int) : Int := if gHi hi d l ≤ 1073741824 then gHi hi d l else 0
def rE (hi d l : Int) : Int := if gHi hi d l ≤ 1073741824 then 0 else 3
theorem vp_ge (d l : Int) (hl : 0 ≤ l) (hd : 0 ≤ d) (hd' : d ≤ 100000) : l + 1 ≤ vp d l ∧ vp d l ≤ 2 * l + 3 := hi_ge l d hl hd hd'
theorem rE_01 (hi d l : Int) : rE hi d l = 0 ∨ rE hi d l = 3 := by unfold rE; split <;> simp
theorem rE_three {hi d l : Int} (h : rE hi d l ≠ 0) : rE hi d l = 3 := by have := rE_01 hi d l; omega
theorem gLo_bd {lo d l : Int} (hl : 0 ≤ l) (hd : 0 ≤ d) (hd' : d ≤ 100000) : lo ≤ gLo lo d l ∧ gLo lo d l ≤ lo + l := by
  unfold gLo up
  split
  · rename_i h; have := lo_le l d h hd hd'; omega
  · omega
theorem r_ok {lo hi d l : Int} (h : rE hi d l = 0) (h1 : -1073741824 ≤ lo) (h2 : lo ≤ hi) (hl : 0 ≤ l) (hd : 0 ≤ d) (hd' : d ≤ 100000) :
    lo ≤ rLo lo hi d l ∧ rLo lo hi d l ≤ rHi hi d l ∧ rHi hi d l ≤ 1073741824 ∧ hi + l + 1 ≤ rHi hi d l ∧ rLo lo hi d l ≤ lo + l := by
  have a := vp_ge d l hl hd hd'
  have b := gLo_bd (lo := lo) hl hd hd'
  unfold rE at h
  split at h
  · rename_i g
    rw [rLo, rHi, if_pos g, if_pos g]
    unfold gHi at *
    omega
  · omega
def xOk (a g k h : Int) : Bool := decide (-1073741824 ≤ a) && decide (a ≤ h) && decide (h ≤ 1073741824) && decide (0 ≤ g) && decide (g ≤ k) && decide (k ≤ 3600000)
theorem xOk_iff {a g k h : Int} : xOk a g k h = true ↔ -1073741824 ≤ a ∧ a ≤ h ∧ h ≤ 1073741824 ∧ 0 ≤ g ∧ g ≤ k ∧ k ≤ 3600000 := by simp [xOk, and_assoc]
def nLo (d r : Int) (s : Bool) (lo hi k h : Int) : Int := if s then max (rLo lo hi d (h - r)) k else k
def nHi (d r : Int) (s : Bool) (hi a g h : Int) : Int := if s then min (rHi hi d (h - r)) (rHi g d (h - a)) else rHi g d (h - a)
def addE (d r : Int) (s : Bool) (lo hi a g k h : Int) : Int :=
  if xOk a g k h = false then 2 else if s = true ∧ h < r then 3 else if s = true ∧ rE hi d (h - r) ≠ 0 then 3 else if rE g d (h - a) ≠ 0 then 3 else
  if nHi d r s hi a g h < nLo d r s lo hi k h then 10 else 0
def addR (d r : Int) (s : Bool) (lo hi a g k h : Int) : Int := if addE d r s lo hi a g k h = 0 then h else r
def addS (d r : Int) (s : Bool) (lo hi a g k h : Int) : Bool := if addE d r s lo hi a g k h = 0 then true else s
def addLo (d r : Int) (s : Bool) (lo hi a g k h : Int) : Int := if addE d r s lo hi a g k h = 0 then nLo d r s lo hi k h else lo
def addHi (d r : Int) (s : Bool) (lo hi a g k h : Int) : Int := if addE d r s lo hi a g k h = 0 then nHi d r s hi a g h else hi
theorem addE_bad {d r : Int} {s : Bool} {lo hi a g k h : Int} (x : xOk a g k h = false) : addE d r s lo hi a g k h = 2 := by rw [addE, if_pos x]
theorem addE_early {d r : Int} {lo hi a g k h : Int} (x : xOk a g k h = true) (y : h < r) : addE d r true lo hi a g k h = 3 := by simp [addE, x, y]
theorem addE_old {d r : Int} {lo hi a g k h : Int} (x : xOk a g k h = true) (y : r ≤ h) (z : rE hi d (h - r) ≠ 0) : addE d r true lo hi a g k h = 3 := by simp [addE, x, z]
theorem addE_said {d r : Int} {s : Bool} {lo hi a g k h : Int} (x : xOk a g k h = true) (y : s = true → r ≤ h ∧ rE hi d (h - r) = 0) (z : rE g d (h - a) ≠ 0) : addE d r s lo hi a g k h = 3 := by
  cases s
  · simp [addE, x, z]
  · obtain ⟨y1, y2⟩ := y rfl
    simp [addE, x, y2, z]
theorem addE_check {d r : Int} {s : Bool} {lo hi a g k h : Int} (x : xOk a g k h = true) (y : s = true → r ≤ h ∧ rE hi d (h - r) = 0) (z : rE g d (h - a) = 0) (v : nHi d r s hi a g h < nLo d r s lo hi k h) : addE d r s lo hi a g k h = 10 := by
  cases s
  · simp [addE, x, z, v]
  · obtain ⟨y1, y2⟩ := y rfl
    simp [addE, x, y2, z, v]; omega
theorem addE_ok {d r : Int} {s : Bool} {lo hi a g k h : Int} (x : xOk a g k h = true) (y : s = true → r ≤ h ∧ rE hi d (h - r) = 0) (z : rE g d (h - a) = 0) (v : nLo d r s lo hi k h ≤ nHi d r s hi a g h) : addE d r s lo hi a g k h = 0 := by
  cases s
  · simp [addE, x, z]; omega
  · obtain ⟨y1, y2⟩ := y rfl
    simp [addE, x, y2, z]; omega
theorem nLo_if {d r lo hi k h : Int} : nLo d r true lo hi k h = if rLo lo hi d (h - r) < k then k else rLo lo hi d (h - r) := by unfold nLo; rw [if_pos rfl]; split <;> omega
theorem nHi_if {d r hi a g h : Int} : nHi d r true hi a g h = if rHi g d (h - a) < rHi hi d (h - r) then rHi g d (h - a) else rHi hi d (h - r) := by unfold nHi; rw [if_pos rfl]; split <;> omega
theorem next_check' {d r lo hi a g k h : Int} (x : xOk a g k h = true) (y : r ≤ h) (u : (rE hi d (h - r) != 0) = false) (z : (rE g d (h - a) != 0) = false) (v : nHi d r true hi a g h < nLo d r true lo hi k h) : addE d r true lo hi a g k h = 10 :=
  addE_check x (fun _ => ⟨y, by simpa using u⟩) (by simpa using z) v
theorem next_ok' {d r lo hi a g k h : Int} (x : xOk a g k h = true) (y : r ≤ h) (u : (rE hi d (h - r) != 0) = false) (z : (rE g d (h - a) != 0) = false) (v : nLo d r true lo hi k h ≤ nHi d r true hi a g h) : addE d r true lo hi a g k h = 0 :=
  addE_ok x (fun _ => ⟨y, by simpa using u⟩) (by simpa using z) v
theorem first_said {d r lo hi a g k h : Int} (x : xOk a g k h = true) (z : (rE g d (h - a) != 0) = true) : addE d r false lo hi a g k h = rE g d (h - a) ∧ rE g d (h - a) ≠ 0 := by
  have z' := bne_iff_ne.1 z
  exact ⟨(addE_said x C9 z').trans (rE_three z').symm, z'⟩
theorem first_check {d r lo hi a g k h : Int} (x : xOk a g k h = true) (z : (rE g d (h - a) != 0) = false) (v : rHi g d (h - a) < k) : addE d r false lo hi a g k h = 10 :=
  addE_check x C9 (by simpa using z) (by simpa [nHi, nLo] using v)
theorem first_ok {d r lo hi a g k h : Int} (x : xOk a g k h = true) (z : (rE g d (h - a) != 0) = false) (v : k ≤ rHi g d (h - a)) : addE d r false lo hi a g k h = 0 :=
  addE_ok x C9 (by simpa using z) (by simpa [nHi, nLo] using v)
theorem next_old {d r lo hi a g k h : Int} (x : xOk a g k h = true) (y : r ≤ h) (z : (rE hi d (h - r) != 0) = true) : addE d r true lo hi a g k h = rE hi d (h - r) ∧ rE hi d (h - r) ≠ 0 := by
  have z' := bne_iff_ne.1 z
  exact ⟨(addE_old x y z').trans (rE_three z').symm, z'⟩
theorem next_said {d r lo hi a g k h : Int} (x : xOk a g k h = true) (y : r ≤ h) (u : (rE hi d (h - r) != 0) = false) (z : (rE g d (h - a) != 0) = true) : addE d r true lo hi a g k h = rE g d (h - a) ∧ rE g d (h - a) ≠ 0 := by
  have z' := bne_iff_ne.1 z
  exact ⟨(addE_said x (fun _ => ⟨y, by simpa using u⟩) z').trans (rE_three z').symm, z'⟩
def cnt (p : Nat → Bool) : Nat → Nat
  | 0 => 0
  | n + 1 => cnt p n + if p n then 0 else 1
theorem cnt_le (p : Nat → Bool) : ∀ n, cnt p n ≤ n
  | 0 => Nat.le_refl _
  | n + 1 => by have := cnt_le p n; unfold cnt; split <;> omega
theorem cnt_all (p : Nat → Bool) : ∀ n, (∀ t, t < n → p t = false) → cnt p n = n
  | 0, _ => rfl
  | n + 1, h => by unfold cnt; rw [cnt_all p n (fun t ht => h t Cb), h n Cb]; rfl
theorem cnt_eq (p : Nat → Bool) (m : Nat) : ∀ n, m ≤ n → (∀ t, t < m → p t = false) → (∀ t, m ≤ t → t < n → p t = true) → cnt p n = m
  | 0, h, _, _ => by have : m = 0 := by omega
                     subst this; rfl
  | n + 1, h, h1, h2 => by
    by_cases e : m = n + 1
    · subst e; exact cnt_all p _ h1
    · unfold cnt
      rw [cnt_eq p m n Cb h1 (fun t a b => h2 t a Cb), h2 n Cb Cb]
      rfl
theorem up_mono {d a b : Int} (hd : 0 ≤ d) (h : a ≤ b) : up d a ≤ up d b := by
  unfold up
  exact Int.ediv_le_ediv Cb (Int.mul_le_mul_of_nonneg_right Cb Cb)
theorem gLo_mono {lo d a b : Int} (hd : 0 ≤ d) (hd' : d ≤ 100000) (ha : 0 ≤ a) (h : a ≤ b) : gLo lo d a ≤ gLo lo d b := by
  by_cases h1 : 1 ≤ a
  · rw [gLo, gLo, if_pos h1, if_pos Cb]; have := up_mono (d := d) hd h; omega
  · have e : gLo lo d a = lo := by rw [gLo, if_neg h1]
    have := gLo_bd (lo := lo) (d := d) (l := b) Cb hd hd'
    omega
def suP (d lo time : Int) (i : Nat) : Bool := decide (time ≤ gLo lo d i)
theorem suP_mono {d lo time : Int} (hd : 0 ≤ d) (hd' : d ≤ 100000) (a b : Nat) (h : a ≤ b) (p : suP d lo time a = true) : suP d lo time b = true := by
  unfold suP at *
  have := gLo_mono (lo := lo) (d := d) (a := a) (b := b) hd hd' Cb Cb
  simp at *; omega
def suN (r : Int) : Nat := (1073741824 - r + 1).toNat
def suM (d r lo time : Int) : Nat := cnt (suP d lo time) (suN r)
def suE (d r : Int) (s : Bool) (lo time : Int) : Int := if inB time 0 3600000 = false then 2 else if s = false then 9 else if suM d r lo time = suN r then 3 else 0
def suV (d r : Int) (s : Bool) (lo time : Int) : Int := if suE d r s lo time = 0 then r + suM d r lo time else 0
def CInv (d r lo hi : Int) : Prop := 0 ≤ d ∧ d ≤ 100000 ∧ -1073741824 ≤ r ∧ r ≤ 1073741824 ∧ -1073741824 ≤ lo ∧ lo ≤ hi ∧ hi ≤ 1073741824
theorem add_inv {d r : Int} {s : Bool} {lo hi a g k h : Int} (c : CInv d r lo hi) : CInv d (addR d r s lo hi a g k h) (addLo d r s lo hi a g k h) (addHi d r s lo hi a g k h) := by
  unfold addR addLo addHi
  by_cases e : addE d r s lo hi a g k h = 0
  · rw [if_pos e, if_pos e, if_pos e]
    obtain ⟨c1, c2, c3, c4, c5, c6, c7⟩ := c
    have x : xOk a g k h = true := by
      cases hx : xOk a g k h with
      | true => rfl
      | false => rw [addE, if_pos hx] at e; omega
    rw [addE, if_neg (by simp [x])] at e
    rw [xOk_iff] at x
    split at e
    · omega
    split at e
    · omega
    split at e
    · omega
    split at e
    · omega
    rename_i n1 n2 n3 n4
    have e3 : rE g d (h - a) = 0 := by omega
    have o := r_ok (lo := g) e3 Cb Cb Cb c1 c2
    refine ⟨c1, c2, by omega, by omega, ?_, by omega, ?_⟩
    · unfold nLo; split <;> omega
    · unfold nHi; split <;> omega
  · rw [if_neg e, if_neg e, if_neg e]; exact c
end Clk
end Go.Proofs.YtdocdgcdldpagaaGreat.Ck

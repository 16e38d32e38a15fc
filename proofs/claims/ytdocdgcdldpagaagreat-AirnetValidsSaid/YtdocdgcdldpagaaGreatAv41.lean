import Derived.Test.YtdocdgcdldpagaaGreatAp
import Derived.Test.YtdocdgcdldpagaaGreatAv35
import Derived.Test.YtdocdgcdldpagaaGreatAv40
import Derived.BigQuiet
import Derived.Test.YtdocdgcdldpagaaGreatAv14
import Derived.Test.YtdocdgcdldpagaaGreatAv21
import Derived.Test.YtdocdgcdldpagaaGreatAv03
import Derived.StillTailTactics
namespace Go.Proofs.YtdocdgcdldpagaaGreat
open Go.RowKit Go.Shelf
attribute [local go_sem] Oper.semAt_some
set_option maxHeartbeats 8000000
set_option maxRecDepth 100000
set_option linter.unusedSimpArgs false
set_option linter.unusedVariables false
attribute [local go_sem ↓] Go.wp_at_zero Go.wp_at_succ
namespace Nt
def bLo (s : St) (i : Nat) : Int := Ck.aLo (at_ s i).p.d (at_ s i).p.r (at_ s i).p.cs (at_ s i).p.lo (at_ s i).p.hi (lcl s i)
def bHi (s : St) (i : Nat) : Int := Ck.aHi (at_ s i).p.d (at_ s i).p.r (at_ s i).p.cs (at_ s i).p.hi (lcl s i)
def bE (s : St) (i : Nat) : Int := Ck.aE (at_ s i).p.d (at_ s i).p.r (at_ s i).p.cs (at_ s i).p.hi (lcl s i)
end Nt
section
variable {w w' w0 : World} {base b k N : Nat} {m m1 : NM} {s s' : Nt.St}
theorem nbounds_zero (b : Nat) (a : Int) (w : World) (hb : b < w.heap.size) (c25 : w.cell? ⟨b, 25, none⟩ = some (.slice none 0 0)) :
    Calls Tryz.prog 20 #[.pointer (some ⟨b, 0, none⟩), .int .i64 a] w fun e w' => e = .returned (.tuple #[.agg #[.int .i64 0, .int .i64 0], .int .i64 1]) ∧ Below w.heap.size w w' := by
  have CH := Lib.hid (fun (W : World) (hW : Below w.heap.size w W) => ncheck_zero b a W ((hW.cell hb).trans c25))
  go_enter Tryz.func20, Tryz.ntmps20
  go_wp2_with (refine (CH.out _ A9).mono ?_; rintro e w' ⟨rfl, rfl⟩)
  refine bodyPost_ret (v := .tuple #[.agg #[.int .i64 0, .int .i64 0], .int .i64 1]) ?_ rfl ⟨rfl, A9⟩
  simp [results, Tryz.results20, go_sem]
theorem nbounds_yes (h : IsNet w base b m k s) (hs : Nt.Inv N s) {i : Nat} (hi : i < s.cr.length) :
    Calls Tryz.prog 20 #[.pointer (some ⟨b, 0, none⟩), .int .i64 ((i : Int) + 1)] w fun e w' => e = .returned (.tuple #[.agg #[.int .i64 (Nt.bLo s i), .int .i64 (Nt.bHi s i)], .int .i64 (Nt.bE s i)]) ∧ Below w.heap.size w w' := by
  have CH := Lib.hid (fun (W : World) (hW : Below w.heap.size w W) => ncheck_yes (h.below hW) hs ((i : Int) + 1) Cb)
  have LO := Lib.hid (fun (W : World) (hW : Below w.heap.size w W) => nlocal_any (h.below hW) hs hi)
  have PB := Lib.hid (fun (W : World) (hW : Below w.heap.size w W) => pbounds_any ((h.below hW).cr i hi).p (hs.cr i hi).p (Nt.lcl s i))
  obtain ⟨g, o, hCA, tg, d0, _, _, _, _⟩ := h.cells hi
  have c25 : w.cell? ⟨b, 25, none⟩ = some (.slice m.CA s.cr.length m.cc) := blk_cell h.blk 25 rfl
  rw [hCA] at c25
  have hn64 := hs.n.2
  have wi : IntKind.i64.wrap ((i : Int) + 1 - 1) = (i : Int) := by rw [IntWalk.i64_in _ Cb]; omega
  have wi2 : IntKind.i64.wrap (i : Int) = (i : Int) := IntWalk.i64_in _ Cb
  have ic : (i : Int) < (s.cr.length : Int) := by omega
  have i0 : (0 : Int) ≤ (i : Int) := by omega
  have hbl := lt_of_block h.blk
  have hgl : g < w.heap.size := by obtain ⟨cs, hc⟩ := tg; exact lt_of_block hc
  obtain ⟨pb, hpb⟩ : ∃ pb, pb = (m.cs.getD i cm0).pb := ⟨_, rfl⟩
  rw [← hpb] at d0 PB
  obtain ⟨lc, hlc⟩ : ∃ lc, lc = Nt.lcl s i := ⟨_, rfl⟩
  obtain ⟨x1, hx1⟩ : ∃ x, x = Nt.bLo s i := ⟨_, rfl⟩
  obtain ⟨x2, hx2⟩ : ∃ x, x = Nt.bHi s i := ⟨_, rfl⟩
  obtain ⟨x3, hx3⟩ : ∃ x, x = Nt.bE s i := ⟨_, rfl⟩
  rw [← hx1, ← hx2, ← hx3]
  unfold Nt.bLo at hx1
  unfold Nt.bHi at hx2
  unfold Nt.bE at hx3
  rw [← hlc] at LO PB hx1 hx2 hx3
  simp only [Nt.at_] at hx1 hx2 hx3 PB
  rw [← hx1, ← hx2, ← hx3] at PB
  clear h hs hpb hCA hlc hx1 hx2 hx3 tg
  have e25 := fun (W : World) (hW : Below w.heap.size w W) => (hW.cell (p := ⟨b, 25, none⟩) hbl).trans c25
  have e0 := fun (W : World) (hW : Below w.heap.size w W) => (hW.cell (p := ⟨g, o + i * 4, none⟩) hgl).trans d0
  have E25 := Lib.hid e25
  have E0 := Lib.hid e0
  clear e25 e0
  go_enter Tryz.func20, Tryz.ntmps20
  go_upto_region 4 with (first | (refine (CH.out _ A9).mono ?_; rintro e w' ⟨rfl, rfl⟩))
  generalize hV : World.alloc _ _ = V
  have HB := Lib.hid (show Below w.heap.size w V from by rw [← hV]; exact (Below.refl _ w).alloc (Nat.le_refl _) _)
  have k0 : V.heap[w.heap.size]? = some (.cells #[.int .i64 0, .int .i64 0] 65 (0, 0)) := Bd
  have hzV : w.heap.size < V.heap.size := lt_of_block k0
  have v25 := E25.out V HB.out
  have v0 := E0.out V HB.out
  have K0 := Lib.hid k0
  clear hV c25 d0 CH k0
  go_region_held3 (fun w' => w'.cell? ⟨b, 25, none⟩ = some (.slice (some ⟨g, o, none⟩) s.cr.length m.cc) ∧ w'.cell? ⟨g, o + i * 4, none⟩ = some (.pointer (some ⟨pb, 0, none⟩))) (first | (refine ⟨?_, ?_⟩ <;> simp [go_sem, *]; done) | go_keep) (first | (go_at_call 55; refine (LO.out _ (by first | exact below_drewN HB.out _ | exact HB.out.drew | exact HB.out)).mono ?_; rintro e w2 ⟨rfl, q2, rfl⟩; skip) | (go_at_call 54; refine (PB.out _ (by repeat (first | exact HB.out | (with_reducible refine below_drewN ?_ _) | (with_reducible refine Below.drew ?_)))).mono ?_; rintro e w3 ⟨rfl, hb3⟩; have hz3 := hb3.size; have k3 := blk_below K0.out (show Below V.heap.size V w3 from ((by repeat (first | exact Below.refl _ V | (with_reducible refine below_drewN ?_ _) | (with_reducible refine Below.drew ?_)) : Below V.heap.size V _).trans hb3)) hzV; have HB3 := Lib.hid (HB.out.trans ((show Below V.heap.size V w3 from ((by repeat (first | exact Below.refl _ V | (with_reducible refine below_drewN ?_ _) | (with_reducible refine Below.drew ?_)) : Below V.heap.size V _).trans hb3)).mono HB.out.size)); have y0 := blk_cell (l := [_, _]) k3 0 rfl; have y1 := blk_cell (l := [_, _]) k3 1 rfl; have f0 := blk_free k3 0; have f1 := blk_free k3 1; have s25 := E25.out w3 HB3.out; have s0 := E0.out w3 HB3.out; clear k3))
  go_wp2_with fail
  have hW1 : ∀ u v : Value, Below w.heap.size w ((w3.setCell ⟨w.heap.size, 0, none⟩ u).setCell ⟨w.heap.size, 1, none⟩ v) := fun u v => (HB3.out.setCell (p := ⟨w.heap.size, 0, none⟩) (Nat.le_refl _) _).setCell (p := ⟨w.heap.size, 1, none⟩) (Nat.le_refl _) _
  refine bodyPost_ret (v := .tuple #[.agg #[.int .i64 x1, .int .i64 x2], .int .i64 x3]) ?_ rfl ⟨rfl, hW1 _ _⟩
  simp [results, Tryz.results20, go_sem, *]
end
end Go.Proofs.YtdocdgcdldpagaaGreat
namespace Go.Proofs.YtdocdgcdldpagaaGreat
open Go.RowKit Go.Shelf
attribute [local go_sem] Oper.semAt_some
set_option maxHeartbeats 8000000
set_option maxRecDepth 100000
set_option linter.unusedSimpArgs false
set_option linter.unusedVariables false
namespace Nt
abbrev Ev := Int × Int × Int
abbrev NE := Nat × Ev
def ev0 : Ev := (0, 0, 0)
def encNE (x : NE) : Array Value := #[.int .i64 x.1, .agg (evc x.2).toArray]
def PrE (l : List Ev) (pre : List NE) (x : NE) (W : World) : Prop := x.1 = pre.length ∧ x.2 = l.getD pre.length ev0
theorem PrE.own (B : Nat) (l : List Ev) (pre : List NE) : OwnFrom B (PrE l pre) := fun s X Y row hs hg hr => hs
end Nt
theorem evcs_len (l : List (Int × Int × Int)) : (evcs l).length = l.length * 3 := by
  induction l with
  | nil => rfl
  | cons x l ih =>
    have : evcs (x :: l) = evc x ++ evcs l := rfl
    rw [this, List.length_append, ih]
    simp [evc]
    omega
theorem evcs_at (l : List (Int × Int × Int)) (i j : Nat) (hi : i < l.length) (hj : j < 3) : (evcs l)[i * 3 + j]? = (evc (l.getD i (0, 0, 0)))[j]? := by
  induction l generalizing i with
  | nil => exact absurd hi C9
  | cons x l ih =>
    have e : evcs (x :: l) = evc x ++ evcs l := rfl
    cases i with
    | zero =>
      rw [e, Nat.zero_mul, Nat.zero_add, List.getElem?_append_left (by simpa [evc] using hj)]
      rfl
    | succ i =>
      rw [e, List.getElem?_append_right (by simp [evc]; omega)]
      have e2 : (i + 1) * 3 + j - (evc x).length = i * 3 + j := by simp [evc]; omega
      rw [e2, ih i (by simpa using hi)]
      rfl
def EvR (w : World) (B : Nat) (A : Option Addr) (n : Nat) (l : List (Int × Int × Int)) : Prop := Reads w B 3 A n (evcs l)
theorem EvR.at_ {w : World} {B n : Nat} {A : Option Addr} {l : List (Int × Int × Int)} (h : EvR w B A n l) (hone : ∀ a, A = some a → a.spot = none) {k : Nat} (hk : k < n) : ∃ b o, A = some ⟨b, o, none⟩ ∧ b < B ∧ ∀ j u, (evc (l.getD k (0, 0, 0)))[j]? = some u → w.cell? ⟨b, o + k * 3 + j, none⟩ = some u := by
  obtain ⟨hl, hr⟩ := h
  obtain ⟨ad, hA, hb, hc⟩ := hr Cb
  have hlen : l.length = n := by rw [evcs_len] at hl; omega
  obtain ⟨b, o, sp⟩ := ad
  have hs : sp = none := hone _ hA
  subst hs
  refine ⟨b, o, hA, hb, fun j u hu => ?_⟩
  have hj : j < 3 := by
    rcases Nat.lt_or_ge j 3 with g | g
    · exact g
    · rw [List.getElem?_eq_none (by simpa [evc] using g)] at hu; cases hu
  have := hc (k * 3 + j) u (by rw [evcs_at l k j Cb hj]; exact hu)
  rw [addr_add] at this
  rw [show o + k * 3 + j = o + (k * 3 + j) by omega]
  exact this
theorem evs_seq (m n0 B : Nat) (A : Option Addr) (n c : Nat) (l : List (Int × Int × Int)) (w : World) (hm : 1 ≤ m) (hn : n ≤ 1000000000000) (hn0 : n0 ≤ w.heap.size) (hbox : w.heap[B]? = some (.cells #[.slice A n c] 45 (0, 0))) (hR : EvR w n0 A n l) (hone : ∀ a, A = some a → a.spot = none) :
    SeqP Fence.wide m Tryz.prog 91 #[.pointer (some ⟨B, 0, none⟩)] Nt.encNE (Nt.PrE l) (fun A B => Below n0 A B) (fun ys => ys.length = n) (fun ys => ys.length ≤ n) n w := by
  intro l1 J Jx W hW hJ hJx hY h0
  have hbx := blk_below hbox hW (lt_of_block hbox)
  have HR := Lib.hid (show EvR W n0 A n l from Reads.below hR (hW.mono hn0))
  have HJ := Lib.hid hJ
  have HY := Lib.hid hY
  have c0 := blk_cell (l := [_]) hbx 0 rfl
  have hW0 := hW.size
  have HO := Lib.hid hone
  clear hJx hY hR hJ hbox hW hbx hone
  refine callsIn_of_wp Tryz.func91 rfl trivial ?_ rfl
  simp only [Tryz.ntmps91, List.size_toArray, List.length_cons, List.length_nil, Nat.reduceAdd, Nat.reduceSub, Array.replicate_succ, Array.replicate_zero, List.push_toArray, List.append_toArray, List.nil_append, List.cons_append]
  gi_wp2
  gi_loopw [7] (fun i wr => ∃ (k : Nat) (pre : List Nt.NE), k ≤ n ∧ i = .int .i64 k ∧ pre.length = k ∧ J pre wr ∧ Hid (Below n0 W wr)) (fun i _ => n - (intOf i).toNat)
  case atStart => exact ⟨0, [], Nat.zero_le _, rfl, rfl, h0, Lib.hid (Below.refl _ _)⟩
  case round =>
    obtain ⟨k, pre, hk, rfl, hpl, hJs, HB⟩ := hrel
    by_cases hlt : k < n
    · obtain ⟨b, o, rfl, hbl, hcl⟩ := EvR.at_ (show EvR wr n0 A n l from Reads.below HR.out HB.out) HO.out hlt
      obtain ⟨v, hv⟩ : ∃ v, v = l.getD k (0, 0, 0) := ⟨_, rfl⟩
      rw [← hv] at hcl
      have HX := Lib.hid (show v = l.getD pre.length Nt.ev0 by rw [hpl]; exact hv)
      obtain ⟨x, y, z⟩ := v
      have e0 : wr.cell? ⟨b, o + k * 3, none⟩ = some (.int .i64 x) := hcl 0 _ rfl
      have e1 : wr.cell? ⟨b, o + k * 3 + 1, none⟩ = some (.int .i64 y) := hcl 1 _ rfl
      have e2 : wr.cell? ⟨b, o + k * 3 + 2, none⟩ = some (.int .i64 z) := hcl 2 _ rfl
      have kn : (k : Int) < (n : Int) := by omega
      have hzr : n0 ≤ wr.heap.size := Nat.le_trans (Nat.le_trans hn0 hW0) HB.out.size
      clear hcl hv
      have B2 : Below wr.heap.size wr (wr.alloc (.cells #[.int .i64 x, .int .i64 y, .int .i64 z] 58)) := (Below.refl _ wr).alloc (Nat.le_refl _) _
      have hJ2 : J pre (wr.alloc (.cells #[.int .i64 x, .int .i64 y, .int .i64 z] 58)) := own_grows HJ.out (s := pre) hJs B2
      obtain ⟨fn, tmps, assign, body, hy, hR⟩ := HY.out pre (k, (x, y, z)) _ hJ2 ⟨hpl.symm, HX.out⟩ Cb
      have HR2 := Lib.hid hR
      have HB2 := Lib.hid (HB.out.trans (B2.mono hzr))
      simp only [Nt.encNE, evc] at hy
      clear hR hJ2 hJs B2
      gi_wp2
      refine HR2.out.mono ?_
      rintro e W3 (⟨rfl, hJ3, hk3, _⟩ | ⟨rfl, hJx3, _⟩)
      · have HB3 := Lib.hid (HB2.out.trans hk3)
        have HL3 := Lib.hid (show (pre ++ [((k, (x, y, z)) : Nt.NE)]).length = k + 1 by rw [List.length_append, hpl]; rfl)
        clear hk3
        gi_wp2
        go_roundw
        case rel => exact ⟨k + 1, _, by omega, by simp, HL3.out, hJ3, HB3⟩
        case measure => simp [intOf]; omega
      · gi_wp2
        refine bodyPost_ret (results_none rfl _ _ _) rfl ?_
        exact ⟨⟨_, rfl⟩, .inr ⟨_, by rw [List.length_append, hpl]; exact hlt, hJx3⟩⟩
    · obtain rfl : k = n := by omega
      gi_wp2
      go_end0
      exact ⟨⟨_, rfl⟩, .inl ⟨pre, hpl, hJs⟩⟩
section
variable {w w' : World} {base b k N : Nat} {m : NM} {s : Nt.St}
theorem sall_any (A : Option Addr) (n c : Nat) (w : World) : Calls Tryz.prog 47 #[.slice A n c] w fun e w' => e = .returned (.func (.func 91) #[] #[.pointer (some ⟨w.heap.size, 0, none⟩)]) ∧ w' = w.alloc (.cells #[.slice A n c] 45) := by
  go_enter Tryz.func47, Tryz.ntmps47
  go_wp2_with fail
  go_ret
  exact ⟨rfl, rfl⟩
def EvPost (A : Option Addr) (n : Nat) (w : World) (e : Ending) (w' : World) : Prop := ∃ B, e = .returned (.func (.func 91) #[] #[.pointer (some ⟨B, 0, none⟩)]) ∧ w.heap.size ≤ B ∧ w'.heap[B]? = some (.cells #[.slice A n n] 45 (0, 0)) ∧ Below w.heap.size w w'
theorem nall_nil (w : World) : Calls Tryz.prog 15 #[.pointer none] w (EvPost none 0 w) := by
  have NO := Lib.hid (fun W => nnone_nil W)
  have SA := Lib.hid (fun A n c W => sall_any A n c W)
  go_enter Tryz.func15, Tryz.ntmps15
  go_wp2_with (first | (go_at_call 46; refine (NO.out _).mono ?_; rintro e w' ⟨rfl, rfl⟩) | (go_at_call 47; refine (SA.out _ _ _ _).mono ?_; rintro e w' ⟨rfl, rfl⟩))
  go_ret
  exact ⟨_, rfl, Nat.le_refl _, heap_new _ _, A9⟩
theorem El {p : Prop} (h : p := by
  go_enter Tryz.func15, Tryz.ntmps15
  go_upto_region 3 with ((go_at_call 46; refine (NO.out _ (Below.refl _ _)).mono ?_; rintro e w' ⟨rfl, rfl⟩))
  go_quiet (fail)
  go_wp2_with ((go_at_call 47; refine (SA.out _ _ _ _).mono ?_; rintro e w' ⟨rfl, rfl⟩))
  go_ret
  exact ⟨_, rfl, Nat.le_refl _, heap_new _ _, (below_drewN (Below.refl _ _) _).alloc (Nat.le_refl _) _⟩
 ) : p := h
theorem nall_any (h : IsNet w base b m k s) (hs : Nt.Inv N s) : Calls Tryz.prog 15 #[.pointer (some ⟨b, 0, none⟩)] w (EvPost m.EA s.ev.length w) := by
  have NO := Lib.hid (fun (W : World) (hW : Below w.heap.size w W) => nnone_any (h.below hW) hs.n.1)
  have SA := Lib.hid (fun A n c W => sall_any A n c W)
  have hle := h.erow.le
  have hx : (m.EA = none → s.ev.length = 0 ∧ m.ec = 0) := fun e => by
    rcases h.erow.2 with ⟨_, h1, h2⟩ | ⟨g, o, cur, e', _⟩
    · exact ⟨h1, h2⟩
    · rw [e] at e'; cases e'
  have hone : ∀ a, m.EA = some a → a.spot = none := fun a e => by
    rcases h.erow.2 with ⟨e', _⟩ | ⟨g, o, cur, e', _⟩
    · rw [e] at e'; cases e'
    · rw [e] at e'; injection e' with e'; rw [e']
  have c27 : w.cell? ⟨b, 27, none⟩ = some (.slice m.EA s.ev.length m.ec) := blk_cell h.blk 27 rfl
  have hcm := hle.2
  unfold maxLen at hcm
  clear h hs
  generalize s.ev.length = n at *
  generalize m.EA = A at *
  generalize m.ec = c at *
  have hnc := hle.1
  have i1 : ((n : Nat) : Int) ≤ (c : Int) := by omega
  clear hle
  cases A with
  | none =>
    obtain ⟨rfl, rfl⟩ := hx rfl
    exact El
  | some a =>
    exact El
end
end Go.Proofs.YtdocdgcdldpagaaGreat
namespace Go.Proofs.YtdocdgcdldpagaaGreat
open Go.RowKit
set_option maxHeartbeats 8000000
set_option maxRecDepth 100000
set_option linter.unusedSimpArgs false
set_option linter.unusedVariables false
attribute [local go_sem ↓] Go.wp_at_zero Go.wp_at_succ
theorem Rof.keptT {P : Nat → Prop} {w w' : World} {base : Nat} {v : Value} {l : List Fr} (h : Rof w base v l) (k : Keeps P w w') (hP : ∀ i, P i → i < w.heap.size → ∃ e, Ty w i e ∧ e ≠ 147 ∧ e ≠ 5) : Rof w' base v l := by
  obtain ⟨vs, g1, g2, g3⟩ := h
  have hk : ∀ i : Nat, i < w.heap.size → (∀ e, Ty w i e → e = 147 ∨ e = 5) → w'.heap[i]? = w.heap[i]? := fun i hi he => k.block i hi (fun hp => by
    obtain ⟨e, h1, h2, h3⟩ := hP i hp hi
    rcases he e h1 with h4 | h4
    · exact h2 h4
    · exact h3 h4)
  have hty : ∀ (i : Nat) (e f : TypeId), Ty w i e → Ty w i f → e = f := fun i e f h1 h2 => by
    by_cases hh : e = f
    · exact hh
    · exact absurd rfl (h1.ne h2 hh)
  refine ⟨vs, g1, ⟨g2.1, ?_⟩, fun y hy => ⟨⟨(g3 y hy).1.1, ?_⟩, (g3 y hy).2⟩⟩
  · rcases g2.2 with h1 | ⟨g, c, cur, h1, h2, h3, h4⟩
    · exact .inl h1
    · exact .inr ⟨g, c, cur, h1, h2, (hk g (lt_of_block h3) (fun e he => .inl (hty g e _ he ⟨_, h3⟩))).trans h3, h4⟩
  · rcases (g3 y hy).1.2 with h1 | ⟨g, c, cur, h1, h2, h3, h4⟩
    · exact .inl h1
    · exact .inr ⟨g, c, cur, h1, h2, (hk g (lt_of_block h3) (fun e he => .inr (hty g e _ he ⟨_, h3⟩))).trans h3, h4⟩
def bools (l : List Bool) : List Value := l.map (Value.bool ·)
structure IsR (w : World) (D : Option Addr) (dc : Nat) (A : Option Addr) (ac : Nat) (S : Option Addr) (sc : Nat) (s : Stn.St) : Prop where
  dr : Row w 0 5 1 D (Stn.data s).length dc (bv (Stn.data s))
  ar : Row w 0 4 1 A s.n ac (bools s.ack)
  sr : Row w 0 207 3 S s.n sc (repcs s.seen)
section
variable {w w' : World} {D A S : Option Addr} {dc ac sc : Nat} {s : Stn.St}
theorem IsR.below {B : Nat} (h : IsR w D dc A ac S sc s) (k : Below B w w') (hB : w.heap.size ≤ B) : IsR w' D dc A ac S sc s := ⟨h.dr.below k hB, h.ar.below k hB, h.sr.below k hB⟩
theorem IsR.alloc (h : IsR w D dc A ac S sc s) (o : Obj) : IsR (w.alloc o) D dc A ac S sc s := ⟨h.dr.alloc o, h.ar.alloc o, h.sr.alloc o⟩
theorem IsR.drew (h : IsR w D dc A ac S sc s) : IsR w.drew D dc A ac S sc s := ⟨h.dr, h.ar, h.sr⟩
theorem IsR.drewN (h : IsR w D dc A ac S sc s) (q : Nat) : IsR (w.drewN q) D dc A ac S sc s := ⟨h.dr, h.ar, h.sr⟩
theorem IsR.kept {P : Nat → Prop} (h : IsR w D dc A ac S sc s) (k : Keeps P w w') (h1 : ∀ g, blkOf D = some g → ¬ P g) (h2 : ∀ g, blkOf A = some g → ¬ P g) (h3 : ∀ g, blkOf S = some g → ¬ P g) : IsR w' D dc A ac S sc s :=
  ⟨h.dr.kept k h1, h.ar.kept k h2, h.sr.kept k h3⟩
theorem IsR.keptT {P : Nat → Prop} (h : IsR w D dc A ac S sc s) (k : Keeps P w w') (hP : ∀ i, P i → i < w.heap.size → ∃ e, Ty w i e ∧ e ≠ 5 ∧ e ≠ 4 ∧ e ≠ 207) : IsR w' D dc A ac S sc s := by
  refine h.kept k (fun g hg hh => ?_) (fun g hg hh => ?_) (fun g hg hh => ?_)
  · obtain ⟨e, he, h1, _, _⟩ := hP g hh (h.dr.lt hg).2
    exact he.ne (h.dr.ty hg) h1 rfl
  · obtain ⟨e, he, _, h1, _⟩ := hP g hh (h.ar.lt hg).2
    exact he.ne (h.ar.ty hg) h1 rfl
  · obtain ⟨e, he, _, _, h1⟩ := hP g hh (h.sr.lt hg).2
    exact he.ne (h.sr.ty hg) h1 rfl
theorem IsR.far (h : IsR w D dc A ac S sc s) {b o : Nat} {e : TypeId} (hb : Ty w b e) (h1 : e ≠ 5) (h2 : e ≠ 4) (h3 : e ≠ 207) (u : Value) : IsR (w.setCell ⟨b, o, none⟩ u) D dc A ac S sc s :=
  ⟨h.dr.far (p := ⟨b, o, none⟩) (fun g hg => (h.dr.ty hg).ne hb (fun e => h1 e.symm)) u, h.ar.far (p := ⟨b, o, none⟩) (fun g hg => (h.ar.ty hg).ne hb (fun e => h2 e.symm)) u, h.sr.far (p := ⟨b, o, none⟩) (fun g hg => (h.sr.ty hg).ne hb (fun e => h3 e.symm)) u⟩
end
theorem missFrom_append : ∀ (l m : List Bool) (lo : Nat), Stn.missFrom lo (l ++ m) = Stn.missFrom lo l ++ Stn.missFrom (lo + l.length) m
  | [], m, lo => by simp [Stn.missFrom]
  | a :: l, m, lo => by
    simp only [List.cons_append, Stn.missFrom, missFrom_append l m (lo + 1), List.length_cons]
    rw [show lo + 1 + l.length = lo + (l.length + 1) by omega]
    split <;> simp
theorem missFrom_take (l : List Bool) (i : Nat) (h : i < l.length) : Stn.missFrom 1 (l.take (i + 1)) = Stn.missFrom 1 (l.take i) ++ (if l[i] then [] else [i + 1]) := by
  rw [List.take_succ_eq_append_getElem h, missFrom_append, List.length_take, Nat.min_eq_left Cb]
  cases l[i] <;> simp [Stn.missFrom] <;> omega
theorem rmissing_any (s : Stn.St) (hs : Stn.Inv s) (D : Option Addr) (dl dc : Nat) (A : Option Addr) (ac : Nat) (S : Option Addr) (sl sc : Nat) (w : World) (ha : Row w 0 4 1 A s.n ac (bools s.ack)) :
    Calls Tryz.prog 42 #[.agg #[.int .i64 s.again, .int .i64 s.st, .int .i64 s.now, .int .i64 s.seq, .bool s.some, .int .i64 s.prog, .int .i64 s.cmd, .slice D dl dc, .int .i64 s.sent, .slice A s.n ac, .slice S sl sc]] w (ClPost 3 1 (Stn.miss s).length ((Stn.miss s).map (fun (i : Nat) => .int .i64 i)) w) := by
  obtain ⟨i0, hi0, hz0, hz1, hz2⟩ := info_parts info_in
  have HA := Lib.hid ha
  have hal := hs.ack
  have hn := hs.n
  have HAL := Lib.hid hal
  have HC := Lib.hid hs.cmd
  clear ha hs hal
  go_enter Tryz.func42, Tryz.ntmps42
  go_wp2_with fail
  have k0 : (w.alloc (.cells #[.int .i64 s.again, .int .i64 s.st, .int .i64 s.now, .int .i64 s.seq, .bool s.some, .int .i64 s.prog, .int .i64 s.cmd, .slice D dl dc, .int .i64 s.sent, .slice A s.n ac, .slice S sl sc] 51)).heap[w.heap.size]? = _ := heap_new _ _
  have K0 := Lib.hid k0
  clear k0
  by_cases hc : s.cmd = 0
  · have E := Lib.hid (show Stn.miss s = [] by unfold Stn.miss; rw [if_pos hc])
    have HC0 := Lib.hid hc
    go_loop [3, 4] (fun s3 s4 => ∃ i : Nat, s4 = .int .i64 i ∧ i ≤ s.n ∧ s3 = .slice none 0 0) (fun _ s4 => s.n - (intOf s4).toNat)
    case atStart => exact ⟨0, by go_num, by omega, rfl⟩
    case round =>
      obtain ⟨i, rfl, hi, rfl⟩ := hrel
      by_cases hlt : i < s.n
      · have hin : (i : Int) < (s.n : Int) := by omega
        go_wp2_with fail
        go_round
        case rel => first | exact ⟨i + 1, by go_num, by omega⟩ | exact ⟨i + 1, by go_num, by omega, rfl⟩
        case measure => simp [intOf]; omega
      · go_wp2_with fail
        go_ret
        rw [E.out]
        exact ⟨none, 0, rfl, Row.nil _ _ _ _, A9⟩
  · have z : (s.cmd != 0) = true := by simpa using hc
    have E := Lib.hid (miss_cmd s hc)
    clear hc
    go_loopw [3, 4] (fun s3 s4 wr => ∃ (i : Nat) (l : List Nat), s4 = .int .i64 i ∧ i ≤ s.n ∧ Hid (l = Stn.missFrom 1 (s.ack.take i)) ∧ l.length ≤ i ∧ wr.ownsRow (w.heap.size + 1) 3 1 s3 l.length (l.map (fun (i : Nat) => .int .i64 i)) ∧ Below (w.heap.size + 1) (w.alloc (.cells #[.int .i64 s.again, .int .i64 s.st, .int .i64 s.now, .int .i64 s.seq, .bool s.some, .int .i64 s.prog, .int .i64 s.cmd, .slice D dl dc, .int .i64 s.sent, .slice A s.n ac, .slice S sl sc] 51)) wr) (fun _ s4 _ => s.n - (intOf s4).toNat)
    case atStart => exact ⟨0, [], by go_num, by omega, Lib.hid (by simp [Stn.missFrom]), by simp, World.ownsRow_nil _ _ _ _, Below.refl _ _⟩
    case round =>
      obtain ⟨i, l, rfl, hi, HL, hll, hown, hB⟩ := hrel
      have hzr := hB.size
      simp at hzr
      have kr := blk_below (q := w.heap.size) K0.out hB Cb
      have KR := Lib.hid kr
      have ca_0 := blk_cell kr 0 rfl; have fa_0 := blk_free kr 0; have ca_1 := blk_cell kr 1 rfl; have fa_1 := blk_free kr 1; have ca_2 := blk_cell kr 2 rfl; have fa_2 := blk_free kr 2; have ca_3 := blk_cell kr 3 rfl; have fa_3 := blk_free kr 3; have ca_4 := blk_cell kr 4 rfl; have fa_4 := blk_free kr 4; have ca_5 := blk_cell kr 5 rfl; have fa_5 := blk_free kr 5; have ca_6 := blk_cell kr 6 rfl; have fa_6 := blk_free kr 6; have ca_7 := blk_cell kr 7 rfl; have fa_7 := blk_free kr 7; have ca_8 := blk_cell kr 8 rfl; have fa_8 := blk_free kr 8; have ca_9 := blk_cell kr 9 rfl; have fa_9 := blk_free kr 9; have ca_10 := blk_cell kr 10 rfl; have fa_10 := blk_free kr 10; have la := lt_of_block kr
      clear kr
      obtain ⟨A3, c3, rfl⟩ := own_formS hown
      have HOW := Lib.hid hown
      have HB := Lib.hid hB
      have HB0 := Lib.hid (show Below w.heap.size w wr from ((Below.refl _ w).alloc (Nat.le_refl _) _).trans (HB.out.mono Cb))
      clear hown hB
      by_cases hlt : i < s.n
      · obtain ⟨g, o, cur, rfl, _, hg, _, _, _, _, _, hcell, _⟩ := HA.out.some_ Cb
        obtain ⟨x, hx⟩ : ∃ x, s.ack[i]? = some x := ⟨_, List.getElem?_eq_getElem (by rw [HAL.out]; exact hlt)⟩
        have k1 := hcell i (.bool x) (by rw [bools, List.getElem?_map, hx]; rfl)
        have d1 := ((bcell HB0.out).1 g (o + i) hg).trans k1
        have hin : (i : Int) < (s.n : Int) := by omega
        have hmt := missFrom_take s.ack i (by rw [HAL.out]; exact hlt)
        rw [show s.ack[i]'(by rw [HAL.out]; exact hlt) = x by have := hx; rw [List.getElem?_eq_getElem (by rw [HAL.out]; exact hlt)] at this; injection this] at hmt
        have HMT := Lib.hid hmt
        clear hcell k1 hx hmt
        cases x
        · go_wp2_with (at_builtin; refine wpList_append_any _ rfl (.tmp 23) (.tmp 26) _ rfl (w.heap.size + 1) 3 i0 _ 1 8 Tryz.underlying26 hi0 hz0 hz1 hz2 rfl Cb _ l.length _ rfl (HOW.out.alloc _) (wr.heap.size + 1) (some ⟨wr.heap.size, 0, none⟩) 1 1 [.int .i64 ((i : Int) + 1)] rfl (Reads.newN wr #[.int .i64 ((i : Int) + 1)] 3 1 1 rfl) Bt Bn Cb C6 ?_; intro v1 w7 hown1 hg1 hat1; have HO1 := Lib.hid hown1; have HG1 := Lib.hid hg1; clear hown1 hg1 hat1)
          have HN := Lib.hid (show Below (w.heap.size + 1) (w.alloc (.cells #[.int .i64 s.again, .int .i64 s.st, .int .i64 s.now, .int .i64 s.seq, .bool s.some, .int .i64 s.prog, .int .i64 s.cmd, .slice D dl dc, .int .i64 s.sent, .slice (some ⟨g, o, none⟩) s.n ac, .slice S sl sc] 51)) w7 from (HB.out.alloc Cb _).grown HG1.out C6 (fun g hg => (HOW.out.lt g hg).1))
          go_roundw
          case rel => exact ⟨i + 1, l ++ [i + 1], by go_num, by omega, Lib.hid (by rw [HMT.out, HL.out]; rfl), by simp; omega, by simpa using HO1.out, HN.out⟩
          case measure => simp [intOf]; omega
        · go_wp2_with fail
          go_roundw
          case rel => exact ⟨i + 1, l, by go_num, by omega, Lib.hid (by rw [HMT.out, HL.out]; simp), by omega, HOW.out, HB.out⟩
          case measure => simp [intOf]; omega
      · obtain rfl : i = s.n := by omega
        have e := HL.out
        rw [List.take_of_length_le (by rw [HAL.out]; exact Nat.le_refl _), ← E.out] at e
        have HE := Lib.hid e
        clear e
        go_wp2_with fail
        go_ret
        rw [← HE.out]
        exact ⟨A3, c3, rfl, (Row.of_own HOW.out).more Cb, HB0.out⟩
end Go.Proofs.YtdocdgcdldpagaaGreat
namespace Go.Proofs.YtdocdgcdldpagaaGreat
open Go.RowKit
set_option maxHeartbeats 8000000
set_option maxRecDepth 100000
set_option linter.unusedSimpArgs false
set_option linter.unusedVariables false
attribute [local go_sem ↓] Go.wp_at_zero Go.wp_at_succ
theorem made_bools (n : Nat) : (madeCells #[.bool false] n).toList = bools (List.replicate n false) := by
  apply List.ext_getElem?
  intro i
  by_cases hi : i < n
  · simp [madeCells, bools, hi, Nat.mod_one]
  · rw [List.getElem?_eq_none, List.getElem?_eq_none]
    · simp [bools]; omega
    · rw [Array.length_toList, size_madeCells]; omega
theorem info_bool : (Tryz.prog.info? 4).map (fun i => (i.zero, i.size, i.bytes)) = some (some (.bool false), 1, 1) := by kernel_rfl
end Go.Proofs.YtdocdgcdldpagaaGreat
namespace Go.Proofs.YtdocdgcdldpagaaGreat
open Go.RowKit
set_option maxHeartbeats 8000000
set_option maxRecDepth 100000
set_option linter.unusedSimpArgs false
set_option linter.unusedVariables false
attribute [local go_sem ↓] Go.wp_at_zero Go.wp_at_succ
theorem Row.set1 {w : World} {base n c g o i : Nat} {e : TypeId} {xs : List Value} (h : Row w base e 1 (some ⟨g, o, none⟩) n c xs) (hi : i < n) (v : Value) : Row (w.setCell ⟨g, o + i, none⟩ v) base e 1 (some ⟨g, o, none⟩) n c (xs.set i v) := by
  obtain ⟨g', o', cur, he, hb, _, hh, hnc, hcm, hfit, hcur, _⟩ := h.some_ Cb
  injection he with he; injection he with e1 e2
  subst e1; subst e2
  have hxl := h.1
  rw [Nat.mul_one] at hxl hfit hcur
  refine Row.of_block (blk_set hh (o + i) v) hb hnc hcm (by rw [Array.size_setIfInBounds]; omega) ?_
  rw [Nat.mul_one]
  apply List.ext_getElem?
  intro k
  rw [List.getElem?_take, List.getElem?_drop, Array.getElem?_toList, Array.getElem?_setIfInBounds, List.getElem?_set]
  have hxk : ∀ j, j < n → xs[j]? = cur[o + j]? := fun j hj => by rw [← hcur, List.getElem?_take, if_pos hj, List.getElem?_drop, Array.getElem?_toList]
  by_cases hk : k < n
  · rw [if_pos hk]
    by_cases hki : i = k
    · subst hki
      rw [if_pos rfl, if_pos rfl, if_pos Cb, if_pos Cb]
    · rw [if_neg Cb, if_neg hki, hxk k hk]
  · rw [if_neg hk, if_neg Cb, List.getElem?_eq_none Cb]
end Go.Proofs.YtdocdgcdldpagaaGreat
namespace Go.Proofs.YtdocdgcdldpagaaGreat
open Go.RowKit
set_option maxHeartbeats 8000000
set_option maxRecDepth 100000
set_option linter.unusedSimpArgs false
set_option linter.unusedVariables false
attribute [local go_sem ↓] Go.wp_at_zero Go.wp_at_succ
theorem info_rrep : (Tryz.prog.info? 207).map (fun i => (i.zero, i.size, i.bytes)) = some (some (.agg #[.bool false, .int .i64 0, .int .i64 0]), 3, 24) := by kernel_rfl
end Go.Proofs.YtdocdgcdldpagaaGreat
namespace Go.Proofs.YtdocdgcdldpagaaGreat
open Go.RowKit
set_option maxHeartbeats 8000000
set_option maxRecDepth 100000
set_option linter.unusedSimpArgs false
set_option linter.unusedVariables false
attribute [local go_sem ↓] Go.wp_at_zero Go.wp_at_succ
theorem rsnew_yes (n : Nat) (again : Int) (w : World) (h : Stn.newE n again = 0) : Calls Tryz.prog 77 #[.int .i64 n, .int .i64 again] w fun e w' => ∃ NA NS, e = .returned (.tuple #[.agg #[.int .i64 again, .int .i64 0, .int .i64 0, .int .i64 0, .bool false, .int .i64 0, .int .i64 0, .slice none 0 0, .int .i64 0, .slice (some ⟨NA, 0, none⟩) n n, .slice (some ⟨NS, 0, none⟩) n n], .int .i64 0]) ∧ IsR w' none 0 (some ⟨NA, 0, none⟩) n (some ⟨NS, 0, none⟩) n (Stn.new n again) ∧ Below w.heap.size w w' := by
  obtain ⟨i0, hi0, hz0, hz1, hz2⟩ := info_parts info_rrep
  obtain ⟨i1, hm0, hm1, hm2, hm3⟩ := info_parts info_bool
  have hh : 1 ≤ (n : Int) ∧ (n : Int) ≤ 64 ∧ 1 ≤ again ∧ again ≤ 60000 := by
    unfold Stn.newE at h
    split at h
    · assumption
    · omega
  obtain ⟨h1, h2, h3, h4⟩ := hh
  have hmk : ∀ W : World, (Instr.makeSlice 49 (.int .i64 (n : Int)) (.int .i64 (n : Int))).run Tryz.prog W = .ok (.slice (some ⟨W.heap.size, 0, none⟩) n n) (W.alloc (.cells (madeCells #[.bool false, .int .i64 0, .int .i64 0] (n * 3)) 207)) := fun W => by
    have := run_make (P := Tryz.prog) W 49 207 i0 _ Tryz.underlying49 hi0 hz0 .i64 .i64 n n Cb (Int.le_refl _) (by rw [hz2]; omega) Cb
    rw [hz1, Int.toNat_natCast] at this
    exact this
  have hmb : ∀ W : World, (Instr.makeSlice 48 (.int .i64 (n : Int)) (.int .i64 (n : Int))).run Tryz.prog W = .ok (.slice (some ⟨W.heap.size, 0, none⟩) n n) (W.alloc (.cells (madeCells #[.bool false] n) 4)) := fun W => by
    have := run_make (P := Tryz.prog) W 48 4 i1 _ Tryz.underlying48 hm0 hm1 .i64 .i64 n n Cb (Int.le_refl _) (by rw [hm3]; omega) Cb
    rw [hm2, Int.toNat_natCast, Nat.mul_one] at this
    exact this
  clear h
  go_enter Tryz.func77, Tryz.ntmps77
  go_wp2_with fail
  go_region
  all_goals go_wp2_with fail
  · exact bodyPost_ret (v := .tuple #[.agg #[.int .i64 again, .int .i64 0, .int .i64 0, .int .i64 0, .bool false, .int .i64 0, .int .i64 0, .slice none 0 0, .int .i64 0, .slice (some ⟨w.heap.size + 1, 0, none⟩) n n, .slice (some ⟨w.heap.size + 2, 0, none⟩) n n], .int .i64 0]) (by simp [results, Tryz.results77, go_sem]) rfl ⟨w.heap.size + 1, w.heap.size + 2, rfl, ⟨Row.nil _ _ _ _, Row.of_block (cur := madeCells #[.bool false] n) (blk_drew (blk_alloc (heap_new' _ _ _ C9) _)) (Nat.zero_le _) (Nat.le_refl _) Bv Bo Aq, Row.of_block (cur := madeCells #[.bool false, .int .i64 0, .int .i64 0] (n * 3)) (blk_drew (heap_new' _ _ _ C9)) (Nat.zero_le _) (Nat.le_refl _) Bv Bo Am⟩, A9⟩
  · exact bodyPost_ret (v := .tuple #[.agg #[.int .i64 again, .int .i64 0, .int .i64 0, .int .i64 0, .bool false, .int .i64 0, .int .i64 0, .slice none 0 0, .int .i64 0, .slice (some ⟨w.heap.size + 2, 0, none⟩) n n, .slice (some ⟨w.heap.size + 1, 0, none⟩) n n], .int .i64 0]) (by simp [results, Tryz.results77, go_sem]) rfl ⟨w.heap.size + 2, w.heap.size + 1, rfl, ⟨Row.nil _ _ _ _, Row.of_block (cur := madeCells #[.bool false] n) (blk_drew (heap_new' _ _ _ C9)) (Nat.zero_le _) (Nat.le_refl _) Bv Bo Aq, Row.of_block (cur := madeCells #[.bool false, .int .i64 0, .int .i64 0] (n * 3)) (blk_drew (blk_alloc (heap_new' _ _ _ C9) _)) (Nat.zero_le _) (Nat.le_refl _) Bv Bo Am⟩, A9⟩
end Go.Proofs.YtdocdgcdldpagaaGreat

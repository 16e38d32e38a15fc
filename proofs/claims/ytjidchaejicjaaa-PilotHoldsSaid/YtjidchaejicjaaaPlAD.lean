/- The examples of the chapter hold: known returns true. -/
import Derived.Test.YtjidchaejicjaaaPlAC
namespace Go.Proofs.Ytjidchaejicjaaa
open Go.RowKit
set_option maxHeartbeats 8000000
set_option maxRecDepth 100000
set_option linter.unusedSimpArgs false
set_option linter.unusedVariables false
attribute [local go_sem ↓] Go.wp_at_zero Go.wp_at_succ
open Kn
theorem kn_below {w W W' : World} {b c : Nat} {s : Plt.St} (hb : Below w.heap.size w W) (hp : IsP W w.heap.size b c s) (hk : Keeps (fun i => i = b ∨ i = c) W W') : Below w.heap.size w W' :=
  hb.trans (hk.below (fun i hi h => by have := hp.ge; omega) hb.size)
theorem kn_rcv {W : World} {base b c : Nat} {s s' : Plt.St} {fr : List Fr} (h : IsP W base b c s) (hs : Plt.Inv s) (hrep : s.reports < 1000000000) (x : Fr) (A : Option Addr) (cap base' : Nat) (hO : Ow W base' A x.d.length cap x.d) (hn : x.d.length ≤ 100) (hf : b < base' ∧ c < base') (now : Int) (hk : Plt.rcvS s now x = s' ∧ Plt.rcvF s now x = fr ∧ Plt.rcvE s now x = 0) :
    Calls Try.prog 16 #[.pointer (some ⟨b, 0, none⟩), .int .i64 now, .agg #[.int .i64 x.k, .int .i64 x.f, .int .i64 x.t, .int .i64 x.s, .slice A x.d.length cap]] W (PRPost base b c s' fr 0 W) := by
  have hc : x.d.length ≤ cap ∧ cap ≤ 9223372036854775807 := by
    rcases hO.form with ⟨_, h2, h3⟩ | ⟨g2, _, _, _, h4, h5⟩
    · omega
    · unfold maxLen at h5; omega
  have := precv_any h hs x.k x.f x.t x.s A x.d.length cap x.d rfl (by omega) hc.1 hc.2 hO.rd (fun a ha => by
    rcases hO.form with ⟨h1, _⟩ | ⟨g2, h1, h2, _⟩
    · rw [h1] at ha; cases ha
    · rw [h1] at ha; injection ha with ha; rw [← ha]; show g2 ≠ b ∧ g2 ≠ c; omega) hrep now
  rw [hk.1, hk.2.1, hk.2.2] at this
  exact this
theorem kn_tick {W : World} {base b c : Nat} {s s' : Plt.St} {fr : List Fr} (h : IsP W base b c s) (hs : Plt.Inv s) (hrep : s.reports < 1000000000) (now : Int) (hk : Plt.tickS s now = s' ∧ Plt.tickF s now = fr ∧ Plt.timE s now = 0) :
    Calls Try.prog 15 #[.pointer (some ⟨b, 0, none⟩), .int .i64 now] W (PRPost base b c s' fr 0 W) := by
  have := ptick_any h hs hrep now
  rw [hk.1, hk.2.1, hk.2.2] at this
  exact this
theorem kn_next {W : World} {base b c : Nat} {s : Plt.St} (h : IsP W base b c s) (hs : Plt.Inv s) (n : Int) (hk : Plt.next s = n) (hb : s.begun = true) :
    Calls Try.prog 23 #[.pointer (some ⟨b, 0, none⟩)] W fun e w' => e = .returned (.tuple #[.int .i64 n, .int .i64 0]) ∧ Below W.heap.size W w' := by
  have := pnext_any h hs
  rw [hb, hk] at this
  exact this
/-- a slice of one frame, written out -/
theorem rof_lit {W : World} {base : Nat} {x : Fr} {A : Option Addr} {cap : Nat} (h : Ow W base A x.d.length cap x.d) (hb : base ≤ W.heap.size) : Rof (W.alloc (.cells #[.int .i64 x.k, .int .i64 x.f, .int .i64 x.t, .int .i64 x.s, .slice A x.d.length cap] 35 (0, 0))) base (.slice (some ⟨W.heap.size, 0, none⟩) 1 1) [x] := by
  have h' := h.below ((Below.refl W.heap.size W).alloc (Nat.le_refl _) (.cells #[.int .i64 x.k, .int .i64 x.f, .int .i64 x.t, .int .i64 x.s, .slice A x.d.length cap] 35 (0, 0))) (Nat.le_refl _)
  refine ⟨[⟨x, A, cap⟩], rfl, ⟨rfl, .inr ⟨W.heap.size, 1, _, rfl, hb, heap_new _ _, Nat.le_refl _, by unfold maxLen; omega, rfl, rfl⟩⟩, fun y hy => ?_⟩
  obtain rfl : y = ⟨x, A, cap⟩ := by simpa using hy
  exact h'
theorem kn_order (k q : Int) (l : List Int) (x : Fr) (hx : (⟨k, 0, 3, q, Frm.pn l⟩ : Fr) = x) (W : World) (hn : l.length ≤ 16) (h0 : 0 < l.length) (hok : Frm.okAll l = true) (hi : I64 l) :
    Calls Try.prog 25 #[.int .i64 k, .int .i64 q, .slice (some ⟨W.heap.size, 0, none⟩) l.length l.length] (W.alloc (.cells (iv l).toArray 3)) (FrPost x (W.alloc (.cells (iv l).toArray 3))) :=
  hx ▸ order_any k q _ _ _ l _ hn hok (Ri.lit W l _ rfl hi h0)
theorem pnone_zero (b : Nat) (w : World) (c0 : w.cell? ⟨b, 0, none⟩ = some (.int .i64 0)) :
    Calls Try.prog 34 #[.pointer (some ⟨b, 0, none⟩)] w fun e w' => e = .returned (.bool true) ∧ w = w' := by
  go_enter Try.func34, Try.ntmps34
  go_wp2_with fail
  go_ret
  exact ⟨rfl, rfl⟩
theorem precv_zero (b : Nat) (now k f t q : Int) (A : Option Addr) (n cap : Nat) (w : World) (c0 : w.cell? ⟨b, 0, none⟩ = some (.int .i64 0)) :
    Calls Try.prog 16 #[.pointer (some ⟨b, 0, none⟩), .int .i64 now, .agg #[.int .i64 k, .int .i64 f, .int .i64 t, .int .i64 q, .slice A n cap]] w fun e w' => e = .returned (.tuple #[.slice none 0 0, .int .i64 1]) ∧ Below w.heap.size w w' := by
  have hb := cell_lt c0
  have NZ := Lib.hid (fun (W : World) (h : W.cell? ⟨b, 0, none⟩ = some (.int .i64 0)) => pnone_zero b W h)
  go_enter Try.func16, Try.ntmps16
  go_upto_region 1 with fail
  generalize hV : World.alloc _ _ = V
  have HB := Lib.hid (show Below w.heap.size w V by rw [← hV]; exact (Below.refl _ _).alloc (Nat.le_refl _) _)
  have c1 := ((bcell HB.out).1 b 0 hb).trans c0
  clear hV
  go_wp2_with fail
  refine (NZ.out _ c1).mono ?_
  rintro e w' ⟨rfl, rfl⟩
  go_wp2_with fail
  go_ret2
  exact ⟨rfl, HB.out⟩
theorem known_true (w : World) : Calls Try.prog 11 #[] w fun e w' => e = .returned (.bool true) ∧ Below w.heap.size w w' := by
  have NW := Lib.hid (show Calls Try.prog 12 #[.int .i64 3, .agg #[.int .i64 1000, .int .i64 5000, .int .i64 2000, .int .i64 50, .int .i64 100], .int .i64 0] w (PNewPost w.heap.size K0 w) from by have := pnew_yes 3 1000 5000 2000 50 100 0 w n0; rw [n0'] at this; exact this)
  go_enter Try.func11, Try.ntmps11
  go_wp2_with fail
  refine NW.out.mono ?_
  rintro e W0 ⟨b, c, rfl, hp, hb⟩
  have HP := Lib.hid hp
  have HB := Lib.hid hb
  clear hp hb NW
  go_wp2_with fail
  refine (kn_tick HP.out i0 (by decide) 0 k1).mono ?_
  rintro e W1 ⟨v1, rfl, hv, hp, hk⟩
  obtain ⟨A1, c1, rfl⟩ := hv.form
  have HB2 := Lib.hid (kn_below HB.out HP.out hk)
  clear HP HB 
  have HP := Lib.hid hp
  have HB := HB2
  clear HB2 
  have R1 := Lib.hid hv
  clear hv hp hk
  go_wp2_with fail
  refine (kn_tick HP.out i1 (by decide) 99 k2).mono ?_
  rintro e W2 ⟨v2, rfl, hv, hp, hk⟩
  obtain ⟨A2, c2, rfl⟩ := hv.form
  have HB2 := Lib.hid (kn_below HB.out HP.out hk)
  have R12 := Lib.hid (R1.out.keptP hk HP.out)
  clear HP HB R1
  have HP := Lib.hid hp
  have HB := HB2
  have R1 := R12
  clear HB2 R12
  have R2 := Lib.hid hv
  clear hv hp hk
  go_wp2_with fail
  refine (kn_next HP.out i2 100 x2 rfl).mono ?_
  rintro e W3 ⟨rfl, hb⟩
  have HP2 := Lib.hid (HP.out.below hb (Nat.le_refl _))
  have HB2 := Lib.hid (HB.out.trans (Below.mono hb HB.out.size))
  have R12 := Lib.hid (R1.out.below hb (Nat.le_refl _))
  have R22 := Lib.hid (R2.out.below hb (Nat.le_refl _))
  clear HP HB R1 R2
  have HP := HP2
  have HB := HB2
  have R1 := R12
  have R2 := R22
  clear HP2 HB2 R12 R22
  clear hb
  obtain ⟨x4, hx⟩ : ∃ x, x = beat 0 5000 5000 := ⟨_, rfl⟩
  have OR := Lib.hid (fun W : World => kn_order 7 0 [5000, 5000] x4 (by rw [hx]; rfl) W (by decide) (by decide) (by decide +kernel) (by intro z hz; simp at hz; omega))
  have RK := k3
  rw [← hx] at RK
  have RK := Lib.hid RK
  have hl4 := Lib.hid (show x4.d.length ≤ 100 by rw [hx]; decide)
  clear hx
  go_wp2_with fail
  refine (OR.out _).mono ?_
  rintro e U4 ⟨O, co, rfl, ho, hb⟩
  have hb1 := ((Below.refl _ _).alloc (Nat.le_refl _) _).trans (Below.mono hb (by simp))
  have hbc : b < _ ∧ c < _ := HP.out.lt
  have HO := Lib.hid ho
  have HP2 := Lib.hid (HP.out.below hb1 (Nat.le_refl _))
  have HB2 := Lib.hid (HB.out.trans (Below.mono hb1 HB.out.size))
  have R12 := Lib.hid (R1.out.below hb1 (Nat.le_refl _))
  have R22 := Lib.hid (R2.out.below hb1 (Nat.le_refl _))
  clear HP HB R1 R2
  have HP := HP2
  have HB := HB2
  have R1 := R12
  have R2 := R22
  clear HP2 HB2 R12 R22
  have HBC := Lib.hid hbc
  clear hb hb1 ho OR hbc
  go_wp2_with fail
  refine (kn_rcv HP.out i2 (by decide) x4 O co _ HO.out hl4.out (by have := HBC.out; simp; omega) 104 RK.out).mono ?_
  rintro e W4 ⟨v4, rfl, hv, hp, hk⟩
  obtain ⟨A4, c4, rfl⟩ := hv.form
  have HB2 := Lib.hid (kn_below HB.out HP.out hk)
  have R12 := Lib.hid (R1.out.keptP hk HP.out)
  have R22 := Lib.hid (R2.out.keptP hk HP.out)
  clear HP HB R1 R2
  have HP := Lib.hid hp
  have HB := HB2
  have R1 := R12
  have R2 := R22
  clear HB2 R12 R22
  have R3 := Lib.hid hv
  clear hv hp hk HO RK HBC hl4
  obtain ⟨x5, hx⟩ : ∃ x : Fr, x = ⟨9, 3, 0, 0, [0]⟩ := ⟨_, rfl⟩
  have ST := Lib.hid (fun W : World => show Calls Try.prog 29 #[.int .i64 0, .int .i64 0] W (FrPost x5 W) from by rw [hx]; exact status_any 0 0 W (by decide))
  rw [← hx] at R1
  clear hx
  go_wp2_with fail
  refine (ST.out _).mono ?_
  rintro e U5 ⟨O, co, rfl, ho, hb⟩
  have HO := Lib.hid (And.intro ho hb.size)
  have HP2 := Lib.hid (HP.out.below hb (Nat.le_refl _))
  have HB2 := Lib.hid (HB.out.trans (Below.mono hb HB.out.size))
  have R12 := Lib.hid (R1.out.below hb (Nat.le_refl _))
  have R22 := Lib.hid (R2.out.below hb (Nat.le_refl _))
  have R32 := Lib.hid (R3.out.below hb (Nat.le_refl _))
  clear HP HB R1 R2 R3
  have HP := HP2
  have HB := HB2
  have R1 := R12
  have R2 := R22
  have R3 := R32
  clear HP2 HB2 R12 R22 R32
  clear hb ho ST
  go_wp2_with fail
  have ra := R1.out.alloc (.cells #[.int .i64 x5.k, .int .i64 x5.f, .int .i64 x5.t, .int .i64 x5.s, .slice O x5.d.length co] 35 (0, 0))
  have rb := rof_lit HO.out.1 HO.out.2
  have RA := Lib.hid ra
  have RB2 := Lib.hid rb
  clear ra rb
  refine (sends_yes _ _ _ _ _ _ _ (by simp) RA.out.rf RB2.out.rf).mono ?_
  rintro e W5 ⟨rfl, hb⟩
  have hb1 := ((Below.refl _ _).alloc (Nat.le_refl _) _).trans (Below.mono hb (by simp))
  have HP2 := Lib.hid (HP.out.below hb1 (Nat.le_refl _))
  have HB2 := Lib.hid (HB.out.trans (Below.mono hb1 HB.out.size))
  have R12 := Lib.hid (R1.out.below hb1 (Nat.le_refl _))
  have R22 := Lib.hid (R2.out.below hb1 (Nat.le_refl _))
  have R32 := Lib.hid (R3.out.below hb1 (Nat.le_refl _))
  clear HP HB R1 R2 R3
  have HP := HP2
  have HB := HB2
  have R1 := R12
  have R2 := R22
  have R3 := R32
  clear HP2 HB2 R12 R22 R32
  clear hb hb1 HO RA RB2 R1
  go_wp2_with fail
  refine (sends_yes _ _ _ _ _ [] _ (by simp) R2.out.rf (Rof.nil _ 0).rf).mono ?_
  rintro e W6 ⟨rfl, hb⟩
  have HP2 := Lib.hid (HP.out.below hb (Nat.le_refl _))
  have HB2 := Lib.hid (HB.out.trans (Below.mono hb HB.out.size))
  have R22 := Lib.hid (R2.out.below hb (Nat.le_refl _))
  have R32 := Lib.hid (R3.out.below hb (Nat.le_refl _))
  clear HP HB R2 R3
  have HP := HP2
  have HB := HB2
  have R2 := R22
  have R3 := R32
  clear HP2 HB2 R22 R32
  clear hb R2
  go_wp2_with fail
  refine (sends_yes _ _ _ _ _ [] _ (by simp) R3.out.rf (Rof.nil _ 0).rf).mono ?_
  rintro e W7 ⟨rfl, hb⟩
  have HP2 := Lib.hid (HP.out.below hb (Nat.le_refl _))
  have HB2 := Lib.hid (HB.out.trans (Below.mono hb HB.out.size))
  have R32 := Lib.hid (R3.out.below hb (Nat.le_refl _))
  clear HP HB R3
  have HP := HP2
  have HB := HB2
  have R3 := R32
  clear HP2 HB2 R32
  clear hb R3
  go_wp2_with fail
  refine (bounds_yes HP.out i3 104 5000 5106 b3).mono ?_
  rintro e W8 ⟨rfl, hb⟩
  have HP2 := Lib.hid (HP.out.below hb (Nat.le_refl _))
  have HB2 := Lib.hid (HB.out.trans (Below.mono hb HB.out.size))
  clear HP HB 
  have HP := HP2
  have HB := HB2
  clear HP2 HB2 
  clear hb
  go_wp2_with fail
  refine (kn_tick HP.out i3 (by decide) 110 k4).mono ?_
  rintro e W9 ⟨v9, rfl, hv, hp, hk⟩
  obtain ⟨A9, c9, rfl⟩ := hv.form
  have HB2 := Lib.hid (kn_below HB.out HP.out hk)
  clear HP HB 
  have HP := Lib.hid hp
  have HB := HB2
  clear HB2 
  have R4 := Lib.hid hv
  clear hv hp hk
  obtain ⟨x10, hx⟩ : ∃ x, x = beat 1 5006 5006 := ⟨_, rfl⟩
  have OR := Lib.hid (fun W : World => kn_order 7 1 [5006, 5006] x10 (by rw [hx]; rfl) W (by decide) (by decide) (by decide +kernel) (by intro z hz; simp at hz; omega))
  have RK := k5
  rw [← hx] at RK
  have RK := Lib.hid RK
  have hl10 := Lib.hid (show x10.d.length ≤ 100 by rw [hx]; decide)
  clear hx
  go_wp2_with fail
  refine (OR.out _).mono ?_
  rintro e U10 ⟨O, co, rfl, ho, hb⟩
  have hb1 := ((Below.refl _ _).alloc (Nat.le_refl _) _).trans (Below.mono hb (by simp))
  have hbc : b < _ ∧ c < _ := HP.out.lt
  have HO := Lib.hid ho
  have HP2 := Lib.hid (HP.out.below hb1 (Nat.le_refl _))
  have HB2 := Lib.hid (HB.out.trans (Below.mono hb1 HB.out.size))
  have R42 := Lib.hid (R4.out.below hb1 (Nat.le_refl _))
  clear HP HB R4
  have HP := HP2
  have HB := HB2
  have R4 := R42
  clear HP2 HB2 R42
  have HBC := Lib.hid hbc
  clear hb hb1 ho OR hbc
  go_wp2_with fail
  refine (kn_rcv HP.out i4 (by decide) x10 O co _ HO.out hl10.out (by have := HBC.out; simp; omega) 110 RK.out).mono ?_
  rintro e W10 ⟨v10, rfl, hv, hp, hk⟩
  obtain ⟨A10, c10, rfl⟩ := hv.form
  have HB2 := Lib.hid (kn_below HB.out HP.out hk)
  have R42 := Lib.hid (R4.out.keptP hk HP.out)
  clear HP HB R4
  have HP := Lib.hid hp
  have HB := HB2
  have R4 := R42
  clear HB2 R42
  have R5 := Lib.hid hv
  clear hv hp hk HO RK HBC hl10
  obtain ⟨x11, hx⟩ : ∃ x : Fr, x = ⟨9, 3, 0, 1, [0]⟩ := ⟨_, rfl⟩
  have ST := Lib.hid (fun W : World => show Calls Try.prog 29 #[.int .i64 1, .int .i64 0] W (FrPost x11 W) from by rw [hx]; exact status_any 1 0 W (by decide))
  rw [← hx] at R4
  clear hx
  go_wp2_with fail
  refine (ST.out _).mono ?_
  rintro e U11 ⟨O, co, rfl, ho, hb⟩
  have HO := Lib.hid (And.intro ho hb.size)
  have HP2 := Lib.hid (HP.out.below hb (Nat.le_refl _))
  have HB2 := Lib.hid (HB.out.trans (Below.mono hb HB.out.size))
  have R42 := Lib.hid (R4.out.below hb (Nat.le_refl _))
  have R52 := Lib.hid (R5.out.below hb (Nat.le_refl _))
  clear HP HB R4 R5
  have HP := HP2
  have HB := HB2
  have R4 := R42
  have R5 := R52
  clear HP2 HB2 R42 R52
  clear hb ho ST
  go_wp2_with fail
  have ra := R4.out.alloc (.cells #[.int .i64 x11.k, .int .i64 x11.f, .int .i64 x11.t, .int .i64 x11.s, .slice O x11.d.length co] 35 (0, 0))
  have rb := rof_lit HO.out.1 HO.out.2
  have RA := Lib.hid ra
  have RB2 := Lib.hid rb
  clear ra rb
  refine (sends_yes _ _ _ _ _ _ _ (by simp) RA.out.rf RB2.out.rf).mono ?_
  rintro e W11 ⟨rfl, hb⟩
  have hb1 := ((Below.refl _ _).alloc (Nat.le_refl _) _).trans (Below.mono hb (by simp))
  have HP2 := Lib.hid (HP.out.below hb1 (Nat.le_refl _))
  have HB2 := Lib.hid (HB.out.trans (Below.mono hb1 HB.out.size))
  have R42 := Lib.hid (R4.out.below hb1 (Nat.le_refl _))
  have R52 := Lib.hid (R5.out.below hb1 (Nat.le_refl _))
  clear HP HB R4 R5
  have HP := HP2
  have HB := HB2
  have R4 := R42
  have R5 := R52
  clear HP2 HB2 R42 R52
  clear hb hb1 HO RA RB2 R4
  go_wp2_with fail
  refine (sends_yes _ _ _ _ _ [] _ (by simp) R5.out.rf (Rof.nil _ 0).rf).mono ?_
  rintro e W12 ⟨rfl, hb⟩
  have HP2 := Lib.hid (HP.out.below hb (Nat.le_refl _))
  have HB2 := Lib.hid (HB.out.trans (Below.mono hb HB.out.size))
  have R52 := Lib.hid (R5.out.below hb (Nat.le_refl _))
  clear HP HB R5
  have HP := HP2
  have HB := HB2
  have R5 := R52
  clear HP2 HB2 R52
  clear hb R5
  go_wp2_with fail
  refine (bounds_yes HP.out i5 110 5006 5008 b5).mono ?_
  rintro e W13 ⟨rfl, hb⟩
  have HP2 := Lib.hid (HP.out.below hb (Nat.le_refl _))
  have HB2 := Lib.hid (HB.out.trans (Below.mono hb HB.out.size))
  clear HP HB 
  have HP := HP2
  have HB := HB2
  clear HP2 HB2 
  clear hb
  obtain ⟨x14, hx⟩ : ∃ x, x = ord 2 4 7 := ⟨_, rfl⟩
  have OR := Lib.hid (fun W : World => kn_order 2 4 [7] x14 (by rw [hx]; rfl) W (by decide) (by decide) (by decide +kernel) (by intro z hz; simp at hz; omega))
  have RK := k6
  rw [← hx] at RK
  have RK := Lib.hid RK
  have hl14 := Lib.hid (show x14.d.length ≤ 100 by rw [hx]; decide)
  clear hx
  go_wp2_with fail
  refine (OR.out _).mono ?_
  rintro e U14 ⟨O, co, rfl, ho, hb⟩
  have hb1 := ((Below.refl _ _).alloc (Nat.le_refl _) _).trans (Below.mono hb (by simp))
  have hbc : b < _ ∧ c < _ := HP.out.lt
  have HO := Lib.hid ho
  have HP2 := Lib.hid (HP.out.below hb1 (Nat.le_refl _))
  have HB2 := Lib.hid (HB.out.trans (Below.mono hb1 HB.out.size))
  clear HP HB 
  have HP := HP2
  have HB := HB2
  clear HP2 HB2 
  have HBC := Lib.hid hbc
  clear hb hb1 ho OR hbc
  go_wp2_with fail
  refine (kn_rcv HP.out i5 (by decide) x14 O co _ HO.out hl14.out (by have := HBC.out; simp; omega) 110 RK.out).mono ?_
  rintro e W14 ⟨v14, rfl, hv, hp, hk⟩
  obtain ⟨A14, c14, rfl⟩ := hv.form
  have HB2 := Lib.hid (kn_below HB.out HP.out hk)
  clear HP HB 
  have HP := Lib.hid hp
  have HB := HB2
  clear HB2 
  have R6 := Lib.hid hv
  clear hv hp hk HO RK HBC hl14
  obtain ⟨x15, hx⟩ : ∃ x, x = ord 1 5 7 := ⟨_, rfl⟩
  have OR := Lib.hid (fun W : World => kn_order 1 5 [7] x15 (by rw [hx]; rfl) W (by decide) (by decide) (by decide +kernel) (by intro z hz; simp at hz; omega))
  have RK := k7
  rw [← hx] at RK
  have RK := Lib.hid RK
  have hl15 := Lib.hid (show x15.d.length ≤ 100 by rw [hx]; decide)
  clear hx
  go_wp2_with fail
  refine (OR.out _).mono ?_
  rintro e U15 ⟨O, co, rfl, ho, hb⟩
  have hb1 := ((Below.refl _ _).alloc (Nat.le_refl _) _).trans (Below.mono hb (by simp))
  have hbc : b < _ ∧ c < _ := HP.out.lt
  have HO := Lib.hid ho
  have HP2 := Lib.hid (HP.out.below hb1 (Nat.le_refl _))
  have HB2 := Lib.hid (HB.out.trans (Below.mono hb1 HB.out.size))
  have R62 := Lib.hid (R6.out.below hb1 (Nat.le_refl _))
  clear HP HB R6
  have HP := HP2
  have HB := HB2
  have R6 := R62
  clear HP2 HB2 R62
  have HBC := Lib.hid hbc
  clear hb hb1 ho OR hbc
  go_wp2_with fail
  refine (kn_rcv HP.out i5 (by decide) x15 O co _ HO.out hl15.out (by have := HBC.out; simp; omega) 110 RK.out).mono ?_
  rintro e W15 ⟨v15, rfl, hv, hp, hk⟩
  obtain ⟨A15, c15, rfl⟩ := hv.form
  have HB2 := Lib.hid (kn_below HB.out HP.out hk)
  have R62 := Lib.hid (R6.out.keptP hk HP.out)
  clear HP HB R6
  have HP := Lib.hid hp
  have HB := HB2
  have R6 := R62
  clear HB2 R62
  have R7 := Lib.hid hv
  clear hv hp hk HO RK HBC hl15
  obtain ⟨x16, hx⟩ : ∃ x, x = ord 2 6 7 := ⟨_, rfl⟩
  have OR := Lib.hid (fun W : World => kn_order 2 6 [7] x16 (by rw [hx]; rfl) W (by decide) (by decide) (by decide +kernel) (by intro z hz; simp at hz; omega))
  have RK := k8
  rw [← hx] at RK
  have RK := Lib.hid RK
  have hl16 := Lib.hid (show x16.d.length ≤ 100 by rw [hx]; decide)
  clear hx
  go_wp2_with fail
  refine (OR.out _).mono ?_
  rintro e U16 ⟨O, co, rfl, ho, hb⟩
  have hb1 := ((Below.refl _ _).alloc (Nat.le_refl _) _).trans (Below.mono hb (by simp))
  have hbc : b < _ ∧ c < _ := HP.out.lt
  have HO := Lib.hid ho
  have HP2 := Lib.hid (HP.out.below hb1 (Nat.le_refl _))
  have HB2 := Lib.hid (HB.out.trans (Below.mono hb1 HB.out.size))
  have R62 := Lib.hid (R6.out.below hb1 (Nat.le_refl _))
  have R72 := Lib.hid (R7.out.below hb1 (Nat.le_refl _))
  clear HP HB R6 R7
  have HP := HP2
  have HB := HB2
  have R6 := R62
  have R7 := R72
  clear HP2 HB2 R62 R72
  have HBC := Lib.hid hbc
  clear hb hb1 ho OR hbc
  go_wp2_with fail
  refine (kn_rcv HP.out i7 (by decide) x16 O co _ HO.out hl16.out (by have := HBC.out; simp; omega) 110 RK.out).mono ?_
  rintro e W16 ⟨v16, rfl, hv, hp, hk⟩
  obtain ⟨A16, c16, rfl⟩ := hv.form
  have HB2 := Lib.hid (kn_below HB.out HP.out hk)
  have R62 := Lib.hid (R6.out.keptP hk HP.out)
  have R72 := Lib.hid (R7.out.keptP hk HP.out)
  clear HP HB R6 R7
  have HP := Lib.hid hp
  have HB := HB2
  have R6 := R62
  have R7 := R72
  clear HB2 R62 R72
  have R8 := Lib.hid hv
  clear hv hp hk HO RK HBC hl16
  go_wp2_with fail
  refine (sends_yes _ _ _ _ _ [] _ (by simp) R6.out.rf (Rof.nil _ 0).rf).mono ?_
  rintro e W17 ⟨rfl, hb⟩
  have HP2 := Lib.hid (HP.out.below hb (Nat.le_refl _))
  have HB2 := Lib.hid (HB.out.trans (Below.mono hb HB.out.size))
  have R62 := Lib.hid (R6.out.below hb (Nat.le_refl _))
  have R72 := Lib.hid (R7.out.below hb (Nat.le_refl _))
  have R82 := Lib.hid (R8.out.below hb (Nat.le_refl _))
  clear HP HB R6 R7 R8
  have HP := HP2
  have HB := HB2
  have R6 := R62
  have R7 := R72
  have R8 := R82
  clear HP2 HB2 R62 R72 R82
  clear hb R6
  obtain ⟨x18, hx⟩ : ∃ x : Fr, x = ⟨8, 3, 0, 5, [1]⟩ := ⟨_, rfl⟩
  have ST := Lib.hid (fun W : World => show Calls Try.prog 31 #[.int .i64 5, .int .i64 1] W (FrPost x18 W) from by rw [hx]; exact ack_any 5 1 W (by decide))
  rw [← hx] at R7
  clear hx
  go_wp2_with fail
  refine (ST.out _).mono ?_
  rintro e U18 ⟨O, co, rfl, ho, hb⟩
  have HO := Lib.hid (And.intro ho hb.size)
  have HP2 := Lib.hid (HP.out.below hb (Nat.le_refl _))
  have HB2 := Lib.hid (HB.out.trans (Below.mono hb HB.out.size))
  have R72 := Lib.hid (R7.out.below hb (Nat.le_refl _))
  have R82 := Lib.hid (R8.out.below hb (Nat.le_refl _))
  clear HP HB R7 R8
  have HP := HP2
  have HB := HB2
  have R7 := R72
  have R8 := R82
  clear HP2 HB2 R72 R82
  clear hb ho ST
  go_wp2_with fail
  have ra := R7.out.alloc (.cells #[.int .i64 x18.k, .int .i64 x18.f, .int .i64 x18.t, .int .i64 x18.s, .slice O x18.d.length co] 35 (0, 0))
  have rb := rof_lit HO.out.1 HO.out.2
  have RA := Lib.hid ra
  have RB2 := Lib.hid rb
  clear ra rb
  refine (sends_yes _ _ _ _ _ _ _ (by simp) RA.out.rf RB2.out.rf).mono ?_
  rintro e W18 ⟨rfl, hb⟩
  have hb1 := ((Below.refl _ _).alloc (Nat.le_refl _) _).trans (Below.mono hb (by simp))
  have HP2 := Lib.hid (HP.out.below hb1 (Nat.le_refl _))
  have HB2 := Lib.hid (HB.out.trans (Below.mono hb1 HB.out.size))
  have R72 := Lib.hid (R7.out.below hb1 (Nat.le_refl _))
  have R82 := Lib.hid (R8.out.below hb1 (Nat.le_refl _))
  clear HP HB R7 R8
  have HP := HP2
  have HB := HB2
  have R7 := R72
  have R8 := R82
  clear HP2 HB2 R72 R82
  clear hb hb1 HO RA RB2 R7
  obtain ⟨x19, hx⟩ : ∃ x : Fr, x = ⟨8, 3, 0, 6, [2]⟩ := ⟨_, rfl⟩
  have ST := Lib.hid (fun W : World => show Calls Try.prog 31 #[.int .i64 6, .int .i64 2] W (FrPost x19 W) from by rw [hx]; exact ack_any 6 2 W (by decide))
  rw [← hx] at R8
  clear hx
  go_wp2_with fail
  refine (ST.out _).mono ?_
  rintro e U19 ⟨O, co, rfl, ho, hb⟩
  have HO := Lib.hid (And.intro ho hb.size)
  have HP2 := Lib.hid (HP.out.below hb (Nat.le_refl _))
  have HB2 := Lib.hid (HB.out.trans (Below.mono hb HB.out.size))
  have R82 := Lib.hid (R8.out.below hb (Nat.le_refl _))
  clear HP HB R8
  have HP := HP2
  have HB := HB2
  have R8 := R82
  clear HP2 HB2 R82
  clear hb ho ST
  go_wp2_with fail
  have ra := R8.out.alloc (.cells #[.int .i64 x19.k, .int .i64 x19.f, .int .i64 x19.t, .int .i64 x19.s, .slice O x19.d.length co] 35 (0, 0))
  have rb := rof_lit HO.out.1 HO.out.2
  have RA := Lib.hid ra
  have RB2 := Lib.hid rb
  clear ra rb
  refine (sends_yes _ _ _ _ _ _ _ (by simp) RA.out.rf RB2.out.rf).mono ?_
  rintro e W19 ⟨rfl, hb⟩
  have hb1 := ((Below.refl _ _).alloc (Nat.le_refl _) _).trans (Below.mono hb (by simp))
  have HP2 := Lib.hid (HP.out.below hb1 (Nat.le_refl _))
  have HB2 := Lib.hid (HB.out.trans (Below.mono hb1 HB.out.size))
  have R82 := Lib.hid (R8.out.below hb1 (Nat.le_refl _))
  clear HP HB R8
  have HP := HP2
  have HB := HB2
  have R8 := R82
  clear HP2 HB2 R82
  clear hb hb1 HO RA RB2 R8
  obtain ⟨x20, hx⟩ : ∃ x, x = ord 3 7 5100 := ⟨_, rfl⟩
  have OR := Lib.hid (fun W : World => kn_order 3 7 [5100] x20 (by rw [hx]; rfl) W (by decide) (by decide) (by decide +kernel) (by intro z hz; simp at hz; omega))
  have RK := k9
  rw [← hx] at RK
  have RK := Lib.hid RK
  have hl20 := Lib.hid (show x20.d.length ≤ 100 by rw [hx]; decide)
  clear hx
  go_wp2_with fail
  refine (OR.out _).mono ?_
  rintro e U20 ⟨O, co, rfl, ho, hb⟩
  have hb1 := ((Below.refl _ _).alloc (Nat.le_refl _) _).trans (Below.mono hb (by simp))
  have hbc : b < _ ∧ c < _ := HP.out.lt
  have HO := Lib.hid ho
  have HP2 := Lib.hid (HP.out.below hb1 (Nat.le_refl _))
  have HB2 := Lib.hid (HB.out.trans (Below.mono hb1 HB.out.size))
  clear HP HB 
  have HP := HP2
  have HB := HB2
  clear HP2 HB2 
  have HBC := Lib.hid hbc
  clear hb hb1 ho OR hbc
  go_wp2_with fail
  refine (kn_rcv HP.out i8 (by decide) x20 O co _ HO.out hl20.out (by have := HBC.out; simp; omega) 111 RK.out).mono ?_
  rintro e W20 ⟨v20, rfl, hv, hp, hk⟩
  obtain ⟨A20, c20, rfl⟩ := hv.form
  have HB2 := Lib.hid (kn_below HB.out HP.out hk)
  clear HP HB 
  have HP := Lib.hid hp
  have HB := HB2
  clear HB2 
  have R9 := Lib.hid hv
  clear hv hp hk HO RK HBC hl20
  go_wp2_with fail
  refine (kn_next HP.out i9 205 x9 rfl).mono ?_
  rintro e W21 ⟨rfl, hb⟩
  have HP2 := Lib.hid (HP.out.below hb (Nat.le_refl _))
  have HB2 := Lib.hid (HB.out.trans (Below.mono hb HB.out.size))
  have R92 := Lib.hid (R9.out.below hb (Nat.le_refl _))
  clear HP HB R9
  have HP := HP2
  have HB := HB2
  have R9 := R92
  clear HP2 HB2 R92
  clear hb
  obtain ⟨x22, hx⟩ : ∃ x : Fr, x = ⟨8, 3, 0, 7, [3]⟩ := ⟨_, rfl⟩
  have ST := Lib.hid (fun W : World => show Calls Try.prog 31 #[.int .i64 7, .int .i64 3] W (FrPost x22 W) from by rw [hx]; exact ack_any 7 3 W (by decide))
  rw [← hx] at R9
  clear hx
  go_wp2_with fail
  refine (ST.out _).mono ?_
  rintro e U22 ⟨O, co, rfl, ho, hb⟩
  have HO := Lib.hid (And.intro ho hb.size)
  have HP2 := Lib.hid (HP.out.below hb (Nat.le_refl _))
  have HB2 := Lib.hid (HB.out.trans (Below.mono hb HB.out.size))
  have R92 := Lib.hid (R9.out.below hb (Nat.le_refl _))
  clear HP HB R9
  have HP := HP2
  have HB := HB2
  have R9 := R92
  clear HP2 HB2 R92
  clear hb ho ST
  go_wp2_with fail
  have ra := R9.out.alloc (.cells #[.int .i64 x22.k, .int .i64 x22.f, .int .i64 x22.t, .int .i64 x22.s, .slice O x22.d.length co] 35 (0, 0))
  have rb := rof_lit HO.out.1 HO.out.2
  have RA := Lib.hid ra
  have RB2 := Lib.hid rb
  clear ra rb
  refine (sends_yes _ _ _ _ _ _ _ (by simp) RA.out.rf RB2.out.rf).mono ?_
  rintro e W22 ⟨rfl, hb⟩
  have hb1 := ((Below.refl _ _).alloc (Nat.le_refl _) _).trans (Below.mono hb (by simp))
  have HP2 := Lib.hid (HP.out.below hb1 (Nat.le_refl _))
  have HB2 := Lib.hid (HB.out.trans (Below.mono hb1 HB.out.size))
  have R92 := Lib.hid (R9.out.below hb1 (Nat.le_refl _))
  clear HP HB R9
  have HP := HP2
  have HB := HB2
  have R9 := R92
  clear HP2 HB2 R92
  clear hb hb1 HO RA RB2 R9
  go_wp2_with fail
  refine (state_yes HP.out i9 (by decide) 204 3 k10 i10 rfl).mono ?_
  rintro e W23 ⟨rfl, hp, hk⟩
  have HB2 := Lib.hid (kn_below HB.out HP.out hk)
  clear HP HB 
  have HP := Lib.hid hp
  have HB := HB2
  clear HB2 
  clear hp hk
  go_wp2_with fail
  refine (state_yes HP.out i10 (by decide) 205 4 k11 i11 rfl).mono ?_
  rintro e W24 ⟨rfl, hp, hk⟩
  have HB2 := Lib.hid (kn_below HB.out HP.out hk)
  clear HP HB 
  have HP := Lib.hid hp
  have HB := HB2
  clear HB2 
  clear hp hk
  go_wp2_with fail
  refine (psince_any HP.out i11).mono ?_
  rintro e W25 ⟨rfl, hb⟩
  have HP2 := Lib.hid (HP.out.below hb (Nat.le_refl _))
  have HB2 := Lib.hid (HB.out.trans (Below.mono hb HB.out.size))
  clear HP HB 
  have HP := HP2
  have HB := HB2
  clear HP2 HB2 
  clear hb
  simp only [hasV, hasE, show K11.begun = true from rfl, show K11.since = 205 from rfl, if_true]
  go_wp2_with fail
  refine (state_yes HP.out i11 (by decide) 1110 4 k12 i12 rfl).mono ?_
  rintro e W26 ⟨rfl, hp, hk⟩
  have HB2 := Lib.hid (kn_below HB.out HP.out hk)
  clear HP HB 
  have HP := Lib.hid hp
  have HB := HB2
  clear HB2 
  clear hp hk
  go_wp2_with fail
  refine (state_yes HP.out i12 (by decide) 1111 5 k13 i13 rfl).mono ?_
  rintro e W27 ⟨rfl, hp, hk⟩
  have HB2 := Lib.hid (kn_below HB.out HP.out hk)
  clear HP HB 
  have HP := Lib.hid hp
  have HB := HB2
  clear HB2 
  clear hp hk
  go_wp2_with fail
  refine (state_yes HP.out i13 (by decide) 5111 6 k14 i14 rfl).mono ?_
  rintro e W28 ⟨rfl, hp, hk⟩
  have HB2 := Lib.hid (kn_below HB.out HP.out hk)
  clear HP HB 
  have HP := Lib.hid hp
  have HB := HB2
  clear HB2 
  clear hp hk
  go_wp2_with fail
  refine (state_yes HP.out i14 (by decide) 7111 7 k15 i15 rfl).mono ?_
  rintro e W29 ⟨rfl, hp, hk⟩
  have HB2 := Lib.hid (kn_below HB.out HP.out hk)
  clear HP HB 
  have HP := Lib.hid hp
  have HB := HB2
  clear HB2 
  clear hp hk
  go_wp2_with fail
  generalize hV : World.alloc _ _ = VZ
  have kz : VZ.heap[W29.heap.size]? = some (.cells #[.int .i64 0, .int .i64 0, .int .i64 0, .int .i64 0, .int .i64 0, .int .i64 0, .pointer none, .int .i64 0, .bool false, .bool false, .bool false, .bool false, .int .i64 0, .int .i64 0, .int .i64 0, .int .i64 0, .int .i64 0, .int .i64 0, .int .i64 0] 76 (0, 0)) := by rw [← hV]; exact heap_new _ _
  have cz : VZ.cell? ⟨W29.heap.size, 0, none⟩ = some (.int .i64 0) := blk_cell kz 0 rfl
  clear kz
  have HBZ := Lib.hid (show Below w.heap.size w VZ by rw [← hV]; exact HB.out.alloc HB.out.size _)
  clear hV HP HB
  refine (ptick_nil 0 _).mono ?_
  rintro e w' ⟨rfl, rfl⟩
  go_wp2_with fail
  refine (precv_zero _ _ _ _ _ _ _ _ _ _ cz).mono ?_
  rintro e WZ ⟨rfl, hb⟩
  have HBY := Lib.hid (HBZ.out.trans (Below.mono hb HBZ.out.size))
  clear hb HBZ cz
  go_wp2_with fail
  refine (pnext_nil _).mono ?_
  rintro e w' ⟨rfl, rfl⟩
  go_wp2_with fail
  refine (pstate_nil _).mono ?_
  rintro e w' ⟨rfl, rfl⟩
  go_wp2_with fail
  refine (pcopy_nil _).mono ?_
  rintro e w' ⟨rfl, rfl⟩
  go_wp2_with fail
  go_ret
  exact ⟨rfl, HBY.out⟩
end Go.Proofs.Ytjidchaejicjaaa

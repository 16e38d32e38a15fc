/- Slices of frames; SameAll. -/
import Derived.Test.YtiidkmnagfhgiaaRPut
namespace Go.Proofs.Ytiidkmnagfhgiaa
open Go.RowKit
set_option maxHeartbeats 4000000
set_option maxRecDepth 100000
set_option linter.unusedSimpArgs false
set_option linter.unusedVariables false
/-- a frame, as data -/
structure Fr where
  k : Int
  f : Int
  t : Int
  s : Int
  d : List Int
/-- two lists of frames are equal -/
def frEq (x y : Fr) : Bool := sameB x.k x.f x.t x.s y.k y.f y.t y.s x.d y.d
def frsEq : List Fr → List Fr → Bool
  | [], [] => true
  | x :: l, y :: m => frEq x y && frsEq l m
  | _, _ => false
theorem frEq_iff {x y : Fr} : frEq x y = true ↔ x = y := by
  cases x; cases y
  simp [frEq, sameB]
theorem frsEq_iff : ∀ {l m : List Fr}, frsEq l m = true ↔ l = m
  | [], [] => by simp [frsEq]
  | [], y :: m => by simp [frsEq]
  | x :: l, [] => by simp [frsEq]
  | x :: l, y :: m => by simp [frsEq, frEq_iff, frsEq_iff]
def fr0 : Fr := ⟨0, 0, 0, 0, []⟩
theorem frsEq_no {l m : List Fr} {j : Nat} (h : frEq (l.getD j fr0) (m.getD j fr0) = false) : frsEq l m = false := by
  cases hx : frsEq l m
  · rfl
  · rw [frsEq_iff] at hx
    subst hx
    rw [show frEq (l.getD j fr0) (l.getD j fr0) = true from frEq_iff.2 rfl] at h
    cases h
theorem frsEq_yes {l m : List Fr} (hl : l.length = m.length) (h : ∀ i, i < l.length → frEq (l.getD i fr0) (m.getD i fr0) = true) : frsEq l m = true := by
  rw [frsEq_iff]
  apply List.ext_getElem hl
  intro i h1 h2
  have := frEq_iff.1 (h i h1)
  simpa [List.getD, List.getElem?_eq_getElem h1, List.getElem?_eq_getElem h2] using this
theorem frsEq_len {l m : List Fr} (hl : l.length ≠ m.length) : frsEq l m = false := by
  cases hx : frsEq l m
  · rfl
  · rw [frsEq_iff] at hx
    subst hx
    exact absurd rfl hl
/-- the five cells of a frame at ⟨b, p⟩, and its bytes -/
def FrAt (w : World) (B b p : Nat) (x : Fr) : Prop :=
  ∃ (A : Option Addr) (cap : Nat), w.cell? ⟨b, p, none⟩ = some (.int .i64 x.k) ∧ w.cell? ⟨b, p + 1, none⟩ = some (.int .i64 x.f) ∧ w.cell? ⟨b, p + 2, none⟩ = some (.int .i64 x.t) ∧ w.cell? ⟨b, p + 3, none⟩ = some (.int .i64 x.s) ∧
    w.cell? ⟨b, p + 4, none⟩ = some (.slice A x.d.length cap) ∧ Rd w B A x.d.length x.d ∧ (A = none → x.d.length = 0 ∧ cap = 0) ∧ x.d.length ≤ cap ∧ cap ≤ maxLen
/-- the slice at A of n frames reads as the frames l; all of it lies below block B -/
def Rf (w : World) (B : Nat) (A : Option Addr) (n : Nat) (l : List Fr) : Prop :=
  l.length = n ∧ (0 < n → ∃ b o, A = some ⟨b, o, none⟩ ∧ b < B ∧ ∀ i, i < n → FrAt w B b (o + i * 5) (l.getD i fr0))
section
variable {w w' : World} {B : Nat} {A : Option Addr} {n : Nat} {l : List Fr}
theorem FrAt.keep {b p : Nat} {x : Fr} (h : FrAt w B b p x) (hb : b < B) (hk : ∀ b o, b < B → w'.cell? ⟨b, o, none⟩ = w.cell? ⟨b, o, none⟩) : FrAt w' B b p x := by
  obtain ⟨A, cap, h1, h2, h3, h4, h5, h6, h7⟩ := h
  exact ⟨A, cap, (hk _ _ hb).trans h1, (hk _ _ hb).trans h2, (hk _ _ hb).trans h3, (hk _ _ hb).trans h4, (hk _ _ hb).trans h5, h6.keep hk, h7⟩
theorem Rf.keep (h : Rf w B A n l) (hk : ∀ b o, b < B → w'.cell? ⟨b, o, none⟩ = w.cell? ⟨b, o, none⟩) : Rf w' B A n l :=
  ⟨h.1, fun hn => by
    obtain ⟨b, o, e, hb, hc⟩ := h.2 hn
    exact ⟨b, o, e, hb, fun i hi => (hc i hi).keep hb hk⟩⟩
theorem Rf.below {B' : Nat} (h : Rf w B A n l) (k : Below B' w w') (hB : B ≤ B') : Rf w' B A n l := h.keep fun b o hb => k.cell (p := ⟨b, o, none⟩) (Nat.lt_of_lt_of_le hb hB)
theorem FrAt.more {B' b p : Nat} {x : Fr} (h : FrAt w B b p x) (hB : B ≤ B') : FrAt w B' b p x := by
  obtain ⟨A, cap, h1, h2, h3, h4, h5, h6, h7⟩ := h
  exact ⟨A, cap, h1, h2, h3, h4, h5, h6.more hB, h7⟩
theorem Rf.more {B' : Nat} (h : Rf w B A n l) (hB : B ≤ B') : Rf w B' A n l :=
  ⟨h.1, fun hn => by
    obtain ⟨b, o, e, hb, hc⟩ := h.2 hn
    exact ⟨b, o, e, by omega, fun i hi => (hc i hi).more hB⟩⟩
theorem Rf.nil (w : World) (B : Nat) (A : Option Addr) : Rf w B A 0 [] := ⟨rfl, fun h => absurd h (by omega)⟩
end
theorem samef_any (A C : Option Addr) (n m cap caq : Nat) (l k : List Fr) (w : World) (hn : n ≤ 140737488355328) (hm : m ≤ 140737488355328) (h : Rf w w.heap.size A n l) (g : Rf w w.heap.size C m k) :
    Calls Try.prog 33 #[.slice A n cap, .slice C m caq] w fun e w' => e = .returned (.bool (frsEq l k)) ∧ Below w.heap.size w w' := by
  by_cases hnm : n = m
  · subst hnm
    have H := Lib.hid h
    have G := Lib.hid g
    clear h g
    go_enter Try.func33, Try.ntmps33
    go_wp2_with fail
    go_loopw [5] (fun s wr => ∃ (j : Nat), s = .int .i64 j ∧ j ≤ n ∧ Below w.heap.size w wr ∧ Hid (∀ i, i < j → frEq (l.getD i fr0) (k.getD i fr0) = true)) (fun s _ => n - (intOf s).toNat)
    case atStart => exact ⟨0, by go_num, by omega, (by repeat (first | (with_reducible exact Below.refl _ _) | (with_reducible refine Below.drew ?_) | (with_reducible refine below_drewN ?_ _) | ((with_reducible refine Below.alloc ?_ ?_ _); rotate_left; (first | omega | (simp <;> omega)); rotate_right) | ((with_reducible refine Below.setCell ?_ ?_ _); rotate_left; (first | omega | (simp <;> omega)); rotate_right) | (with_reducible assumption) | (refine Below.trans ?_ (Below.mono (by assumption) ?_); rotate_left; (first | omega | (simp <;> omega)); rotate_right))), Lib.hid (fun i hi => absurd hi (by omega))⟩
    case round =>
      obtain ⟨j, rfl, hj, hB, HA⟩ := hrel
      have hzr := hB.size
      by_cases hlt : j < n
      · have HR := H.out.below hB (Nat.le_refl _)
        have GR := G.out.below hB (Nat.le_refl _)
        obtain ⟨b, o, rfl, hbl, hcl⟩ := HR.2 (by omega)
        obtain ⟨b', o', rfl, hbl', hcl'⟩ := GR.2 (by omega)
        obtain ⟨A1, cap1, p0, p1, p2, p3, p4, pr, _⟩ := hcl j hlt
        obtain ⟨A2, cap2, q0, q1, q2, q3, q4, qr, _⟩ := hcl' j hlt
        have N := Lib.hid (fun hf => frsEq_no (l := l) (m := k) (j := j) hf)
        have Y := Lib.hid (fun (hf : frEq (l.getD j fr0) (k.getD j fr0) = true) => show ∀ i, i < j + 1 → frEq (l.getD i fr0) (k.getD i fr0) = true from fun i hi => by
          rcases Nat.lt_or_ge i j with h | h
          · exact HA.out i h
          · obtain rfl : i = j := by omega
            exact hf)
        generalize l.getD j fr0 = x at *
        generalize k.getD j fr0 = y at *
        obtain ⟨xk, xf, xt, xs, xd⟩ := x
        obtain ⟨yk, yf, yt, ys, yd⟩ := y
        simp only at p0 p1 p2 p3 p4 q0 q1 q2 q3 q4 pr qr
        have SM := Lib.hid (fun (W : World) (hW : Below w.heap.size wr W) => same_any xk xf xt xs yk yf yt ys A1 A2 xd.length yd.length cap1 cap2 xd yd W ((pr.below hW (Nat.le_refl _)).more (by have := hW.size; omega)) ((qr.below hW (Nat.le_refl _)).more (by have := hW.size; omega)))
        clear hcl hcl' HR GR pr qr HA
        cases hr : frEq ⟨xk, xf, xt, xs, xd⟩ ⟨yk, yf, yt, ys, yd⟩
        · have R := Lib.hid (N.out hr)
          rw [show sameB xk xf xt xs yk yf yt ys xd yd = false from hr] at SM
          clear N Y hr
          have hbr : b < wr.heap.size := by omega
          have hbr' : b' < wr.heap.size := by omega
          go_upto_region 6 with fail
          go_region_held3 (fun w' => w'.cell? ⟨b, o + j * 5, none⟩ = some (.int .i64 xk) ∧ w'.cell? ⟨b, o + j * 5 + 1, none⟩ = some (.int .i64 xf) ∧ w'.cell? ⟨b, o + j * 5 + 2, none⟩ = some (.int .i64 xt) ∧ w'.cell? ⟨b, o + j * 5 + 3, none⟩ = some (.int .i64 xs) ∧ w'.cell? ⟨b, o + j * 5 + 4, none⟩ = some (.slice A1 xd.length cap1) ∧ w'.cell? ⟨b', o' + j * 5, none⟩ = some (.int .i64 yk) ∧ w'.cell? ⟨b', o' + j * 5 + 1, none⟩ = some (.int .i64 yf) ∧ w'.cell? ⟨b', o' + j * 5 + 2, none⟩ = some (.int .i64 yt) ∧ w'.cell? ⟨b', o' + j * 5 + 3, none⟩ = some (.int .i64 ys) ∧ w'.cell? ⟨b', o' + j * 5 + 4, none⟩ = some (.slice A2 yd.length cap2)) (first | (refine ⟨?_, ?_, ?_, ?_, ?_, ?_, ?_, ?_, ?_, ?_⟩ <;> simp [go_sem, *]; done) | go_keep) (first | (go_at_call 34; refine (SM.out _ (by repeat (first | (with_reducible exact Below.refl _ _) | (with_reducible refine Below.drew ?_) | (with_reducible refine below_drewN ?_ _) | ((with_reducible refine Below.alloc ?_ ?_ _); rotate_left; (first | omega | (simp <;> omega)); rotate_right) | ((with_reducible refine Below.setCell ?_ ?_ _); rotate_left; (first | omega | (simp <;> omega)); rotate_right) | (with_reducible assumption) | (refine Below.trans ?_ (Below.mono (by assumption) ?_); rotate_left; (first | omega | (simp <;> omega)); rotate_right)))).mono ?_; rintro e w4 ⟨rfl, hb4⟩; have hz4 := hb4.size; try simp at hz4; have d0 : w4.cell? ⟨b, o + j * 5, none⟩ = some (.int .i64 xk) := ((bcell hb4).1 b _ (by first | omega | (simp; done) | (simp; omega))).trans (by simp [go_sem, *]); have d1 : w4.cell? ⟨b, o + j * 5 + 1, none⟩ = some (.int .i64 xf) := ((bcell hb4).1 b _ (by first | omega | (simp; done) | (simp; omega))).trans (by simp [go_sem, *]); have d2 : w4.cell? ⟨b, o + j * 5 + 2, none⟩ = some (.int .i64 xt) := ((bcell hb4).1 b _ (by first | omega | (simp; done) | (simp; omega))).trans (by simp [go_sem, *]); have d3 : w4.cell? ⟨b, o + j * 5 + 3, none⟩ = some (.int .i64 xs) := ((bcell hb4).1 b _ (by first | omega | (simp; done) | (simp; omega))).trans (by simp [go_sem, *]); have d4 : w4.cell? ⟨b, o + j * 5 + 4, none⟩ = some (.slice A1 xd.length cap1) := ((bcell hb4).1 b _ (by first | omega | (simp; done) | (simp; omega))).trans (by simp [go_sem, *]); have d5 : w4.cell? ⟨b', o' + j * 5, none⟩ = some (.int .i64 yk) := ((bcell hb4).1 b' _ (by first | omega | (simp; done) | (simp; omega))).trans (by simp [go_sem, *]); have d6 : w4.cell? ⟨b', o' + j * 5 + 1, none⟩ = some (.int .i64 yf) := ((bcell hb4).1 b' _ (by first | omega | (simp; done) | (simp; omega))).trans (by simp [go_sem, *]); have d7 : w4.cell? ⟨b', o' + j * 5 + 2, none⟩ = some (.int .i64 yt) := ((bcell hb4).1 b' _ (by first | omega | (simp; done) | (simp; omega))).trans (by simp [go_sem, *]); have d8 : w4.cell? ⟨b', o' + j * 5 + 3, none⟩ = some (.int .i64 ys) := ((bcell hb4).1 b' _ (by first | omega | (simp; done) | (simp; omega))).trans (by simp [go_sem, *]); have d9 : w4.cell? ⟨b', o' + j * 5 + 4, none⟩ = some (.slice A2 yd.length cap2) := ((bcell hb4).1 b' _ (by first | omega | (simp; done) | (simp; omega))).trans (by simp [go_sem, *])))
          have HB4 := (show Below w.heap.size w w4 from (by repeat (first | (with_reducible exact Below.refl _ _) | (with_reducible refine Below.drew ?_) | (with_reducible refine below_drewN ?_ _) | ((with_reducible refine Below.alloc ?_ ?_ _); rotate_left; (first | omega | (simp <;> omega)); rotate_right) | ((with_reducible refine Below.setCell ?_ ?_ _); rotate_left; (first | omega | (simp <;> omega)); rotate_right) | (with_reducible assumption) | (refine Below.trans ?_ (Below.mono (by assumption) ?_); rotate_left; (first | omega | (simp <;> omega)); rotate_right))))
          clear d0 d1 d2 d3 d4 d5 d6 d7 d8 d9
          go_wp2_with fail
          go_ret
          exact ⟨ret_bool R.out.symm, HB4⟩
        · have R := Lib.hid (Y.out hr)
          rw [show sameB xk xf xt xs yk yf yt ys xd yd = true from hr] at SM
          clear N Y hr
          have hbr : b < wr.heap.size := by omega
          have hbr' : b' < wr.heap.size := by omega
          go_upto_region 6 with fail
          go_region_held3 (fun w' => w'.cell? ⟨b, o + j * 5, none⟩ = some (.int .i64 xk) ∧ w'.cell? ⟨b, o + j * 5 + 1, none⟩ = some (.int .i64 xf) ∧ w'.cell? ⟨b, o + j * 5 + 2, none⟩ = some (.int .i64 xt) ∧ w'.cell? ⟨b, o + j * 5 + 3, none⟩ = some (.int .i64 xs) ∧ w'.cell? ⟨b, o + j * 5 + 4, none⟩ = some (.slice A1 xd.length cap1) ∧ w'.cell? ⟨b', o' + j * 5, none⟩ = some (.int .i64 yk) ∧ w'.cell? ⟨b', o' + j * 5 + 1, none⟩ = some (.int .i64 yf) ∧ w'.cell? ⟨b', o' + j * 5 + 2, none⟩ = some (.int .i64 yt) ∧ w'.cell? ⟨b', o' + j * 5 + 3, none⟩ = some (.int .i64 ys) ∧ w'.cell? ⟨b', o' + j * 5 + 4, none⟩ = some (.slice A2 yd.length cap2)) (first | (refine ⟨?_, ?_, ?_, ?_, ?_, ?_, ?_, ?_, ?_, ?_⟩ <;> simp [go_sem, *]; done) | go_keep) (first | (go_at_call 34; refine (SM.out _ (by repeat (first | (with_reducible exact Below.refl _ _) | (with_reducible refine Below.drew ?_) | (with_reducible refine below_drewN ?_ _) | ((with_reducible refine Below.alloc ?_ ?_ _); rotate_left; (first | omega | (simp <;> omega)); rotate_right) | ((with_reducible refine Below.setCell ?_ ?_ _); rotate_left; (first | omega | (simp <;> omega)); rotate_right) | (with_reducible assumption) | (refine Below.trans ?_ (Below.mono (by assumption) ?_); rotate_left; (first | omega | (simp <;> omega)); rotate_right)))).mono ?_; rintro e w4 ⟨rfl, hb4⟩; have hz4 := hb4.size; try simp at hz4; have d0 : w4.cell? ⟨b, o + j * 5, none⟩ = some (.int .i64 xk) := ((bcell hb4).1 b _ (by first | omega | (simp; done) | (simp; omega))).trans (by simp [go_sem, *]); have d1 : w4.cell? ⟨b, o + j * 5 + 1, none⟩ = some (.int .i64 xf) := ((bcell hb4).1 b _ (by first | omega | (simp; done) | (simp; omega))).trans (by simp [go_sem, *]); have d2 : w4.cell? ⟨b, o + j * 5 + 2, none⟩ = some (.int .i64 xt) := ((bcell hb4).1 b _ (by first | omega | (simp; done) | (simp; omega))).trans (by simp [go_sem, *]); have d3 : w4.cell? ⟨b, o + j * 5 + 3, none⟩ = some (.int .i64 xs) := ((bcell hb4).1 b _ (by first | omega | (simp; done) | (simp; omega))).trans (by simp [go_sem, *]); have d4 : w4.cell? ⟨b, o + j * 5 + 4, none⟩ = some (.slice A1 xd.length cap1) := ((bcell hb4).1 b _ (by first | omega | (simp; done) | (simp; omega))).trans (by simp [go_sem, *]); have d5 : w4.cell? ⟨b', o' + j * 5, none⟩ = some (.int .i64 yk) := ((bcell hb4).1 b' _ (by first | omega | (simp; done) | (simp; omega))).trans (by simp [go_sem, *]); have d6 : w4.cell? ⟨b', o' + j * 5 + 1, none⟩ = some (.int .i64 yf) := ((bcell hb4).1 b' _ (by first | omega | (simp; done) | (simp; omega))).trans (by simp [go_sem, *]); have d7 : w4.cell? ⟨b', o' + j * 5 + 2, none⟩ = some (.int .i64 yt) := ((bcell hb4).1 b' _ (by first | omega | (simp; done) | (simp; omega))).trans (by simp [go_sem, *]); have d8 : w4.cell? ⟨b', o' + j * 5 + 3, none⟩ = some (.int .i64 ys) := ((bcell hb4).1 b' _ (by first | omega | (simp; done) | (simp; omega))).trans (by simp [go_sem, *]); have d9 : w4.cell? ⟨b', o' + j * 5 + 4, none⟩ = some (.slice A2 yd.length cap2) := ((bcell hb4).1 b' _ (by first | omega | (simp; done) | (simp; omega))).trans (by simp [go_sem, *])))
          have HB4 := (show Below w.heap.size w w4 from (by repeat (first | (with_reducible exact Below.refl _ _) | (with_reducible refine Below.drew ?_) | (with_reducible refine below_drewN ?_ _) | ((with_reducible refine Below.alloc ?_ ?_ _); rotate_left; (first | omega | (simp <;> omega)); rotate_right) | ((with_reducible refine Below.setCell ?_ ?_ _); rotate_left; (first | omega | (simp <;> omega)); rotate_right) | (with_reducible assumption) | (refine Below.trans ?_ (Below.mono (by assumption) ?_); rotate_left; (first | omega | (simp <;> omega)); rotate_right))))
          clear d0 d1 d2 d3 d4 d5 d6 d7 d8 d9
          go_wp2_with fail
          go_roundw
          case rel => exact ⟨j + 1, by go_num, by omega, HB4, R⟩
          case measure => simp [intOf]; omega
      · obtain rfl : j = n := by omega
        have E := Lib.hid (show frsEq l k = true from frsEq_yes (H.out.1.trans G.out.1.symm) (fun i hi => HA.out i (by rw [← H.out.1]; exact hi)))
        go_wp2_with fail
        go_ret
        exact ⟨ret_bool E.out.symm, (by repeat (first | (with_reducible exact Below.refl _ _) | (with_reducible refine Below.drew ?_) | (with_reducible refine below_drewN ?_ _) | ((with_reducible refine Below.alloc ?_ ?_ _); rotate_left; (first | omega | (simp <;> omega)); rotate_right) | ((with_reducible refine Below.setCell ?_ ?_ _); rotate_left; (first | omega | (simp <;> omega)); rotate_right) | (with_reducible assumption) | (refine Below.trans ?_ (Below.mono (by assumption) ?_); rotate_left; (first | omega | (simp <;> omega)); rotate_right)))⟩
  · have z : ((n : Int) != (m : Int)) = true := by simp; omega
    have E := Lib.hid (show frsEq l k = false from frsEq_len (by rw [h.1, g.1]; exact hnm))
    clear hnm h g
    go_enter Try.func33, Try.ntmps33
    go_wp2_with fail
    go_ret
    exact ⟨ret_bool E.out.symm, (by repeat (first | (with_reducible exact Below.refl _ _) | (with_reducible refine Below.drew ?_) | (with_reducible refine below_drewN ?_ _) | ((with_reducible refine Below.alloc ?_ ?_ _); rotate_left; (first | omega | (simp <;> omega)); rotate_right) | ((with_reducible refine Below.setCell ?_ ?_ _); rotate_left; (first | omega | (simp <;> omega)); rotate_right) | (with_reducible assumption) | (refine Below.trans ?_ (Below.mono (by assumption) ?_); rotate_left; (first | omega | (simp <;> omega)); rotate_right)))⟩
end Go.Proofs.Ytiidkmnagfhgiaa

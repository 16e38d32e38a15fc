/- The calls that come in: a slice of calls opened. -/
import Derived.Test.YtjidchaejicjaaaFrC
import Derived.Test.YtjidchaejicjaaaPlP
namespace Go.Proofs.Ytjidchaejicjaaa
open Go.ChangeShapes Go.WideShapes Go.ChangeAt Go.RowKit Go.Joins Go.Deep
set_option linter.unusedVariables false
set_option linter.unusedSimpArgs false
set_option maxHeartbeats 4000000
set_option maxRecDepth 100000
/-- a call, as data -/
structure LAct where
  now : Int
  f : Fr
def la0 : LAct := ⟨0, fr0⟩
def I64r (z : Int) : Prop := -9223372036854775808 ≤ z ∧ z ≤ 9223372036854775807
def LaOk (a : LAct) : Prop := I64r a.now ∧ FrOk a.f
/-- the six cells of a call at ⟨b, p⟩ -/
def LaAt (w : World) (B b p : Nat) (x : LAct) : Prop :=
  ∃ (E : Option Addr) (ce : Nat), w.cell? ⟨b, p, none⟩ = some (.int .i64 x.now) ∧
    w.cell? ⟨b, p + 1, none⟩ = some (.int .i64 x.f.k) ∧ w.cell? ⟨b, p + 2, none⟩ = some (.int .i64 x.f.f) ∧ w.cell? ⟨b, p + 3, none⟩ = some (.int .i64 x.f.t) ∧ w.cell? ⟨b, p + 4, none⟩ = some (.int .i64 x.f.s) ∧ w.cell? ⟨b, p + 5, none⟩ = some (.slice E x.f.d.length ce) ∧
    Rd w B E x.f.d.length x.f.d ∧ Room E x.f.d.length ce
def LRf (w : World) (B : Nat) (A : Option Addr) (n : Nat) (l : List LAct) : Prop :=
  l.length = n ∧ (0 < n → ∃ b o, A = some ⟨b, o, none⟩ ∧ b < B ∧ ∀ i, i < n → LaAt w B b (o + i * 6) (l.getD i la0))
theorem LaAt.keep {w w' : World} {B b p : Nat} {x : LAct} (h : LaAt w B b p x) (hb : b < B) (hk : ∀ b o, b < B → w'.cell? ⟨b, o, none⟩ = w.cell? ⟨b, o, none⟩) : LaAt w' B b p x := by
  obtain ⟨E, ce, h0, h1, h2, h3, h4, h5, h6, h7⟩ := h
  exact ⟨E, ce, (hk _ _ hb).trans h0, (hk _ _ hb).trans h1, (hk _ _ hb).trans h2, (hk _ _ hb).trans h3, (hk _ _ hb).trans h4, (hk _ _ hb).trans h5, h6.keep hk, h7⟩
theorem LRf.below {w w' : World} {B B' n : Nat} {A : Option Addr} {l : List LAct} (h : LRf w B A n l) (k : Below B' w w') (hB : B ≤ B') : LRf w' B A n l :=
  ⟨h.1, fun hn => by
    obtain ⟨b, o, e, hb, hc⟩ := h.2 hn
    exact ⟨b, o, e, hb, fun i hi => (hc i hi).keep hb (fun b o hb' => k.cell (p := ⟨b, o, none⟩) (Nat.lt_of_lt_of_le hb' hB))⟩⟩
theorem c1int : Try.prog.cellsOf 3 = 1 := by kernel_rfl
theorem c1bytes : Try.prog.cellsOf 33 = 1 := by kernel_rfl
theorem c1kind : Try.prog.cellsOf 32 = 1 := by kernel_rfl
theorem cellsAct : Try.prog.cellsOf 37 = 6 := by kernel_rfl
section
variable {H : Type} {enc : TypeId × Value → H} {w : World} {fuel : Nat} {c : Value} {x : DataW H × List MemPlace}
theorem cells6 {l : List Value} (h : l.length = 6) : ∃ a b c d e f, l = [a, b, c, d, e, f] := by
  match l, h with
  | [a, b, c, d, e, f], _ => exact ⟨a, b, c, d, e, f, rfl⟩
theorem lacts_of (hf : DataW.trod enc Try.prog w 0 (fun _ => true) true fuel 24 [c] = some x) : ∃ (a : Option Addr) (len cap : Nat) (l : List LAct), c = .slice a len cap ∧ Room a len cap ∧ LRf w w.heap.size a len l ∧ ∀ y ∈ l, LaOk y := by
  rcases open_slice Try.underlying24 hf with ⟨hcs, _⟩ | ⟨x, l, c', m, n, D, Pl, hcs, _, hl, hm, hmm, _, hc⟩
  · simp at hcs
    exact ⟨none, 0, 0, [], hcs, ⟨by omega, by unfold maxLen; omega, fun _ => ⟨rfl, rfl⟩⟩, ⟨rfl, fun h => absurd h (by omega)⟩, by intro y hy; cases hy⟩
  · simp at hcs
    subst hcs
    simp at hmm
    subst hmm
    rw [cellsAct] at hc
    obtain ⟨b, o, spot⟩ := x
    have hs0 : 0 < l → spot = none := fun h0 => by
      obtain ⟨cs', hcell, ht'⟩ := hc 0 (by omega)
      obtain ⟨_, hcl, hat⟩ := World.cells?_some hcell
      obtain ⟨v0, v1, v2, v3, v4, v5, rfl⟩ := cells6 hcl
      have g0 := hat 0 (by omega)
      simp [Addr.add] at g0
      simpa using World.cell?_spot g0
    have key : ∀ i, i < l → ∃ y : LAct, LaOk y ∧ (spot = none ∧ b < w.heap.size) ∧ LaAt w w.heap.size b (o + i * 6) y := by
      intro i h1
      obtain ⟨cs', hcell, ht'⟩ := hc i (by omega)
      obtain ⟨_, hcl, hat⟩ := World.cells?_some hcell
      obtain ⟨ys, n', hn', hy, hlen, hyl, hff⟩ := DataW.trod_struct Try.underlying37 ht'
      obtain ⟨v0, v1, v2, v3, v4, v5, rfl⟩ := cells6 hcl
      have g := fun j hj => hat j hj
      have g0 := hat 0 (by omega); have g1 := hat 1 (by omega); have g2 := hat 2 (by omega); have g3 := hat 3 (by omega)
      have g4 := hat 4 (by omega); have g5 := hat 5 (by omega)
      simp only [Go.Deep.add_add] at g0 g1 g2 g3 g4 g5
      have hspot := hs0 (by omega)
      subst hspot
      simp only [add_none] at g0 g1 g2 g3 g4 g5
      have y0 : ys[0]? = some (ys[0]'(by rw [hyl]; decide)) := List.getElem?_eq_getElem _
      have y1 : ys[1]? = some (ys[1]'(by rw [hyl]; decide)) := List.getElem?_eq_getElem _
      have f0 : DataW.trod enc Try.prog w 0 (fun _ => true) true n' 3 (([v0, v1, v2, v3, v4, v5].drop 0).take (Try.prog.cellsOf 3)) = ys[0]? := hff 0 _ rfl
      have f1 : DataW.trod enc Try.prog w 0 (fun _ => true) true n' 35 (([v0, v1, v2, v3, v4, v5].drop 1).take (Try.prog.cellsOf 35)) = ys[1]? := hff 1 _ rfl
      rw [c1int, y0] at f0; rw [cellsFr, y1] at f1
      obtain ⟨k0, e0, _, w0⟩ := DataW.trod_int Try.underlying3 f0
      obtain ⟨zs, m', _, _, _, hzl, hgg⟩ := DataW.trod_struct Try.underlying35 f1
      have z0 : zs[0]? = some (zs[0]'(by rw [hzl]; decide)) := List.getElem?_eq_getElem _
      have z1 : zs[1]? = some (zs[1]'(by rw [hzl]; decide)) := List.getElem?_eq_getElem _
      have z2 : zs[2]? = some (zs[2]'(by rw [hzl]; decide)) := List.getElem?_eq_getElem _
      have z3 : zs[3]? = some (zs[3]'(by rw [hzl]; decide)) := List.getElem?_eq_getElem _
      have z4 : zs[4]? = some (zs[4]'(by rw [hzl]; decide)) := List.getElem?_eq_getElem _
      have h0 : DataW.trod enc Try.prog w 0 (fun _ => true) true m' 32 (([v1, v2, v3, v4, v5].drop 0).take (Try.prog.cellsOf 32)) = zs[0]? := hgg 0 _ rfl
      have h1' : DataW.trod enc Try.prog w 0 (fun _ => true) true m' 3 (([v1, v2, v3, v4, v5].drop 1).take (Try.prog.cellsOf 3)) = zs[1]? := hgg 1 _ rfl
      have h2 : DataW.trod enc Try.prog w 0 (fun _ => true) true m' 3 (([v1, v2, v3, v4, v5].drop 2).take (Try.prog.cellsOf 3)) = zs[2]? := hgg 2 _ rfl
      have h3 : DataW.trod enc Try.prog w 0 (fun _ => true) true m' 3 (([v1, v2, v3, v4, v5].drop 3).take (Try.prog.cellsOf 3)) = zs[3]? := hgg 3 _ rfl
      have h4 : DataW.trod enc Try.prog w 0 (fun _ => true) true m' 33 (([v1, v2, v3, v4, v5].drop 4).take (Try.prog.cellsOf 33)) = zs[4]? := hgg 4 _ rfl
      rw [c1kind, z0] at h0; rw [c1int, z1] at h1'; rw [c1int, z2] at h2; rw [c1int, z3] at h3; rw [c1bytes, z4] at h4
      obtain ⟨q0, p0, _, x0⟩ := DataW.trod_int Try.underlying32 h0
      obtain ⟨q1, p1, _, x1⟩ := DataW.trod_int Try.underlying3 h1'
      obtain ⟨q2, p2, _, x2⟩ := DataW.trod_int Try.underlying3 h2
      obtain ⟨q3, p3, _, x3⟩ := DataW.trod_int Try.underlying3 h3
      obtain ⟨A2, l2, cp2, d2, p4, hroom2, hrd2⟩ := bytes_of h4
      have hd2 := hrd2.1
      subst hd2
      simp at e0 p0 p1 p2 p3 p4 g0 g1 g2 g3 g4 g5
      subst e0; subst p0; subst p1; subst p2; subst p3; subst p4
      refine ⟨⟨k0, ⟨q0, q1, q2, q3, d2⟩⟩, ⟨i64_wf w0, i64_wf x0, i64_wf x1, i64_wf x2, i64_wf x3⟩, ⟨rfl, by have := cell_lt g0; exact this⟩, A2, cp2, ?_⟩
      simp only [Nat.add_assoc]
      exact ⟨g0, g1, g2, g3, g4, g5, hrd2, hroom2⟩
    have ch : ∃ F : Nat → LAct, ∀ i, i < l → LaOk (F i) ∧ (spot = none ∧ b < w.heap.size) ∧ LaAt w w.heap.size b (o + i * 6) (F i) := by
      refine ⟨fun i => if h : i < l then Classical.choose (key i h) else la0, fun i hi => ?_⟩
      simp only [dif_pos hi]
      exact Classical.choose_spec (key i hi)
    obtain ⟨F, hF⟩ := ch
    refine ⟨some ⟨b, o, spot⟩, l, m, (List.range l).map F, rfl, ⟨hl, hm, (fun h => by cases h)⟩, ⟨by simp, fun h0 => ?_⟩, fun y hy => ?_⟩
    · obtain ⟨_, ⟨hs, hb⟩, _⟩ := hF 0 h0
      subst hs
      refine ⟨b, o, rfl, hb, fun i hi => ?_⟩
      have hg : ((List.range l).map F).getD i la0 = F i := by simp [List.getD, hi]
      rw [hg]
      exact (hF i hi).2.2
    · simp only [List.mem_map, List.mem_range] at hy
      obtain ⟨i, hi, rfl⟩ := hy
      exact (hF i hi).1
end
end Go.Proofs.Ytjidchaejicjaaa
/- What a pilot's calls give: plain, no program in sight. -/
namespace Go.Proofs.Ytjidchaejicjaaa
set_option linter.unusedVariables false
set_option linter.unusedSimpArgs false
set_option maxHeartbeats 4000000
namespace Plt
/-- what a frame says -/
def fmOf (x : Fr) : Fm := ⟨x.k, x.s, if x.d.length = 4 then Frm.gnAt x.d 0 else -1, decide (x.d.length = 0), decide (x.d.length = 8), Frm.gnAt x.d 0, Frm.gnAt x.d 1⟩
def byt (z : Int) : Int := z % 256
def tickF (s : St) (l : Int) : List Fr := if timE s l = 0 ∧ asks (pas s l) l = false then [⟨9, s.id, 0, s.reports % 65536, [(pas s l).st]⟩] else []
def tickS (s : St) (l : Int) : St := if timE s l = 0 then tick s l else s
def rcvE (s : St) (l : Int) (x : Fr) : Int := if Frm.vd x.k x.f x.t x.s x.d.length = true ∧ x.t = s.id then timE s l else 2
def rcvS (s : St) (l : Int) (x : Fr) : St := if rcvE s l x = 0 then recv s l (fmOf x) else s
def rcvF (s : St) (l : Int) (x : Fr) : List Fr := if rcvE s l x = 0 ∧ recvA s l (fmOf x) = true then [⟨8, s.id, 0, x.s, [x.k]⟩] else []
def actS (s : St) (a : LAct) : St := if a.f.k = 0 then tickS s a.now else rcvS s a.now a.f
theorem timE_ok {s : St} {l : Int} (h : timE s l = 0) : (-1073741824 ≤ l ∧ l ≤ 1073741824) ∧ (s.begun = true → s.now ≤ l) := by
  unfold timE at h
  split at h
  · rename_i hh; rw [Ck.Clk.inB_iff] at hh; exact hh
  · omega
theorem timE_cases (s : St) (l : Int) : timE s l = 0 ∨ timE s l = 3 := by
  unfold timE
  split <;> simp
theorem fmOf_n {x : Fr} (hd : ∀ z ∈ x.d, 0 ≤ z ∧ z < 256) : -1 ≤ (fmOf x).n ∧ (fmOf x).n ≤ 4294967295 := by
  unfold fmOf
  simp only
  split
  · have := Frm.gnAt_bd hd 0
    omega
  · omega
theorem tickS_inv {s : St} (h : Inv s) (l : Int) : Inv (tickS s l) := by
  unfold tickS
  split
  · rename_i e; exact tick_inv h (timE_ok e).1
  · exact h
theorem rcvE_ok {s : St} {l : Int} {x : Fr} (h : rcvE s l x = 0) : timE s l = 0 ∧ Frm.vd x.k x.f x.t x.s x.d.length = true ∧ x.t = s.id := by
  unfold rcvE at h
  split at h
  · rename_i e; exact ⟨h, e⟩
  · omega
theorem rcvS_inv {s : St} (h : Inv s) (l : Int) {x : Fr} (hd : ∀ z ∈ x.d, 0 ≤ z ∧ z < 256) : Inv (rcvS s l x) := by
  unfold rcvS
  split
  · rename_i e; exact recv_inv h (timE_ok (rcvE_ok e).1).1 (fmOf_n hd)
  · exact h
theorem actS_inv {s : St} (h : Inv s) {a : LAct} (hd : ∀ z ∈ a.f.d, 0 ≤ z ∧ z < 256) : Inv (actS s a) := by
  unfold actS
  split
  · exact tickS_inv h _
  · exact rcvS_inv h _ hd
/-- what a frame can't change -/
theorem ent_same (s : St) (x t : Int) : (ent s x t).now = s.now ∧ (ent s x t).begun = s.begun ∧ (ent s x t).heard = s.heard ∧ (ent s x t).reports = s.reports ∧ (ent s x t).rep = s.rep ∧ (ent s x t).id = s.id := by
  unfold ent
  split <;> exact ⟨rfl, rfl, rfl, rfl, rfl, rfl⟩
theorem take_same (s : St) (x : Fm) : (take s x).1.now = s.now ∧ (take s x).1.begun = s.begun ∧ (take s x).1.heard = s.heard ∧ (take s x).1.reports = s.reports ∧ (take s x).1.rep = s.rep ∧ (take s x).1.id = s.id := by
  unfold take
  have h := ent_same s
  repeat' split
  all_goals first | exact ⟨rfl, rfl, rfl, rfl, rfl, rfl⟩ | exact h _ _
theorem pas_id (s : St) (l : Int) : (pas s l).id = s.id := by
  have key : ∀ (k : Nat) (t : St), (run k t l).id = t.id := by
    intro k
    induction k with
    | zero => intro t; rfl
    | succ k ih =>
      intro t
      unfold run
      split
      · rw [ih]; exact (ent_same t _ _).2.2.2.2.2
      · rfl
  unfold pas
  rw [key]
  unfold beg
  split <;> rfl
theorem actS_reports (s : St) (a : LAct) : (actS s a).reports ≤ s.reports + 1 ∧ s.reports ≤ (actS s a).reports ∧ (actS s a).id = s.id := by
  unfold actS
  split
  · unfold tickS
    split
    · have h := pas_same s a.now
      have hi := pas_id s a.now
      unfold tick
      split
      · omega
      · simp only; omega
    · omega
  · unfold rcvS
    split
    · obtain ⟨u, hu⟩ : ∃ u, u = ({ pas s a.now with heard := a.now } : St) := ⟨_, rfl⟩
      have e : recv s a.now (fmOf a.f) = pas (take u (fmOf a.f)).1 a.now := by rw [hu]; rfl
      have ur : u.reports = (pas s a.now).reports := by rw [hu]
      have ui : u.id = (pas s a.now).id := by rw [hu]
      rw [e]
      have h1 := pas_same s a.now
      have i1 := pas_id s a.now
      have h2 := take_same u (fmOf a.f)
      have h3 := pas_same (take u (fmOf a.f)).1 a.now
      have i3 := pas_id (take u (fmOf a.f)).1 a.now
      clear hu e
      omega
    · omega
end Plt
end Go.Proofs.Ytjidchaejicjaaa
/- The states of the chapter's examples: plain. -/
namespace Go.Proofs.Ytjidchaejicjaaa
set_option maxHeartbeats 4000000
set_option maxRecDepth 100000
namespace Kn
open Plt
def beat (q a b : Int) : Fr := ⟨7, 0, 3, q, Frm.pn [a, b]⟩
def ord (k q n : Int) : Fr := ⟨k, 0, 3, q, Frm.pn [n]⟩
def K0 : St := ⟨3, 1000, 5000, 2000, 50, 100, 0, 0, false, 0, 0, 0, false, false, false, false, 0, 0, 0, 0, 0, 0, 0, 0⟩
def K1 : St := ⟨3, 1000, 5000, 2000, 50, 100, 0, 0, false, 0, 0, 0, true, false, false, true, 0, 0, 0, 0, 0, 1, 0, 0⟩
def K2 : St := ⟨3, 1000, 5000, 2000, 50, 100, 0, 0, false, 0, 0, 0, true, false, false, true, 99, 0, 0, 0, 0, 1, 0, 0⟩
def K3 : St := ⟨3, 1000, 5000, 2000, 50, 100, 0, 104, true, 5000, 5105, 0, true, false, false, false, 104, 104, 0, 0, 0, 1, 0, 0⟩
def K4 : St := ⟨3, 1000, 5000, 2000, 50, 100, 0, 104, true, 5000, 5105, 0, true, false, false, true, 110, 104, 0, 0, 0, 2, 110, 1⟩
def K5 : St := ⟨3, 1000, 5000, 2000, 50, 100, 0, 110, true, 5006, 5007, 0, true, false, false, false, 110, 110, 0, 0, 0, 2, 110, 1⟩
def K7 : St := ⟨3, 1000, 5000, 2000, 50, 100, 0, 110, true, 5006, 5007, 1, true, true, false, false, 110, 110, 110, 7, 0, 2, 110, 1⟩
def K8 : St := ⟨3, 1000, 5000, 2000, 50, 100, 0, 110, true, 5006, 5007, 2, true, true, false, false, 110, 110, 110, 7, 0, 2, 110, 1⟩
def K9 : St := ⟨3, 1000, 5000, 2000, 50, 100, 0, 110, true, 5006, 5007, 3, true, true, true, false, 111, 111, 111, 7, 5100, 2, 110, 1⟩
def K10 : St := ⟨3, 1000, 5000, 2000, 50, 100, 0, 110, true, 5006, 5007, 3, true, true, true, false, 204, 111, 111, 7, 5100, 2, 110, 1⟩
def K11 : St := ⟨3, 1000, 5000, 2000, 50, 100, 0, 110, true, 5006, 5007, 4, true, true, true, false, 205, 111, 205, 7, 5100, 2, 110, 1⟩
def K12 : St := ⟨3, 1000, 5000, 2000, 50, 100, 0, 110, true, 5006, 5007, 4, true, true, true, true, 1110, 111, 205, 7, 5100, 3, 1110, 2⟩
def K13 : St := ⟨3, 1000, 5000, 2000, 50, 100, 0, 110, true, 5006, 5007, 5, true, true, true, true, 1111, 111, 1111, 7, 5100, 3, 1110, 2⟩
def K14 : St := ⟨3, 1000, 5000, 2000, 50, 100, 0, 110, true, 5006, 5007, 6, true, true, true, true, 5111, 111, 5111, 7, 5100, 4, 5111, 3⟩
def K15 : St := ⟨3, 1000, 5000, 2000, 50, 100, 0, 110, true, 5006, 5007, 7, true, true, false, true, 7111, 111, 7111, 7, 0, 5, 7111, 4⟩
theorem n0 : Plt.newE 3 1000 5000 2000 50 100 0 = 0 := by kernel_rfl
theorem n0' : Plt.new 3 1000 5000 2000 50 100 0 = K0 := rfl
theorem k1 : tickS K0 0 = K1 ∧ tickF K0 0 = [⟨9, 3, 0, 0, [0]⟩] ∧ timE K0 0 = 0 := ⟨by kernel_rfl, by kernel_rfl, by kernel_rfl⟩
theorem k2 : tickS K1 99 = K2 ∧ tickF K1 99 = [] ∧ timE K1 99 = 0 := ⟨by kernel_rfl, by kernel_rfl, by kernel_rfl⟩
theorem x2 : Plt.next K2 = 100 := by kernel_rfl
theorem k3 : rcvS K2 104 (beat 0 5000 5000) = K3 ∧ rcvF K2 104 (beat 0 5000 5000) = [] ∧ rcvE K2 104 (beat 0 5000 5000) = 0 := ⟨by kernel_rfl, by kernel_rfl, by kernel_rfl⟩
theorem b3 : Ck.aLo K3.d K3.r K3.cs K3.lo K3.hi 104 = 5000 ∧ Ck.aHi K3.d K3.r K3.cs K3.hi 104 = 5106 ∧ Ck.aE K3.d K3.r K3.cs K3.hi 104 = 0 := ⟨by kernel_rfl, by kernel_rfl, by kernel_rfl⟩
theorem k4 : tickS K3 110 = K4 ∧ tickF K3 110 = [⟨9, 3, 0, 1, [0]⟩] ∧ timE K3 110 = 0 := ⟨by kernel_rfl, by kernel_rfl, by kernel_rfl⟩
theorem k5 : rcvS K4 110 (beat 1 5006 5006) = K5 ∧ rcvF K4 110 (beat 1 5006 5006) = [] ∧ rcvE K4 110 (beat 1 5006 5006) = 0 := ⟨by kernel_rfl, by kernel_rfl, by kernel_rfl⟩
theorem b5 : Ck.aLo K5.d K5.r K5.cs K5.lo K5.hi 110 = 5006 ∧ Ck.aHi K5.d K5.r K5.cs K5.hi 110 = 5008 ∧ Ck.aE K5.d K5.r K5.cs K5.hi 110 = 0 := ⟨by kernel_rfl, by kernel_rfl, by kernel_rfl⟩
theorem k6 : rcvS K5 110 (ord 2 4 7) = K5 ∧ rcvF K5 110 (ord 2 4 7) = [] ∧ rcvE K5 110 (ord 2 4 7) = 0 := ⟨by kernel_rfl, by kernel_rfl, by kernel_rfl⟩
theorem k7 : rcvS K5 110 (ord 1 5 7) = K7 ∧ rcvF K5 110 (ord 1 5 7) = [⟨8, 3, 0, 5, [1]⟩] ∧ rcvE K5 110 (ord 1 5 7) = 0 := ⟨by kernel_rfl, by kernel_rfl, by kernel_rfl⟩
theorem k8 : rcvS K7 110 (ord 2 6 7) = K8 ∧ rcvF K7 110 (ord 2 6 7) = [⟨8, 3, 0, 6, [2]⟩] ∧ rcvE K7 110 (ord 2 6 7) = 0 := ⟨by kernel_rfl, by kernel_rfl, by kernel_rfl⟩
theorem up0 (t : Int) : Ck.Clk.up 0 t = t - 1 := by unfold Ck.Clk.up; omega
theorem m95 : Ck.Clk.suM 0 110 5006 5100 = 95 := by
  unfold Ck.Clk.suM
  refine Ck.Clk.cnt_eq _ 95 _ (Nat.le_of_ble_eq_true (by kernel_rfl)) (fun t ht => ?_) (fun t h1 _ => ?_)
  · unfold Ck.Clk.suP Ck.Clk.gLo
    rw [decide_eq_false_iff_not]
    split
    · rw [up0]; omega
    · omega
  · unfold Ck.Clk.suP Ck.Clk.gLo
    rw [decide_eq_true_eq]
    rw [if_pos (by omega), up0]; omega
theorem sE : Ck.Clk.suE 0 110 true 5006 5100 = 0 := by
  unfold Ck.Clk.suE
  rw [m95, if_neg (by decide +kernel), if_neg (by simp), if_neg (by decide +kernel)]
theorem sV : Ck.Clk.suV 0 110 true 5006 5100 = 205 := by
  unfold Ck.Clk.suV
  rw [sE, m95]
  rfl
/-- the event of those who wait in the examples -/
theorem evW {s : St} (h1 : s.st = 3) (h2 : s.d = 0) (h3 : s.r = 110) (h4 : s.cs = true) (h5 : s.lo = 5006) (h6 : s.hi = 5007) (h7 : s.start = 5100) (h8 : s.late = 50) (h9 : 205 < s.heard + s.lost) (h10 : s.since ≤ 205) : evt s = (205, 4, true) := by
  have hw : wat s = 205 := by unfold wat; rw [h2, h3, h4, h5, h7, sV]; omega
  unfold evt
  rw [if_neg (by omega), if_neg (by omega), if_neg (by omega), if_neg (by omega), if_pos h1]
  unfold wev
  rw [hw, h2, h3, h4, h5, h6, h7, h8, sE, if_neg (by omega)]
  rfl
theorem run_one {s : St} {l : Int} (h : Plt.due s l = true) (h2 : Plt.due (adv s) l = false) : run 4 s l = adv s := by
  rw [← run_due h, run_stop h2]
theorem ev9 : evt K9 = (205, 4, true) := evW rfl rfl rfl rfl rfl rfl rfl rfl (by decide) (by decide)
theorem p9 : pas K9 111 = K9 := by
  unfold pas
  have hb : ({ beg K9 111 with now := 111 } : St) = K9 := rfl
  rw [hb, run_stop]
  unfold Plt.due
  rw [ev9]; rfl
theorem t9 : take { pas K8 111 with heard := 111 } (fmOf (ord 3 7 5100)) = (K9, true) := by kernel_rfl
theorem e9 : rcvE K8 111 (ord 3 7 5100) = 0 := by kernel_rfl
theorem k9 : rcvS K8 111 (ord 3 7 5100) = K9 ∧ rcvF K8 111 (ord 3 7 5100) = [⟨8, 3, 0, 7, [3]⟩] ∧ rcvE K8 111 (ord 3 7 5100) = 0 := by
  refine ⟨?_, ?_, e9⟩
  · unfold rcvS recv
    rw [if_pos e9, t9]
    exact p9
  · unfold rcvF recvA
    rw [if_pos ⟨e9, by rw [t9]⟩]
    rfl
theorem x9 : Plt.next K9 = 205 := by
  unfold Plt.next
  rw [ev9]
  kernel_rfl
theorem pa10 : pas K9 204 = K10 := by
  unfold pas
  have hb : ({ beg K9 204 with now := 204 } : St) = K10 := rfl
  rw [hb, run_stop]
  unfold Plt.due
  rw [evW rfl rfl rfl rfl rfl rfl rfl rfl (by decide) (by decide)]; rfl
theorem k10 : tickS K9 204 = K10 ∧ timE K9 204 = 0 := by
  have ht : timE K9 204 = 0 := by kernel_rfl
  refine ⟨?_, ht⟩
  unfold tickS tick
  rw [if_pos ht, pa10]
  kernel_rfl
theorem pa11 : pas K10 205 = K11 := by
  unfold pas
  obtain ⟨u, hu⟩ : ∃ u : St, u = { beg K10 205 with now := 205 } := ⟨_, rfl⟩
  rw [← hu]
  have he : evt u = (205, 4, true) := by rw [hu]; exact evW rfl rfl rfl rfl rfl rfl rfl rfl (by decide) (by decide)
  have ha : adv u = K11 := by unfold adv; rw [he, hu]; kernel_rfl
  rw [run_one (by unfold Plt.due; rw [he]; rfl) (by rw [ha]; kernel_rfl), ha]
theorem k11 : tickS K10 205 = K11 ∧ timE K10 205 = 0 := by
  have ht : timE K10 205 = 0 := by kernel_rfl
  refine ⟨?_, ht⟩
  unfold tickS tick
  rw [if_pos ht, pa11]
  kernel_rfl
theorem k12 : tickS K11 1110 = K12 ∧ timE K11 1110 = 0 := ⟨by kernel_rfl, by kernel_rfl⟩
theorem k13 : tickS K12 1111 = K13 ∧ timE K12 1111 = 0 := ⟨by kernel_rfl, by kernel_rfl⟩
theorem k14 : tickS K13 5111 = K14 ∧ timE K13 5111 = 0 := ⟨by kernel_rfl, by kernel_rfl⟩
theorem k15 : tickS K14 7111 = K15 ∧ timE K14 7111 = 0 := ⟨by kernel_rfl, by kernel_rfl⟩
theorem by0 : ∀ z ∈ (beat 0 5000 5000).d, 0 ≤ z ∧ z < 256 := by decide +kernel
theorem by1 : ∀ z ∈ (beat 1 5006 5006).d, 0 ≤ z ∧ z < 256 := by decide +kernel
theorem by7 (k q : Int) : ∀ z ∈ (ord k q 7).d, 0 ≤ z ∧ z < 256 := show ∀ z ∈ Frm.pn [7], 0 ≤ z ∧ z < 256 by decide +kernel
theorem by9 (k q : Int) : ∀ z ∈ (ord k q 5100).d, 0 ≤ z ∧ z < 256 := show ∀ z ∈ Frm.pn [5100], 0 ≤ z ∧ z < 256 by decide +kernel
theorem i0 : Inv K0 := by have := new_inv n0; rw [n0'] at this; exact this
theorem i1 : Inv K1 := k1.1 ▸ tickS_inv i0 0
theorem i2 : Inv K2 := k2.1 ▸ tickS_inv i1 99
theorem i3 : Inv K3 := k3.1 ▸ rcvS_inv i2 104 by0
theorem i4 : Inv K4 := k4.1 ▸ tickS_inv i3 110
theorem i5 : Inv K5 := k5.1 ▸ rcvS_inv i4 110 by1
theorem i7 : Inv K7 := k7.1 ▸ rcvS_inv i5 110 (by7 _ _)
theorem i8 : Inv K8 := k8.1 ▸ rcvS_inv i7 110 (by7 _ _)
theorem i9 : Inv K9 := k9.1 ▸ rcvS_inv i8 111 (by9 _ _)
theorem i10 : Inv K10 := k10.1 ▸ tickS_inv i9 204
theorem i11 : Inv K11 := k11.1 ▸ tickS_inv i10 205
theorem i12 : Inv K12 := k12.1 ▸ tickS_inv i11 1110
theorem i13 : Inv K13 := k13.1 ▸ tickS_inv i12 1111
theorem i14 : Inv K14 := k14.1 ▸ tickS_inv i13 5111
theorem i15 : Inv K15 := k15.1 ▸ tickS_inv i14 7111
end Kn
end Go.Proofs.Ytjidchaejicjaaa

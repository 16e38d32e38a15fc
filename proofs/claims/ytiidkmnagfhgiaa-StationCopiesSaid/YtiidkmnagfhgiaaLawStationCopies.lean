/- The law of the stations' copies holds: 'skylanternlaw36.StationCopies' returns true at every input. No conditions. -/
import Derived.Test.YtiidkmnagfhgiaaTc
import Derived.Test.YtiidkmnagfhgiaaTd
namespace Go.Proofs.Ytiidkmnagfhgiaa
open Go.RowKit
set_option maxHeartbeats 4000000
set_option linter.unusedSimpArgs false
set_option linter.unusedVariables false
/-- a station at block b and its reference's rows -/
structure S1 (B b : Nat) (MA : Option Addr) (mc : Nat) (RA : Option Addr) (rc : Nat) (s : Stn.St) (D : Option Addr) (dc : Nat) (A : Option Addr) (ac : Nat) (S : Option Addr) (sc : Nat) (wx : World) : Prop where
  st : IsSt wx B b MA mc RA rc s
  inv : Stn.Inv s
  fit : Fit s
  r : IsR wx D dc A ac S sc s
section
variable {B b mc rc dc ac sc : Nat} {MA RA D A S : Option Addr} {s : Stn.St} {w wx wy : World}
theorem S1.below (h : S1 B b MA mc RA rc s D dc A ac S sc wx) (k : Below wx.heap.size wx wy) : S1 B b MA mc RA rc s D dc A ac S sc wy :=
  ⟨h.st.below k (Nat.le_refl _), h.inv, h.fit, h.r.below k (Nat.le_refl _)⟩
theorem S1.sb (h : S1 B b MA mc RA rc s D dc A ac S sc wx) (hl : Below B w wx) : SB B b s D dc A ac S sc w wx := ⟨⟨MA, mc, RA, rc, h.st⟩, h.inv, h.fit, h.r, hl⟩
theorem S1.store {N : Nat} {e : TypeId} (h : S1 B b MA mc RA rc s D dc A ac S sc wx) (k : Keeps (fun i => i = N) wx wy) (hT : N < wx.heap.size → Ty wx N e) (ho : Oth e) : S1 B b MA mc RA rc s D dc A ac S sc wy := by
  obtain ⟨h1, h2, h3, h4⟩ := h
  obtain ⟨o1, o2, o3, o4, o5, o6⟩ := ho
  refine ⟨h1.kept k (fun i hi hp => ?_), h2, h3, h4.keptT k (fun i hp hl => ⟨e, by subst hp; exact hT hl, o4, o5, o6⟩)⟩
  have hl := (h1.three_lt hi).2
  subst hp
  exact h1.away (hT hl) o1 o2 o3 hi
/-- another station's call -/
theorem S1.other {b2 mc2 rc2 : Nat} {MA2 RA2 : Option Addr} {t : Stn.St} {base : Nat} (h : S1 B b MA mc RA rc s D dc A ac S sc wx) (k : Keeps (Three b2 MA2 RA2) wx wy) (h2 : IsSt wx base b2 MA2 mc2 RA2 rc2 t) (hd : ∀ i, Three b MA RA i → ¬ Three b2 MA2 RA2 i) : S1 B b MA mc RA rc s D dc A ac S sc wy := by
  obtain ⟨h1, hi, h3, h4⟩ := h
  refine ⟨h1.kept k hd, hi, h3, h4.keptT k (fun i hp hl => ?_)⟩
  rcases h2.three hp with g | g | g
  · exact ⟨_, g, by decide, by decide, by decide⟩
  · exact ⟨_, g, by decide, by decide, by decide⟩
  · exact ⟨_, g, by decide, by decide, by decide⟩
end
/-- two of them, apart -/
def Pr (B b : Nat) (MA : Option Addr) (mc : Nat) (RA : Option Addr) (rc : Nat) (s : Stn.St) (D : Option Addr) (dc : Nat) (A : Option Addr) (ac : Nat) (S : Option Addr) (sc : Nat) (b2 : Nat) (MA2 : Option Addr) (mc2 : Nat) (RA2 : Option Addr) (rc2 : Nat) (t : Stn.St) (D2 : Option Addr) (dc2 : Nat) (A2 : Option Addr) (ac2 : Nat) (S2 : Option Addr) (sc2 : Nat) (w wx : World) : Prop :=
  S1 B b MA mc RA rc s D dc A ac S sc wx ∧ S1 B b2 MA2 mc2 RA2 rc2 t D2 dc2 A2 ac2 S2 sc2 wx ∧ (∀ i, Three b MA RA i → ¬ Three b2 MA2 RA2 i) ∧ Below B w wx
section
variable {B b mc rc dc ac sc b2 mc2 rc2 dc2 ac2 sc2 : Nat} {MA RA D A S MA2 RA2 D2 A2 S2 : Option Addr} {s t : Stn.St} {w wx wy : World}
theorem Pr.swap (h : Pr B b MA mc RA rc s D dc A ac S sc b2 MA2 mc2 RA2 rc2 t D2 dc2 A2 ac2 S2 sc2 w wx) : Pr B b2 MA2 mc2 RA2 rc2 t D2 dc2 A2 ac2 S2 sc2 b MA mc RA rc s D dc A ac S sc w wx :=
  ⟨h.2.1, h.1, fun i h1 h2 => h.2.2.1 i h2 h1, h.2.2.2⟩
theorem Pr.below (h : Pr B b MA mc RA rc s D dc A ac S sc b2 MA2 mc2 RA2 rc2 t D2 dc2 A2 ac2 S2 sc2 w wx) (k : Below wx.heap.size wx wy) (hB : B ≤ wx.heap.size) : Pr B b MA mc RA rc s D dc A ac S sc b2 MA2 mc2 RA2 rc2 t D2 dc2 A2 ac2 S2 sc2 w wy :=
  ⟨h.1.below k, h.2.1.below k, h.2.2.1, h.2.2.2.trans (k.mono hB)⟩
theorem Pr.store {N : Nat} {e : TypeId} (h : Pr B b MA mc RA rc s D dc A ac S sc b2 MA2 mc2 RA2 rc2 t D2 dc2 A2 ac2 S2 sc2 w wx) (k : Keeps (fun i => i = N) wx wy) (hN : B ≤ N) (hT : N < wx.heap.size → Ty wx N e) (ho : Oth e) (hB : B ≤ wx.heap.size) : Pr B b MA mc RA rc s D dc A ac S sc b2 MA2 mc2 RA2 rc2 t D2 dc2 A2 ac2 S2 sc2 w wy :=
  ⟨h.1.store k hT ho, h.2.1.store k hT ho, h.2.2.1, h.2.2.2.trans (k.below (fun i _ hi => by omega) hB)⟩
/-- behind act on the first -/
def PrPost (B b : Nat) (RA : Option Addr) (rc : Nat) (s' : Stn.St) (nf b2 : Nat) (MA2 : Option Addr) (mc2 : Nat) (RA2 : Option Addr) (rc2 : Nat) (t : Stn.St) (D2 : Option Addr) (dc2 : Nat) (A2 : Option Addr) (ac2 : Nat) (S2 : Option Addr) (sc2 : Nat) (w W : World) (e : Ending) (w' : World) : Prop :=
  ∃ F fc MA' mc' D' dc' A' ac' S' sc', e = .returned (.tuple #[.agg (rsl s' D' dc' A' ac' S' sc').toArray, .slice F nf fc, .bool true]) ∧ Pr B b MA' mc' RA rc s' D' dc' A' ac' S' sc' b2 MA2 mc2 RA2 rc2 t D2 dc2 A2 ac2 S2 sc2 w w' ∧
    (∀ (i : Nat) (t : TypeId) (cs : Array Value), W.heap[i]? = some (.cells cs t (0, 0)) → Oth t → w'.heap[i]? = some (.cells cs t (0, 0))) ∧ Below B W w'
theorem Pr.act {W : World} (h : Pr B b MA mc RA rc s D dc A ac S sc b2 MA2 mc2 RA2 rc2 t D2 dc2 A2 ac2 S2 sc2 w W) (x : LAct) (FD : Option Addr) (fc : Nat) (hB : B ≤ W.heap.size) (hn : x.f.d.length ≤ 140737488355328) (hd : Rd W B FD x.f.d.length x.f.d) :
    Calls Try.prog 11 #[.pointer (some ⟨b, 0, none⟩), .agg (rsl s D dc A ac S sc).toArray, .agg #[.int .i64 x.kind, .int .i64 x.now, .int .i64 x.n, .int .i64 x.f.k, .int .i64 x.f.f, .int .i64 x.f.t, .int .i64 x.f.s, .slice FD x.f.d.length fc]] W (PrPost B b RA rc (actS s x) (actF s x).length b2 MA2 mc2 RA2 rc2 t D2 dc2 A2 ac2 S2 sc2 w W) := by
  obtain ⟨⟨h1, h2, h3, h4⟩, g, hdis, hlt⟩ := h
  refine (act_any B b mc rc MA RA s h2 D (Stn.data s).length dc A ac S sc x FD fc W hB rfl h1 h4 hn (hd.more hB) (fun h0 a ha hh => ?_)).mono ?_
  · obtain ⟨b', o, e, hb, _⟩ := hd.2.2 h0
    rw [e] at ha; injection ha with ha
    rw [← ha] at hh
    have := (h1.three_lt hh).1
    simp only at this
    omega
  rintro e w' ⟨v, MA', mc', D', dc', A', ac', S', sc', w1, rfl, hS, hR, hK, hF1, hF2, hKm, hz, hM, hD, hT⟩
  obtain ⟨F, fcap, rfl⟩ := hF2.form
  have hKB : Below B W w' := hK.below (fun i _ hi => (h1.three_lt hi).1) hB
  refine ⟨F, fcap, MA', mc', D', dc', A', ac', S', sc', rfl, ⟨⟨hS, inv_actS h2 x hd.2.1, fit_actS h3 x, hR⟩, g.other hK h1 (fun i h5 h6 => hdis i h6 h5), fun i h5 h6 => ?_, hlt.trans hKB⟩, fun i e cs hi he => ?_, hKB⟩
  · rcases h5 with h5 | h5 | h5
    · exact hdis i (.inl h5) h6
    · rcases hM with hM | ⟨q, hq, hq2⟩
      · exact hdis i (.inr (.inl (by rw [← hM]; exact h5))) h6
      · rw [hq] at h5; injection h5 with h5
        have := (g.st.three_lt h6).2
        omega
    · exact hdis i (.inr (.inr h5)) h6
  · exact blk_keep hi hK (h1.away ⟨_, hi⟩ he.1 he.2.1 he.2.2.1)
end
/-- a law's cut: the reference's new state lies in box N, the old one in box R; box R2 stands -/
def PCut (B b R : Nat) (RA : Option Addr) (rc : Nat) (s' : Stn.St) (old : Array Value) (b2 R2 : Nat) (MA2 : Option Addr) (mc2 : Nat) (RA2 : Option Addr) (rc2 : Nat) (t : Stn.St) (D2 : Option Addr) (dc2 : Nat) (A2 : Option Addr) (ac2 : Nat) (S2 : Option Addr) (sc2 : Nat) (old2 : Array Value) (w : World) (v1 v2 : Value) (wx : World) : Prop :=
  ∃ N MA' mc' D' dc' A' ac' S' sc', v1 = .pointer (some ⟨N, 0, none⟩) ∧ v2 = .bool true ∧ N ≠ R ∧ N ≠ R2 ∧ B ≤ N ∧
    wx.heap[N]? = some (.cells (rsl s' D' dc' A' ac' S' sc').toArray 29 (0, 0)) ∧ wx.heap[R]? = some (.cells old 29 (0, 0)) ∧ wx.heap[R2]? = some (.cells old2 29 (0, 0)) ∧
    Pr B b MA' mc' RA rc s' D' dc' A' ac' S' sc' b2 MA2 mc2 RA2 rc2 t D2 dc2 A2 ac2 S2 sc2 w wx
theorem Pr.cut {B b R N : Nat} {s' : Stn.St} {old old2 : Array Value} {w w1 wx : World} {D' A' S' : Option Addr} {dc' ac' sc' : Nat} {b2 mc' rc mc2 rc2 dc2 ac2 sc2 R2 : Nat} {MA' RA MA2 RA2 D2 A2 S2 : Option Addr} {t : Stn.St}
    (h1 : Pr B b MA' mc' RA rc s' D' dc' A' ac' S' sc' b2 MA2 mc2 RA2 rc2 t D2 dc2 A2 ac2 S2 sc2 w w1) (hB : B ≤ w1.heap.size)
    (k : Keeps (fun i => i = N) w1 wx) (hN : B ≤ N) (hT : N < w1.heap.size → Ty w1 N 29) (hNR : N ≠ R) (hNR2 : N ≠ R2) (kN : wx.heap[N]? = some (.cells (rsl s' D' dc' A' ac' S' sc').toArray 29 (0, 0))) (kR : wx.heap[R]? = some (.cells old 29 (0, 0))) (kR2 : wx.heap[R2]? = some (.cells old2 29 (0, 0))) :
    PCut B b R RA rc s' old b2 R2 MA2 mc2 RA2 rc2 t D2 dc2 A2 ac2 S2 sc2 old2 w (.pointer (some ⟨N, 0, none⟩)) (.bool true) wx :=
  ⟨N, MA', mc', D', dc', A', ac', S', sc', rfl, rfl, hNR, hNR2, hN, kN, kR, kR2, h1.store k hN hT oth_S hB⟩
/-- behind Copy and the making of box R2 -/
def CpCut (B b R : Nat) (s : Stn.St) (D : Option Addr) (dc : Nat) (A : Option Addr) (ac : Nat) (S : Option Addr) (sc : Nat) (old : Array Value) (w : World) (v13 v14 : Value) (wx : World) : Prop :=
  ∃ MA mc RA rc b2 MA2 mc2 RA2 rc2 R2, v13 = .pointer (some ⟨b2, 0, none⟩) ∧ v14 = .pointer (some ⟨R2, 0, none⟩) ∧ R2 ≠ R ∧ B ≤ R2 ∧ wx.heap[R]? = some (.cells old 29 (0, 0)) ∧ wx.heap[R2]? = some (.cells old 29 (0, 0)) ∧
    Pr B b MA mc RA rc s D dc A ac S sc b2 MA2 mc2 RA2 rc2 s D dc A ac S sc w wx
theorem scopy_pr {B b mc rc dc ac sc : Nat} {MA RA D A S : Option Addr} {s : Stn.St} {w W : World} (h : S1 B b MA mc RA rc s D dc A ac S sc W) (hl : Below B w W) (hB : B ≤ W.heap.size) :
    Calls Try.prog 15 #[.pointer (some ⟨b, 0, none⟩)] W fun e w' => ∃ b2 MA2 mc2 RA2 rc2, e = .returned (.pointer (some ⟨b2, 0, none⟩)) ∧ Below W.heap.size W w' ∧ Pr B b MA mc RA rc s D dc A ac S sc b2 MA2 mc2 RA2 rc2 s D dc A ac S sc w w' := by
  refine (scopy_any W B b mc rc MA RA s h.st h.inv).mono ?_
  rintro e w' ⟨b2, MA2, mc2, RA2, rc2, rfl, h2, hb⟩
  have h' := h.below hb
  refine ⟨b2, MA2, mc2, RA2, rc2, rfl, hb, h', ⟨h2.lower hB, h.inv, h.fit, h'.r⟩, fun i h5 h6 => ?_, hl.trans (hb.mono hB)⟩
  have := (h.st.three_lt h5).2
  have := (h2.three_lt h6).1
  omega
end Go.Proofs.Ytiidkmnagfhgiaa
namespace Go.Proofs.Ytiidkmnagfhgiaa.lawStationCopies
open Go.ChangeShapes Go.WideShapes Go.ChangeAt Go.RowKit Go.Joins
set_option linter.unusedVariables false
set_option linter.unusedSimpArgs false
attribute [local go_sem ↓] Go.wp_at_zero Go.wp_at_succ
set_option maxHeartbeats 8000000
set_option maxRecDepth 100000
theorem few_all (A : Option Addr) (n cap most : Nat) (l : List LAct) (w W : World) (h : LRf W w.heap.size A n l) (hn : n ≤ 9223372036854775807) (hm : most ≤ 1000) :
    Calls Try.prog 10 #[.slice A n cap, .int .i64 most] W fun e w' => e = .returned (.bool (fewB l most)) ∧ W = w' := by
  rcases Nat.lt_or_ge most n with h1 | h1
  · exact few_big A n cap most l W h.1 hn h1
  · exact few_any A n cap most w.heap.size l W h (by omega) hm
theorem few_len {l : List LAct} {n most : Nat} (h : fewB l most = true) (hl : l.length = n) : n ≤ most := by
  unfold fewB at h
  simp only [Bool.and_eq_true, decide_eq_true_eq] at h
  omega
theorem few_ok {l : List LAct} {most : Nat} (h : fewB l most = true) : ∀ y ∈ l, okA y = true := by
  unfold fewB at h
  simp only [Bool.and_eq_true, List.all_eq_true] at h
  exact h.2
theorem walk (a0 : Int) (a1 : Option Addr) (len1 cap1 : Nat) (l1 : List LAct) (a2 : Option Addr) (len2 cap2 : Nat) (l2 : List LAct) (a3 : Option Addr) (len3 cap3 : Nat) (l3 : List LAct) (w : World) (w0 : (Lit.int .i64 a0).wf = true) (w1 : LRf w w.heap.size a1 len1 l1) (r1 : Room a1 len1 cap1) (f1 : ∀ y ∈ l1, LaOk y) (w2 : LRf w w.heap.size a2 len2 l2) (r2 : Room a2 len2 cap2) (f2 : ∀ y ∈ l2, LaOk y) (w3 : LRf w w.heap.size a3 len3 l3) (r3 : Room a3 len3 cap3) (f3 : ∀ y ∈ l3, LaOk y) :
    Calls Try.prog 6 #[.int .i64 a0, .slice a1 len1 cap1, .slice a2 len2 cap2, .slice a3 len3 cap3] w fun e w' => e = .returned (.bool true) ∧ Below w.heap.size w w' := by
  have FW1 := Lib.hid (fun (W : World) (hW : LRf W w.heap.size a1 len1 l1) => few_all a1 len1 cap1 20 l1 w W hW (by have h1 := r1.1; have h2 := r1.2.1; unfold maxLen at h2; omega) (by omega))
  have FW2 := Lib.hid (fun (W : World) (hW : LRf W w.heap.size a2 len2 l2) => few_all a2 len2 cap2 10 l2 w W hW (by have h1 := r2.1; have h2 := r2.2.1; unfold maxLen at h2; omega) (by omega))
  have FW3 := Lib.hid (fun (W : World) (hW : LRf W w.heap.size a3 len3 l3) => few_all a3 len3 cap3 10 l3 w W hW (by have h1 := r3.1; have h2 := r3.2.1; unfold maxLen at h2; omega) (by omega))
  have HW1 := Lib.hid w1
  have HW2 := Lib.hid w2
  have HW3 := Lib.hid w3
  clear w0 w1 w2 w3 r1 r2 r3 f1 f2 f3
  cases hf1 : fewB l1 20
  · rw [hf1] at FW1
    clear hf1
    go_enter Try.func6, Try.ntmps6
    go_wp2_with fail
    refine (FW1.out _ (HW1.out.below (B' := w.heap.size) (by repeat (first | (with_reducible exact Below.refl _ _) | (with_reducible refine Below.drew ?_) | (with_reducible refine below_drewN ?_ _) | ((with_reducible refine Below.alloc ?_ ?_ _); rotate_left; (first | omega | (simp <;> omega)); rotate_right) | ((with_reducible refine Below.setCell ?_ ?_ _); rotate_left; (first | omega | (simp <;> omega)); rotate_right) | (with_reducible assumption) | (refine Below.trans ?_ (Below.mono (by assumption) ?_); rotate_left; (first | omega | (simp <;> omega)); rotate_right))) (Nat.le_refl _))).mono ?_
    rintro e w' ⟨rfl, rfl⟩
    go_wp2_with fail
    refine (known_true _).mono ?_
    rintro e w3 ⟨rfl, hb3⟩
    have HB3 := Lib.hid hb3
    clear hb3
    go_wp2_with fail
    go_ret
    exact ⟨rfl, HB3.out⟩
  cases hf2 : fewB l2 10
  · rw [hf1] at FW1
    rw [hf2] at FW2
    clear hf1 hf2
    go_enter Try.func6, Try.ntmps6
    go_wp2_with fail
    refine (FW1.out _ (HW1.out.below (B' := w.heap.size) (by repeat (first | (with_reducible exact Below.refl _ _) | (with_reducible refine Below.drew ?_) | (with_reducible refine below_drewN ?_ _) | ((with_reducible refine Below.alloc ?_ ?_ _); rotate_left; (first | omega | (simp <;> omega)); rotate_right) | ((with_reducible refine Below.setCell ?_ ?_ _); rotate_left; (first | omega | (simp <;> omega)); rotate_right) | (with_reducible assumption) | (refine Below.trans ?_ (Below.mono (by assumption) ?_); rotate_left; (first | omega | (simp <;> omega)); rotate_right))) (Nat.le_refl _))).mono ?_
    rintro e w' ⟨rfl, rfl⟩
    go_wp2_with fail
    refine (FW2.out _ (HW2.out.below (B' := w.heap.size) (by repeat (first | (with_reducible exact Below.refl _ _) | (with_reducible refine Below.drew ?_) | (with_reducible refine below_drewN ?_ _) | ((with_reducible refine Below.alloc ?_ ?_ _); rotate_left; (first | omega | (simp <;> omega)); rotate_right) | ((with_reducible refine Below.setCell ?_ ?_ _); rotate_left; (first | omega | (simp <;> omega)); rotate_right) | (with_reducible assumption) | (refine Below.trans ?_ (Below.mono (by assumption) ?_); rotate_left; (first | omega | (simp <;> omega)); rotate_right))) (Nat.le_refl _))).mono ?_
    rintro e w' ⟨rfl, rfl⟩
    go_wp2_with fail
    refine (known_true _).mono ?_
    rintro e w3 ⟨rfl, hb3⟩
    have HB3 := Lib.hid hb3
    clear hb3
    go_wp2_with fail
    go_ret
    exact ⟨rfl, HB3.out⟩
  cases hf3 : fewB l3 10
  · rw [hf1] at FW1
    rw [hf2] at FW2
    rw [hf3] at FW3
    clear hf1 hf2 hf3
    go_enter Try.func6, Try.ntmps6
    go_wp2_with fail
    refine (FW1.out _ (HW1.out.below (B' := w.heap.size) (by repeat (first | (with_reducible exact Below.refl _ _) | (with_reducible refine Below.drew ?_) | (with_reducible refine below_drewN ?_ _) | ((with_reducible refine Below.alloc ?_ ?_ _); rotate_left; (first | omega | (simp <;> omega)); rotate_right) | ((with_reducible refine Below.setCell ?_ ?_ _); rotate_left; (first | omega | (simp <;> omega)); rotate_right) | (with_reducible assumption) | (refine Below.trans ?_ (Below.mono (by assumption) ?_); rotate_left; (first | omega | (simp <;> omega)); rotate_right))) (Nat.le_refl _))).mono ?_
    rintro e w' ⟨rfl, rfl⟩
    go_wp2_with fail
    refine (FW2.out _ (HW2.out.below (B' := w.heap.size) (by repeat (first | (with_reducible exact Below.refl _ _) | (with_reducible refine Below.drew ?_) | (with_reducible refine below_drewN ?_ _) | ((with_reducible refine Below.alloc ?_ ?_ _); rotate_left; (first | omega | (simp <;> omega)); rotate_right) | ((with_reducible refine Below.setCell ?_ ?_ _); rotate_left; (first | omega | (simp <;> omega)); rotate_right) | (with_reducible assumption) | (refine Below.trans ?_ (Below.mono (by assumption) ?_); rotate_left; (first | omega | (simp <;> omega)); rotate_right))) (Nat.le_refl _))).mono ?_
    rintro e w' ⟨rfl, rfl⟩
    go_wp2_with fail
    refine (FW3.out _ (HW3.out.below (B' := w.heap.size) (by repeat (first | (with_reducible exact Below.refl _ _) | (with_reducible refine Below.drew ?_) | (with_reducible refine below_drewN ?_ _) | ((with_reducible refine Below.alloc ?_ ?_ _); rotate_left; (first | omega | (simp <;> omega)); rotate_right) | ((with_reducible refine Below.setCell ?_ ?_ _); rotate_left; (first | omega | (simp <;> omega)); rotate_right) | (with_reducible assumption) | (refine Below.trans ?_ (Below.mono (by assumption) ?_); rotate_left; (first | omega | (simp <;> omega)); rotate_right))) (Nat.le_refl _))).mono ?_
    rintro e w' ⟨rfl, rfl⟩
    go_wp2_with fail
    refine (known_true _).mono ?_
    rintro e w3 ⟨rfl, hb3⟩
    have HB3 := Lib.hid hb3
    clear hb3
    go_wp2_with fail
    go_ret
    exact ⟨rfl, HB3.out⟩
  have AL1 := Lib.hid (few_ok hf1)
  have AL2 := Lib.hid (few_ok hf2)
  have AL3 := Lib.hid (few_ok hf3)
  have hl1 := few_len hf1 HW1.out.1
  have hl2 := few_len hf2 HW2.out.1
  have hl3 := few_len hf3 HW3.out.1
  rw [hf1] at FW1
  rw [hf2] at FW2
  rw [hf3] at FW3
  clear hf1 hf2 hf3
  by_cases hlo : a0 < 1
  · clear hl1 hl2 hl3
    go_enter Try.func6, Try.ntmps6
    go_wp2_with fail
    refine (FW1.out _ (HW1.out.below (B' := w.heap.size) (by repeat (first | (with_reducible exact Below.refl _ _) | (with_reducible refine Below.drew ?_) | (with_reducible refine below_drewN ?_ _) | ((with_reducible refine Below.alloc ?_ ?_ _); rotate_left; (first | omega | (simp <;> omega)); rotate_right) | ((with_reducible refine Below.setCell ?_ ?_ _); rotate_left; (first | omega | (simp <;> omega)); rotate_right) | (with_reducible assumption) | (refine Below.trans ?_ (Below.mono (by assumption) ?_); rotate_left; (first | omega | (simp <;> omega)); rotate_right))) (Nat.le_refl _))).mono ?_
    rintro e w' ⟨rfl, rfl⟩
    go_wp2_with fail
    refine (FW2.out _ (HW2.out.below (B' := w.heap.size) (by repeat (first | (with_reducible exact Below.refl _ _) | (with_reducible refine Below.drew ?_) | (with_reducible refine below_drewN ?_ _) | ((with_reducible refine Below.alloc ?_ ?_ _); rotate_left; (first | omega | (simp <;> omega)); rotate_right) | ((with_reducible refine Below.setCell ?_ ?_ _); rotate_left; (first | omega | (simp <;> omega)); rotate_right) | (with_reducible assumption) | (refine Below.trans ?_ (Below.mono (by assumption) ?_); rotate_left; (first | omega | (simp <;> omega)); rotate_right))) (Nat.le_refl _))).mono ?_
    rintro e w' ⟨rfl, rfl⟩
    go_wp2_with fail
    refine (FW3.out _ (HW3.out.below (B' := w.heap.size) (by repeat (first | (with_reducible exact Below.refl _ _) | (with_reducible refine Below.drew ?_) | (with_reducible refine below_drewN ?_ _) | ((with_reducible refine Below.alloc ?_ ?_ _); rotate_left; (first | omega | (simp <;> omega)); rotate_right) | ((with_reducible refine Below.setCell ?_ ?_ _); rotate_left; (first | omega | (simp <;> omega)); rotate_right) | (with_reducible assumption) | (refine Below.trans ?_ (Below.mono (by assumption) ?_); rotate_left; (first | omega | (simp <;> omega)); rotate_right))) (Nat.le_refl _))).mono ?_
    rintro e w' ⟨rfl, rfl⟩
    go_wp2_with fail
    refine (known_true _).mono ?_
    rintro e w3 ⟨rfl, hb3⟩
    have HB3 := Lib.hid hb3
    clear hb3
    go_wp2_with fail
    go_ret
    exact ⟨rfl, HB3.out⟩
  by_cases hhi : 8 < a0
  · clear hl1 hl2 hl3
    go_enter Try.func6, Try.ntmps6
    go_wp2_with fail
    refine (FW1.out _ (HW1.out.below (B' := w.heap.size) (by repeat (first | (with_reducible exact Below.refl _ _) | (with_reducible refine Below.drew ?_) | (with_reducible refine below_drewN ?_ _) | ((with_reducible refine Below.alloc ?_ ?_ _); rotate_left; (first | omega | (simp <;> omega)); rotate_right) | ((with_reducible refine Below.setCell ?_ ?_ _); rotate_left; (first | omega | (simp <;> omega)); rotate_right) | (with_reducible assumption) | (refine Below.trans ?_ (Below.mono (by assumption) ?_); rotate_left; (first | omega | (simp <;> omega)); rotate_right))) (Nat.le_refl _))).mono ?_
    rintro e w' ⟨rfl, rfl⟩
    go_wp2_with fail
    refine (FW2.out _ (HW2.out.below (B' := w.heap.size) (by repeat (first | (with_reducible exact Below.refl _ _) | (with_reducible refine Below.drew ?_) | (with_reducible refine below_drewN ?_ _) | ((with_reducible refine Below.alloc ?_ ?_ _); rotate_left; (first | omega | (simp <;> omega)); rotate_right) | ((with_reducible refine Below.setCell ?_ ?_ _); rotate_left; (first | omega | (simp <;> omega)); rotate_right) | (with_reducible assumption) | (refine Below.trans ?_ (Below.mono (by assumption) ?_); rotate_left; (first | omega | (simp <;> omega)); rotate_right))) (Nat.le_refl _))).mono ?_
    rintro e w' ⟨rfl, rfl⟩
    go_wp2_with fail
    refine (FW3.out _ (HW3.out.below (B' := w.heap.size) (by repeat (first | (with_reducible exact Below.refl _ _) | (with_reducible refine Below.drew ?_) | (with_reducible refine below_drewN ?_ _) | ((with_reducible refine Below.alloc ?_ ?_ _); rotate_left; (first | omega | (simp <;> omega)); rotate_right) | ((with_reducible refine Below.setCell ?_ ?_ _); rotate_left; (first | omega | (simp <;> omega)); rotate_right) | (with_reducible assumption) | (refine Below.trans ?_ (Below.mono (by assumption) ?_); rotate_left; (first | omega | (simp <;> omega)); rotate_right))) (Nat.le_refl _))).mono ?_
    rintro e w' ⟨rfl, rfl⟩
    go_wp2_with fail
    refine (known_true _).mono ?_
    rintro e w3 ⟨rfl, hb3⟩
    have HB3 := Lib.hid hb3
    clear hb3
    go_wp2_with fail
    go_ret
    exact ⟨rfl, HB3.out⟩
  obtain ⟨n, rfl⟩ : ∃ n : Nat, a0 = n := ⟨a0.toNat, by omega⟩
  have hv : Stn.newE (n : Int) 20 = 0 := by unfold Stn.newE; rw [if_pos (by omega)]
  have M := Lib.hid (fun W : World => made_yes n 20 W hv)
  have HI0 := Lib.hid (Stn.inv_new hv)
  clear hv
  go_enter Try.func6, Try.ntmps6
  go_wp2_with fail
  refine (FW1.out _ (HW1.out.below (B' := w.heap.size) (by repeat (first | (with_reducible exact Below.refl _ _) | (with_reducible refine Below.drew ?_) | (with_reducible refine below_drewN ?_ _) | ((with_reducible refine Below.alloc ?_ ?_ _); rotate_left; (first | omega | (simp <;> omega)); rotate_right) | ((with_reducible refine Below.setCell ?_ ?_ _); rotate_left; (first | omega | (simp <;> omega)); rotate_right) | (with_reducible assumption) | (refine Below.trans ?_ (Below.mono (by assumption) ?_); rotate_left; (first | omega | (simp <;> omega)); rotate_right))) (Nat.le_refl _))).mono ?_
  rintro e w' ⟨rfl, rfl⟩
  go_wp2_with fail
  refine (FW2.out _ (HW2.out.below (B' := w.heap.size) (by repeat (first | (with_reducible exact Below.refl _ _) | (with_reducible refine Below.drew ?_) | (with_reducible refine below_drewN ?_ _) | ((with_reducible refine Below.alloc ?_ ?_ _); rotate_left; (first | omega | (simp <;> omega)); rotate_right) | ((with_reducible refine Below.setCell ?_ ?_ _); rotate_left; (first | omega | (simp <;> omega)); rotate_right) | (with_reducible assumption) | (refine Below.trans ?_ (Below.mono (by assumption) ?_); rotate_left; (first | omega | (simp <;> omega)); rotate_right))) (Nat.le_refl _))).mono ?_
  rintro e w' ⟨rfl, rfl⟩
  go_wp2_with fail
  refine (FW3.out _ (HW3.out.below (B' := w.heap.size) (by repeat (first | (with_reducible exact Below.refl _ _) | (with_reducible refine Below.drew ?_) | (with_reducible refine below_drewN ?_ _) | ((with_reducible refine Below.alloc ?_ ?_ _); rotate_left; (first | omega | (simp <;> omega)); rotate_right) | ((with_reducible refine Below.setCell ?_ ?_ _); rotate_left; (first | omega | (simp <;> omega)); rotate_right) | (with_reducible assumption) | (refine Below.trans ?_ (Below.mono (by assumption) ?_); rotate_left; (first | omega | (simp <;> omega)); rotate_right))) (Nat.le_refl _))).mono ?_
  rintro e w' ⟨rfl, rfl⟩
  go_wp2_with fail
  refine (M.out _).mono ?_
  rintro e w4 ⟨b, RA, NA, NS, rfl, hs4, hr4, hb4⟩
  have hz4 := hb4.size; (try simp at hz4)
  have HS4 := Lib.hid (show SB w.heap.size b (Stn.new n 20) none 0 (some ⟨NA, 0, none⟩) n (some ⟨NS, 0, none⟩) n w w4 from ⟨⟨_, _, _, _, hs4.lower (by simp)⟩, HI0.out, fit_new _ _, hr4, (by repeat (first | (with_reducible exact Below.refl _ _) | (with_reducible refine Below.drew ?_) | (with_reducible refine below_drewN ?_ _) | ((with_reducible refine Below.alloc ?_ ?_ _); rotate_left; (first | omega | (simp <;> omega)); rotate_right) | ((with_reducible refine Below.setCell ?_ ?_ _); rotate_left; (first | omega | (simp <;> omega)); rotate_right) | (with_reducible assumption) | (refine Below.trans ?_ (Below.mono (by assumption) ?_); rotate_left; (first | omega | (simp <;> omega)); rotate_right)))⟩)
  clear hb4 hs4 hr4
  go_wp2_with fail
  clear M HI0
  generalize hV : World.alloc _ _ = V
  have k0 : V.heap[w4.heap.size]? = some (.cells (rsl (Stn.new n 20) none 0 (some ⟨NA, 0, none⟩) n (some ⟨NS, 0, none⟩) n).toArray 29 (0, 0)) := by rw [← hV]; exact heap_new _ _
  have HV := Lib.hid (show SB w.heap.size b (Stn.new n 20) none 0 (some ⟨NA, 0, none⟩) n (some ⟨NS, 0, none⟩) n w V from HS4.out.below (by rw [← hV]; exact (Below.refl _ _).alloc (Nat.le_refl _) _) (by omega))
  have hR : w.heap.size ≤ w4.heap.size := by omega
  obtain ⟨R, hReq⟩ : ∃ R, R = w4.heap.size := ⟨_, rfl⟩
  rw [← hReq] at k0 hR ⊢
  have K0 := Lib.hid k0
  clear hV k0 hReq HS4 hz4 FW1 FW2 FW3 hlo hhi
  go_loopw [12] (fun sl wr => ∃ (i : Nat) (s : Stn.St) (D : Option Addr) (dc : Nat) (A : Option Addr) (ac : Nat) (S : Option Addr) (sc : Nat), sl = .int .i64 i ∧ i ≤ len1 ∧ Hid (SB w.heap.size b s D dc A ac S sc w wr) ∧ Hid (wr.heap[R]? = some (.cells (rsl s D dc A ac S sc).toArray 29 (0, 0)))) (fun sl _ => len1 - (intOf sl).toNat)
  case atStart => exact ⟨0, _, _, _, _, _, _, _, by go_num, by omega, HV, K0⟩
  case round =>
    obtain ⟨i, s, D, dc, A, ac, S, sc, rfl, hi, HS, HK⟩ := hrel
    clear HV K0
    have hzr := HS.out.lt.size
    by_cases hlt : i < len1
    · obtain ⟨bb, oo, rfl, hbb, hcc⟩ := (HW1.out.below HS.out.lt (Nat.le_refl _)).2 (by omega)
      obtain ⟨FD, ce, c0, c1, c2, c3, c4, c5, c6, c7, hrd, hrm⟩ := hcc i hlt
      obtain ⟨x, hx⟩ : ∃ x, x = l1.getD i la0 := ⟨_, rfl⟩
      rw [← hx] at c0 c1 c2 c3 c4 c5 c6 c7 hrd hrm
      have hok : okA x = true := AL1.out x (by rw [hx]; simp [List.getD, List.getElem?_eq_getElem (show i < l1.length by rw [HW1.out.1]; exact hlt)])
      unfold okA at hok
      simp only [decide_eq_true_eq] at hok
      obtain ⟨s', hs'⟩ : ∃ s', s' = actS s x := ⟨_, rfl⟩
      obtain ⟨fr, hfr⟩ : ∃ fr, fr = actF s x := ⟨_, rfl⟩
      have AC := Lib.hid (show ∀ W : World, Below wr.heap.size wr W → Calls Try.prog 11 #[.pointer (some ⟨b, 0, none⟩), .agg #[.int .i64 s.again, .int .i64 s.st, .int .i64 s.now, .int .i64 s.seq, .bool s.some, .int .i64 s.prog, .int .i64 s.cmd, .slice D (Stn.data s).length dc, .int .i64 s.sent, .slice A s.n ac, .slice S s.n sc], .agg #[.int .i64 x.kind, .int .i64 x.now, .int .i64 x.n, .int .i64 x.f.k, .int .i64 x.f.f, .int .i64 x.f.t, .int .i64 x.f.s, .slice FD x.f.d.length ce]] W (SAPost w.heap.size b s' fr w W) from fun W hW => by
        have hz := hW.size
        rw [hs', hfr]
        exact sa_any (HS.out.below hW hzr) x FD ce (by omega) (by omega) (hrd.below hW (by omega)))
      have hk := HK.out
      have hRlt := lt_of_block hk
      simp only [rsl] at hk
      clear hs' hx hrd hrm hok hcc hfr HS HK
      have ca_0 := blk_cell hk 0 rfl; have fa_0 := blk_free hk 0; have ca_1 := blk_cell hk 1 rfl; have fa_1 := blk_free hk 1; have ca_2 := blk_cell hk 2 rfl; have fa_2 := blk_free hk 2; have ca_3 := blk_cell hk 3 rfl; have fa_3 := blk_free hk 3; have ca_4 := blk_cell hk 4 rfl; have fa_4 := blk_free hk 4; have ca_5 := blk_cell hk 5 rfl; have fa_5 := blk_free hk 5; have ca_6 := blk_cell hk 6 rfl; have fa_6 := blk_free hk 6; have ca_7 := blk_cell hk 7 rfl; have fa_7 := blk_free hk 7; have ca_8 := blk_cell hk 8 rfl; have fa_8 := blk_free hk 8; have ca_9 := blk_cell hk 9 rfl; have fa_9 := blk_free hk 9; have ca_10 := blk_cell hk 10 rfl; have fa_10 := blk_free hk 10; have la := lt_of_block hk
      have hin : (i : Int) < (len1 : Int) := by omega
      have hbw : bb < wr.heap.size := by omega
      have hbR : bb ≠ R := by omega
      go_upto_region 9 with fail
      go_region_with (first | (go_at_call 11; refine (AC.out _ (by repeat (first | (with_reducible exact Below.refl _ _) | (with_reducible refine Below.drew ?_) | (with_reducible refine below_drewN ?_ _) | ((with_reducible refine Below.alloc ?_ ?_ _); rotate_left; (first | omega | (simp <;> omega)); rotate_right) | ((with_reducible refine Below.setCell ?_ ?_ _); rotate_left; (first | omega | (simp <;> omega)); rotate_right) | (with_reducible assumption) | (refine Below.trans ?_ (Below.mono (by assumption) ?_); rotate_left; (first | omega | (simp <;> omega)); rotate_right)))).mono ?_; rintro e w1 ⟨F, fc, D1, dc1, A1, ac1, S1, sc1, vs, H1, rfl, hB1, _, _, _, hk1, hb1, _⟩; have hz1 := hb1.size; (try simp at hz1); have k1 := hk1 R _ _ (by repeat (first | (with_reducible assumption) | ((with_reducible apply blk_far); rotate_left; (first | omega | (simp <;> omega)); rotate_right) | (with_reducible apply blk_drew) | (with_reducible apply blk_drewN) | (with_reducible exact heap_new _ _) | ((with_reducible apply heap_new'); (first | rfl | (simp <;> fail))) | (with_reducible apply blk_alloc))) oth_S; have HB1 := Lib.hid hB1; (have cy_0 := blk_cell k1 0 rfl; have fy_0 := blk_free k1 0; have cy_1 := blk_cell k1 1 rfl; have fy_1 := blk_free k1 1; have cy_2 := blk_cell k1 2 rfl; have fy_2 := blk_free k1 2; have cy_3 := blk_cell k1 3 rfl; have fy_3 := blk_free k1 3; have cy_4 := blk_cell k1 4 rfl; have fy_4 := blk_free k1 4; have cy_5 := blk_cell k1 5 rfl; have fy_5 := blk_free k1 5; have cy_6 := blk_cell k1 6 rfl; have fy_6 := blk_free k1 6; have cy_7 := blk_cell k1 7 rfl; have fy_7 := blk_free k1 7; have cy_8 := blk_cell k1 8 rfl; have fy_8 := blk_free k1 8; have cy_9 := blk_cell k1 9 rfl; have fy_9 := blk_free k1 9; have cy_10 := blk_cell k1 10 rfl; have fy_10 := blk_free k1 10; have ly := lt_of_block k1); clear hB1 hk1 hb1; (try simp only [rsl])))
      all_goals
        go_wp2_with fail
        generalize hWx : World.setCell _ _ _ = Wx
        have kR : Wx.heap[R]? = some (.cells #[.int .i64 s'.again, .int .i64 s'.st, .int .i64 s'.now, .int .i64 s'.seq, .bool s'.some, .int .i64 s'.prog, .int .i64 s'.cmd, .slice D1 (Stn.data s').length dc1, .int .i64 s'.sent, .slice A1 s'.n ac1, .slice S1 s'.n sc1] 29 (0, 0)) := by rw [← hWx]; exact (by apply Eq.trans; (repeat (first | (with_reducible assumption) | (with_reducible apply blk_set) | ((with_reducible apply blk_far); rotate_left; (first | omega | (simp <;> omega)); rotate_right) | (with_reducible apply blk_drew) | (with_reducible apply blk_drewN) | ((with_reducible apply heap_new'); (first | rfl | (simp <;> fail))) | (with_reducible apply blk_alloc))); (first | with_reducible rfl | (simp <;> fail) | rfl))
        have hKx : Keeps (fun j => j = R) w1 Wx := by rw [← hWx]; (repeat (first | with_reducible exact Keeps.refl _ _ | (with_reducible refine Keeps.set1 ?_ _ _) | (with_reducible refine Keeps.drew ?_) | (with_reducible refine Keeps.drewN ?_ _) | (with_reducible refine Keeps.alloc ?_ _)))
        have HSx := Lib.hid (HB1.out.store hKx hR (fun _ => ⟨_, k1⟩) oth_S (by omega))
        have KR := Lib.hid kR
        clear hWx hKx
        go_roundw
        case rel => exact ⟨i + 1, s', _, _, _, _, _, _, by go_num, by omega, HSx, KR⟩
        case measure => simp [intOf]; omega
    · obtain rfl : i = len1 := by omega
      clear hlt
      obtain ⟨⟨MA0, mc0, RA0, rc0, hst⟩, hinv, hfit, hir, hlb⟩ := HS.out
      have CP := Lib.hid (show ∀ W : World, Below wr.heap.size wr W → Calls Try.prog 15 #[.pointer (some ⟨b, 0, none⟩)] W fun e w' => ∃ b2 MA2 mc2 RA2 rc2, e = .returned (.pointer (some ⟨b2, 0, none⟩)) ∧ Below W.heap.size W w' ∧ Pr w.heap.size b MA0 mc0 RA0 rc0 s D dc A ac S sc b2 MA2 mc2 RA2 rc2 s D dc A ac S sc w w' from fun W hW => scopy_pr (S1.below ⟨hst, hinv, hfit, hir⟩ hW) (hlb.trans (hW.mono hzr)) (Nat.le_trans hzr hW.size))
      have hk := HK.out
      have hRlt := lt_of_block hk
      have hRN : R ≠ wr.heap.size := by omega
      have hNR : wr.heap.size ≠ R := by omega
      simp only [rsl] at hk
      clear hst hinv hfit hir hlb HS HK
      have ca_0 := blk_cell hk 0 rfl; have fa_0 := blk_free hk 0; have ca_1 := blk_cell hk 1 rfl; have fa_1 := blk_free hk 1; have ca_2 := blk_cell hk 2 rfl; have fa_2 := blk_free hk 2; have ca_3 := blk_cell hk 3 rfl; have fa_3 := blk_free hk 3; have ca_4 := blk_cell hk 4 rfl; have fa_4 := blk_free hk 4; have ca_5 := blk_cell hk 5 rfl; have fa_5 := blk_free hk 5; have ca_6 := blk_cell hk 6 rfl; have fa_6 := blk_free hk 6; have ca_7 := blk_cell hk 7 rfl; have fa_7 := blk_free hk 7; have ca_8 := blk_cell hk 8 rfl; have fa_8 := blk_free hk 8; have ca_9 := blk_cell hk 9 rfl; have fa_9 := blk_free hk 9; have ca_10 := blk_cell hk 10 rfl; have fa_10 := blk_free hk 10; have la := lt_of_block hk
      go_upto_region 10 with fail
      go_cut [13, 14] from 74 to 76 (fun v1 v2 wx => CpCut w.heap.size b R s D dc A ac S sc #[.int .i64 s.again, .int .i64 s.st, .int .i64 s.now, .int .i64 s.seq, .bool s.some, .int .i64 s.prog, .int .i64 s.cmd, .slice D (Stn.data s).length dc, .int .i64 s.sent, .slice A s.n ac, .slice S s.n sc] w v1 v2 wx)
      case first =>
        go_region_with (first | (go_at_call 15; refine (CP.out _ (by repeat (first | (with_reducible exact Below.refl _ _) | (with_reducible refine Below.drew ?_) | (with_reducible refine below_drewN ?_ _) | ((with_reducible refine Below.alloc ?_ ?_ _); rotate_left; (first | omega | (simp <;> omega)); rotate_right) | ((with_reducible refine Below.setCell ?_ ?_ _); rotate_left; (first | omega | (simp <;> omega)); rotate_right) | (with_reducible assumption) | (refine Below.trans ?_ (Below.mono (by assumption) ?_); rotate_left; (first | omega | (simp <;> omega)); rotate_right)))).mono ?_; rintro e w1 ⟨b2, MA2, mc2, RA2, rc2, rfl, hb1, hP1⟩; have hz1 := hb1.size; (try simp at hz1); have k1 := blk_below (q := R) (by repeat (first | (with_reducible assumption) | ((with_reducible apply blk_far); rotate_left; (first | omega | (simp <;> omega)); rotate_right) | (with_reducible apply blk_drew) | (with_reducible apply blk_drewN) | (with_reducible exact heap_new _ _) | ((with_reducible apply heap_new'); (first | rfl | (simp <;> fail))) | (with_reducible apply blk_alloc))) hb1 (by first | omega | (simp; done) | (simp; omega)); have HP1 := Lib.hid hP1; (try (have z1 : w1.heap[wr.heap.size]? = some (.cells #[.int .i64 0, .int .i64 0, .int .i64 0, .int .i64 0, .bool false, .int .i64 0, .int .i64 0, .slice none 0 0, .int .i64 0, .slice none 0 0, .slice none 0 0] 29 (0, 0)) := blk_below (by first | ((with_reducible apply heap_new'); (first | rfl | (simp <;> fail))) | ((with_reducible apply blk_drew); ((with_reducible apply heap_new'); (first | rfl | (simp <;> fail)))) | ((with_reducible apply blk_drewN); ((with_reducible apply heap_new'); (first | rfl | (simp <;> fail))))) hb1 (by first | omega | (simp; done) | (simp; omega)); have cz_0 := blk_cell z1 0 rfl; have fz_0 := blk_free z1 0; have cz_1 := blk_cell z1 1 rfl; have fz_1 := blk_free z1 1; have cz_2 := blk_cell z1 2 rfl; have fz_2 := blk_free z1 2; have cz_3 := blk_cell z1 3 rfl; have fz_3 := blk_free z1 3; have cz_4 := blk_cell z1 4 rfl; have fz_4 := blk_free z1 4; have cz_5 := blk_cell z1 5 rfl; have fz_5 := blk_free z1 5; have cz_6 := blk_cell z1 6 rfl; have fz_6 := blk_free z1 6; have cz_7 := blk_cell z1 7 rfl; have fz_7 := blk_free z1 7; have cz_8 := blk_cell z1 8 rfl; have fz_8 := blk_free z1 8; have cz_9 := blk_cell z1 9 rfl; have fz_9 := blk_free z1 9; have cz_10 := blk_cell z1 10 rfl; have fz_10 := blk_free z1 10; have lz := lt_of_block z1)); (have cy_0 := blk_cell k1 0 rfl; have fy_0 := blk_free k1 0; have cy_1 := blk_cell k1 1 rfl; have fy_1 := blk_free k1 1; have cy_2 := blk_cell k1 2 rfl; have fy_2 := blk_free k1 2; have cy_3 := blk_cell k1 3 rfl; have fy_3 := blk_free k1 3; have cy_4 := blk_cell k1 4 rfl; have fy_4 := blk_free k1 4; have cy_5 := blk_cell k1 5 rfl; have fy_5 := blk_free k1 5; have cy_6 := blk_cell k1 6 rfl; have fy_6 := blk_free k1 6; have cy_7 := blk_cell k1 7 rfl; have fy_7 := blk_free k1 7; have cy_8 := blk_cell k1 8 rfl; have fy_8 := blk_free k1 8; have cy_9 := blk_cell k1 9 rfl; have fy_9 := blk_free k1 9; have cy_10 := blk_cell k1 10 rfl; have fy_10 := blk_free k1 10; have ly := lt_of_block k1); clear hb1 hP1))
        all_goals
          first
          | (have _g := z1
             go_wp2_with fail
             generalize hWx : World.setCell _ _ _ = Wx
             have kN : Wx.heap[wr.heap.size]? = some (.cells #[.int .i64 s.again, .int .i64 s.st, .int .i64 s.now, .int .i64 s.seq, .bool s.some, .int .i64 s.prog, .int .i64 s.cmd, .slice D (Stn.data s).length dc, .int .i64 s.sent, .slice A s.n ac, .slice S s.n sc] 29 (0, 0)) := by rw [← hWx]; exact (by apply Eq.trans; (repeat (first | (with_reducible assumption) | (with_reducible apply blk_set) | ((with_reducible apply blk_far); rotate_left; (first | omega | (simp <;> omega)); rotate_right) | (with_reducible apply blk_drew) | (with_reducible apply blk_drewN) | ((with_reducible apply heap_new'); (first | rfl | (simp <;> fail))) | (with_reducible apply blk_alloc))); (first | with_reducible rfl | (simp <;> fail) | rfl))
             have kR : Wx.heap[R]? = some (.cells #[.int .i64 s.again, .int .i64 s.st, .int .i64 s.now, .int .i64 s.seq, .bool s.some, .int .i64 s.prog, .int .i64 s.cmd, .slice D (Stn.data s).length dc, .int .i64 s.sent, .slice A s.n ac, .slice S s.n sc] 29 (0, 0)) := by rw [← hWx]; exact (by repeat (first | (with_reducible assumption) | ((with_reducible apply blk_far); rotate_left; (first | omega | (simp <;> omega)); rotate_right) | (with_reducible apply blk_drew) | (with_reducible apply blk_drewN) | (with_reducible exact heap_new _ _) | ((with_reducible apply heap_new'); (first | rfl | (simp <;> fail))) | (with_reducible apply blk_alloc)))
             have hKx : Keeps (fun j => j = wr.heap.size) w1 Wx := by rw [← hWx]; (repeat (first | with_reducible exact Keeps.refl _ _ | (with_reducible refine Keeps.set1 ?_ _ _) | (with_reducible refine Keeps.drew ?_) | (with_reducible refine Keeps.drewN ?_ _) | (with_reducible refine Keeps.alloc ?_ _)))
             have hPx := HP1.out.store hKx hzr (fun _ => ⟨_, z1⟩) oth_S (by omega)
             clear hWx
             go_meet
             exact ⟨MA0, mc0, RA0, rc0, b2, MA2, mc2, RA2, rc2, wr.heap.size, rfl, rfl, hNR, hzr, kR, kN, hPx⟩)
          | (fail_if_success (have _g := z1)
             go_wp2_with fail
             generalize hWx : World.alloc _ _ = Wx
             have kN : Wx.heap[w1.heap.size]? = some (.cells #[.int .i64 s.again, .int .i64 s.st, .int .i64 s.now, .int .i64 s.seq, .bool s.some, .int .i64 s.prog, .int .i64 s.cmd, .slice D (Stn.data s).length dc, .int .i64 s.sent, .slice A s.n ac, .slice S s.n sc] 29 (0, 0)) := by rw [← hWx]; exact (heap_new _ _)
             have kR : Wx.heap[R]? = some (.cells #[.int .i64 s.again, .int .i64 s.st, .int .i64 s.now, .int .i64 s.seq, .bool s.some, .int .i64 s.prog, .int .i64 s.cmd, .slice D (Stn.data s).length dc, .int .i64 s.sent, .slice A s.n ac, .slice S s.n sc] 29 (0, 0)) := by rw [← hWx]; exact (by repeat (first | (with_reducible assumption) | ((with_reducible apply blk_far); rotate_left; (first | omega | (simp <;> omega)); rotate_right) | (with_reducible apply blk_drew) | (with_reducible apply blk_drewN) | (with_reducible exact heap_new _ _) | ((with_reducible apply heap_new'); (first | rfl | (simp <;> fail))) | (with_reducible apply blk_alloc)))
             have hKx : Keeps (fun j => j = w1.heap.size) w1 Wx := by rw [← hWx]; (repeat (first | with_reducible exact Keeps.refl _ _ | (with_reducible refine Keeps.set1 ?_ _ _) | (with_reducible refine Keeps.drew ?_) | (with_reducible refine Keeps.drewN ?_ _) | (with_reducible refine Keeps.alloc ?_ _)))
             have hPx := HP1.out.store hKx (by omega) (fun h => absurd h (by omega)) oth_S (by omega)
             clear hWx
             go_meet
             exact ⟨MA0, mc0, RA0, rc0, b2, MA2, mc2, RA2, rc2, w1.heap.size, rfl, rfl, by omega, by omega, kR, kN, hPx⟩)
      case rest =>
        obtain ⟨MA, mc, RA', rc, b2, MA2, mc2, RA2, rc2, R2, rfl, rfl, hR2R, hBR2, kR, kR2, hP⟩ := hcut
        have hP2 := hP.swap
        have SH := Lib.hid (hP2.1.sb hP2.2.2.2).shows
        have HP := Lib.hid hP
        have KR := Lib.hid kR
        have KR2 := Lib.hid kR2
        have hzc := hP.2.2.2.size
        simp only [rsl] at SH
        clear hP hP2 ca_0 fa_0 ca_1 fa_1 ca_2 fa_2 ca_3 fa_3 ca_4 fa_4 ca_5 fa_5 ca_6 fa_6 ca_7 fa_7 ca_8 fa_8 ca_9 fa_9 ca_10 fa_10 hk CP hRN hNR hRlt
        have cn_0 := blk_cell kR2 0 rfl; have fn_0 := blk_free kR2 0; have cn_1 := blk_cell kR2 1 rfl; have fn_1 := blk_free kR2 1; have cn_2 := blk_cell kR2 2 rfl; have fn_2 := blk_free kR2 2; have cn_3 := blk_cell kR2 3 rfl; have fn_3 := blk_free kR2 3; have cn_4 := blk_cell kR2 4 rfl; have fn_4 := blk_free kR2 4; have cn_5 := blk_cell kR2 5 rfl; have fn_5 := blk_free kR2 5; have cn_6 := blk_cell kR2 6 rfl; have fn_6 := blk_free kR2 6; have cn_7 := blk_cell kR2 7 rfl; have fn_7 := blk_free kR2 7; have cn_8 := blk_cell kR2 8 rfl; have fn_8 := blk_free kR2 8; have cn_9 := blk_cell kR2 9 rfl; have fn_9 := blk_free kR2 9; have cn_10 := blk_cell kR2 10 rfl; have fn_10 := blk_free kR2 10; have ln := lt_of_block kR2
        go_wp2_with (refine SH.out.mono ?_; rintro e w6 ⟨rfl, hb6⟩)
        have HP6 := Lib.hid (HP.out.below hb6 hzc)
        have KR6 := Lib.hid (blk_below KR.out hb6 (lt_of_block KR.out))
        have KR26 := Lib.hid (blk_below KR2.out hb6 (lt_of_block KR2.out))
        clear kR kR2 hb6 KR KR2 HP SH cn_0 fn_0 cn_1 fn_1 cn_2 fn_2 cn_3 fn_3 cn_4 fn_4 cn_5 fn_5 cn_6 fn_6 cn_7 fn_7 cn_8 fn_8 cn_9 fn_9 cn_10 fn_10 ln
        have GEN : ∃ t D2 dc2 A2 ac2 S2 sc2, Pr w.heap.size b MA mc RA' rc s D dc A ac S sc b2 MA2 mc2 RA2 rc2 t D2 dc2 A2 ac2 S2 sc2 w w6 ∧ w6.heap[R2]? = some (.cells (rsl t D2 dc2 A2 ac2 S2 sc2).toArray 29 (0, 0)) := ⟨s, D, dc, A, ac, S, sc, HP6.out, KR26.out⟩
        obtain ⟨t, D2, dc2, A2, ac2, S2, sc2, hP6, kR26⟩ := GEN
        have HP6' := Lib.hid hP6
        have KR26' := Lib.hid kR26
        have hRR2 : R ≠ R2 := fun e => hR2R e.symm
        clear hP6 kR26 HP6 KR26
        go_wp2_with fail
        go_loopw [15] (fun sl wr => ∃ (i : Nat) (s : Stn.St) (MA : Option Addr) (mc : Nat) (D : Option Addr) (dc : Nat) (A : Option Addr) (ac : Nat) (S : Option Addr) (sc : Nat), sl = .int .i64 i ∧ i ≤ len2 ∧ Hid (Pr w.heap.size b MA mc RA' rc s D dc A ac S sc b2 MA2 mc2 RA2 rc2 t D2 dc2 A2 ac2 S2 sc2 w wr) ∧ Hid (wr.heap[R]? = some (.cells (rsl s D dc A ac S sc).toArray 29 (0, 0))) ∧ Hid (wr.heap[R2]? = some (.cells (rsl t D2 dc2 A2 ac2 S2 sc2).toArray 29 (0, 0)))) (fun sl _ => len2 - (intOf sl).toNat)
        case atStart => exact ⟨0, _, _, _, _, _, _, _, _, _, by go_num, by omega, HP6', KR6, KR26'⟩
        case round =>
          obtain ⟨i, s, MA, mc, D, dc, A, ac, S, sc, rfl, hi, HP, HK, HK2⟩ := hrel
          have hzr := HP.out.2.2.2.size
          by_cases hlt : i < len2
          · obtain ⟨bb, oo, rfl, hbb, hcc⟩ := (HW2.out.below HP.out.2.2.2 (Nat.le_refl _)).2 (by omega)
            obtain ⟨FD, ce, c0, c1, c2, c3, c4, c5, c6, c7, hrd, hrm⟩ := hcc i hlt
            obtain ⟨x, hx⟩ : ∃ x, x = l2.getD i la0 := ⟨_, rfl⟩
            rw [← hx] at c0 c1 c2 c3 c4 c5 c6 c7 hrd hrm
            have hok : okA x = true := AL2.out x (by rw [hx]; simp [List.getD, List.getElem?_eq_getElem (show i < l2.length by rw [HW2.out.1]; exact hlt)])
            unfold okA at hok
            simp only [decide_eq_true_eq] at hok
            obtain ⟨s', hs'⟩ : ∃ s', s' = actS s x := ⟨_, rfl⟩
            obtain ⟨nf, hnf⟩ : ∃ nf, nf = (actF s x).length := ⟨_, rfl⟩
            have AC := Lib.hid (show ∀ W : World, Below wr.heap.size wr W → Calls Try.prog 11 #[.pointer (some ⟨b, 0, none⟩), .agg #[.int .i64 s.again, .int .i64 s.st, .int .i64 s.now, .int .i64 s.seq, .bool s.some, .int .i64 s.prog, .int .i64 s.cmd, .slice D (Stn.data s).length dc, .int .i64 s.sent, .slice A s.n ac, .slice S s.n sc], .agg #[.int .i64 x.kind, .int .i64 x.now, .int .i64 x.n, .int .i64 x.f.k, .int .i64 x.f.f, .int .i64 x.f.t, .int .i64 x.f.s, .slice FD x.f.d.length ce]] W (PrPost w.heap.size b RA' rc s' nf b2 MA2 mc2 RA2 rc2 t D2 dc2 A2 ac2 S2 sc2 w W) from fun W hW => by
              have hz := hW.size
              rw [hs', hnf]
              exact Pr.act (HP.out.below hW hzr) x FD ce (by omega) (by omega) (hrd.below hW (by omega)))
            have hk := HK.out
            have hk2 := HK2.out
            have hRlt := lt_of_block hk
            have hR2lt := lt_of_block hk2
            simp only [rsl] at hk hk2
            clear hs' hx hrd hrm hok hcc hnf HP HK HK2
            have ca_0 := blk_cell hk 0 rfl; have fa_0 := blk_free hk 0; have ca_1 := blk_cell hk 1 rfl; have fa_1 := blk_free hk 1; have ca_2 := blk_cell hk 2 rfl; have fa_2 := blk_free hk 2; have ca_3 := blk_cell hk 3 rfl; have fa_3 := blk_free hk 3; have ca_4 := blk_cell hk 4 rfl; have fa_4 := blk_free hk 4; have ca_5 := blk_cell hk 5 rfl; have fa_5 := blk_free hk 5; have ca_6 := blk_cell hk 6 rfl; have fa_6 := blk_free hk 6; have ca_7 := blk_cell hk 7 rfl; have fa_7 := blk_free hk 7; have ca_8 := blk_cell hk 8 rfl; have fa_8 := blk_free hk 8; have ca_9 := blk_cell hk 9 rfl; have fa_9 := blk_free hk 9; have ca_10 := blk_cell hk 10 rfl; have fa_10 := blk_free hk 10; have la := lt_of_block hk
            have hin : (i : Int) < (len2 : Int) := by omega
            have hbw : bb < wr.heap.size := by omega
            have hbN : bb ≠ wr.heap.size := by omega
            have hRN : R ≠ wr.heap.size := by omega
            have hNR : wr.heap.size ≠ R := by omega
            have hNR2 : wr.heap.size ≠ R2 := by omega
            have hR2N : R2 ≠ wr.heap.size := by omega
            go_upto_region 16 with fail
            go_cut [16, 17, 18] from 85 to 104 (fun v1 v2 v3 wx => PCut w.heap.size b R RA' rc s' #[.int .i64 s.again, .int .i64 s.st, .int .i64 s.now, .int .i64 s.seq, .bool s.some, .int .i64 s.prog, .int .i64 s.cmd, .slice D (Stn.data s).length dc, .int .i64 s.sent, .slice A s.n ac, .slice S s.n sc] b2 R2 MA2 mc2 RA2 rc2 t D2 dc2 A2 ac2 S2 sc2 #[.int .i64 t.again, .int .i64 t.st, .int .i64 t.now, .int .i64 t.seq, .bool t.some, .int .i64 t.prog, .int .i64 t.cmd, .slice D2 (Stn.data t).length dc2, .int .i64 t.sent, .slice A2 t.n ac2, .slice S2 t.n sc2] w v1 v3 wx)
            case first =>
              go_region_with (first | (go_at_call 11; refine (AC.out _ (by repeat (first | (with_reducible exact Below.refl _ _) | (with_reducible refine Below.drew ?_) | (with_reducible refine below_drewN ?_ _) | ((with_reducible refine Below.alloc ?_ ?_ _); rotate_left; (first | omega | (simp <;> omega)); rotate_right) | ((with_reducible refine Below.setCell ?_ ?_ _); rotate_left; (first | omega | (simp <;> omega)); rotate_right) | (with_reducible assumption) | (refine Below.trans ?_ (Below.mono (by assumption) ?_); rotate_left; (first | omega | (simp <;> omega)); rotate_right)))).mono ?_; rintro e w1 ⟨F, fc, MA1, mc1, D1, dc1, A1, ac1, S1, sc1, rfl, hP1, hk1, hb1⟩; have hz1 := hb1.size; (try simp at hz1); have k1 := hk1 R _ _ (by repeat (first | (with_reducible assumption) | ((with_reducible apply blk_far); rotate_left; (first | omega | (simp <;> omega)); rotate_right) | (with_reducible apply blk_drew) | (with_reducible apply blk_drewN) | (with_reducible exact heap_new _ _) | ((with_reducible apply heap_new'); (first | rfl | (simp <;> fail))) | (with_reducible apply blk_alloc))) oth_S; have k12 := hk1 R2 _ _ (by repeat (first | (with_reducible assumption) | ((with_reducible apply blk_far); rotate_left; (first | omega | (simp <;> omega)); rotate_right) | (with_reducible apply blk_drew) | (with_reducible apply blk_drewN) | (with_reducible exact heap_new _ _) | ((with_reducible apply heap_new'); (first | rfl | (simp <;> fail))) | (with_reducible apply blk_alloc))) oth_S; have HP1 := Lib.hid hP1; (try (have z1 : w1.heap[wr.heap.size]? = some (.cells #[.int .i64 0, .int .i64 0, .int .i64 0, .int .i64 0, .bool false, .int .i64 0, .int .i64 0, .slice none 0 0, .int .i64 0, .slice none 0 0, .slice none 0 0] 29 (0, 0)) := hk1 _ _ _ (by first | ((with_reducible apply heap_new'); (first | rfl | (simp <;> fail))) | ((with_reducible apply blk_drew); ((with_reducible apply heap_new'); (first | rfl | (simp <;> fail)))) | ((with_reducible apply blk_drewN); ((with_reducible apply heap_new'); (first | rfl | (simp <;> fail))))) oth_S; have cz_0 := blk_cell z1 0 rfl; have fz_0 := blk_free z1 0; have cz_1 := blk_cell z1 1 rfl; have fz_1 := blk_free z1 1; have cz_2 := blk_cell z1 2 rfl; have fz_2 := blk_free z1 2; have cz_3 := blk_cell z1 3 rfl; have fz_3 := blk_free z1 3; have cz_4 := blk_cell z1 4 rfl; have fz_4 := blk_free z1 4; have cz_5 := blk_cell z1 5 rfl; have fz_5 := blk_free z1 5; have cz_6 := blk_cell z1 6 rfl; have fz_6 := blk_free z1 6; have cz_7 := blk_cell z1 7 rfl; have fz_7 := blk_free z1 7; have cz_8 := blk_cell z1 8 rfl; have fz_8 := blk_free z1 8; have cz_9 := blk_cell z1 9 rfl; have fz_9 := blk_free z1 9; have cz_10 := blk_cell z1 10 rfl; have fz_10 := blk_free z1 10; have lz := lt_of_block z1)); (have cy_0 := blk_cell k1 0 rfl; have fy_0 := blk_free k1 0; have cy_1 := blk_cell k1 1 rfl; have fy_1 := blk_free k1 1; have cy_2 := blk_cell k1 2 rfl; have fy_2 := blk_free k1 2; have cy_3 := blk_cell k1 3 rfl; have fy_3 := blk_free k1 3; have cy_4 := blk_cell k1 4 rfl; have fy_4 := blk_free k1 4; have cy_5 := blk_cell k1 5 rfl; have fy_5 := blk_free k1 5; have cy_6 := blk_cell k1 6 rfl; have fy_6 := blk_free k1 6; have cy_7 := blk_cell k1 7 rfl; have fy_7 := blk_free k1 7; have cy_8 := blk_cell k1 8 rfl; have fy_8 := blk_free k1 8; have cy_9 := blk_cell k1 9 rfl; have fy_9 := blk_free k1 9; have cy_10 := blk_cell k1 10 rfl; have fy_10 := blk_free k1 10; have ly := lt_of_block k1); clear hP1 hk1 hb1; (try simp only [rsl])))
              all_goals
                first
                | (have _g := z1
                   go_wp2_with fail
                   generalize hWx : World.setCell _ _ _ = Wx
                   have kN : Wx.heap[wr.heap.size]? = some (.cells #[.int .i64 s'.again, .int .i64 s'.st, .int .i64 s'.now, .int .i64 s'.seq, .bool s'.some, .int .i64 s'.prog, .int .i64 s'.cmd, .slice D1 (Stn.data s').length dc1, .int .i64 s'.sent, .slice A1 s'.n ac1, .slice S1 s'.n sc1] 29 (0, 0)) := by rw [← hWx]; exact (by apply Eq.trans; (repeat (first | (with_reducible assumption) | (with_reducible apply blk_set) | ((with_reducible apply blk_far); rotate_left; (first | omega | (simp <;> omega)); rotate_right) | (with_reducible apply blk_drew) | (with_reducible apply blk_drewN) | ((with_reducible apply heap_new'); (first | rfl | (simp <;> fail))) | (with_reducible apply blk_alloc))); (first | with_reducible rfl | (simp <;> fail) | rfl))
                   have kR : Wx.heap[R]? = some (.cells #[.int .i64 s.again, .int .i64 s.st, .int .i64 s.now, .int .i64 s.seq, .bool s.some, .int .i64 s.prog, .int .i64 s.cmd, .slice D (Stn.data s).length dc, .int .i64 s.sent, .slice A s.n ac, .slice S s.n sc] 29 (0, 0)) := by rw [← hWx]; exact (by repeat (first | (with_reducible assumption) | ((with_reducible apply blk_far); rotate_left; (first | omega | (simp <;> omega)); rotate_right) | (with_reducible apply blk_drew) | (with_reducible apply blk_drewN) | (with_reducible exact heap_new _ _) | ((with_reducible apply heap_new'); (first | rfl | (simp <;> fail))) | (with_reducible apply blk_alloc)))
                   have kR2 : Wx.heap[R2]? = some (.cells #[.int .i64 t.again, .int .i64 t.st, .int .i64 t.now, .int .i64 t.seq, .bool t.some, .int .i64 t.prog, .int .i64 t.cmd, .slice D2 (Stn.data t).length dc2, .int .i64 t.sent, .slice A2 t.n ac2, .slice S2 t.n sc2] 29 (0, 0)) := by rw [← hWx]; exact (by repeat (first | (with_reducible assumption) | ((with_reducible apply blk_far); rotate_left; (first | omega | (simp <;> omega)); rotate_right) | (with_reducible apply blk_drew) | (with_reducible apply blk_drewN) | (with_reducible exact heap_new _ _) | ((with_reducible apply heap_new'); (first | rfl | (simp <;> fail))) | (with_reducible apply blk_alloc)))
                   have hKx : Keeps (fun j => j = wr.heap.size) w1 Wx := by rw [← hWx]; (repeat (first | with_reducible exact Keeps.refl _ _ | (with_reducible refine Keeps.set1 ?_ _ _) | (with_reducible refine Keeps.drew ?_) | (with_reducible refine Keeps.drewN ?_ _) | (with_reducible refine Keeps.alloc ?_ _)))
                   clear hWx
                   go_meet
                   exact HP1.out.cut (by omega) hKx (by omega) (fun _ => ⟨_, z1⟩) hNR hNR2 kN kR kR2)
                | (fail_if_success (have _g := z1)
                   go_wp2_with fail
                   generalize hWx : World.alloc _ _ = Wx
                   have kN : Wx.heap[w1.heap.size]? = some (.cells #[.int .i64 s'.again, .int .i64 s'.st, .int .i64 s'.now, .int .i64 s'.seq, .bool s'.some, .int .i64 s'.prog, .int .i64 s'.cmd, .slice D1 (Stn.data s').length dc1, .int .i64 s'.sent, .slice A1 s'.n ac1, .slice S1 s'.n sc1] 29 (0, 0)) := by rw [← hWx]; exact (heap_new _ _)
                   have kR : Wx.heap[R]? = some (.cells #[.int .i64 s.again, .int .i64 s.st, .int .i64 s.now, .int .i64 s.seq, .bool s.some, .int .i64 s.prog, .int .i64 s.cmd, .slice D (Stn.data s).length dc, .int .i64 s.sent, .slice A s.n ac, .slice S s.n sc] 29 (0, 0)) := by rw [← hWx]; exact (by repeat (first | (with_reducible assumption) | ((with_reducible apply blk_far); rotate_left; (first | omega | (simp <;> omega)); rotate_right) | (with_reducible apply blk_drew) | (with_reducible apply blk_drewN) | (with_reducible exact heap_new _ _) | ((with_reducible apply heap_new'); (first | rfl | (simp <;> fail))) | (with_reducible apply blk_alloc)))
                   have kR2 : Wx.heap[R2]? = some (.cells #[.int .i64 t.again, .int .i64 t.st, .int .i64 t.now, .int .i64 t.seq, .bool t.some, .int .i64 t.prog, .int .i64 t.cmd, .slice D2 (Stn.data t).length dc2, .int .i64 t.sent, .slice A2 t.n ac2, .slice S2 t.n sc2] 29 (0, 0)) := by rw [← hWx]; exact (by repeat (first | (with_reducible assumption) | ((with_reducible apply blk_far); rotate_left; (first | omega | (simp <;> omega)); rotate_right) | (with_reducible apply blk_drew) | (with_reducible apply blk_drewN) | (with_reducible exact heap_new _ _) | ((with_reducible apply heap_new'); (first | rfl | (simp <;> fail))) | (with_reducible apply blk_alloc)))
                   have hKx : Keeps (fun j => j = w1.heap.size) w1 Wx := by rw [← hWx]; (repeat (first | with_reducible exact Keeps.refl _ _ | (with_reducible refine Keeps.set1 ?_ _ _) | (with_reducible refine Keeps.drew ?_) | (with_reducible refine Keeps.drewN ?_ _) | (with_reducible refine Keeps.alloc ?_ _)))
                   clear hWx
                   go_meet
                   exact HP1.out.cut (by omega) hKx (by omega) (fun h => absurd h (by omega)) (by omega) (by omega) kN kR kR2)
            case rest =>
              obtain ⟨N, MA', mc', D', dc', A', ac', S', sc', rfl, rfl, hNR', hNR2', hBN, kN, kR, kR2, hP⟩ := hcut
              have hzc := hP.2.2.2.size
              have HP := Lib.hid hP
              have KR2 := Lib.hid kR2
              have hRN' : R ≠ N := fun e => hNR' e.symm
              have hR2N' : R2 ≠ N := fun e => hNR2' e.symm
              simp only [rsl] at kN
              clear hP ca_0 fa_0 ca_1 fa_1 ca_2 fa_2 ca_3 fa_3 ca_4 fa_4 ca_5 fa_5 ca_6 fa_6 ca_7 fa_7 ca_8 fa_8 ca_9 fa_9 ca_10 fa_10 hk hk2 c0 c7 c6 c5 c4 c3 c2 c1 AC
              have cn_0 := blk_cell kN 0 rfl; have fn_0 := blk_free kN 0; have cn_1 := blk_cell kN 1 rfl; have fn_1 := blk_free kN 1; have cn_2 := blk_cell kN 2 rfl; have fn_2 := blk_free kN 2; have cn_3 := blk_cell kN 3 rfl; have fn_3 := blk_free kN 3; have cn_4 := blk_cell kN 4 rfl; have fn_4 := blk_free kN 4; have cn_5 := blk_cell kN 5 rfl; have fn_5 := blk_free kN 5; have cn_6 := blk_cell kN 6 rfl; have fn_6 := blk_free kN 6; have cn_7 := blk_cell kN 7 rfl; have fn_7 := blk_free kN 7; have cn_8 := blk_cell kN 8 rfl; have fn_8 := blk_free kN 8; have cn_9 := blk_cell kN 9 rfl; have fn_9 := blk_free kN 9; have cn_10 := blk_cell kN 10 rfl; have fn_10 := blk_free kN 10; have ln := lt_of_block kN
              have cm_0 := blk_cell kR 0 rfl; have fm_0 := blk_free kR 0; have cm_1 := blk_cell kR 1 rfl; have fm_1 := blk_free kR 1; have cm_2 := blk_cell kR 2 rfl; have fm_2 := blk_free kR 2; have cm_3 := blk_cell kR 3 rfl; have fm_3 := blk_free kR 3; have cm_4 := blk_cell kR 4 rfl; have fm_4 := blk_free kR 4; have cm_5 := blk_cell kR 5 rfl; have fm_5 := blk_free kR 5; have cm_6 := blk_cell kR 6 rfl; have fm_6 := blk_free kR 6; have cm_7 := blk_cell kR 7 rfl; have fm_7 := blk_free kR 7; have cm_8 := blk_cell kR 8 rfl; have fm_8 := blk_free kR 8; have cm_9 := blk_cell kR 9 rfl; have fm_9 := blk_free kR 9; have cm_10 := blk_cell kR 10 rfl; have fm_10 := blk_free kR 10; have lm := lt_of_block kR
              go_wp2_with fail
              generalize hWy : World.setCell _ _ _ = Wy
              have kS : Wy.heap[R]? = some (.cells #[.int .i64 s'.again, .int .i64 s'.st, .int .i64 s'.now, .int .i64 s'.seq, .bool s'.some, .int .i64 s'.prog, .int .i64 s'.cmd, .slice D' (Stn.data s').length dc', .int .i64 s'.sent, .slice A' s'.n ac', .slice S' s'.n sc'] 29 (0, 0)) := by rw [← hWy]; exact (by apply Eq.trans; (repeat (first | (with_reducible assumption) | (with_reducible apply blk_set) | ((with_reducible apply blk_far); rotate_left; (first | omega | (simp <;> omega)); rotate_right) | (with_reducible apply blk_drew) | (with_reducible apply blk_drewN) | ((with_reducible apply heap_new'); (first | rfl | (simp <;> fail))) | (with_reducible apply blk_alloc))); (first | with_reducible rfl | (simp <;> fail) | rfl))
              have kS2 : Wy.heap[R2]? = some (.cells #[.int .i64 t.again, .int .i64 t.st, .int .i64 t.now, .int .i64 t.seq, .bool t.some, .int .i64 t.prog, .int .i64 t.cmd, .slice D2 (Stn.data t).length dc2, .int .i64 t.sent, .slice A2 t.n ac2, .slice S2 t.n sc2] 29 (0, 0)) := by rw [← hWy]; have kR2 := KR2.out; exact (by repeat (first | (with_reducible assumption) | ((with_reducible apply blk_far); rotate_left; (first | omega | (simp <;> omega)); rotate_right) | (with_reducible apply blk_drew) | (with_reducible apply blk_drewN) | (with_reducible exact heap_new _ _) | ((with_reducible apply heap_new'); (first | rfl | (simp <;> fail))) | (with_reducible apply blk_alloc)))
              have hKy : Keeps (fun j => j = R) wc Wy := by rw [← hWy]; (repeat (first | with_reducible exact Keeps.refl _ _ | (with_reducible refine Keeps.set1 ?_ _ _) | (with_reducible refine Keeps.drew ?_) | (with_reducible refine Keeps.drewN ?_ _) | (with_reducible refine Keeps.alloc ?_ _)))
              have HPy := Lib.hid (HP.out.store hKy (by omega) (fun _ => ⟨_, kR⟩) oth_S (by omega))
              have KS := Lib.hid kS
              have KS2 := Lib.hid kS2
              clear hWy hKy kS kS2 kN kR
              go_roundw
              case rel => exact ⟨i + 1, s', _, _, _, _, _, _, _, _, by go_num, by omega, HPy, KS, KS2⟩
              case measure => simp [intOf]; omega
          · obtain rfl : i = len2 := by omega
            clear hlt
            have GEN : ∃ u MA3 mc3 D3 dc3 A3 ac3 S3 sc3, Pr w.heap.size b2 MA2 mc2 RA2 rc2 t D2 dc2 A2 ac2 S2 sc2 b MA3 mc3 RA' rc u D3 dc3 A3 ac3 S3 sc3 w wr ∧ wr.heap[R]? = some (.cells (rsl u D3 dc3 A3 ac3 S3 sc3).toArray 29 (0, 0)) := ⟨s, MA, mc, D, dc, A, ac, S, sc, HP.out.swap, HK.out⟩
            obtain ⟨u, MA3, mc3, D3, dc3, A3, ac3, S3, sc3, hP7, kR7⟩ := GEN
            have HP7 := Lib.hid hP7
            have KR7 := Lib.hid kR7
            have KR72 := HK2
            clear hP7 kR7 HP HK HK2 HP6' KR6 KR26'
            go_wp2_with fail
            go_loopw [19] (fun sl wr => ∃ (i : Nat) (s : Stn.St) (MA : Option Addr) (mc : Nat) (D : Option Addr) (dc : Nat) (A : Option Addr) (ac : Nat) (S : Option Addr) (sc : Nat), sl = .int .i64 i ∧ i ≤ len3 ∧ Hid (Pr w.heap.size b2 MA mc RA2 rc2 s D dc A ac S sc b MA3 mc3 RA' rc u D3 dc3 A3 ac3 S3 sc3 w wr) ∧ Hid (wr.heap[R2]? = some (.cells (rsl s D dc A ac S sc).toArray 29 (0, 0))) ∧ Hid (wr.heap[R]? = some (.cells (rsl u D3 dc3 A3 ac3 S3 sc3).toArray 29 (0, 0)))) (fun sl _ => len3 - (intOf sl).toNat)
            case atStart => exact ⟨0, _, _, _, _, _, _, _, _, _, by go_num, by omega, HP7, KR72, KR7⟩
            case round =>
              obtain ⟨i, s, MA, mc, D, dc, A, ac, S, sc, rfl, hi, HP, HK, HK2⟩ := hrel
              have hzr := HP.out.2.2.2.size
              by_cases hlt : i < len3
              · obtain ⟨bb, oo, rfl, hbb, hcc⟩ := (HW3.out.below HP.out.2.2.2 (Nat.le_refl _)).2 (by omega)
                obtain ⟨FD, ce, c0, c1, c2, c3, c4, c5, c6, c7, hrd, hrm⟩ := hcc i hlt
                obtain ⟨x, hx⟩ : ∃ x, x = l3.getD i la0 := ⟨_, rfl⟩
                rw [← hx] at c0 c1 c2 c3 c4 c5 c6 c7 hrd hrm
                have hok : okA x = true := AL3.out x (by rw [hx]; simp [List.getD, List.getElem?_eq_getElem (show i < l3.length by rw [HW3.out.1]; exact hlt)])
                unfold okA at hok
                simp only [decide_eq_true_eq] at hok
                obtain ⟨s', hs'⟩ : ∃ s', s' = actS s x := ⟨_, rfl⟩
                obtain ⟨nf, hnf⟩ : ∃ nf, nf = (actF s x).length := ⟨_, rfl⟩
                have AC := Lib.hid (show ∀ W : World, Below wr.heap.size wr W → Calls Try.prog 11 #[.pointer (some ⟨b2, 0, none⟩), .agg #[.int .i64 s.again, .int .i64 s.st, .int .i64 s.now, .int .i64 s.seq, .bool s.some, .int .i64 s.prog, .int .i64 s.cmd, .slice D (Stn.data s).length dc, .int .i64 s.sent, .slice A s.n ac, .slice S s.n sc], .agg #[.int .i64 x.kind, .int .i64 x.now, .int .i64 x.n, .int .i64 x.f.k, .int .i64 x.f.f, .int .i64 x.f.t, .int .i64 x.f.s, .slice FD x.f.d.length ce]] W (PrPost w.heap.size b2 RA2 rc2 s' nf b MA3 mc3 RA' rc u D3 dc3 A3 ac3 S3 sc3 w W) from fun W hW => by
                  have hz := hW.size
                  rw [hs', hnf]
                  exact Pr.act (HP.out.below hW hzr) x FD ce (by omega) (by omega) (hrd.below hW (by omega)))
                have hk := HK.out
                have hk2 := HK2.out
                have hRlt := lt_of_block hk
                have hR2lt := lt_of_block hk2
                simp only [rsl] at hk hk2
                clear hs' hx hrd hrm hok hcc hnf HP HK HK2
                have ca_0 := blk_cell hk 0 rfl; have fa_0 := blk_free hk 0; have ca_1 := blk_cell hk 1 rfl; have fa_1 := blk_free hk 1; have ca_2 := blk_cell hk 2 rfl; have fa_2 := blk_free hk 2; have ca_3 := blk_cell hk 3 rfl; have fa_3 := blk_free hk 3; have ca_4 := blk_cell hk 4 rfl; have fa_4 := blk_free hk 4; have ca_5 := blk_cell hk 5 rfl; have fa_5 := blk_free hk 5; have ca_6 := blk_cell hk 6 rfl; have fa_6 := blk_free hk 6; have ca_7 := blk_cell hk 7 rfl; have fa_7 := blk_free hk 7; have ca_8 := blk_cell hk 8 rfl; have fa_8 := blk_free hk 8; have ca_9 := blk_cell hk 9 rfl; have fa_9 := blk_free hk 9; have ca_10 := blk_cell hk 10 rfl; have fa_10 := blk_free hk 10; have la := lt_of_block hk
                have hin : (i : Int) < (len3 : Int) := by omega
                have hbw : bb < wr.heap.size := by omega
                have hbN : bb ≠ wr.heap.size := by omega
                have hRN : R2 ≠ wr.heap.size := by omega
                have hNR : wr.heap.size ≠ R2 := by omega
                have hNR2 : wr.heap.size ≠ R := by omega
                have hR2N : R ≠ wr.heap.size := by omega
                go_upto_region 23 with fail
                go_cut [20, 21, 22] from 105 to 124 (fun v1 v2 v3 wx => PCut w.heap.size b2 R2 RA2 rc2 s' #[.int .i64 s.again, .int .i64 s.st, .int .i64 s.now, .int .i64 s.seq, .bool s.some, .int .i64 s.prog, .int .i64 s.cmd, .slice D (Stn.data s).length dc, .int .i64 s.sent, .slice A s.n ac, .slice S s.n sc] b R MA3 mc3 RA' rc u D3 dc3 A3 ac3 S3 sc3 #[.int .i64 u.again, .int .i64 u.st, .int .i64 u.now, .int .i64 u.seq, .bool u.some, .int .i64 u.prog, .int .i64 u.cmd, .slice D3 (Stn.data u).length dc3, .int .i64 u.sent, .slice A3 u.n ac3, .slice S3 u.n sc3] w v1 v3 wx)
                case first =>
                  go_region_with (first | (go_at_call 11; refine (AC.out _ (by repeat (first | (with_reducible exact Below.refl _ _) | (with_reducible refine Below.drew ?_) | (with_reducible refine below_drewN ?_ _) | ((with_reducible refine Below.alloc ?_ ?_ _); rotate_left; (first | omega | (simp <;> omega)); rotate_right) | ((with_reducible refine Below.setCell ?_ ?_ _); rotate_left; (first | omega | (simp <;> omega)); rotate_right) | (with_reducible assumption) | (refine Below.trans ?_ (Below.mono (by assumption) ?_); rotate_left; (first | omega | (simp <;> omega)); rotate_right)))).mono ?_; rintro e w1 ⟨F, fc, MA1, mc1, D1, dc1, A1, ac1, S1, sc1, rfl, hP1, hk1, hb1⟩; have hz1 := hb1.size; (try simp at hz1); have k1 := hk1 R2 _ _ (by repeat (first | (with_reducible assumption) | ((with_reducible apply blk_far); rotate_left; (first | omega | (simp <;> omega)); rotate_right) | (with_reducible apply blk_drew) | (with_reducible apply blk_drewN) | (with_reducible exact heap_new _ _) | ((with_reducible apply heap_new'); (first | rfl | (simp <;> fail))) | (with_reducible apply blk_alloc))) oth_S; have k12 := hk1 R _ _ (by repeat (first | (with_reducible assumption) | ((with_reducible apply blk_far); rotate_left; (first | omega | (simp <;> omega)); rotate_right) | (with_reducible apply blk_drew) | (with_reducible apply blk_drewN) | (with_reducible exact heap_new _ _) | ((with_reducible apply heap_new'); (first | rfl | (simp <;> fail))) | (with_reducible apply blk_alloc))) oth_S; have HP1 := Lib.hid hP1; (try (have z1 : w1.heap[wr.heap.size]? = some (.cells #[.int .i64 0, .int .i64 0, .int .i64 0, .int .i64 0, .bool false, .int .i64 0, .int .i64 0, .slice none 0 0, .int .i64 0, .slice none 0 0, .slice none 0 0] 29 (0, 0)) := hk1 _ _ _ (by first | ((with_reducible apply heap_new'); (first | rfl | (simp <;> fail))) | ((with_reducible apply blk_drew); ((with_reducible apply heap_new'); (first | rfl | (simp <;> fail)))) | ((with_reducible apply blk_drewN); ((with_reducible apply heap_new'); (first | rfl | (simp <;> fail))))) oth_S; have cz_0 := blk_cell z1 0 rfl; have fz_0 := blk_free z1 0; have cz_1 := blk_cell z1 1 rfl; have fz_1 := blk_free z1 1; have cz_2 := blk_cell z1 2 rfl; have fz_2 := blk_free z1 2; have cz_3 := blk_cell z1 3 rfl; have fz_3 := blk_free z1 3; have cz_4 := blk_cell z1 4 rfl; have fz_4 := blk_free z1 4; have cz_5 := blk_cell z1 5 rfl; have fz_5 := blk_free z1 5; have cz_6 := blk_cell z1 6 rfl; have fz_6 := blk_free z1 6; have cz_7 := blk_cell z1 7 rfl; have fz_7 := blk_free z1 7; have cz_8 := blk_cell z1 8 rfl; have fz_8 := blk_free z1 8; have cz_9 := blk_cell z1 9 rfl; have fz_9 := blk_free z1 9; have cz_10 := blk_cell z1 10 rfl; have fz_10 := blk_free z1 10; have lz := lt_of_block z1)); (have cy_0 := blk_cell k1 0 rfl; have fy_0 := blk_free k1 0; have cy_1 := blk_cell k1 1 rfl; have fy_1 := blk_free k1 1; have cy_2 := blk_cell k1 2 rfl; have fy_2 := blk_free k1 2; have cy_3 := blk_cell k1 3 rfl; have fy_3 := blk_free k1 3; have cy_4 := blk_cell k1 4 rfl; have fy_4 := blk_free k1 4; have cy_5 := blk_cell k1 5 rfl; have fy_5 := blk_free k1 5; have cy_6 := blk_cell k1 6 rfl; have fy_6 := blk_free k1 6; have cy_7 := blk_cell k1 7 rfl; have fy_7 := blk_free k1 7; have cy_8 := blk_cell k1 8 rfl; have fy_8 := blk_free k1 8; have cy_9 := blk_cell k1 9 rfl; have fy_9 := blk_free k1 9; have cy_10 := blk_cell k1 10 rfl; have fy_10 := blk_free k1 10; have ly := lt_of_block k1); clear hP1 hk1 hb1; (try simp only [rsl])))
                  all_goals
                    first
                    | (have _g := z1
                       go_wp2_with fail
                       generalize hWx : World.setCell _ _ _ = Wx
                       have kN : Wx.heap[wr.heap.size]? = some (.cells #[.int .i64 s'.again, .int .i64 s'.st, .int .i64 s'.now, .int .i64 s'.seq, .bool s'.some, .int .i64 s'.prog, .int .i64 s'.cmd, .slice D1 (Stn.data s').length dc1, .int .i64 s'.sent, .slice A1 s'.n ac1, .slice S1 s'.n sc1] 29 (0, 0)) := by rw [← hWx]; exact (by apply Eq.trans; (repeat (first | (with_reducible assumption) | (with_reducible apply blk_set) | ((with_reducible apply blk_far); rotate_left; (first | omega | (simp <;> omega)); rotate_right) | (with_reducible apply blk_drew) | (with_reducible apply blk_drewN) | ((with_reducible apply heap_new'); (first | rfl | (simp <;> fail))) | (with_reducible apply blk_alloc))); (first | with_reducible rfl | (simp <;> fail) | rfl))
                       have kR : Wx.heap[R2]? = some (.cells #[.int .i64 s.again, .int .i64 s.st, .int .i64 s.now, .int .i64 s.seq, .bool s.some, .int .i64 s.prog, .int .i64 s.cmd, .slice D (Stn.data s).length dc, .int .i64 s.sent, .slice A s.n ac, .slice S s.n sc] 29 (0, 0)) := by rw [← hWx]; exact (by repeat (first | (with_reducible assumption) | ((with_reducible apply blk_far); rotate_left; (first | omega | (simp <;> omega)); rotate_right) | (with_reducible apply blk_drew) | (with_reducible apply blk_drewN) | (with_reducible exact heap_new _ _) | ((with_reducible apply heap_new'); (first | rfl | (simp <;> fail))) | (with_reducible apply blk_alloc)))
                       have kR2 : Wx.heap[R]? = some (.cells #[.int .i64 u.again, .int .i64 u.st, .int .i64 u.now, .int .i64 u.seq, .bool u.some, .int .i64 u.prog, .int .i64 u.cmd, .slice D3 (Stn.data u).length dc3, .int .i64 u.sent, .slice A3 u.n ac3, .slice S3 u.n sc3] 29 (0, 0)) := by rw [← hWx]; exact (by repeat (first | (with_reducible assumption) | ((with_reducible apply blk_far); rotate_left; (first | omega | (simp <;> omega)); rotate_right) | (with_reducible apply blk_drew) | (with_reducible apply blk_drewN) | (with_reducible exact heap_new _ _) | ((with_reducible apply heap_new'); (first | rfl | (simp <;> fail))) | (with_reducible apply blk_alloc)))
                       have hKx : Keeps (fun j => j = wr.heap.size) w1 Wx := by rw [← hWx]; (repeat (first | with_reducible exact Keeps.refl _ _ | (with_reducible refine Keeps.set1 ?_ _ _) | (with_reducible refine Keeps.drew ?_) | (with_reducible refine Keeps.drewN ?_ _) | (with_reducible refine Keeps.alloc ?_ _)))
                       clear hWx
                       go_meet
                       exact HP1.out.cut (by omega) hKx (by omega) (fun _ => ⟨_, z1⟩) hNR hNR2 kN kR kR2)
                    | (fail_if_success (have _g := z1)
                       go_wp2_with fail
                       generalize hWx : World.alloc _ _ = Wx
                       have kN : Wx.heap[w1.heap.size]? = some (.cells #[.int .i64 s'.again, .int .i64 s'.st, .int .i64 s'.now, .int .i64 s'.seq, .bool s'.some, .int .i64 s'.prog, .int .i64 s'.cmd, .slice D1 (Stn.data s').length dc1, .int .i64 s'.sent, .slice A1 s'.n ac1, .slice S1 s'.n sc1] 29 (0, 0)) := by rw [← hWx]; exact (heap_new _ _)
                       have kR : Wx.heap[R2]? = some (.cells #[.int .i64 s.again, .int .i64 s.st, .int .i64 s.now, .int .i64 s.seq, .bool s.some, .int .i64 s.prog, .int .i64 s.cmd, .slice D (Stn.data s).length dc, .int .i64 s.sent, .slice A s.n ac, .slice S s.n sc] 29 (0, 0)) := by rw [← hWx]; exact (by repeat (first | (with_reducible assumption) | ((with_reducible apply blk_far); rotate_left; (first | omega | (simp <;> omega)); rotate_right) | (with_reducible apply blk_drew) | (with_reducible apply blk_drewN) | (with_reducible exact heap_new _ _) | ((with_reducible apply heap_new'); (first | rfl | (simp <;> fail))) | (with_reducible apply blk_alloc)))
                       have kR2 : Wx.heap[R]? = some (.cells #[.int .i64 u.again, .int .i64 u.st, .int .i64 u.now, .int .i64 u.seq, .bool u.some, .int .i64 u.prog, .int .i64 u.cmd, .slice D3 (Stn.data u).length dc3, .int .i64 u.sent, .slice A3 u.n ac3, .slice S3 u.n sc3] 29 (0, 0)) := by rw [← hWx]; exact (by repeat (first | (with_reducible assumption) | ((with_reducible apply blk_far); rotate_left; (first | omega | (simp <;> omega)); rotate_right) | (with_reducible apply blk_drew) | (with_reducible apply blk_drewN) | (with_reducible exact heap_new _ _) | ((with_reducible apply heap_new'); (first | rfl | (simp <;> fail))) | (with_reducible apply blk_alloc)))
                       have hKx : Keeps (fun j => j = w1.heap.size) w1 Wx := by rw [← hWx]; (repeat (first | with_reducible exact Keeps.refl _ _ | (with_reducible refine Keeps.set1 ?_ _ _) | (with_reducible refine Keeps.drew ?_) | (with_reducible refine Keeps.drewN ?_ _) | (with_reducible refine Keeps.alloc ?_ _)))
                       clear hWx
                       go_meet
                       exact HP1.out.cut (by omega) hKx (by omega) (fun h => absurd h (by omega)) (by omega) (by omega) kN kR kR2)
                case rest =>
                  obtain ⟨N, MA', mc', D', dc', A', ac', S', sc', rfl, rfl, hNR', hNR2', hBN, kN, kR, kR2, hP⟩ := hcut
                  have hzc := hP.2.2.2.size
                  have HP := Lib.hid hP
                  have KR2 := Lib.hid kR2
                  have hRN' : R2 ≠ N := fun e => hNR' e.symm
                  have hR2N' : R ≠ N := fun e => hNR2' e.symm
                  simp only [rsl] at kN
                  clear hP ca_0 fa_0 ca_1 fa_1 ca_2 fa_2 ca_3 fa_3 ca_4 fa_4 ca_5 fa_5 ca_6 fa_6 ca_7 fa_7 ca_8 fa_8 ca_9 fa_9 ca_10 fa_10 hk hk2 c0 c7 c6 c5 c4 c3 c2 c1 AC
                  have cn_0 := blk_cell kN 0 rfl; have fn_0 := blk_free kN 0; have cn_1 := blk_cell kN 1 rfl; have fn_1 := blk_free kN 1; have cn_2 := blk_cell kN 2 rfl; have fn_2 := blk_free kN 2; have cn_3 := blk_cell kN 3 rfl; have fn_3 := blk_free kN 3; have cn_4 := blk_cell kN 4 rfl; have fn_4 := blk_free kN 4; have cn_5 := blk_cell kN 5 rfl; have fn_5 := blk_free kN 5; have cn_6 := blk_cell kN 6 rfl; have fn_6 := blk_free kN 6; have cn_7 := blk_cell kN 7 rfl; have fn_7 := blk_free kN 7; have cn_8 := blk_cell kN 8 rfl; have fn_8 := blk_free kN 8; have cn_9 := blk_cell kN 9 rfl; have fn_9 := blk_free kN 9; have cn_10 := blk_cell kN 10 rfl; have fn_10 := blk_free kN 10; have ln := lt_of_block kN
                  have cm_0 := blk_cell kR 0 rfl; have fm_0 := blk_free kR 0; have cm_1 := blk_cell kR 1 rfl; have fm_1 := blk_free kR 1; have cm_2 := blk_cell kR 2 rfl; have fm_2 := blk_free kR 2; have cm_3 := blk_cell kR 3 rfl; have fm_3 := blk_free kR 3; have cm_4 := blk_cell kR 4 rfl; have fm_4 := blk_free kR 4; have cm_5 := blk_cell kR 5 rfl; have fm_5 := blk_free kR 5; have cm_6 := blk_cell kR 6 rfl; have fm_6 := blk_free kR 6; have cm_7 := blk_cell kR 7 rfl; have fm_7 := blk_free kR 7; have cm_8 := blk_cell kR 8 rfl; have fm_8 := blk_free kR 8; have cm_9 := blk_cell kR 9 rfl; have fm_9 := blk_free kR 9; have cm_10 := blk_cell kR 10 rfl; have fm_10 := blk_free kR 10; have lm := lt_of_block kR
                  go_wp2_with fail
                  generalize hWy : World.setCell _ _ _ = Wy
                  have kS : Wy.heap[R2]? = some (.cells #[.int .i64 s'.again, .int .i64 s'.st, .int .i64 s'.now, .int .i64 s'.seq, .bool s'.some, .int .i64 s'.prog, .int .i64 s'.cmd, .slice D' (Stn.data s').length dc', .int .i64 s'.sent, .slice A' s'.n ac', .slice S' s'.n sc'] 29 (0, 0)) := by rw [← hWy]; exact (by apply Eq.trans; (repeat (first | (with_reducible assumption) | (with_reducible apply blk_set) | ((with_reducible apply blk_far); rotate_left; (first | omega | (simp <;> omega)); rotate_right) | (with_reducible apply blk_drew) | (with_reducible apply blk_drewN) | ((with_reducible apply heap_new'); (first | rfl | (simp <;> fail))) | (with_reducible apply blk_alloc))); (first | with_reducible rfl | (simp <;> fail) | rfl))
                  have kS2 : Wy.heap[R]? = some (.cells #[.int .i64 u.again, .int .i64 u.st, .int .i64 u.now, .int .i64 u.seq, .bool u.some, .int .i64 u.prog, .int .i64 u.cmd, .slice D3 (Stn.data u).length dc3, .int .i64 u.sent, .slice A3 u.n ac3, .slice S3 u.n sc3] 29 (0, 0)) := by rw [← hWy]; have kR2 := KR2.out; exact (by repeat (first | (with_reducible assumption) | ((with_reducible apply blk_far); rotate_left; (first | omega | (simp <;> omega)); rotate_right) | (with_reducible apply blk_drew) | (with_reducible apply blk_drewN) | (with_reducible exact heap_new _ _) | ((with_reducible apply heap_new'); (first | rfl | (simp <;> fail))) | (with_reducible apply blk_alloc)))
                  have hKy : Keeps (fun j => j = R2) wc Wy := by rw [← hWy]; (repeat (first | with_reducible exact Keeps.refl _ _ | (with_reducible refine Keeps.set1 ?_ _ _) | (with_reducible refine Keeps.drew ?_) | (with_reducible refine Keeps.drewN ?_ _) | (with_reducible refine Keeps.alloc ?_ _)))
                  have HPy := Lib.hid (HP.out.store hKy (by omega) (fun _ => ⟨_, kR⟩) oth_S (by omega))
                  have KS := Lib.hid kS
                  have KS2 := Lib.hid kS2
                  clear hWy hKy kS kS2 kN kR
                  go_roundw
                  case rel => exact ⟨i + 1, s', _, _, _, _, _, _, _, _, by go_num, by omega, HPy, KS, KS2⟩
                  case measure => simp [intOf]; omega
              · obtain rfl : i = len3 := by omega
                clear hlt
                have hP2 := HP.out.swap
                have SH1 := Lib.hid (hP2.1.sb hP2.2.2.2).shows
                have SH2 := Lib.hid (fun (W : World) (hW : Below wr.heap.size wr W) => ((HP.out.below hW hzr).1.sb (HP.out.below hW hzr).2.2.2).shows)
                have hB' := HP.out.2.2.2
                have hkR := HK2.out
                have hkR2 := HK.out
                have hRl := lt_of_block hkR
                have hR2l := lt_of_block hkR2
                simp only [rsl] at SH1 SH2 hkR hkR2
                have HB' := Lib.hid hB'
                have HKR2 := Lib.hid hkR2
                clear hP2 hB' HP HK HK2 hkR2
                have cn_0 := blk_cell hkR 0 rfl; have fn_0 := blk_free hkR 0; have cn_1 := blk_cell hkR 1 rfl; have fn_1 := blk_free hkR 1; have cn_2 := blk_cell hkR 2 rfl; have fn_2 := blk_free hkR 2; have cn_3 := blk_cell hkR 3 rfl; have fn_3 := blk_free hkR 3; have cn_4 := blk_cell hkR 4 rfl; have fn_4 := blk_free hkR 4; have cn_5 := blk_cell hkR 5 rfl; have fn_5 := blk_free hkR 5; have cn_6 := blk_cell hkR 6 rfl; have fn_6 := blk_free hkR 6; have cn_7 := blk_cell hkR 7 rfl; have fn_7 := blk_free hkR 7; have cn_8 := blk_cell hkR 8 rfl; have fn_8 := blk_free hkR 8; have cn_9 := blk_cell hkR 9 rfl; have fn_9 := blk_free hkR 9; have cn_10 := blk_cell hkR 10 rfl; have fn_10 := blk_free hkR 10; have ln := lt_of_block hkR
                go_wp2_with fail
                refine SH1.out.mono ?_
                rintro e w8 ⟨rfl, hb8⟩
                have k8 := blk_below HKR2.out hb8 hR2l
                have HB8 := Lib.hid hb8
                clear hb8
                have cm_0 := blk_cell k8 0 rfl; have fm_0 := blk_free k8 0; have cm_1 := blk_cell k8 1 rfl; have fm_1 := blk_free k8 1; have cm_2 := blk_cell k8 2 rfl; have fm_2 := blk_free k8 2; have cm_3 := blk_cell k8 3 rfl; have fm_3 := blk_free k8 3; have cm_4 := blk_cell k8 4 rfl; have fm_4 := blk_free k8 4; have cm_5 := blk_cell k8 5 rfl; have fm_5 := blk_free k8 5; have cm_6 := blk_cell k8 6 rfl; have fm_6 := blk_free k8 6; have cm_7 := blk_cell k8 7 rfl; have fm_7 := blk_free k8 7; have cm_8 := blk_cell k8 8 rfl; have fm_8 := blk_free k8 8; have cm_9 := blk_cell k8 9 rfl; have fm_9 := blk_free k8 9; have cm_10 := blk_cell k8 10 rfl; have fm_10 := blk_free k8 10; have lm := lt_of_block k8
                go_wp2_with fail
                refine (SH2.out _ HB8.out).mono ?_
                rintro e w9 ⟨rfl, hb9⟩
                have HB9 := Lib.hid (HB8.out.trans (hb9.mono HB8.out.size))
                clear hb9
                go_wp2_with fail
                refine (known_true _).mono ?_
                rintro e w10 ⟨rfl, hb10⟩
                have HB10 := Lib.hid (HB9.out.trans (hb10.mono HB9.out.size))
                clear hb10
                go_wp2_with fail
                go_ret
                exact ⟨rfl, HB'.out.trans (HB10.out.mono hzr)⟩
theorem own : ownKnob Try.prog.godebug = none := by kernel_rfl
theorem laidOut : laidOutB Try.prog = true := by kernel_rfl
set_option maxRecDepth 100000 in
theorem lifted (os : Os) (started : os.Started) (H : Type) (enc : TypeId × Value → H) :
    ReturnsInHanded {} Try.checked os 6 .any (Rows.stationCopiesSpec.pre6 enc Try.prog Try.f6 Rows.stationCopiesRow.domain false) (Rows.stationCopiesSpec.post enc Try.prog Try.f6 false true false false) := by
  refine returnsInHanded_of_change (C := Try.checked) own started (by kernel_rfl) Try.func6
    (ChangeSpec.witness6 (enc := enc) (C := Try.checked) false ⟨#[], #[.int .i64 0, .slice none 0 0, .slice none 0 0, .slice none 0 0], []⟩ 8 (by kernel_rfl) (by kernel_rfl) (by kernel_rfl) (by kernel_rfl)) ?_
  intro W base args ds gs before hval0 hW hcnd _
  have hval : ∀ (j : Nat) t v, Try.f6.params[j]? = some t → args[j]? = some v → Value.okWide Try.prog W .any base t v := hval0
  have hW' := hW
  obtain ⟨p, q, hA0, hV, rfl, hfz, hnd⟩ := hW
  have hA : DataW.TrodAll enc Try.prog W 0 (fun _ => true) true Try.f6.params.toList args.toList ds p := hA0
  rw [Try.params6] at hA hval
  obtain ⟨v0, vs0, d0, ds0, p0, q0, hargs, rfl, rfl, h0, r0⟩ := trodAll_cons hA
  obtain ⟨v1, vs1, d1, ds1, p1, q1, rfl, rfl, rfl, h1, r1⟩ := trodAll_cons r0
  obtain ⟨v2, vs2, d2, ds2, p2, q2, rfl, rfl, rfl, h2, r2⟩ := trodAll_cons r1
  obtain ⟨v3, vs3, d3, ds3, p3, q3, rfl, rfl, rfl, h3, r3⟩ := trodAll_cons r2
  obtain ⟨rfl, rfl, rfl⟩ := trodAll_nil r3
  obtain rfl : args = #[v0, v1, v2, v3] := by cases args; simp_all
  obtain ⟨rfl, rfl⟩ := trodVars_none hV
  have k0 := h0
  have lt0 : ∀ x ∈ p0, x.block < W.heap.size := by obtain ⟨m, hm⟩ := k0; exact DataW.trod_lt m _ _ _ hm
  obtain ⟨a0, rfl, _, _, w0⟩ := open_int Try.underlying3 (hval 0 3 v0 rfl rfl) h0
  have k1 := h1
  have lt1 : ∀ x ∈ p1, x.block < W.heap.size := by obtain ⟨m, hm⟩ := k1; exact DataW.trod_lt m _ _ _ hm
  obtain ⟨a1, len1, cap1, rfl⟩ := okWide_slice Try.underlying34 (hval 1 34 v1 rfl rfl)
  obtain ⟨fuel1, hf1⟩ := h1
  obtain ⟨xa1, xlen1, xcap1, l1, xe1, ro1, wo1, fo1⟩ := lacts_of hf1
  obtain ⟨rfl, rfl, rfl⟩ : a1 = xa1 ∧ len1 = xlen1 ∧ cap1 = xcap1 := by injection xe1 with e1 e2 e3; exact ⟨e1, e2, e3⟩
  have k2 := h2
  have lt2 : ∀ x ∈ p2, x.block < W.heap.size := by obtain ⟨m, hm⟩ := k2; exact DataW.trod_lt m _ _ _ hm
  obtain ⟨a2, len2, cap2, rfl⟩ := okWide_slice Try.underlying34 (hval 2 34 v2 rfl rfl)
  obtain ⟨fuel2, hf2⟩ := h2
  obtain ⟨xa2, xlen2, xcap2, l2, xe2, ro2, wo2, fo2⟩ := lacts_of hf2
  obtain ⟨rfl, rfl, rfl⟩ : a2 = xa2 ∧ len2 = xlen2 ∧ cap2 = xcap2 := by injection xe2 with e1 e2 e3; exact ⟨e1, e2, e3⟩
  have k3 := h3
  have lt3 : ∀ x ∈ p3, x.block < W.heap.size := by obtain ⟨m, hm⟩ := k3; exact DataW.trod_lt m _ _ _ hm
  obtain ⟨a3, len3, cap3, rfl⟩ := okWide_slice Try.underlying34 (hval 3 34 v3 rfl rfl)
  obtain ⟨fuel3, hf3⟩ := h3
  obtain ⟨xa3, xlen3, xcap3, l3, xe3, ro3, wo3, fo3⟩ := lacts_of hf3
  obtain ⟨rfl, rfl, rfl⟩ : a3 = xa3 ∧ len3 = xlen3 ∧ cap3 = xcap3 := by injection xe3 with e1 e2 e3; exact ⟨e1, e2, e3⟩
  clear hA0 hval0
  refine (walk a0 a1 len1 cap1 l1 a2 len2 cap2 l2 a3 len3 cap3 l3 W w0 wo1 ro1 fo1 wo2 ro2 fo2 wo3 ro3 fo3).mono fun e W' ⟨he, bel⟩ => ?_
  subst he
  exact ⟨_, rfl, _, _, _, [], _, [], hW', trodAll_mk1 (shut_bool Try.underlying4 _), (trodAll_cons_mk (Below.trod laidOut (by kernel_rfl) (of_decide_eq_true (by kernel_rfl)) k0 bel lt0) (trodAll_cons_mk (Below.trod laidOut (by kernel_rfl) (of_decide_eq_true (by kernel_rfl)) k1 bel lt1) (trodAll_cons_mk (Below.trod laidOut (by kernel_rfl) (of_decide_eq_true (by kernel_rfl)) k2 bel lt2) (trodAll_cons_mk (Below.trod laidOut (by kernel_rfl) (of_decide_eq_true (by kernel_rfl)) k3 bel lt3) trodAll_mk0)))), rfl, bel.frame _, fun h => by cases h⟩
theorem over : Rows.stationCopiesRow.holds Try.pinned (OpenSpec.ofChange Rows.stationCopiesSpec) :=
  OpenClaim.holds_of_wide 6 Try.f6 rfl rfl rfl rfl rfl rfl rfl ⟨rfl, rfl, rfl, rfl, rfl⟩ rfl rfl rfl rfl rfl (by kernel_rfl) Try.func6 (by kernel_rfl)
    (of_decide_eq_true (by kernel_rfl)) (by unfold Func.isWrapper; first | (rw [if_pos (by decide +kernel)]; kernel_rfl) | (rw [if_neg (by decide +kernel)]; exact ⟨rfl, rfl⟩))
    (fun os started H enc _ => lifted os started H enc)
theorem proved : Rows.StationCopiesSaid := over
end Go.Proofs.Ytiidkmnagfhgiaa.lawStationCopies

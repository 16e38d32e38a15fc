/- A link and its reference while calls go on: what a round keeps. -/
import Derived.Test.YtgdpoiapkaahfaaLkAf
namespace Go.Proofs.Ytgdpoiapkaahfaa
open Go.RowKit
set_option maxHeartbeats 4000000
set_option linter.unusedSimpArgs false
set_option linter.unusedVariables false
/-- link b (its row at A) and the reference in box R (its row at A'), while calls go on since V: no block of Z turns but R; the link's blocks are of Y, or new -/
structure AS (base b R : Nat) (Z Y : Nat → Prop) (r : Lnk.Ru) (V wr : World) (A : Option Addr) (c : Nat) (A' : Option Addr) (c' : Nat) (s : Lnk.St) : Prop where
  lk : IsLk wr base b A c r s
  inv : Lnk.Inv s
  le : s.u.length ≤ c'
  box : wr.heap[R]? = some (.cells (rll r s A' s.u.length c').toArray 28 (0, 0))
  way : RWay wr (fun j => base ≤ j ∧ ¬ Z j ∧ ¬ Two b A j) A' s.u.length s.u
  two : ∀ j, Two b A j → Y j ∨ V.heap.size ≤ j
  keep : Keeps (fun j => Y j ∨ j = R) V wr
structure AZ (base R : Nat) (Z Y : Nat → Prop) (V : World) : Prop where
  zR : Z R
  zl : ∀ j, Z j → j < V.heap.size
  yz : ∀ j, Y j → ¬ Z j
/-- behind a call, ahead of the stores -/
structure AM (base b R : Nat) (Z Y : Nat → Prop) (r : Lnk.Ru) (V : World) (H0 H1 : Nat) (w1 : World) (A1 : Option Addr) (c1 : Nat) (A2 : Option Addr) (c2 : Nat) (s' : Lnk.St) : Prop where
  lk : IsLk w1 base b A1 c1 r s'
  inv : Lnk.Inv s'
  le : s'.u.length ≤ c2
  way : RWay w1 (fun j => (base ≤ j ∧ ¬ Z j ∧ ¬ Two b A1 j) ∧ (j < H0 ∨ H1 ≤ j)) A2 s'.u.length s'.u
  two : ∀ j, Two b A1 j → (Y j ∨ V.heap.size ≤ j) ∧ (j < H0 ∨ H1 ≤ j)
  keep : Keeps (fun j => Y j ∨ j = R) V w1
  sz : H0 ≤ H1 ∧ V.heap.size ≤ H0
section
variable {base b R c c' : Nat} {Z Y : Nat → Prop} {r : Lnk.Ru} {V wr W : World} {A A' : Option Addr} {s : Lnk.St}
theorem AS.nz (h : AS base b R Z Y r V wr A c A' c' s) (hz : AZ base R Z Y V) : ∀ j, Two b A j → ¬ Z j := fun j hj hZ => by
  rcases h.two j hj with h1 | h1
  · exact hz.yz j h1 hZ
  · have := hz.zl j hZ; omega
theorem AS.rl (h : AS base b R Z Y r V wr A c A' c' s) : R < wr.heap.size := lt_of_block h.box
theorem AS.below (h : AS base b R Z Y r V wr A c A' c' s) {w' : World} (k : Below wr.heap.size wr w') : AS base b R Z Y r V w' A c A' c' s :=
  ⟨h.lk.below k (Nat.le_refl _), h.inv, h.le, blk_below h.box k h.rl, (h.way.bound.below k (fun i hi => hi.2)).mono (fun i hi => hi.1), h.two, h.keep.trans (Keeps.of_below (S := fun _ => False) k) (fun _ _ h => h.elim)⟩
theorem AS.start (hL : IsLk V base b A c r s) (hi : Lnk.Inv s) (hc : s.u.length ≤ c') (hb : V.heap[R]? = some (.cells (rll r s A' s.u.length c').toArray 28 (0, 0)))
    (hw : RWay V (fun j => base ≤ j ∧ ¬ Z j ∧ ¬ Two b A j) A' s.u.length s.u) : AS base b R Z (Two b A) r V V A c A' c' s :=
  ⟨hL, hi, hc, hb, hw, fun _ h => .inl h, Keeps.refl _ _⟩
theorem AS.shows (h : AS base b R Z Y r V wr A c A' c' s) :
    Calls Try.prog 15 #[.pointer (some ⟨b, 0, none⟩), rlv r s A' s.u.length c'] wr fun e w' => e = .returned (.bool true) ∧ Below wr.heap.size wr w' :=
  shows_yes base b c A r s A' s.u.length c' wr h.lk h.inv rfl _ h.way
def ACall (base b R : Nat) (Z Y : Nat → Prop) (r : Lnk.Ru) (V : World) (A : Option Addr) (H0 : Nat) (s' : Lnk.St) (W : World) (e : Ending) (w1 : World) : Prop :=
  ∃ A1 c1 A2 c2 H1, e = .returned (.tuple #[rlv r s' A2 s'.u.length c2, .bool true]) ∧ W.heap.size ≤ H1 ∧ H1 ≤ w1.heap.size ∧ Hid (AM base b R Z Y r V H0 H1 w1 A1 c1 A2 c2 s') ∧ Hid (Keeps (Two b A) W w1)
theorem as_call (h : AS base b R Z Y r V wr A c A' c' s) (hz : AZ base R Z Y V) (hr : Lnk.vld r = true) (hsent : s.sent < 1000000000) (hbase : base ≤ wr.heap.size) (x : LAct) (D E : Option Addr) (cd ce : Nat) (hW : Below wr.heap.size wr W)
    (hx1 : x.d.length ≤ 200) (hx2 : x.f.d.length ≤ 100) (hd : Rd W W.heap.size D x.d.length x.d) (he : Rd W W.heap.size E x.f.d.length x.f.d) :
    Calls Try.prog 14 #[.pointer (some ⟨b, 0, none⟩), rlv r s A' s.u.length c', .agg #[.int .i64 x.kind, .int .i64 x.now, .slice D x.d.length cd, .int .i64 x.f.k, .int .i64 x.f.f, .int .i64 x.f.t, .int .i64 x.f.s, .slice E x.f.d.length ce]] W (ACall base b R Z Y r V A wr.heap.size (actS r s x) W) := by
  have hzW := hW.size
  have h' := h.below hW
  have hT := h.lk.two
  have hVs := h.keep.size
  refine (act_any base b c A r s A' s.u.length c' x D E cd ce W h'.lk hr h.inv hsent rfl h.le (by omega) (fun j => (base ≤ j ∧ ¬ Z j ∧ ¬ Two b A j) ∧ j < wr.heap.size) (h.way.bound.below hW (fun i hi => hi.2)) (fun i hi => hi.1.2.2) hx1 hx2 hd he).mono ?_
  rintro e w1 ⟨A1, c1, A2, c2, rfl, hw1, hc2, hl1, hk1, hat⟩
  have hz1 := hk1.size
  have hT1 : ∀ j, Two b A1 j → Two b A j ∨ W.heap.size ≤ j := fun j hj => by
    rcases Nat.lt_or_ge j W.heap.size with hl | hl
    · exact .inl (two_new (b := b) hat j hl hj)
    · exact .inr hl
  refine ⟨A1, c1, A2, c2, W.heap.size, rfl, Nat.le_refl _, hz1, Lib.hid ⟨hl1, inv_actS hr h.inv hd.2.1 he.2.1 hsent, hc2, ?_, ?_, ?_, hzW, by omega⟩, Lib.hid hk1⟩
  · refine hw1.mono (fun i hi => ?_)
    rcases hi.1 with h1 | h1
    · exact ⟨⟨h1.1.1, h1.1.2.1, hi.2⟩, .inl h1.2⟩
    · exact ⟨⟨by omega, fun hZ => by have := hz.zl i hZ; omega, hi.2⟩, .inr h1⟩
  · intro j hj
    rcases hT1 j hj with h1 | h1
    · exact ⟨h.two j h1, .inl (hT j h1)⟩
    · exact ⟨.inr (by omega), .inr h1⟩
  · refine h'.keep.trans hk1 (fun i hi hi2 => ?_)
    rcases h.two i hi2 with h1 | h1
    · exact .inl h1
    · omega
theorem AM.store {H0 H1 : Nat} {w1 Wy : World} {A1 A2 : Option Addr} {c1 c2 : Nat} {s' : Lnk.St} (m : AM base b R Z Y r V H0 H1 w1 A1 c1 A2 c2 s') (hz : AZ base R Z Y V) (hk : Keeps (fun j => j = R ∨ (H0 ≤ j ∧ j < H1)) w1 Wy)
    (hb : Wy.heap[R]? = some (.cells (rll r s' A2 s'.u.length c2).toArray 28 (0, 0))) : AS base b R Z Y r V Wy A1 c1 A2 c2 s' := by
  have hsz := m.sz
  have hnz : ∀ j, Two b A1 j → ¬ Z j := fun j hj hZ => by
    rcases (m.two j hj).1 with h1 | h1
    · exact hz.yz j h1 hZ
    · have := hz.zl j hZ; omega
  refine ⟨m.lk.kept hk (fun j hj hS => ?_), m.inv, m.le, hb, (m.way.keep hk (fun i hi hS => ?_)).mono (fun i hi => hi.1), fun j hj => (m.two j hj).1, m.keep.trans hk (fun i hi hS => ?_)⟩
  · rcases hS with rfl | hS
    · exact hnz _ hj hz.zR
    · have := (m.two j hj).2; omega
  · rcases hS with rfl | hS
    · exact hi.1.2.1 hz.zR
    · have := hi.2; omega
  · rcases hS with rfl | hS
    · exact .inr rfl
    · omega
theorem AM.box {H0 H1 : Nat} {w1 Wx : World} {A1 A2 : Option Addr} {c1 c2 : Nat} {s' : Lnk.St} (m : AM base b R Z Y r V H0 H1 w1 A1 c1 A2 c2 s') (N : Nat) (hN : (H0 ≤ N ∧ N < H1) ∨ w1.heap.size ≤ N) (hk : Keeps (fun j => H0 ≤ j ∧ j < H1) w1 Wx) :
    AM base b R Z Y r V N (N + 1) Wx A1 c1 A2 c2 s' := by
  have hsz := m.sz
  have hz1 := m.keep.size
  have hT := m.lk.two
  refine ⟨m.lk.kept hk (fun j hj hS => by have := (m.two j hj).2; omega), m.inv, m.le, (m.way.bound.keep hk (fun i hi hS => by have := hi.1.2; omega)).mono (fun i hi => ⟨hi.1.1, by have := hi.1.2; have := hi.2; omega⟩), fun j hj => ⟨(m.two j hj).1, by have := (m.two j hj).2; have := hT j hj; omega⟩, m.keep.trans hk (fun i hi hS => by omega), by omega, by omega⟩
/-- a call whose reference's result lies in a box of its own -/
def MCut (base b R : Nat) (Z Y : Nat → Prop) (r : Lnk.Ru) (V : World) (s : Lnk.St) (A' : Option Addr) (c' : Nat) (s' : Lnk.St) (v16 v17 : Value) (wx : World) : Prop :=
  ∃ N A1 c1 A2 c2, v16 = .pointer (some ⟨N, 0, none⟩) ∧ v17 = .bool true ∧ V.heap.size ≤ N ∧ wx.heap[N]? = some (.cells (rll r s' A2 s'.u.length c2).toArray 28 (0, 0)) ∧
    wx.heap[R]? = some (.cells (rll r s A' s.u.length c').toArray 28 (0, 0)) ∧ AM base b R Z Y r V N (N + 1) wx A1 c1 A2 c2 s'
def ACut (base b R : Nat) (Z Y : Nat → Prop) (r : Lnk.Ru) (V : World) (s' : Lnk.St) (wx : World) : Prop := ∃ A1 c1 A2 c2, AS base b R Z Y r V wx A1 c1 A2 c2 s'
def CpCut (r : Lnk.Ru) (s : Lnk.St) (wr : World) (A' : Option Addr) (c' : Nat) (v13 v14 : Value) (wx : World) : Prop :=
  ∃ b2 A2 c2 R2, v13 = .pointer (some ⟨b2, 0, none⟩) ∧ v14 = .pointer (some ⟨R2, 0, none⟩) ∧ wr.heap.size ≤ R2 ∧ IsLk wx wr.heap.size b2 A2 c2 r s ∧ wx.heap[R2]? = some (.cells (rll r s A' s.u.length c').toArray 28 (0, 0)) ∧
    (∀ j, Two b2 A2 j → j ≠ R2) ∧ Below wr.heap.size wr wx
theorem IsLk.lower (h : IsLk wr base b A c r s) {base' : Nat} (hb : base' ≤ base) : IsLk wr base' b A c r s := ⟨h.blk, h.row.more hb, Nat.le_trans hb h.ge⟩
end
end Go.Proofs.Ytgdpoiapkaahfaa

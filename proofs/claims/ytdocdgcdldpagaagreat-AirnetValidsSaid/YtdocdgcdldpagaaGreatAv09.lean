import Derived.Test.YtdocdgcdldpagaaGreatAp
import Derived.Test.YtdocdgcdldpagaaGreatAv02
import Derived.Test.YtdocdgcdldpagaaGreatAv03
import Derived.Test.YtdocdgcdldpagaaGreatAv05
import Derived.Test.YtdocdgcdldpagaaGreatAv08
import Derived.Test.YtdocdgcdldpagaaGreatAv01
namespace Go.Proofs.YtdocdgcdldpagaaGreat
open Go.RowKit
set_option maxHeartbeats 4000000
set_option linter.unusedSimpArgs false
set_option linter.unusedVariables false
structure FV where
  x : Fr
  A : Option Addr
  cap : Nat
def FV.cells (v : FV) : List Value := [.int .i64 v.x.k, .int .i64 v.x.f, .int .i64 v.x.t, .int .i64 v.x.s, .slice v.A v.x.d.length v.cap]
theorem FV.cells_at : ∀ (vs : List FV) (i j : Nat) (h : i < vs.length), j < 5 → (vs.flatMap FV.cells)[i * 5 + j]? = (FV.cells vs[i])[j]?
  | [], i, j, h, _ => by simp at h
  | v :: vs, 0, j, h, hj => by
    rw [List.flatMap_cons, List.getElem?_append_left (by simp [FV.cells]; omega)]
    simp
  | v :: vs, i + 1, j, h, hj => by
    rw [List.flatMap_cons, List.getElem?_append_right (by simp [FV.cells]; omega)]
    rw [show (i + 1) * 5 + j - (FV.cells v).length = i * 5 + j by simp [FV.cells]; omega]
    rw [FV.cells_at vs i j C4 hj]
    simp
def Rof (w : World) (base : Nat) (v : Value) (l : List Fr) : Prop :=
  ∃ vs : List FV, vs.map (·.x) = l ∧ w.ownsRow base 147 5 v l.length (vs.flatMap FV.cells) ∧ ∀ y ∈ vs, Ow w base y.A y.x.d.length y.cap y.x.d
section
variable {w w' : World} {base : Nat} {v : Value} {l : List Fr}
theorem own_ne {b1 b2 s1 s2 n1 n2 : Nat} {e1 e2 : TypeId} {v1 v2 : Value} {x1 x2 : List Value} (h : w.ownsRow b1 e1 s1 v1 n1 x1) (g : w.ownsRow b2 e2 s2 v2 n2 x2) (hne : e1 ≠ e2) (q : Nat) (h1 : v1.ownBlock = some q) : some q ≠ v2.ownBlock := by
  intro h2
  rcases h.2 with ⟨e, _⟩ | ⟨a, _, _, e, _, ha, _⟩
  · rw [e] at h1; cases h1
  · rcases g.2 with ⟨e', _⟩ | ⟨c, _, _, e', _, hc, _⟩
    · rw [e'] at h2; cases h2
    · rw [e] at h1; rw [e'] at h2
      obtain rfl : a = q := by simpa [Value.ownBlock] using h1
      obtain rfl : a = c := by simpa [Value.ownBlock] using h2
      rw [ha] at hc
      injection hc with hc
      injection hc with _ hc
      exact hne hc
theorem Rof.nil (w : World) (base : Nat) : Rof w base (.slice none 0 0) [] := ⟨[], rfl, World.ownsRow_nil w base _ _, fun y hy => by cases hy⟩
theorem Rof.len {A : Option Addr} {n cap : Nat} (h : Rof w base (.slice A n cap) l) : l.length = n := by
  obtain ⟨vs, _, h2, _⟩ := h
  rcases h2.2 with ⟨e, h0⟩ | ⟨g, c, cur, e, _⟩
  · injection e with _ e _; omega
  · injection e with _ e _; omega
theorem Rof.form (h : Rof w base v l) : ∃ A cap, v = .slice A l.length cap := by
  obtain ⟨vs, _, h2, _⟩ := h
  rcases h2.2 with ⟨rfl, h0⟩ | ⟨g, c, cur, rfl, _⟩
  · exact ⟨none, 0, by rw [h0]⟩
  · exact ⟨_, _, rfl⟩
theorem Rof.below {B : Nat} (h : Rof w base v l) (k : Below B w w') (hB : w.heap.size ≤ B) : Rof w' base v l := by
  obtain ⟨vs, h1, h2, h3⟩ := h
  refine ⟨vs, h1, h2.kept (row := none) ⟨k.os, k.tape, k.output, k.size, fun i hi _ => k.block i Cb⟩ ?_, fun y hy => (h3 y hy).below k hB⟩
  rcases h2.2 with ⟨rfl, _⟩ | ⟨g, c, cur, rfl, _⟩
  · left; rfl
  · right; simp [Value.ownBlock]
theorem Rof.drewN (h : Rof w base v l) (q : Nat) : Rof (w.drewN q) base v l := h
theorem Rof.drew (h : Rof w base v l) : Rof w.drew base v l := h
theorem Rof.alloc (h : Rof w base v l) (o : Obj) : Rof (w.alloc o) base v l := h.below ((Below.refl w.heap.size w).alloc (Nat.le_refl _) o) (Nat.le_refl _)
theorem Rof.more {base' : Nat} (h : Rof w base v l) (hb : base' ≤ base) : Rof w base' v l := by
  obtain ⟨vs, h1, h2, h3⟩ := h
  refine ⟨vs, h1, ⟨h2.1, ?_⟩, fun y hy => (h3 y hy).more hb⟩
  rcases h2.2 with e | ⟨g, c, cur, e, hb', rest⟩
  · exact .inl e
  · exact .inr ⟨g, c, cur, e, by omega, rest⟩
theorem Rof.append {v' : Value} {vs : List FV} {y : FV} (h1 : vs.map (·.x) = l) (h2 : w.ownsRow base 147 5 v l.length (vs.flatMap FV.cells)) (h3 : ∀ y ∈ vs, Ow w base y.A y.x.d.length y.cap y.x.d) (hy : Ow w base y.A y.x.d.length y.cap y.x.d)
    (hg : w.grownBy w' v.ownBlock) (ho : w'.ownsRow base 147 5 v' (l.length + 1) (vs.flatMap FV.cells ++ y.cells)) : Rof w' base v' (l ++ [y.x]) := by
  refine ⟨vs ++ [y], by simp [h1], ?_, fun z hz => ?_⟩
  · rw [List.length_append, List.flatMap_append]
    simpa using ho
  · have hz' : Ow w base z.A z.x.d.length z.cap z.x.d := by
      rcases List.mem_append.1 hz with h | h
      · exact h3 z h
      · rw [List.mem_singleton.1 h]; exact hy
    exact hz'.grown hg (fun g e => own_ne hz'.1 h2 C8 g (by rw [e]; rfl))
theorem Rof.rf {A : Option Addr} {n cap : Nat} (h : Rof w base (.slice A n cap) l) : Rf w w.heap.size A n l := by
  have hl := h.len
  obtain ⟨vs, h1, h2, h3⟩ := h
  rw [hl] at h2
  refine ⟨hl, fun hn => ?_⟩
  rcases h2.2 with ⟨_, h0⟩ | ⟨g, c, cur, e, _, hh, _⟩
  · omega
  · injection e with e1 e2 e3
    subst e1; subst e3
    refine ⟨g, 0, rfl, lt_of_block hh, fun i hi => ?_⟩
    have hvl : vs.length = n := by rw [← hl, ← h1]; simp
    have hiv : i < vs.length := by omega
    have hx : l.getD i fr0 = vs[i].x := by rw [← h1]; simp [List.getD, List.getElem?_eq_getElem hiv]
    rw [hx]
    have hc : ∀ j u, j < 5 → (FV.cells vs[i])[j]? = some u → w.cell? ⟨g, i * 5 + j, none⟩ = some u := fun j u hj hu => by
      have := World.ownsRow.cellAt h2 (g := g) (i * 5 + j) Cb
      rw [this, FV.cells_at vs i j hiv hj, hu]
    have ho := h3 vs[i] (List.getElem_mem hiv)
    refine ⟨vs[i].A, vs[i].cap, ?_, ?_, ?_, ?_, ?_, ho.rd, ?_, ?_, ?_⟩
    · have := hc 0 _ Cb rfl; simpa using this
    · have := hc 1 _ Cb rfl; simpa using this
    · have := hc 2 _ Cb rfl; simpa using this
    · have := hc 3 _ Cb rfl; simpa using this
    · have := hc 4 _ Cb rfl; simpa using this
    · intro hA
      rcases ho.form with ⟨_, hz, hcp⟩ | ⟨q, hq, _⟩
      · exact ⟨hz, hcp⟩
      · rw [hA] at hq; cases hq
    · rcases ho.form with ⟨_, hz, hcp⟩ | ⟨q, hq, _, _, hle, _⟩ <;> omega
    · rcases ho.form with ⟨_, hz, hcp⟩ | ⟨q, hq, _, _, _, hle⟩
      · rw [hcp]; exact Nat.zero_le _
      · exact hle
end
theorem own_below {base size n : Nat} {e : TypeId} {v : Value} {xs : List Value} {w w' : World} (h : w.ownsRow base e size v n xs) (k : Below w.heap.size w w') : w'.ownsRow base e size v n xs := by
  refine h.kept (row := none) ⟨k.os, k.tape, k.output, k.size, fun i hi _ => k.block i hi⟩ ?_
  rcases h.2 with ⟨rfl, _⟩ | ⟨g, c, cur, rfl, _⟩
  · left; rfl
  · right; simp [Value.ownBlock]
theorem own_far {base size n : Nat} {e : TypeId} {v : Value} {xs : List Value} {w : World} {p : Addr} (h : w.ownsRow base e size v n xs) (hp : p.block < base) (u : Value) : (w.setCell p u).ownsRow base e size v n xs := by
  refine h.kept (row := some p.block) ⟨rfl, rfl, rfl, by simp [World.setCell], fun i hi hne => Below.heap_setCell w p u i (fun e => hne (by rw [e]))⟩ ?_
  right
  intro e
  have := (h.lt _ e).1
  omega
theorem Reads.newN (w : World) (cs : Array Value) (t : TypeId) (n size : Nat) (h : cs.size = n * size) : Reads (w.alloc (.cells cs t)) (w.heap.size + 1) size (some ⟨w.heap.size, 0, none⟩) n cs.toList := by
  refine ⟨by simpa using h, fun _ => ⟨_, rfl, by simp, fun i u hu => ?_⟩⟩
  rw [addr_add, Nat.zero_add]
  have h := heap_new w (.cells cs t)
  simp only [World.cell?, h]
  simpa using hu
theorem FV.one (y : FV) : ∀ v ∈ y.cells, v.oneCell' = true := by
  intro v hv
  simp only [FV.cells, List.mem_cons, List.not_mem_nil, or_false] at hv
  rcases hv with rfl | rfl | rfl | rfl | rfl <;> rfl
theorem info_fr : (Tryz.prog.info? 147).map (fun i => (i.zero, i.size, i.bytes)) = some (some (.agg #[.int .i64 0, .int .i64 0, .int .i64 0, .int .i64 0, .slice none 0 0]), 5, 56) := by kernel_rfl
end Go.Proofs.YtdocdgcdldpagaaGreat
namespace Go.Proofs.YtdocdgcdldpagaaGreat
open Go.ChangeShapes Go.WideShapes Go.ChangeAt Go.RowKit Go.Joins Go.Deep
set_option linter.unusedVariables false
set_option linter.unusedSimpArgs false
set_option maxHeartbeats 4000000
set_option maxRecDepth 100000
structure LAct where
  now : Int
  f : Fr
def la0 : LAct := ⟨0, fr0⟩
def LaAt (w : World) (B b p : Nat) (x : LAct) : Prop :=
  ∃ (E : Option Addr) (ce : Nat), w.cell? ⟨b, p, none⟩ = some (.int .i64 x.now) ∧
    w.cell? ⟨b, p + 1, none⟩ = some (.int .i64 x.f.k) ∧ w.cell? ⟨b, p + 2, none⟩ = some (.int .i64 x.f.f) ∧ w.cell? ⟨b, p + 3, none⟩ = some (.int .i64 x.f.t) ∧ w.cell? ⟨b, p + 4, none⟩ = some (.int .i64 x.f.s) ∧ w.cell? ⟨b, p + 5, none⟩ = some (.slice E x.f.d.length ce) ∧
    Rd w B E x.f.d.length x.f.d ∧ Room E x.f.d.length ce
def LRf (w : World) (B : Nat) (A : Option Addr) (n : Nat) (l : List LAct) : Prop :=
  l.length = n ∧ (0 < n → ∃ b o, A = some ⟨b, o, none⟩ ∧ b < B ∧ ∀ i, i < n → LaAt w B b (o + i * 6) (l.getD i la0))
theorem LaAt.keep {w w' : World} {B b p : Nat} {x : LAct} (h : LaAt w B b p x) (hb : b < B) (hk : ∀ b o, b < B → w'.cell? ⟨b, o, none⟩ = w.cell? ⟨b, o, none⟩) : LaAt w' B b p x := by
  obtain ⟨E, ce, h0, h1, h2, h3, h4, h5, h6, h7⟩ := h
  exact ⟨E, ce, (hk _ _ hb).trans h0, (hk _ _ hb).trans h1, (hk _ _ hb).trans h2, (hk _ _ hb).trans h3, (hk _ _ hb).trans h4, (hk _ _ hb).trans h5, h6.keep hk, h7⟩
theorem LRf.below {w w' : World} {B B' n : Nat} {A : Option Addr} {l : List LAct} (h : LRf w B A n l) (k : Below B' w w') (hB : B ≤ B') : LRf w' B A n l :=
  ⟨h.1, fun hn => by
    obtain ⟨b, o, e, hb, hc⟩ := h.2 hn
    exact ⟨b, o, e, hb, fun i hi => (hc i hi).keep hb (fun b o hb' => k.cell (p := ⟨b, o, none⟩) (Nat.lt_of_lt_of_le hb' hB))⟩⟩
section
variable {H : Type} {enc : TypeId × Value → H} {w : World} {fuel : Nat} {c : Value} {x : DataW H × List MemPlace}
end
end Go.Proofs.YtdocdgcdldpagaaGreat
namespace Go.Proofs.YtdocdgcdldpagaaGreat
set_option linter.unusedVariables false
set_option linter.unusedSimpArgs false
set_option maxHeartbeats 4000000
namespace Plt
def fmOf (x : Fr) : Fm := ⟨x.k, x.s, if x.d.length = 4 then Frm.gnAt x.d 0 else -1, decide (x.d.length = 0), decide (x.d.length = 8), Frm.gnAt x.d 0, Frm.gnAt x.d 1⟩
def tickF (s : St) (l : Int) : List Fr := if timE s l = 0 ∧ asks (pas s l) l = false then [⟨9, s.id, 0, s.reports % 65536, [(pas s l).st]⟩] else []
def tickS (s : St) (l : Int) : St := if timE s l = 0 then tick s l else s
def rcvE (s : St) (l : Int) (x : Fr) : Int := if Frm.vd x.k x.f x.t x.s x.d.length = true ∧ x.t = s.id then timE s l else 2
def rcvS (s : St) (l : Int) (x : Fr) : St := if rcvE s l x = 0 then recv s l (fmOf x) else s
def rcvF (s : St) (l : Int) (x : Fr) : List Fr := if rcvE s l x = 0 ∧ recvA s l (fmOf x) = true then [⟨8, s.id, 0, x.s, [x.k]⟩] else []
theorem timE_ok {s : St} {l : Int} (h : timE s l = 0) : (-1073741824 ≤ l ∧ l ≤ 1073741824) ∧ (s.begun = true → s.now ≤ l) := by
  unfold timE at h
  split at h
  · rename_i hh; rw [Ck.Clk.inB_iff] at hh; exact hh
  · omega
theorem timE_cases (s : St) (l : Int) : timE s l = 0 ∨ timE s l = 3 := by
  unfold timE
  split <;> simp
theorem fmOf_n {x : Fr} (hd : ∀ z ∈ x.d, 0 ≤ z ∧ z < 256) : -1 ≤ (fmOf x).n ∧ (fmOf x).n ≤ 4294967295 := by
  unfold fmOf
  simp only
  split
  · have := Frm.gnAt_bd hd 0
    omega
  · omega
theorem tickS_inv {s : St} (h : Inv s) (l : Int) : Inv (tickS s l) := by
  unfold tickS
  split
  · rename_i e; exact tick_inv h (timE_ok e).1
  · exact h
theorem rcvE_ok {s : St} {l : Int} {x : Fr} (h : rcvE s l x = 0) : timE s l = 0 ∧ Frm.vd x.k x.f x.t x.s x.d.length = true ∧ x.t = s.id := by
  unfold rcvE at h
  split at h
  · rename_i e; exact ⟨h, e⟩
  · omega
theorem rcvS_inv {s : St} (h : Inv s) (l : Int) {x : Fr} (hd : ∀ z ∈ x.d, 0 ≤ z ∧ z < 256) : Inv (rcvS s l x) := by
  unfold rcvS
  split
  · rename_i e; exact recv_inv h (timE_ok (rcvE_ok e).1).1 (fmOf_n hd)
  · exact h
theorem ent_same (s : St) (x t : Int) : (ent s x t).now = s.now ∧ (ent s x t).begun = s.begun ∧ (ent s x t).heard = s.heard ∧ (ent s x t).reports = s.reports ∧ (ent s x t).rep = s.rep ∧ (ent s x t).id = s.id := by
  unfold ent
  split <;> exact ⟨rfl, rfl, rfl, rfl, rfl, rfl⟩
theorem take_same (s : St) (x : Fm) : (take s x).1.now = s.now ∧ (take s x).1.begun = s.begun ∧ (take s x).1.heard = s.heard ∧ (take s x).1.reports = s.reports ∧ (take s x).1.rep = s.rep ∧ (take s x).1.id = s.id := by
  unfold take
  have h := ent_same s
  repeat' split
  all_goals first | exact ⟨rfl, rfl, rfl, rfl, rfl, rfl⟩ | exact h _ _
theorem pas_id (s : St) (l : Int) : (pas s l).id = s.id := by
  have key : ∀ (k : Nat) (t : St), (run k t l).id = t.id := by
    intro k
    induction k with
    | zero => intro t; rfl
    | succ k ih =>
      intro t
      unfold run
      split
      · rw [ih]; exact (ent_same t _ _).2.2.2.2.2
      · rfl
  unfold pas
  rw [key]
  unfold beg
  split <;> rfl
end Plt
end Go.Proofs.YtdocdgcdldpagaaGreat
namespace Go.Proofs.YtdocdgcdldpagaaGreat
namespace Stn
open Go.RowKit
set_option linter.unusedSimpArgs false
set_option linter.unusedVariables false
abbrev Rep := Bool × Int × Int
structure St where
  n : Nat
  again : Int
  st : Int
  now : Int
  seq : Int
  some : Bool
  prog : Int
  cmd : Int
  at_ : Int
  sent : Int
  ack : List Bool
  seen : List Rep
def new (n : Nat) (again : Int) : St := ⟨n, again, 0, 0, 0, false, 0, 0, 0, 0, List.replicate n false, List.replicate n (false, 0, 0)⟩
def newE (n again : Int) : Int := if 1 ≤ n ∧ n ≤ 64 ∧ 1 ≤ again ∧ again ≤ 60000 then 0 else 2
def timeE (s : St) (now : Int) : Int := if s.now ≤ now ∧ now ≤ 3600000 then 0 else 3
def may (k st : Int) : Bool :=
  if k = 1 then decide (st = 0 ∨ st = 2 ∨ st = 9) else if k = 2 then decide (st = 2) else if k = 3 then decide (st = 4) else if k = 4 then decide (st = 6) else if k = 5 then decide (st = 7) else decide (1 ≤ st ∧ st ≤ 7)
def given (k : Int) : Int := if k = 1 then 1 else if k = 2 then 3 else if k = 3 then 5 else if k = 4 then 7 else if k = 5 then 6 else 8
def full (k : Int) : Int := if k = 1 then 2 else if k = 2 then 4 else if k = 3 then 6 else if k = 4 then 7 else if k = 5 then 6 else 9
def giveE (s : St) (k now x : Int) : Int :=
  if k = 1 ∧ ¬ (0 ≤ x ∧ x ≤ 4294967295) then 2 else if timeE s now ≠ 0 then 3 else if k = 3 ∧ ¬ (now ≤ x ∧ x ≤ 3600000) then 3 else if may k s.st = false then 8 else 0
def give0 (s : St) (k now x : Int) : St :=
  { s with some := s.some || decide (k = 1), prog := if k = 1 then x else s.prog, at_ := if k = 3 then x else s.at_, st := given k, cmd := k, now := now, sent := now, seq := (s.seq + 1) % 65536, ack := List.replicate s.n false }
def give (s : St) (k now x : Int) : St := if giveE s k now x = 0 then give0 s k now x else s
def missFrom : Nat → List Bool → List Nat
  | _, [] => []
  | lo, b :: l => if b then missFrom (lo + 1) l else lo :: missFrom (lo + 1) l
def miss (s : St) : List Nat := if s.cmd = 0 then [] else missFrom 1 s.ack
def tickYes (s : St) (now : Int) : Bool := decide (miss s ≠ []) && decide (s.sent + s.again ≤ now)
def tick (s : St) (now : Int) : St := if timeE s now = 0 then (if tickYes s now then { s with now := now, sent := now } else { s with now := now }) else s
def acked (s : St) (f : Nat) : St :=
  { s with ack := s.ack.set (f - 1) true, st := if miss s ≠ [] ∧ missFrom 1 (s.ack.set (f - 1) true) = [] then full s.cmd else s.st }
def reported (s : St) (f : Nat) (p now : Int) : St := { s with seen := s.seen.set (f - 1) (true, p, now) }
theorem missFrom_all : ∀ (k lo : Nat), missFrom lo (List.replicate k false) = (List.range k).map (lo + ·)
  | 0, _ => rfl
  | k + 1, lo => by
    rw [List.replicate_succ, missFrom, if_neg C9, missFrom_all k (lo + 1), List.range_succ_eq_map, List.map_cons, List.map_map]
    congr 1
    exact List.map_congr_left (fun x _ => by simp only [Function.comp, Nat.succ_eq_add_one]; omega)
theorem missFrom_ge : ∀ (l : List Bool) (lo x : Nat), x ∈ missFrom lo l → lo ≤ x ∧ x < lo + l.length
  | [], _, _, h => by cases h
  | b :: l, lo, x, h => by
    unfold missFrom at h
    split at h
    · have := missFrom_ge l (lo + 1) x h; simp only [List.length_cons]; omega
    · rcases List.mem_cons.1 h with h | h
      · subst h; simp only [List.length_cons]; omega
      · have := missFrom_ge l (lo + 1) x h; simp only [List.length_cons]; omega
theorem mem_missFrom : ∀ (l : List Bool) (lo x : Nat), x ∈ missFrom lo l ↔ lo ≤ x ∧ l[x - lo]? = Option.some false
  | [], lo, x => by simp [missFrom]
  | b :: l, lo, x => by
    unfold missFrom
    have ih := mem_missFrom l (lo + 1) x
    rcases Nat.lt_trichotomy x lo with h | h | h
    · have h1 : x ∉ missFrom (lo + 1) l := fun hx => by have := (missFrom_ge l _ _ hx).1; omega
      cases b
      · rw [if_neg C9, List.mem_cons]
        constructor
        · rintro (h2 | h2)
          · omega
          · exact absurd h2 h1
        · intro h2; omega
      · rw [if_pos rfl]
        exact ⟨fun h2 => absurd h2 h1, fun h2 => by omega⟩
    · subst h
      have h1 : x ∉ missFrom (x + 1) l := fun hx => by have := (missFrom_ge l _ _ hx).1; omega
      cases b
      · rw [if_neg C9]; simp
      · rw [if_pos rfl]
        exact ⟨fun h2 => absurd h2 h1, fun h2 => by simp at h2⟩
    · have e : (b :: l)[x - lo]? = l[x - (lo + 1)]? := by
        rw [show x - lo = (x - (lo + 1)) + 1 by omega, List.getElem?_cons_succ]
      rw [e]
      cases b
      · rw [if_neg C9, List.mem_cons, ih]
        constructor
        · rintro (h2 | h2)
          · omega
          · exact ⟨by omega, h2.2⟩
        · intro h2; exact .inr ⟨by omega, h2.2⟩
      · rw [if_pos rfl, ih]
        exact ⟨fun h2 => ⟨by omega, h2.2⟩, fun h2 => ⟨by omega, h2.2⟩⟩
theorem sorted_missFrom : ∀ (l : List Bool) (lo : Nat), (missFrom lo l).Pairwise (· < ·)
  | [], _ => by simp [missFrom]
  | b :: l, lo => by
    unfold missFrom
    split
    · exact sorted_missFrom l (lo + 1)
    · rw [List.pairwise_cons]
      exact ⟨fun x hx => by have := (missFrom_ge l (lo + 1) x hx).1; omega, sorted_missFrom l (lo + 1)⟩
theorem missFrom_set : ∀ (l : List Bool) (lo i : Nat), missFrom lo (l.set i true) = (missFrom lo l).filter (fun x => decide (x ≠ lo + i))
  | [], lo, i => by simp [missFrom]
  | b :: l, lo, 0 => by
    have h : ∀ x ∈ missFrom (lo + 1) l, decide (x ≠ lo) = true := fun x hx => by have := (missFrom_ge l (lo + 1) x hx).1; simp; omega
    rw [List.set_cons_zero]
    cases b
    · simp only [missFrom, if_true, Bool.false_eq_true, if_false, Nat.add_zero]
      rw [List.filter_cons, if_neg C9, List.filter_eq_self.2 h]
    · simp only [missFrom, if_true, Nat.add_zero]
      rw [List.filter_eq_self.2 h]
  | b :: l, lo, i + 1 => by
    rw [List.set_cons_succ]
    have ih := missFrom_set l (lo + 1) i
    rw [show lo + 1 + i = lo + (i + 1) by omega] at ih
    cases b
    · simp only [missFrom, Bool.false_eq_true, if_false]
      rw [ih, List.filter_cons, if_pos C9]
    · simp only [missFrom, if_true]
      rw [ih]
end Stn
end Go.Proofs.YtdocdgcdldpagaaGreat
namespace Go.Proofs.YtdocdgcdldpagaaGreat
namespace Stn
open Go.RowKit
set_option linter.unusedSimpArgs false
set_option linter.unusedVariables false
def data (s : St) : List Int := if s.cmd = 1 ∨ s.cmd = 2 then Frm.num4 s.prog else if s.cmd = 3 then Frm.num4 s.at_ else []
def frames (s : St) : List Fr := (miss s).map fun (i : Nat) => ⟨s.cmd, 0, (i : Int), s.seq, data s⟩
def giveF (s : St) (k now x : Int) : List Fr := if giveE s k now x = 0 then frames (give0 s k now x) else []
def tickF (s : St) (now : Int) : List Fr := if timeE s now = 0 ∧ tickYes s now = true then frames (tick s now) else []
def recvE (s : St) (now : Int) (y : Fr) : Int := if Frm.vd y.k y.f y.t y.s y.d.length = true ∧ y.t = 0 ∧ y.f ≤ s.n then timeE s now else 2
def isAck (s : St) (y : Fr) : Bool := decide (y.k = 8) && decide (s.cmd ≠ 0) && decide (y.s = s.seq) && decide (y.d.getD 0 0 = s.cmd)
def isRep (y : Fr) : Bool := decide (y.k ≠ 8) && decide (y.d.getD 0 0 ≤ 7)
def recv1 (s : St) (now : Int) (y : Fr) : St :=
  if y.d.length = 1 then (if isAck s y then acked { s with now := now } y.f.toNat else if isRep y then reported { s with now := now } y.f.toNat (y.d.getD 0 0) now else { s with now := now }) else { s with now := now }
def recv (s : St) (now : Int) (y : Fr) : St := if recvE s now y = 0 then recv1 s now y else s
def recvF (s : St) (now : Int) (y : Fr) : List Fr := if recvE s now y = 0 ∧ y.d.length = 1 ∧ isRep y = true then [⟨7, 0, y.f, y.s, Frm.num4 now ++ Frm.num4 now⟩] else []
structure Inv (s : St) : Prop where
  n : 1 ≤ s.n ∧ s.n ≤ 64
  again : 1 ≤ s.again ∧ s.again ≤ 60000
  st : 0 ≤ s.st ∧ s.st ≤ 9
  now : 0 ≤ s.now ∧ s.now ≤ 3600000
  seq : 0 ≤ s.seq ∧ s.seq ≤ 65535
  prog : 0 ≤ s.prog ∧ s.prog ≤ 4294967295
  cmd : 0 ≤ s.cmd ∧ s.cmd ≤ 6
  at_ : 0 ≤ s.at_ ∧ s.at_ ≤ 3600000
  sent : 0 ≤ s.sent ∧ s.sent ≤ s.now
  ack : s.ack.length = s.n
  seen : s.seen.length = s.n
  reps : ∀ x ∈ s.seen, (0 ≤ x.2.1 ∧ x.2.1 ≤ 7) ∧ (0 ≤ x.2.2 ∧ x.2.2 ≤ 3600000)
theorem inv_new {n : Nat} {again : Int} (h : newE n again = 0) : Inv (new n again) := by
  unfold newE at h
  split at h
  · rename_i hh
    refine ⟨by simp only [new]; omega, by simp only [new]; omega, by simp [new], by simp [new], by simp [new], by simp [new], by simp [new], by simp [new], by simp [new], by simp [new], by simp [new], ?_⟩
    intro x hx
    simp only [new] at hx
    rw [List.mem_replicate] at hx
    rw [hx.2]; simp
  · omega
theorem timeE_ok {s : St} {now : Int} (h : timeE s now = 0) : s.now ≤ now ∧ now ≤ 3600000 := by
  unfold timeE at h
  split at h
  · assumption
  · omega
theorem given_bd (k : Int) : 1 ≤ given k ∧ given k ≤ 8 := by unfold given; repeat' split; all_goals omega
theorem full_bd (k : Int) : 2 ≤ full k ∧ full k ≤ 9 := by unfold full; repeat' split; all_goals omega
theorem inv_give {s : St} {k now x : Int} (h : Inv s) (hk : 1 ≤ k ∧ k ≤ 6) : Inv (give s k now x) := by
  unfold give
  split
  · rename_i he
    have hb := given_bd k
    obtain ⟨h1, h2, h3, h4, h5, h6, h7, h8, h9, h10, h11, h12⟩ := h
    unfold giveE at he
    by_cases a : k = 1 ∧ ¬ (0 ≤ x ∧ x ≤ 4294967295)
    · rw [if_pos a] at he; omega
    · rw [if_neg a] at he
      by_cases b : timeE s now ≠ 0
      · rw [if_pos b] at he; omega
      · rw [if_neg b] at he
        have ht := timeE_ok (by omega : timeE s now = 0)
        by_cases c : k = 3 ∧ ¬ (now ≤ x ∧ x ≤ 3600000)
        · rw [if_pos c] at he; omega
        · refine ⟨h1, h2, ?_, ?_, ?_, ?_, ?_, ?_, ?_, by simp [give0], h11, h12⟩
          · simp only [give0]; omega
          · simp only [give0]; omega
          · simp only [give0]; omega
          · simp only [give0]; split <;> omega
          · simp only [give0]; omega
          · simp only [give0]; split <;> omega
          · simp only [give0]; omega
  · exact h
theorem inv_now {s : St} {now : Int} (h : Inv s) (ht : timeE s now = 0) : Inv { s with now := now } := by
  have ht := timeE_ok ht
  obtain ⟨h1, h2, h3, h4, h5, h6, h7, h8, h9, h10, h11, h12⟩ := h
  exact ⟨h1, h2, h3, by simp only; omega, h5, h6, h7, h8, by simp only; omega, h10, h11, h12⟩
theorem inv_tick {s : St} {now : Int} (h : Inv s) : Inv (tick s now) := by
  unfold tick
  split
  · rename_i ht
    split
    · have h' := inv_now h ht
      obtain ⟨h1, h2, h3, h4, h5, h6, h7, h8, h9, h10, h11, h12⟩ := h'
      exact ⟨h1, h2, h3, h4, h5, h6, h7, h8, by simp only at h4 ⊢; omega, h10, h11, h12⟩
    · exact inv_now h ht
  · exact h
theorem inv_acked {s : St} {f : Nat} (h : Inv s) : Inv (acked s f) := by
  have hf := full_bd s.cmd
  obtain ⟨h1, h2, h3, h4, h5, h6, h7, h8, h9, h10, h11, h12⟩ := h
  refine ⟨h1, h2, ?_, h4, h5, h6, h7, h8, h9, by simp [acked, h10], h11, h12⟩
  simp only [acked]
  split <;> omega
theorem inv_reported {s : St} {f : Nat} {p now : Int} (h : Inv s) (hp : 0 ≤ p ∧ p ≤ 7) (hn : 0 ≤ now ∧ now ≤ 3600000) : Inv (reported s f p now) := by
  obtain ⟨h1, h2, h3, h4, h5, h6, h7, h8, h9, h10, h11, h12⟩ := h
  refine ⟨h1, h2, h3, h4, h5, h6, h7, h8, h9, h10, by simp [reported, h11], ?_⟩
  intro x hx
  simp only [reported] at hx
  rcases List.mem_or_eq_of_mem_set hx with hx | rfl
  · exact h12 x hx
  · exact ⟨hp, hn⟩
theorem inv_recv {s : St} {now : Int} {y : Fr} (h : Inv s) (hy : By y.d) : Inv (recv s now y) := by
  unfold recv
  split
  · rename_i he
    unfold recvE at he
    split at he
    · have hi := inv_now h he
      have ht := timeE_ok he
      have hn := h.now
      unfold recv1
      split
      · split
        · exact inv_acked hi
        · split
          · rename_i hr
            unfold isRep at hr
            simp only [Bool.and_eq_true, decide_eq_true_eq] at hr
            exact inv_reported hi ⟨(hy.at_ 0).1, hr.2⟩ Cb
          · exact hi
      · exact hi
    · omega
  · exact h
end Stn
end Go.Proofs.YtdocdgcdldpagaaGreat

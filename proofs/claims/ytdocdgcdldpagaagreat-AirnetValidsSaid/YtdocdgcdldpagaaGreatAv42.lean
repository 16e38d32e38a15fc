import Derived.Test.YtdocdgcdldpagaaGreatAp
import Derived.Test.YtdocdgcdldpagaaGreatAv12
import Derived.Test.YtdocdgcdldpagaaGreatAv13
import Derived.StillTailTactics
import Derived.Test.YtdocdgcdldpagaaGreatAv38
import Derived.Test.YtdocdgcdldpagaaGreatAv40
import Derived.Test.YtdocdgcdldpagaaGreatAv41
import Derived.Test.YtdocdgcdldpagaaGreatAv24
import Derived.Test.YtdocdgcdldpagaaGreatAv23
import Derived.BigQuiet
namespace Go.Proofs.YtdocdgcdldpagaaGreat
open Go.RowKit
set_option maxHeartbeats 8000000
set_option maxRecDepth 100000
set_option linter.unusedSimpArgs false
set_option linter.unusedVariables false
attribute [local go_sem ↓] Go.wp_at_zero Go.wp_at_succ
structure RM where
  t : Int
  A : Option Addr
  c : Nat
  d : List Int
def RM.msg (m : RM) : Lnk.Msg := (m.t, m.d)
def rmc (m : RM) : List Value := [.int .i64 m.t, .slice m.A m.d.length m.c]
def rmcs (l : List RM) : List Value := l.flatMap rmc
def RMGood (w : World) (B : Nat) (l : List RM) : Prop := ∀ m ∈ l, Rd w B m.A m.d.length m.d ∧ m.d.length ≤ m.c ∧ m.c ≤ maxLen ∧ (m.A = none → m.d.length = 0)
def RWay (w : World) (X : Nat → Prop) (A : Option Addr) (n : Nat) (u : List Lnk.Msg) : Prop :=
  ∃ rl : List RM, rl.map RM.msg = u ∧ Rds w w.heap.size 2 A n (rmcs rl) ∧ RMGood w w.heap.size rl ∧ (∀ a, A = some a → 0 < n → X a.block) ∧ (∀ m ∈ rl, ∀ a, m.A = some a → 0 < m.d.length → X a.block)
section
variable {w w' : World} {B B' n : Nat} {A : Option Addr} {u : List Lnk.Msg} {l k : List RM} {X Y : Nat → Prop}
theorem rmcs_cons (m : RM) (l : List RM) : rmcs (m :: l) = .int .i64 m.t :: .slice m.A m.d.length m.c :: rmcs l := rfl
theorem length_rmcs : ∀ l : List RM, (rmcs l).length = l.length * 2
  | [] => rfl
  | m :: l => by rw [rmcs_cons]; simp only [List.length_cons, length_rmcs l]; omega
theorem RMGood.below (h : RMGood w B l) (k : Below B' w w') (hB : B ≤ B') : RMGood w' B l := fun m hm => ⟨(h m hm).1.below k hB, (h m hm).2⟩
theorem RMGood.more (h : RMGood w B l) (hB : B ≤ B') : RMGood w B' l := fun m hm => ⟨(h m hm).1.more hB, (h m hm).2⟩
theorem RMGood.nil (w : World) (B : Nat) : RMGood w B [] := fun m hm => by cases hm
theorem RMGood.append (h : RMGood w B l) (g : RMGood w B k) : RMGood w B (l ++ k) := fun m hm => (List.mem_append.1 hm).elim (h m) (g m)
theorem RMGood.sub (h : RMGood w B l) (hs : ∀ m ∈ k, m ∈ l) : RMGood w B k := fun m hm => h m (hs m hm)
theorem Rds.keepX {S : Nat → Prop} {size : Nat} {xs : List Value} (h : Rds w w.heap.size size A n xs) (k : Keeps S w w') (hS : ∀ a, A = some a → 0 < n → ¬ S a.block) : Rds w' w'.heap.size size A n xs :=
  ⟨h.1, fun hn => by
    obtain ⟨b, o, e, hb, hc⟩ := h.2 hn
    exact ⟨b, o, e, Nat.lt_of_lt_of_le hb k.size, fun j u hu => (World.cell?_of_block (k.block b hb (hS _ e hn))).trans (hc j u hu)⟩⟩
theorem RMGood.keepX {S : Nat → Prop} (h : RMGood w w.heap.size l) (k : Keeps S w w') (hS : ∀ m ∈ l, ∀ a, m.A = some a → 0 < m.d.length → ¬ S a.block) : RMGood w' w'.heap.size l := fun m hm => by
  obtain ⟨h1, h2⟩ := h m hm
  refine ⟨⟨h1.1, h1.2.1, fun hn => ?_⟩, h2⟩
  obtain ⟨b, o, e, hb, hc⟩ := h1.2.2 hn
  exact ⟨b, o, e, Nat.lt_of_lt_of_le hb k.size, fun i hi => (World.cell?_of_block (k.block b hb (hS m hm _ e hn))).trans (hc i hi)⟩
theorem RWay.keep {S : Nat → Prop} (h : RWay w X A n u) (k : Keeps S w w') (hS : ∀ i, X i → ¬ S i) : RWay w' X A n u := by
  obtain ⟨rl, h1, h2, h3, h4, h5⟩ := h
  exact ⟨rl, h1, h2.keepX k (fun a ha hn => hS _ (h4 a ha hn)), h3.keepX k (fun m hm a ha hn => hS _ (h5 m hm a ha hn)), h4, h5⟩
theorem RWay.below (h : RWay w X A n u) (k : Below B w w') (hB : ∀ i, X i → i < B) : RWay w' X A n u :=
  h.keep (S := fun i => B ≤ i) ⟨k.os, k.tape, k.output, k.size, fun i _ hi => k.block i Cb⟩ (fun i hi => by have := hB i hi; omega)
theorem RWay.mono (h : RWay w X A n u) (hX : ∀ i, X i → Y i) : RWay w Y A n u := by
  obtain ⟨rl, h1, h2, h3, h4, h5⟩ := h
  exact ⟨rl, h1, h2, h3, fun a ha hn => hX _ (h4 a ha hn), fun m hm a ha hn => hX _ (h5 m hm a ha hn)⟩
theorem RWay.nil (w : World) (X : Nat → Prop) (A : Option Addr) : RWay w X A 0 [] := ⟨[], rfl, Rds.nil _ _ _ _, RMGood.nil _ _, fun _ _ h => absurd h Cb, fun m hm => by cases hm⟩
theorem RWay.len (h : RWay w X A n u) : u.length = n := by
  obtain ⟨rl, h1, h2, _⟩ := h
  have := h2.1
  rw [length_rmcs] at this
  rw [← h1, List.length_map]; omega
end
def rll (r : Lnk.Ru) (s : Lnk.St) (A : Option Addr) (n c : Nat) : List Value := [.int .i64 r.loss, .int .i64 r.twice, .int .i64 r.least, .int .i64 r.most, .int .i64 r.seed, .int .u64 s.x, .int .i64 s.now, .slice A n c, .int .i64 s.sent, .int .i64 s.lost, .int .i64 s.dbl]
def rlv (r : Lnk.Ru) (s : Lnk.St) (A : Option Addr) (n c : Nat) : Value := .agg (rll r s A n c).toArray
theorem rnew_yes (r : Lnk.Ru) (w : World) (hv : Lnk.vld r = true) (hse : r.seed ≤ 9223372036854775807) :
    Calls Tryz.prog 79 #[.agg (rul r).toArray] w fun e w' => e = .returned (.tuple #[rlv r (Lnk.new r) none 0 0, .int .i64 0]) ∧ Below w.heap.size w w' := by
  have V := Lib.hid (fun W : World => hv ▸ rlvalid_any r W)
  rw [Lnk.vld_iff] at hv
  obtain ⟨_, _, _, _, h5⟩ := hv
  obtain ⟨lo, tw, le, mo, se⟩ := r
  simp only [rul, rlv, rll, Lnk.new] at *
  have hw : IntKind.u64.wrap se = se := by rw [IntKind.wrap_u64]; omega
  go_enter Tryz.func79, Tryz.ntmps79
  go_wp2_with fail
  refine (V.out _).mono ?_
  rintro e w1 ⟨rfl, hb1⟩
  have hz1 := hb1.size; try simp at hz1
  have h0 := blk_below (q := w.heap.size) Ae hb1 Ba
  have h1 := blk_below (q := w.heap.size + 1) Ae hb1 Ba
  have HB1 := (show Below w.heap.size w w1 from A9)
  have cb_0 := blk_cell h0 0 rfl; have fb_0 := blk_free h0 0; have cb_1 := blk_cell h0 1 rfl; have fb_1 := blk_free h0 1; have cb_2 := blk_cell h0 2 rfl; have fb_2 := blk_free h0 2; have cb_3 := blk_cell h0 3 rfl; have fb_3 := blk_free h0 3; have cb_4 := blk_cell h0 4 rfl; have fb_4 := blk_free h0 4; have lb := lt_of_block h0
  have ca_0 := blk_cell h1 0 rfl; have fa_0 := blk_free h1 0; have ca_1 := blk_cell h1 1 rfl; have fa_1 := blk_free h1 1; have ca_2 := blk_cell h1 2 rfl; have fa_2 := blk_free h1 2; have ca_3 := blk_cell h1 3 rfl; have fa_3 := blk_free h1 3; have ca_4 := blk_cell h1 4 rfl; have fa_4 := blk_free h1 4; have ca_5 := blk_cell h1 5 rfl; have fa_5 := blk_free h1 5; have ca_6 := blk_cell h1 6 rfl; have fa_6 := blk_free h1 6; have ca_7 := blk_cell h1 7 rfl; have fa_7 := blk_free h1 7; have ca_8 := blk_cell h1 8 rfl; have fa_8 := blk_free h1 8; have ca_9 := blk_cell h1 9 rfl; have fa_9 := blk_free h1 9; have ca_10 := blk_cell h1 10 rfl; have fa_10 := blk_free h1 10; have la := lt_of_block h1
  go_wp2_with fail
  refine bodyPost_ret (v := .tuple #[.agg #[.int .i64 lo, .int .i64 tw, .int .i64 le, .int .i64 mo, .int .i64 se, .int .u64 se, .int .i64 0, .slice none 0 0, .int .i64 0, .int .i64 0, .int .i64 0], .int .i64 0]) ?_ rfl ⟨rfl, A9⟩
  simp [results, Tryz.results79, go_sem, *]
end Go.Proofs.YtdocdgcdldpagaaGreat
namespace Go.Proofs.YtdocdgcdldpagaaGreat
open Go.RowKit
set_option maxHeartbeats 8000000
set_option maxRecDepth 100000
set_option linter.unusedSimpArgs false
set_option linter.unusedVariables false
structure RN where
  OA : Option Addr
  oc : Nat
  TA : Option Addr
  tc : Nat
  D : Option Addr
  dc : Nat
  A : Option Addr
  ac : Nat
  S : Option Addr
  sc : Nat
  PA : Option Addr
  pc : Nat
  UA : Option Addr
  uc : Nat
  VA : Option Addr
  vc : Nat
  KA : Option Addr
  kc : Nat
  BA : Option Addr
  bc : Nat
  EA : Option Addr
  ec : Nat
  us : List (Option Addr × Nat)
  ds : List (Option Addr × Nat)
def rncl (m : RN) (s : Nt.St) : List Value :=
  [.int .i64 s.r.n, .int .i64 s.r.again, .int .i64 s.r.step, .int .i64 s.r.drift, .int .i64 s.r.lost, .int .i64 s.r.ret, .int .i64 s.r.desc, .int .i64 s.r.late, .int .i64 s.r.every,
   .int .i64 s.r.up.loss, .int .i64 s.r.up.twice, .int .i64 s.r.up.least, .int .i64 s.r.up.most, .int .i64 s.r.up.seed, .int .i64 s.r.dn.loss, .int .i64 s.r.dn.twice, .int .i64 s.r.dn.least, .int .i64 s.r.dn.most, .int .i64 s.r.dn.seed,
   .slice m.OA s.r.offs.length m.oc, .slice m.TA s.r.rates.length m.tc, .int .i64 s.now, .int .i64 s.steps,
   .int .i64 s.st.again, .int .i64 s.st.st, .int .i64 s.st.now, .int .i64 s.st.seq, .bool s.st.some, .int .i64 s.st.prog, .int .i64 s.st.cmd, .slice m.D (Stn.data s.st).length m.dc, .int .i64 s.st.sent, .slice m.A s.st.n m.ac, .slice m.S s.st.n m.sc,
   .slice m.PA s.cr.length m.pc, .slice m.UA s.cr.length m.uc, .slice m.VA s.cr.length m.vc, .slice m.KA s.cr.length m.kc, .slice m.BA (s.cr.length + 1) m.bc, .slice m.EA s.ev.length m.ec]
def ulcs (ru : Lnk.Ru) (f : Nt.Cr → Lnk.St) : Nat → List Nt.Cr → List (Option Addr × Nat) → List Value
  | i, c :: cs, a :: qs => rll (Nt.lru ru i) (f c) a.1 (f c).u.length a.2 ++ ulcs ru f (i + 1) cs qs
  | _, _, _ => []
def pcls (cs : List Nt.Cr) : List Value := cs.flatMap (fun c => rag c.p)
def bcl (s : Nt.St) : List Int := s.ss :: s.cr.map (·.s)
structure IsN (w : World) (base p : Nat) (X : Nat → Prop) (m : RN) (s : Nt.St) : Prop where
  blk : w.heap[p]? = some (.cells (rncl m s).toArray 55 (0, 0))
  st : IsR w m.D m.dc m.A m.ac m.S m.sc s.st
  offs : Row w base 3 1 m.OA s.r.offs.length m.oc (icl s.r.offs)
  rates : Row w base 3 1 m.TA s.r.rates.length m.tc (icl s.r.rates)
  prow : Row w base 101 24 m.PA s.cr.length m.pc (pcls s.cr)
  urow : Row w base 136 11 m.UA s.cr.length m.uc (ulcs s.r.up (·.up) 0 s.cr m.us)
  vrow : Row w base 136 11 m.VA s.cr.length m.vc (ulcs s.r.dn (·.dn) 0 s.cr m.ds)
  krow : Row w base 4 1 m.KA s.cr.length m.kc (bools (s.cut.drop 1))
  brow : Row w base 3 1 m.BA (s.cr.length + 1) m.bc (icl (bcl s))
  erow : Row w base 58 3 m.EA s.ev.length m.ec (evcs s.ev)
  len : m.us.length = s.cr.length ∧ m.ds.length = s.cr.length
  uw : ∀ i, i < s.cr.length → RWay w X (m.us.getD i (none, 0)).1 (Nt.at_ s i).up.u.length (Nt.at_ s i).up.u ∧ (Nt.at_ s i).up.u.length ≤ (m.us.getD i (none, 0)).2
  dw : ∀ i, i < s.cr.length → RWay w X (m.ds.getD i (none, 0)).1 (Nt.at_ s i).dn.u.length (Nt.at_ s i).dn.u ∧ (Nt.at_ s i).dn.u.length ≤ (m.ds.getD i (none, 0)).2
  ge : base ≤ p
theorem ulcs_snoc (ru : Lnk.Ru) (f : Nt.Cr → Lnk.St) : ∀ (i : Nat) (cs : List Nt.Cr) (qs : List (Option Addr × Nat)) (c : Nt.Cr) (a : Option Addr × Nat), qs.length = cs.length → ulcs ru f i (cs ++ [c]) (qs ++ [a]) = ulcs ru f i cs qs ++ rll (Nt.lru ru (i + cs.length)) (f c) a.1 (f c).u.length a.2
  | i, [], [], _, _, _ => by simp [ulcs]
  | i, x :: cs, y :: qs, c, a, h => by
    rw [List.cons_append, List.cons_append, ulcs, ulcs, ulcs_snoc ru f (i + 1) cs qs c a C4, List.append_assoc, List.length_cons]
    rw [show i + 1 + cs.length = i + (cs.length + 1) by omega]
  | _, [], _ :: _, _, _, h => by simp at h
  | _, _ :: _, [], _, _, h => by simp at h
theorem pcls_snoc (cs : List Nt.Cr) (c : Nt.Cr) : pcls (cs ++ [c]) = pcls cs ++ rag c.p := by simp [pcls]
theorem pcls_at (cs : List Nt.Cr) (i j : Nat) (hi : i < cs.length) (hj : j < 24) : (pcls cs)[i * 24 + j]? = (rag (cs.getD i Nt.c0).p)[j]? := by
  induction cs generalizing i with
  | nil => exact absurd hi C9
  | cons x l ih =>
    have e : pcls (x :: l) = rag x.p ++ pcls l := rfl
    cases i with
    | zero =>
      rw [e, Nat.zero_mul, Nat.zero_add, List.getElem?_append_left (by simpa [rag] using hj)]
      rfl
    | succ i =>
      rw [e, List.getElem?_append_right (by simp [rag]; omega)]
      have e2 : (i + 1) * 24 + j - (rag x.p).length = i * 24 + j := by simp [rag]; omega
      rw [e2, ih i (by simpa using hi)]
      rfl
section
variable {w w' : World} {base p : Nat} {X : Nat → Prop} {m : RN} {s : Nt.St}
theorem IsN.below (h : IsN w base p X m s) (g : Below w.heap.size w w') : IsN w' base p X m s where
  blk := blk_below h.blk g (lt_of_block h.blk)
  st := h.st.below g (Nat.le_refl _)
  offs := h.offs.below g (Nat.le_refl _)
  rates := h.rates.below g (Nat.le_refl _)
  prow := h.prow.below g (Nat.le_refl _)
  urow := h.urow.below g (Nat.le_refl _)
  vrow := h.vrow.below g (Nat.le_refl _)
  krow := h.krow.below g (Nat.le_refl _)
  brow := h.brow.below g (Nat.le_refl _)
  erow := h.erow.below g (Nat.le_refl _)
  len := h.len
  uw := fun i hi => ⟨(h.uw i hi).1.keep (Keeps.of_below (S := fun _ => False) g) (fun _ _ hf => hf), (h.uw i hi).2⟩
  dw := fun i hi => ⟨(h.dw i hi).1.keep (Keeps.of_below (S := fun _ => False) g) (fun _ _ hf => hf), (h.dw i hi).2⟩
  ge := h.ge
end
end Go.Proofs.YtdocdgcdldpagaaGreat
namespace Go.Proofs.YtdocdgcdldpagaaGreat
open Go.RowKit
set_option maxHeartbeats 8000000
set_option maxRecDepth 100000
set_option linter.unusedSimpArgs false
set_option linter.unusedVariables false
attribute [local go_sem ↓] Go.wp_at_zero Go.wp_at_succ
section
variable {w w' : World} {base p N : Nat} {X : Nat → Prop} {m : RN} {s : Nt.St}
theorem rnlocal_any (h : IsN w base p X m s) (hs : Nt.Inv N s) {i : Nat} (hi : i < s.cr.length) : Calls Tryz.prog 45 #[.pointer (some ⟨p, 0, none⟩), .int .i64 ((i : Int) + 1)] w fun e w' => e = .returned (.int .i64 (Nt.lcl s i)) ∧ ∃ q, w' = w.drewN q := by
  have c19 : w.cell? ⟨p, 19, none⟩ = some (.slice m.OA s.r.offs.length m.oc) := blk_cell h.blk 19 rfl
  have c20 : w.cell? ⟨p, 20, none⟩ = some (.slice m.TA s.r.rates.length m.tc) := blk_cell h.blk 20 rfl
  have c21 : w.cell? ⟨p, 21, none⟩ = some (.int .i64 s.now) := blk_cell h.blk 21 rfl
  have io : i < s.r.offs.length := by rw [hs.offs]; exact hi
  have ir : i < s.r.rates.length := by rw [hs.rates]; exact hi
  obtain ⟨g1, o1, e1, k1⟩ := h.offs.int_at io
  obtain ⟨g2, o2, e2, k2⟩ := h.rates.int_at ir
  rw [e1] at c19
  rw [e2] at c20
  have hi64 := hs.n.2
  have wi : IntKind.i64.wrap ((i : Int) + 1 - 1) = (i : Int) := by rw [IntWalk.i64_in _ Cb]; omega
  have wi2 : IntKind.i64.wrap (i : Int) = (i : Int) := IntWalk.i64_in _ Cb
  have io' : (i : Int) < (s.r.offs.length : Int) := by omega
  have ir' : (i : Int) < (s.r.rates.length : Int) := by omega
  have LC := Lib.hid (fun (W : World) => Ck.rlocal_any (s.r.offs.getD i 0) (s.r.rates.getD i 0) s.now W)
  obtain ⟨x, hx⟩ : ∃ x, x = s.r.offs.getD i 0 := ⟨_, rfl⟩
  obtain ⟨y, hy⟩ : ∃ y, y = s.r.rates.getD i 0 := ⟨_, rfl⟩
  obtain ⟨z, hz⟩ : ∃ z, z = Nt.lcl s i := ⟨_, rfl⟩
  have hz' : Ck.lV x y s.now = z := by rw [hz, hx, hy]; rfl
  rw [← hx, ← hy, hz'] at LC
  rw [← hx] at k1
  rw [← hy] at k2
  rw [← hz]
  have hi0 : (0 : Int) ≤ (i : Int) := by omega
  clear hx hy hz hz' h hs e1 e2 io ir hi
  go_enter Tryz.func45, Tryz.ntmps45
  go_upto_region 1 with fail
  go_quiet ((go_at_call 90; exact Calls.quiet_of_same ((LC.out _).mono fun e w' h => ⟨h.1, h.2.symm⟩)))
  go_wp2_with fail
  go_ret
  exact ⟨rfl, _, rfl⟩
end
end Go.Proofs.YtdocdgcdldpagaaGreat
namespace Go.Proofs.YtdocdgcdldpagaaGreat
open Go.RowKit
set_option maxHeartbeats 8000000
set_option maxRecDepth 100000
set_option linter.unusedSimpArgs false
set_option linter.unusedVariables false
theorem ev_neq3 (x y z : Int) (W : World) : (binOp .neq 58 (.agg #[.int .i64 x, .int .i64 y, .int .i64 z]) (.agg #[.int .i64 x, .int .i64 y, .int .i64 z])).run Tryz.prog W = .ok (.bool false) W := by
  simp [go_sem]
theorem bd_neq (x y : Int) (W : World) : (binOp .neq 65 (.agg #[.int .i64 x, .int .i64 y]) (.agg #[.int .i64 x, .int .i64 y])).run Tryz.prog W = .ok (.bool false) W := by
  simp [go_sem]
section
variable {w w' : World} {base p N : Nat} {X : Nat → Prop} {m : RN} {s : Nt.St}
theorem IsN.pcells (h : IsN w base p X m s) {i : Nat} (hi : i < s.cr.length) : ∃ g o, m.PA = some ⟨g, o, none⟩ ∧ g < w.heap.size ∧ ∀ j u, j < 24 → (rag (Nt.at_ s i).p)[j]? = some u → w.cell? ⟨g, o + (i * 24 + j), none⟩ = some u := by
  obtain ⟨g, o, cur, h1, _, hlt, h4, _, _, _, _, hc, hf⟩ := h.prow.some_ Cb
  exact ⟨g, o, h1, hlt, fun j u hj hu => hc (i * 24 + j) _ (by rw [pcls_at _ _ _ hi hj]; exact hu)⟩
theorem rnat_any (hs : Nt.Inv N s) {i : Nat} (hi : i < s.cr.length) (w : World) :
    Calls Tryz.prog 44 #[.agg #[.int .i64 (Nt.at_ s i).p.d, .int .i64 (Nt.at_ s i).p.r, .bool (Nt.at_ s i).p.cs, .int .i64 (Nt.at_ s i).p.lo, .int .i64 (Nt.at_ s i).p.hi], .int .i64 (Nt.lcl s i)] w fun e w' => e = .returned (.tuple #[.agg #[.int .i64 (Nt.bLo s i), .int .i64 (Nt.bHi s i)], .int .i64 (Nt.bE s i)]) ∧ Below w.heap.size w w' :=
  Ck.rat_any _ _ _ _ _ _ w (hs.cr i hi).p.clk (hs.cr i hi).p.l0
end
end Go.Proofs.YtdocdgcdldpagaaGreat
namespace Go.Proofs.YtdocdgcdldpagaaGreat
open Go.RowKit
set_option maxHeartbeats 8000000
set_option maxRecDepth 100000
set_option linter.unusedSimpArgs false
set_option linter.unusedVariables false
attribute [local go_sem ↓] Go.wp_at_zero Go.wp_at_succ
namespace Nt
def NInv (c : Nat) (s : St) : Prop := Inv (200000 * (s.steps.toNat + c)) s
theorem NInv.le {c : Nat} {s : St} (h : NInv c s) : 200000 * (s.steps.toNat + c) ≤ 200000 * (100000 + c) := by
  have := h.steps
  omega
theorem NInv.step {c : Nat} {s : St} (h : NInv c s) (hc : c ≤ 1000000) : NInv c (Nt.step s) := by
  by_cases he : stepE s = 0
  · have h1 := Inv.stepS h (by have := h.le; omega)
    have h2 := (step_same he).2.1
    have h3 := h.steps
    unfold NInv
    rw [h2, show 200000 * ((s.steps + 1).toNat + c) = 200000 * (s.steps.toNat + c) + 200000 by omega]
    exact h1
  · have : Nt.step s = s := by unfold Nt.step; rw [if_neg he]
    rw [this]
    exact h
theorem NInv.runK {c : Nat} (hc : c ≤ 1000000) (u : Int) : ∀ (k : Nat) (s : St), NInv c s → NInv c (Nt.runK k s u).1
  | 0, s, h => h
  | k + 1, s, h => by
    rw [Nt.runK]
    split
    · split
      · exact NInv.runK hc u k _ (h.step hc)
      · exact h
    · exact h
theorem NInv.run {c : Nat} {s : St} (h : NInv c s) (hc : c ≤ 1000000) (u : Int) : NInv c (Nt.run s u).1 := by
  unfold Nt.run
  split
  · exact NInv.runK hc u _ s h
  · exact h
theorem doS_same (s : St) (k x : Int) : (doS s k x).steps = s.steps ∧ (doS s k x).cr.length = s.cr.length ∧ (doS s k x).now = s.now ∧ (doS s k x).r = s.r := by
  unfold doS
  split
  · have h1 := look_same (sndL { s with st := Stn.give s.st k s.now x } (Stn.giveF s.st k s.now x))
    have h2 := sndL_same (Stn.giveF s.st k s.now x) { s with st := Stn.give s.st k s.now x }
    have h3 := sndL_len (Stn.giveF s.st k s.now x) { s with st := Stn.give s.st k s.now x }
    exact ⟨h1.2.2.1.trans h2.2.1, h1.1.trans h3, h1.2.1.trans h2.1, h1.2.2.2.trans h2.2.2.1⟩
  · exact ⟨rfl, rfl, rfl, rfl⟩
theorem NInv.doS {c : Nat} {s : St} (h : NInv c s) (hc : c ≤ 1000000) (k x : Int) : NInv (c + 1) (Nt.doS s k x) := by
  have h1 := Inv.doS h k x (by have := h.le; omega)
  unfold NInv
  rw [(doS_same s k x).1]
  exact h1.mono Cb
theorem NInv.cutS {c : Nat} {s : St} (h : NInv c s) (a : Nat) (b : Bool) : NInv c (Nt.cutS s a b) := Inv.cutS h a b
theorem NInv.new {r : Ru} (h : vld r = true) : NInv 0 (Nt.new r) := new_inv h
end Nt
theorem NTo.to_below {base b k : Nat} {m : NM} {s s' : Nt.St} {w w' : World} (h : NTo base b m k s' w w') (h0 : IsNet w base b m k s) (hb : base ≤ w.heap.size) : Below base w w' := by
  obtain ⟨m', _, g, _⟩ := h
  exact g.below (fun i _ hi => (h0.lt hi).1) hb
def NK (base b c k : Nat) (s : Nt.St) (w0 w : World) : Prop := ∃ m, IsNet w base b m k s ∧ Nt.NInv c s ∧ Below base w0 w ∧ base ≤ w.heap.size
section
variable {w w0 : World} {base b c k : Nat} {s : Nt.St}
theorem NK.below (h : NK base b c k s w0 w) {w' : World} (g : Below w.heap.size w w') : NK base b c k s w0 w' := by
  obtain ⟨m, h1, h2, h3, h4⟩ := h
  exact ⟨m, h1.below g, h2, h3.trans (g.mono h4), Nat.le_trans h4 g.size⟩
theorem NK.drewN (h : NK base b c k s w0 w) (q : Nat) : NK base b c k s w0 (w.drewN q) := h.below (below_drewN (Below.refl _ _) q)
theorem NK.to {k' c' : Nat} {m : NM} {s' : Nt.St} {w' : World} (h1 : IsNet w base b m k' s) (h3 : Below base w0 w) (h4 : base ≤ w.heap.size) (g : NTo base b m k' s' w w') (hi : Nt.NInv c' s') : NK base b c' k' s' w0 w' := by
  have hb := g.to_below h1 h4
  obtain ⟨m', g1, g2, _⟩ := g
  exact ⟨m', g1, hi, h3.trans hb, Nat.le_trans h4 g2.size⟩
theorem nk_run (h : NK base b c k s w0 w) (hc : c ≤ 1000000) (u : Int) : Calls Tryz.prog 27 #[.pointer (some ⟨b, 0, none⟩), .int .i64 u] w fun e w' => e = .returned (.int .i64 (Nt.run s u).2) ∧ NK base b c k (Nt.run s u).1 w0 w' := by
  obtain ⟨m, h1, h2, h3, h4⟩ := h
  exact (nrun_any h1 h2 h4 (by have := h2.le; omega) u).mono fun e w' g => ⟨g.1, NK.to h1 h3 h4 g.2 (h2.run hc u)⟩
theorem nk_do (h : NK base b c k s w0 w) (hc : c ≤ 1000000) (j x : Int) : Calls Tryz.prog 28 #[.pointer (some ⟨b, 0, none⟩), .int .i64 j, .int .i64 x] w fun e w' => e = .returned (.int .i64 (Nt.doE s j x)) ∧ NK base b (c + 1) k (Nt.doS s j x) w0 w' := by
  obtain ⟨m, h1, h2, h3, h4⟩ := h
  exact (ndo_any h1 h2 h4 (by have := h2.le; omega) j x).mono fun e w' g => ⟨g.1, NK.to h1 h3 h4 g.2 (h2.doS hc j x)⟩
theorem nk_cut (h : NK base b c k s w0 w) (i : Nat) (x : Bool) (hi : 1 ≤ i ∧ i ≤ s.cr.length) (hk : k < maxLen) : Calls Tryz.prog 23 #[.pointer (some ⟨b, 0, none⟩), .int .i64 i, .bool x] w fun e w' => e = .returned (.int .i64 0) ∧ NK base b c (k + 1) (Nt.cutS s i x) w0 w' := by
  obtain ⟨m, h1, h2, h3, h4⟩ := h
  exact (ncut_yes h1 h2 i x hi hk).mono fun e w' g => ⟨g.1, NK.to (h1.mono (Nat.le_succ k)) h3 h4 g.2 (h2.cutS i x)⟩
theorem nk_runT (h : NK base b c k s w0 w) (hc : c ≤ 1000000) (u : Int) {t : Nt.St} {x : Int} (hr : Nt.run s u = (t, x)) : Calls Tryz.prog 27 #[.pointer (some ⟨b, 0, none⟩), .int .i64 u] w fun e w' => e = .returned (.int .i64 x) ∧ NK base b c k t w0 w' := by
  have := nk_run h hc u
  rw [hr] at this
  exact this
theorem nk_doT (h : NK base b c k s w0 w) (hc : c ≤ 1000000) (j y : Int) {t : Nt.St} {x : Int} (he : Nt.doE s j y = x) (hr : Nt.doS s j y = t) : Calls Tryz.prog 28 #[.pointer (some ⟨b, 0, none⟩), .int .i64 j, .int .i64 y] w fun e w' => e = .returned (.int .i64 x) ∧ NK base b (c + 1) k t w0 w' := by
  have := nk_do h hc j y
  rw [he, hr] at this
  exact this
theorem nk_now (h : NK base b c k s w0 w) : Calls Tryz.prog 21 #[.pointer (some ⟨b, 0, none⟩)] w fun e w' => e = .returned (.int .i64 s.now) ∧ w = w' := by
  obtain ⟨m, h1, h2, h3, h4⟩ := h
  exact nnow_any h1 h2.n.1
theorem nk_station (h : NK base b c k s w0 w) : Calls Tryz.prog 19 #[.pointer (some ⟨b, 0, none⟩)] w fun e w' => e = .returned (.int .i64 s.st.st) ∧ w = w' := by
  obtain ⟨m, h1, h2, h3, h4⟩ := h
  exact nstation_any h1 h2
theorem nk_pilot (h : NK base b c k s w0 w) {i : Nat} (hi : i < s.cr.length) : Calls Tryz.prog 22 #[.pointer (some ⟨b, 0, none⟩), .int .i64 ((i : Int) + 1)] w fun e w' => e = .returned (.tuple #[.int .i64 (Nt.at_ s i).p.st, .int .i64 0]) ∧ w = w' := by
  obtain ⟨m, h1, h2, h3, h4⟩ := h
  exact npilot_yes h1 h2 hi
theorem nk_missing (h : NK base b c k s w0 w) : Calls Tryz.prog 30 #[.pointer (some ⟨b, 0, none⟩)] w (ClPost 3 1 (Stn.miss s.st).length ((Stn.miss s.st).map (fun (i : Nat) => .int .i64 i)) w) := by
  obtain ⟨m, h1, h2, h3, h4⟩ := h
  exact nmissing_any h1 h2
end
section
variable (b : Nat) (w : World) (c25 : w.cell? ⟨b, 25, none⟩ = some (.slice none 0 0))
theorem Em {p : Prop} (h : p := by
  go_wp2_with (go_at_call 46; refine NO.out.mono ?_; rintro e w' ⟨rfl, rfl⟩)
  go_ret
  exact ⟨rfl, rfl⟩
 ) : p := h
theorem nstep_nil (w : World) : Calls Tryz.prog 24 #[.pointer none] w fun e w' => e = .returned (.int .i64 1) ∧ w = w' := by
  have NO := Lib.hid (nnone_nil w)
  go_enter Tryz.func24, Tryz.ntmps24
  exact Em
theorem ndo_nil (j x : Int) (w : World) : Calls Tryz.prog 28 #[.pointer none, .int .i64 j, .int .i64 x] w fun e w' => e = .returned (.int .i64 1) ∧ w = w' := by
  have NO := Lib.hid (nnone_nil w)
  go_enter Tryz.func28, Tryz.ntmps28
  exact Em
theorem nnow_nil (w : World) : Calls Tryz.prog 21 #[.pointer none] w fun e w' => e = .returned (.int .i64 0) ∧ w = w' := by
  have NO := Lib.hid (nnone_nil w)
  go_enter Tryz.func21, Tryz.ntmps21
  exact Em
theorem ncopy_nil (w : World) : Calls Tryz.prog 17 #[.pointer none] w fun e w' => e = .returned (.pointer none) ∧ w = w' := by
  go_enter Tryz.func17, Tryz.ntmps17
  go_wp2_with fail
  go_ret
  exact ⟨rfl, rfl⟩
theorem npilot_nil (a : Int) (w : World) : Calls Tryz.prog 22 #[.pointer none, .int .i64 a] w fun e w' => e = .returned (.tuple #[.int .i64 0, .int .i64 1]) ∧ w = w' := by
  have NO := Lib.hid (ncheck_nil a w)
  go_enter Tryz.func22, Tryz.ntmps22
  go_wp2_with (go_at_call 53; refine NO.out.mono ?_; rintro e w' ⟨rfl, rfl⟩)
  go_ret2
  exact ⟨rfl, rfl⟩
include c25
theorem nrun_zero (u : Int) : Calls Tryz.prog 27 #[.pointer (some ⟨b, 0, none⟩), .int .i64 u] w fun e w' => e = .returned (.int .i64 1) ∧ w = w' := by
  have NO := Lib.hid (nnone_zero b w c25)
  go_enter Tryz.func27, Tryz.ntmps27
  exact Em
theorem ncut_zero (a : Int) (x : Bool) : Calls Tryz.prog 23 #[.pointer (some ⟨b, 0, none⟩), .int .i64 a, .bool x] w fun e w' => e = .returned (.int .i64 1) ∧ w = w' := by
  have NO := Lib.hid (ncheck_zero b a w c25)
  go_enter Tryz.func23, Tryz.ntmps23
  go_wp2_with (go_at_call 53; refine NO.out.mono ?_; rintro e w' ⟨rfl, rfl⟩)
  go_ret
  exact ⟨rfl, rfl⟩
theorem nmissing_zero : Calls Tryz.prog 30 #[.pointer (some ⟨b, 0, none⟩)] w fun e w' => e = .returned (.slice none 0 0) ∧ w = w' := by
  have NO := Lib.hid (nnone_zero b w c25)
  go_enter Tryz.func30, Tryz.ntmps30
  exact Em
end
end Go.Proofs.YtdocdgcdldpagaaGreat

import Derived.Test.YtdocdgcdldpagaaGreatAp
import Derived.Test.YtdocdgcdldpagaaGreatAv46
namespace Go.Proofs.YtdocdgcdldpagaaGreat
open Go.RowKit
set_option maxHeartbeats 8000000
set_option maxRecDepth 100000
set_option linter.unusedSimpArgs false
set_option linter.unusedVariables false
def rnet (r : Nt.Ru) (n NA NS KA BA : Nat) (A4 : Option Addr) (c4 : Nat) (A5 : Option Addr) (c5 : Nat) (PA : Option Addr) (pc : Nat) (UA : Option Addr) (uc : Nat) (VA : Option Addr) (vc : Nat) (j : Nat) : List Value :=
  [.int .i64 (n : Int), .int .i64 r.again, .int .i64 r.step, .int .i64 r.drift, .int .i64 r.lost, .int .i64 r.ret, .int .i64 r.desc, .int .i64 r.late, .int .i64 r.every, .int .i64 r.up.loss, .int .i64 r.up.twice, .int .i64 r.up.least, .int .i64 r.up.most, .int .i64 r.up.seed, .int .i64 r.dn.loss, .int .i64 r.dn.twice, .int .i64 r.dn.least, .int .i64 r.dn.most, .int .i64 r.dn.seed, .slice A4 n c4, .slice A5 n c5, .int .i64 0, .int .i64 0, .int .i64 r.again, .int .i64 0, .int .i64 0, .int .i64 0, .bool false, .int .i64 0, .int .i64 0, .slice none 0 0, .int .i64 0, .slice (some ⟨NA, 0, none⟩) n n, .slice (some ⟨NS, 0, none⟩) n n, .slice PA j pc, .slice UA j uc, .slice VA j vc, .slice (some ⟨KA, 0, none⟩) n n, .slice (some ⟨BA, 0, none⟩) (n + 1) (n + 1), .slice none 0 0]
def RLp (r : Nt.Ru) (n NA NS KA BA : Nat) (A4 : Option Addr) (c4 : Nat) (A5 : Option Addr) (c5 : Nat) (p : Nat) (U : World) (PA : Option Addr) (pc : Nat) (UA : Option Addr) (uc : Nat) (VA : Option Addr) (vc j : Nat) (wr : World) : Prop :=
  wr.heap[p]? = some (.cells (rnet r n NA NS KA BA A4 c4 A5 c5 PA pc UA uc VA vc j).toArray 55 (0, 0)) ∧ Row wr U.heap.size 101 24 PA j pc (pcls (Nt.newCrs r j)) ∧ Row wr U.heap.size 136 11 UA j uc (ulcs r.up (·.up) 0 (Nt.newCrs r j) (List.replicate j (none, 0))) ∧
  Row wr U.heap.size 136 11 VA j vc (ulcs r.dn (·.dn) 0 (Nt.newCrs r j) (List.replicate j (none, 0))) ∧ Keeps (fun q => q = p) U wr ∧ ∀ q, blkOf UA = some q → blkOf VA ≠ some q
theorem RLp.next {r : Nt.Ru} {n NA NS KA BA : Nat} {A4 : Option Addr} {c4 : Nat} {A5 : Option Addr} {c5 p : Nat} {U V : World} {PA : Option Addr} {pc : Nat} {UA : Option Addr} {uc : Nat} {VA : Option Addr} {vc j x6 x10 x12 : Nat} {b1 b2 b3 : Option Nat} {PB : Option Addr} {pd : Nat} {UB : Option Addr} {ud : Nat} {VB : Option Addr} {vd : Nat}
    (h : W16 U V p (rnet r n NA NS KA BA A4 c4 A5 c5 PA pc UA uc VA vc j).toArray x6 x10 x12 [.int .i64 ((j : Int) + 1), .int .i64 r.lost, .int .i64 r.ret, .int .i64 r.desc, .int .i64 r.late, .int .i64 r.every, .int .i64 r.drift, .int .i64 0, .bool false, .int .i64 0, .int .i64 0, .int .i64 0, .bool false, .bool false, .bool false, .bool false, .int .i64 0, .int .i64 0, .int .i64 0, .int .i64 0, .int .i64 0, .int .i64 0, .int .i64 0, .int .i64 0] [.int .i64 r.up.loss, .int .i64 r.up.twice, .int .i64 r.up.least, .int .i64 r.up.most, .int .i64 (r.up.seed + ((j : Int) + 1)), .int .u64 (r.up.seed + ((j : Int) + 1)), .int .i64 0, .slice none 0 0, .int .i64 0, .int .i64 0, .int .i64 0] [.int .i64 r.dn.loss, .int .i64 r.dn.twice, .int .i64 r.dn.least, .int .i64 r.dn.most, .int .i64 (r.dn.seed + ((j : Int) + 1)), .int .u64 (r.dn.seed + ((j : Int) + 1)), .int .i64 0, .slice none 0 0, .int .i64 0, .int .i64 0, .int .i64 0] PB (j + 1) pd ((pcls (Nt.newCrs r j)) ++ [.int .i64 ((j : Int) + 1), .int .i64 r.lost, .int .i64 r.ret, .int .i64 r.desc, .int .i64 r.late, .int .i64 r.every, .int .i64 r.drift, .int .i64 0, .bool false, .int .i64 0, .int .i64 0, .int .i64 0, .bool false, .bool false, .bool false, .bool false, .int .i64 0, .int .i64 0, .int .i64 0, .int .i64 0, .int .i64 0, .int .i64 0, .int .i64 0, .int .i64 0]) UB (j + 1) ud ((ulcs r.up (·.up) 0 (Nt.newCrs r j) (List.replicate j (none, 0))) ++ [.int .i64 r.up.loss, .int .i64 r.up.twice, .int .i64 r.up.least, .int .i64 r.up.most, .int .i64 (r.up.seed + ((j : Int) + 1)), .int .u64 (r.up.seed + ((j : Int) + 1)), .int .i64 0, .slice none 0 0, .int .i64 0, .int .i64 0, .int .i64 0]) VB (j + 1) vd ((ulcs r.dn (·.dn) 0 (Nt.newCrs r j) (List.replicate j (none, 0))) ++ [.int .i64 r.dn.loss, .int .i64 r.dn.twice, .int .i64 r.dn.least, .int .i64 r.dn.most, .int .i64 (r.dn.seed + ((j : Int) + 1)), .int .u64 (r.dn.seed + ((j : Int) + 1)), .int .i64 0, .slice none 0 0, .int .i64 0, .int .i64 0, .int .i64 0]) b1 b2 b3) :
    RLp r n NA NS KA BA A4 c4 A5 c5 p U PB pd UB ud VB vd (j + 1) (((V.setCell ⟨p, 34, none⟩ (.slice PB (j + 1) pd)).setCell ⟨p, 35, none⟩ (.slice UB (j + 1) ud)).setCell ⟨p, 36, none⟩ (.slice VB (j + 1) vd)) := by
  have e1 : pcls (Nt.newCrs r (j + 1)) = (pcls (Nt.newCrs r j)) ++ [.int .i64 ((j : Int) + 1), .int .i64 r.lost, .int .i64 r.ret, .int .i64 r.desc, .int .i64 r.late, .int .i64 r.every, .int .i64 r.drift, .int .i64 0, .bool false, .int .i64 0, .int .i64 0, .int .i64 0, .bool false, .bool false, .bool false, .bool false, .int .i64 0, .int .i64 0, .int .i64 0, .int .i64 0, .int .i64 0, .int .i64 0, .int .i64 0, .int .i64 0] := by rw [Nt.newCrs_succ, pcls_snoc]; rfl
  have hl : (List.replicate j ((none, 0) : Option Addr × Nat)).length = (Nt.newCrs r j).length := by rw [List.length_replicate, Nt.newCrs_len]
  have e2 : ulcs r.up (·.up) 0 (Nt.newCrs r (j + 1)) (List.replicate (j + 1) (none, 0)) = (ulcs r.up (·.up) 0 (Nt.newCrs r j) (List.replicate j (none, 0))) ++ [.int .i64 r.up.loss, .int .i64 r.up.twice, .int .i64 r.up.least, .int .i64 r.up.most, .int .i64 (r.up.seed + ((j : Int) + 1)), .int .u64 (r.up.seed + ((j : Int) + 1)), .int .i64 0, .slice none 0 0, .int .i64 0, .int .i64 0, .int .i64 0] := by
    rw [Nt.newCrs_succ, List.replicate_succ', ulcs_snoc _ _ _ _ _ _ _ hl, Nt.newCrs_len, Nat.zero_add]; rfl
  have e3 : ulcs r.dn (·.dn) 0 (Nt.newCrs r (j + 1)) (List.replicate (j + 1) (none, 0)) = (ulcs r.dn (·.dn) 0 (Nt.newCrs r j) (List.replicate j (none, 0))) ++ [.int .i64 r.dn.loss, .int .i64 r.dn.twice, .int .i64 r.dn.least, .int .i64 r.dn.most, .int .i64 (r.dn.seed + ((j : Int) + 1)), .int .u64 (r.dn.seed + ((j : Int) + 1)), .int .i64 0, .slice none 0 0, .int .i64 0, .int .i64 0, .int .i64 0] := by
    rw [Nt.newCrs_succ, List.replicate_succ', ulcs_snoc _ _ _ _ _ _ _ hl, Nt.newCrs_len, Nat.zero_add]; rfl
  have q1 : ∀ g, blkOf PB = some g → g ≠ p := fun g hg => (h.w1.ty hg).ne ⟨_, h.hp⟩ C8
  have q2 : ∀ g, blkOf UB = some g → g ≠ p := fun g hg => (h.w2.ty hg).ne ⟨_, h.hp⟩ C8
  have q3 : ∀ g, blkOf VB = some g → g ≠ p := fun g hg => (h.w3.ty hg).ne ⟨_, h.hp⟩ C8
  refine ⟨?_, ?_, ?_, ?_, ?_, h.d⟩
  · have := blk_set (blk_set (blk_set h.hp 34 (.slice PB (j + 1) pd)) 35 (.slice UB (j + 1) ud)) 36 (.slice VB (j + 1) vd)
    simp only [List.setIfInBounds_toArray] at this
    exact this
  · rw [e1]; exact ((h.w1.far (p := ⟨p, 34, none⟩) q1 _).far (p := ⟨p, 35, none⟩) q1 _).far (p := ⟨p, 36, none⟩) q1 _
  · rw [e2]; exact ((h.w2.far (p := ⟨p, 34, none⟩) q2 _).far (p := ⟨p, 35, none⟩) q2 _).far (p := ⟨p, 36, none⟩) q2 _
  · rw [e3]; exact ((h.w3.far (p := ⟨p, 34, none⟩) q3 _).far (p := ⟨p, 35, none⟩) q3 _).far (p := ⟨p, 36, none⟩) q3 _
  · exact ((h.kU.setCell (p := ⟨p, 34, none⟩) (.inl rfl) _).setCell (p := ⟨p, 35, none⟩) (.inl rfl) _).setCell (p := ⟨p, 36, none⟩) (.inl rfl) _
theorem made_list (v : Value) (n : Nat) : (madeCells #[v] (n * 1)).toList = List.replicate n v := by
  apply List.ext_getElem?
  intro i
  by_cases hi : i < n
  · simp [madeCells, hi, Nat.mod_one]
  · rw [List.getElem?_eq_none (by rw [Array.length_toList, size_madeCells]; omega), List.getElem?_eq_none (by rw [List.length_replicate]; omega)]
theorem Eo {p : Prop} (h : p := by
  rw [hlen] at hi
  have e1 : Nt.at_ (Nt.newK r j) i = Nt.newCr r i := Nt.newCrs_at _ _ _ hi
  rw [e1]
  exact ⟨RWay.nil _ _ _, Nat.zero_le _⟩
 ) : p := h
theorem RLp.done {r : Nt.Ru} {j NA NS KA BA : Nat} {A4 : Option Addr} {c4 : Nat} {A5 : Option Addr} {c5 p : Nat} {U wr : World} {PA : Option Addr} {pc : Nat} {UA : Option Addr} {uc : Nat} {VA : Option Addr} {vc base : Nat}
    (h : RLp r j NA NS KA BA A4 c4 A5 c5 p U PA pc UA uc VA vc j wr) (hn : r.offs.length = j) (hm : r.rates.length = j) (hg : (j : Int) = r.n) (hj : j ≤ 1000) (hb : base ≤ U.heap.size) (hp : base ≤ p) (hK : base ≤ KA) (hB : base ≤ BA)
    (hst : IsR U none 0 (some ⟨NA, 0, none⟩) j (some ⟨NS, 0, none⟩) j (Stn.new j r.again)) (ho : Row U base 3 1 A4 j c4 (icl r.offs)) (ht : Row U base 3 1 A5 j c5 (icl r.rates))
    (hk : U.heap[KA]? = some (.cells (madeCells #[.bool false] (j * 1)) 4 (0, 0))) (hbb : U.heap[BA]? = some (.cells (madeCells #[.int .i64 0] ((j + 1) * 1)) 3 (0, 0))) (hty : Ty U p 55) :
    ∃ m, IsN wr base p (fun i => base ≤ i) m (Nt.new r) := by
  obtain ⟨g1, g2, g3, g4, g5, g6⟩ := h
  have e : Nt.new r = Nt.newK r j := by unfold Nt.new; rw [hn]
  have hlen : (Nt.newK r j).cr.length = j := Nt.newCrs_len r j
  rw [e]
  refine ⟨⟨A4, c4, A5, c5, none, 0, some ⟨NA, 0, none⟩, j, some ⟨NS, 0, none⟩, j, PA, pc, UA, uc, VA, vc, some ⟨KA, 0, none⟩, j, some ⟨BA, 0, none⟩, j + 1, none, 0, List.replicate j (none, 0), List.replicate j (none, 0)⟩, ?_, ?_, ?_, ?_, ?_, ?_, ?_, ?_, ?_, Row.nil _ _ _ _, ?_, ?_, ?_, hp⟩
  · rw [g1]
    simp [rncl, rnet, Nt.newK, Nt.newCrs_len, hn, hm, hg, Stn.new, Stn.data]
  · have := hst.keptT g5 (fun i hi _ => ⟨55, by rw [hi]; exact hty, by decide, by decide, by decide⟩)
    simpa [Nt.newK, hn] using this
  · have := ho.kept g5 (fun g hg' hh => (ho.ty hg').ne hty C8 hh)
    simpa [Nt.newK, hn] using this
  · have := ht.kept g5 (fun g hg' hh => (ht.ty hg').ne hty C8 hh)
    simpa [Nt.newK, hm] using this
  · rw [hlen]; exact g2.more hb
  · rw [hlen]; exact g3.more hb
  · rw [hlen]; exact g4.more hb
  · have hk' := blk_keep hk g5 (fun hh => Ty.ne ⟨_, hk⟩ hty C8 hh)
    rw [hlen]
    refine Row.of_block hk' hK (Nat.le_refl _) (show j ≤ maxLen by unfold maxLen; omega) (by rw [size_madeCells]; show 0 + j * 1 ≤ j * 1; omega) ?_
    rw [List.drop_zero, made_list]
    simp [Nt.newK, hn, bools]
  · have hk' := blk_keep hbb g5 (fun hh => Ty.ne ⟨_, hbb⟩ hty C8 hh)
    rw [hlen]
    refine Row.of_block hk' hB (Nat.le_refl _) (show j + 1 ≤ maxLen by unfold maxLen; omega) (by rw [size_madeCells]; show 0 + (j + 1) * 1 ≤ (j + 1) * 1; omega) ?_
    rw [List.drop_zero, made_list]
    have hs : ∀ k, (Nt.newCrs r k).map (·.s) = List.replicate k 0 := fun k => by
      induction k with
      | zero => rfl
      | succ k ih => rw [Nt.newCrs_succ, List.map_append, ih, List.replicate_succ']; rfl
    simp [Nt.newK, bcl, hs, icl, List.replicate_succ]
  · exact ⟨by rw [hlen]; exact List.length_replicate, by rw [hlen]; exact List.length_replicate⟩
  · intro i hi
    exact Eo
  · intro i hi
    exact Eo
end Go.Proofs.YtdocdgcdldpagaaGreat

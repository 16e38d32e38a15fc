import Derived.Test.YtdocdgcdldpagaaGreatAp
import Derived.Test.YtdocdgcdldpagaaGreatAv34
import Derived.Test.YtdocdgcdldpagaaGreatAv17
import Derived.Test.YtdocdgcdldpagaaGreatAv24
import Derived.Test.YtdocdgcdldpagaaGreatAv12
namespace Go.Proofs.YtdocdgcdldpagaaGreat
open Go.RowKit
set_option maxHeartbeats 8000000
set_option maxRecDepth 100000
set_option linter.unusedSimpArgs false
set_option linter.unusedVariables false
attribute [local go_sem ↓] Go.wp_at_zero Go.wp_at_succ
section
variable {w w' w0 : World} {base b k N fb : Nat} {m m1 : NM} {s s' : Nt.St} {v : Value} {L : List Fr}
theorem nmissing_any (h : IsNet w base b m k s) (hs : Nt.Inv N s) :
    Calls Tryz.prog 30 #[.pointer (some ⟨b, 0, none⟩)] w (ClPost 3 1 (Stn.miss s.st).length ((Stn.miss s.st).map (fun (i : Nat) => .int .i64 i)) w) := by
  have NO := Lib.hid (nnone_any h hs.n.1)
  have MS := Lib.hid (missing_any h.st hs.st)
  have c23 : w.cell? ⟨b, 23, none⟩ = some (.pointer (some ⟨m.sb, 0, none⟩)) := blk_cell h.blk 23 rfl
  clear h hs
  go_enter Tryz.func30, Tryz.ntmps30
  go_wp2_with (refine NO.out.mono ?_; rintro e w' ⟨rfl, rfl⟩)
  refine MS.out.mono ?_
  rintro e w' ⟨A, c, rfl, h1, h2⟩
  go_wp2_with fail
  go_ret
  exact ⟨A, c, rfl, h1, h2⟩
theorem npilot_no (h : IsNet w base b m k s) (hs : Nt.Inv N s) (a : Int) (ha : ¬ (1 ≤ a ∧ a ≤ s.cr.length)) :
    Calls Tryz.prog 22 #[.pointer (some ⟨b, 0, none⟩), .int .i64 a] w fun e w' => e = .returned (.tuple #[.int .i64 0, .int .i64 2]) ∧ w = w' := by
  have CH := Lib.hid (ncheck_no h hs a ha)
  clear h hs ha
  go_enter Tryz.func22, Tryz.ntmps22
  go_wp2_with (refine CH.out.mono ?_; rintro e w' ⟨rfl, rfl⟩)
  go_ret2
  exact ⟨rfl, rfl⟩
theorem npilot_yes (h : IsNet w base b m k s) (hs : Nt.Inv N s) {i : Nat} (hi : i < s.cr.length) :
    Calls Tryz.prog 22 #[.pointer (some ⟨b, 0, none⟩), .int .i64 ((i : Int) + 1)] w fun e w' => e = .returned (.tuple #[.int .i64 (Nt.at_ s i).p.st, .int .i64 0]) ∧ w = w' := by
  have CH := Lib.hid (ncheck_yes h hs ((i : Int) + 1) Cb)
  obtain ⟨g, o, hCA, _, d0, _, _, _, _⟩ := h.cells hi
  have c25 : w.cell? ⟨b, 25, none⟩ = some (.slice m.CA s.cr.length m.cc) := blk_cell h.blk 25 rfl
  rw [hCA] at c25
  have hn64 := hs.n.2
  have wi : IntKind.i64.wrap ((i : Int) + 1 - 1) = (i : Int) := by rw [IntWalk.i64_in _ Cb]; omega
  have wi2 : IntKind.i64.wrap (i : Int) = (i : Int) := IntWalk.i64_in _ Cb
  have ic : (i : Int) < (s.cr.length : Int) := by omega
  have i0 : (0 : Int) ≤ (i : Int) := by omega
  have PS := Lib.hid (pstate_any (h.cr i hi).p (hs.cr i hi).p)
  obtain ⟨pb, hpb⟩ : ∃ pb, pb = (m.cs.getD i cm0).pb := ⟨_, rfl⟩
  rw [← hpb] at d0 PS
  obtain ⟨x, hx⟩ : ∃ x, x = (Nt.at_ s i).p.st := ⟨_, rfl⟩
  rw [← hx] at PS ⊢
  clear h hs hpb hx hCA
  go_enter Tryz.func22, Tryz.ntmps22
  go_wp2_with (first | (refine CH.out.mono ?_; rintro e w' ⟨rfl, rfl⟩) | (refine PS.out.mono ?_; rintro e w' ⟨rfl, rfl⟩))
  go_ret2
  exact ⟨rfl, rfl⟩
theorem nlocalx_no (h : IsNet w base b m k s) (hs : Nt.Inv N s) (a : Int) (ha : ¬ (1 ≤ a ∧ a ≤ s.cr.length)) :
    Calls Tryz.prog 43 #[.pointer (some ⟨b, 0, none⟩), .int .i64 a] w fun e w' => e = .returned (.tuple #[.int .i64 0, .int .i64 2]) ∧ w = w' := by
  have CH := Lib.hid (ncheck_no h hs a ha)
  clear h hs ha
  go_enter Tryz.func43, Tryz.ntmps43
  go_wp2_with (refine CH.out.mono ?_; rintro e w' ⟨rfl, rfl⟩)
  go_ret2
  exact ⟨rfl, rfl⟩
theorem nlocalx_yes (h : IsNet w base b m k s) (hs : Nt.Inv N s) {i : Nat} (hi : i < s.cr.length) :
    Calls Tryz.prog 43 #[.pointer (some ⟨b, 0, none⟩), .int .i64 ((i : Int) + 1)] w fun e w' => e = .returned (.tuple #[.int .i64 (Nt.lcl s i), .int .i64 0]) ∧ ∃ q, w' = w.drewN q := by
  have CH := Lib.hid (ncheck_yes h hs ((i : Int) + 1) Cb)
  have LO := Lib.hid (nlocal_any h hs hi)
  clear h hs
  go_enter Tryz.func43, Tryz.ntmps43
  go_wp2_with (first | (refine CH.out.mono ?_; rintro e w' ⟨rfl, rfl⟩) | (refine LO.out.mono ?_; rintro e w' ⟨rfl, q, rfl⟩))
  go_ret2
  exact ⟨rfl, _, rfl⟩
end
end Go.Proofs.YtdocdgcdldpagaaGreat
namespace Go.Proofs.YtdocdgcdldpagaaGreat
open Go.RowKit
set_option maxHeartbeats 8000000
set_option maxRecDepth 100000
set_option linter.unusedSimpArgs false
set_option linter.unusedVariables false
attribute [local go_sem ↓] Go.wp_at_zero Go.wp_at_succ
attribute [local go_sem high] run_mn run_mx
namespace Nt
def one (r : Ru) (i : Nat) : Bool := decide ((-3600000 ≤ r.offs.getD i 0 ∧ r.offs.getD i 0 ≤ 3600000) ∧ (-r.drift ≤ r.rates.getD i 0 ∧ r.rates.getD i 0 ≤ r.drift))
def ones (r : Ru) : Nat → Bool
  | 0 => true
  | i + 1 => ones r i && one r i
def vld0 (r : Ru) : Bool := decide ((1 ≤ r.n ∧ r.n ≤ 64) ∧ (1 ≤ r.again ∧ r.again ≤ 60000) ∧ (1 ≤ r.step ∧ r.step ≤ 1000) ∧ (0 ≤ r.drift ∧ r.drift ≤ 100000) ∧ (r.offs.length : Int) = r.n ∧ (r.rates.length : Int) = r.n)
def vld (r : Ru) : Bool := vld0 r && ones r r.offs.length && Plt.ruOk r.lost r.ret r.desc r.late r.every && Lnk.vld r.up && Lnk.vld r.dn && decide (max r.up.seed r.dn.seed ≤ 1099511627776)
theorem ones_no {r : Ru} {i n : Nat} (hi : i < n) (h : one r i = false) : ones r n = false := by
  induction n with
  | zero => omega
  | succ n ih =>
    rw [ones]
    by_cases e : i = n
    · subst e; rw [h, Bool.and_false]
    · rw [ih Cb, Bool.false_and]
end Nt
def rval (r : Nt.Ru) (OA : Option Addr) (on oc : Nat) (TA : Option Addr) (tn tc : Nat) : Value := .agg #[.int .i64 r.n, .int .i64 r.again, .int .i64 r.step, .int .i64 r.drift, .int .i64 r.lost, .int .i64 r.ret, .int .i64 r.desc, .int .i64 r.late, .int .i64 r.every,
  .int .i64 r.up.loss, .int .i64 r.up.twice, .int .i64 r.up.least, .int .i64 r.up.most, .int .i64 r.up.seed, .int .i64 r.dn.loss, .int .i64 r.dn.twice, .int .i64 r.dn.least, .int .i64 r.dn.most, .int .i64 r.dn.seed, .slice OA on oc, .slice TA tn tc]
section
variable {w w' w0 : World}
theorem nwithin_any (n a b : Int) (w : World) : Calls Tryz.prog 31 #[.int .i64 n, .int .i64 a, .int .i64 b] w fun e w' => e = .returned (.bool (decide (a ≤ n ∧ n ≤ b))) ∧ w = w' := by
  by_cases h : a ≤ n ∧ n ≤ b
  · rw [decide_eq_true h]; exact nwithin_yes n a b w h
  · rw [decide_eq_false h]; exact nwithin_no n a b w h
end
end Go.Proofs.YtdocdgcdldpagaaGreat
namespace Go.Proofs.YtdocdgcdldpagaaGreat
open Go.RowKit
set_option maxHeartbeats 8000000
set_option maxRecDepth 100000
set_option linter.unusedSimpArgs false
set_option linter.unusedVariables false
attribute [local go_sem ↓] Go.wp_at_zero Go.wp_at_succ
namespace Nt
def newCr (r : Ru) (i : Nat) : Cr := ⟨Plt.new ((i : Int) + 1) r.lost r.ret r.desc r.late r.every r.drift, Lnk.new (lru r.up i), Lnk.new (lru r.dn i), 0⟩
def newCrs (r : Ru) (j : Nat) : List Cr := (List.range j).map (newCr r)
def newK (r : Ru) (j : Nat) : St := ⟨r, 0, 0, Stn.new r.offs.length r.again, 0, newCrs r j, List.replicate (r.offs.length + 1) false, []⟩
def new (r : Ru) : St := newK r r.offs.length
theorem newCrs_len (r : Ru) (j : Nat) : (newCrs r j).length = j := by simp [newCrs]
theorem newCrs_succ (r : Ru) (j : Nat) : newCrs r (j + 1) = newCrs r j ++ [newCr r j] := by simp [newCrs, List.range_succ]
theorem newCrs_at (r : Ru) (j i : Nat) (h : i < j) : (newCrs r j).getD i c0 = newCr r i := by simp [newCrs, List.getD, h]
theorem vld_says {r : Ru} (h : vld r = true) : vld0 r = true ∧ ones r r.offs.length = true ∧ Plt.ruOk r.lost r.ret r.desc r.late r.every = true ∧ Lnk.vld r.up = true ∧ Lnk.vld r.dn = true ∧ r.up.seed ≤ 1099511627776 ∧ r.dn.seed ≤ 1099511627776 := by
  unfold vld at h
  simp only [Bool.and_eq_true, decide_eq_true_eq] at h
  obtain ⟨⟨⟨⟨⟨h1, h2⟩, h3⟩, h4⟩, h5⟩, h6⟩ := h
  exact ⟨h1, h2, h3, h4, h5, by omega, by omega⟩
end Nt
theorem Ri.reads {w : World} {B n : Nat} {A : Option Addr} {l : List Int} (h : Ri w B A n l) : Reads w B 1 A n (icl l) := by
  refine ⟨by rw [icl, List.length_map, h.1, Nat.mul_one], fun hn => ?_⟩
  obtain ⟨b, o, e, hb, hc⟩ := h.2.2 hn
  refine ⟨⟨b, o, none⟩, e, hb, fun j u hu => ?_⟩
  have hj : j < n := by
    rcases Nat.lt_or_ge j n with g | g
    · exact g
    · rw [icl, List.getElem?_eq_none (by rw [List.length_map, h.1]; exact g)] at hu
      cases hu
  rw [addr_add, hc j hj, ← hu, icl, List.getElem?_map, List.getD, List.getElem?_eq_getElem (by rw [h.1]; exact hj)]
  rfl
theorem icl_one (l : List Int) : ∀ v ∈ icl l, v.oneCell' = true := by
  intro v hv
  simp only [icl, List.mem_map] at hv
  obtain ⟨x, _, rfl⟩ := hv
  rfl
theorem clonei_rd (A : Option Addr) (n c : Nat) (xs : List Value) (w : World) (hn : n ≤ 1000000) (hA : A = none → n = 0 ∧ c = 0) (hr : Reads w w.heap.size 1 A n xs) (h1 : ∀ v ∈ xs, v.oneCell' = true) :
    Calls Tryz.prog 62 #[.slice A n c] w (ClPost 3 1 n xs w) := by
  obtain ⟨i0, hi0, hz0, hz1, hz2⟩ := info_parts info_in
  cases A with
  | none =>
    obtain ⟨h0, h00⟩ := hA rfl
    subst h0; subst h00
    have hx : xs = [] := List.eq_nil_of_length_eq_zero (by simpa using hr.1)
    subst hx
    have kn := fun (W : World) => Lib.run_eql_slice_nil (P := Tryz.prog) W 26 3 none 0 0 0 0 Tryz.underlying26
    simp only [Option.isNone] at kn
    clear hr hA
    go_enter Tryz.func62, Tryz.ntmps62
    go_wp2_with fail
    go_ret
    exact ⟨none, 0, rfl, Row.nil _ _ _ _, A9⟩
  | some a =>
    have kn := fun (W : World) => Lib.run_eql_slice_nil (P := Tryz.prog) W 26 3 (some a) n c 0 0 Tryz.underlying26
    simp only [Option.isNone] at kn
    clear hA
    go_enter Tryz.func62, Tryz.ntmps62
    go_wp2_with (at_builtin; refine wpList_append_any _ rfl (.tmp 5) (.tmp 6) _ rfl w.heap.size 3 i0 _ 1 8 Tryz.underlying26 hi0 hz0 hz1 hz2 rfl Cb (.slice (some ⟨w.heap.size, 0, none⟩) 0 0) 0 [] rfl (World.ownsRow_lit w #[] 0 (Nat.le_refl _) Bv rfl) w.heap.size (some a) n c xs rfl (hr.alloc (Nat.le_refl _) _) h1 Bn Cb C9 ?_; intro v1 w1 hown1 hg1 hat1)
    go_ret
    simp only [Nat.zero_add, List.nil_append] at hown1
    obtain ⟨A', cap', rfl⟩ := own_formS hown1
    exact ⟨A', cap', rfl, Row.of_own hown1, ((Below.refl _ _).alloc (Nat.le_refl _) _).grown hg1 C9 (fun k hk => by simp [Value.ownBlock] at hk; omega)⟩
theorem ccls_snoc : ∀ (ms : List CM) (cs : List Nt.Cr) (m : CM) (c : Nt.Cr), ms.length = cs.length → ccls (ms ++ [m]) (cs ++ [c]) = ccls ms cs ++ ccl m c
  | [], [], _, _, _ => by simp [ccls]
  | x :: ms, y :: cs, m, c, h => by
    rw [List.cons_append, List.cons_append, ccls, ccls, ccls_snoc ms cs m c C4, List.append_assoc]
  | [], _ :: _, _, _, h => by simp at h
  | _ :: _, [], _, _, h => by simp at h
theorem getD_snoc {α : Type} (l : List α) (x d : α) (i : Nat) : (l ++ [x]).getD i d = if i = l.length then x else l.getD i d := by
  by_cases e : i = l.length
  · subst e
    simp [List.getD]
  · rw [if_neg e]
    rcases Nat.lt_or_ge i l.length with h | h
    · simp [List.getD, List.getElem?_append_left h]
    · rw [List.getD, List.getD, List.getElem?_eq_none C6, List.getElem?_eq_none h]
section
variable {w w' : World} {base b k : Nat} {m : NM} {s : Nt.St}
theorem IsNet.push (h : IsNet w base b m k s) {c : Nt.Cr} {c' : CM} {CA' : Option Addr} {cc' : Nat} (kk : Keeps (fun q => q = b ∨ blkOf m.CA = some q) w w')
    (hb : w'.heap[b]? = some (.cells (ncl { m with CA := CA', cc := cc', cs := m.cs ++ [c'] } { s with cr := s.cr ++ [c] }).toArray 86 (0, 0)))
    (hrow : Row w' base 108 4 CA' (s.cr ++ [c]).length cc' (ccls (m.cs ++ [c']) (s.cr ++ [c])))
    (hcr : IsCr w' base c' (Nt.lru s.r.up s.cr.length) (Nt.lru s.r.dn s.cr.length) c) (hnew : ∀ q, Cf c' q → w.heap.size ≤ q) :
    IsNet w' base b { m with CA := CA', cc := cc', cs := m.cs ++ [c'] } k { s with cr := s.cr ++ [c] } := by
  have hn : ∀ (q : Nat) (e : TypeId), Ty w q e → e ≠ 86 → e ≠ 108 → ¬ (q = b ∨ blkOf m.CA = some q) := fun q e g h1 h2 hq => by
    rcases hq with rfl | hq
    · exact g.ne ⟨_, h.blk⟩ h1 rfl
    · exact g.ne (h.crow.ty hq) h2 rfl
  have hcl : (s.cr ++ [c]).length = s.cr.length + 1 := by simp
  have hml : (m.cs ++ [c']).length = m.cs.length + 1 := by simp
  refine ⟨hb, ?_, ?_, ?_, hrow, ?_, ?_, ?_, ?_, ?_, h.ge, h.so⟩
  · exact h.st.kept kk (fun q hq => by rcases h.st.three hq with t | t | t <;> exact hn _ _ t C8 C8)
  · exact h.offs.kept kk (fun q hq => hn _ _ (h.offs.ty hq) C8 C8)
  · exact h.rates.kept kk (fun q hq => hn _ _ (h.rates.ty hq) C8 C8)
  · exact h.erow.kept kk (fun q hq => hn _ _ (h.erow.ty hq) C8 C8)
  · intro i hi
    have hi : i < s.cr.length + 1 := by rw [← hcl]; exact hi
    show IsCr w' base ((m.cs ++ [c']).getD i cm0) _ _ ((s.cr ++ [c]).getD i Nt.c0)
    rw [getD_snoc, getD_snoc, h.len]
    by_cases e : i = s.cr.length
    · subst e
      rw [if_pos rfl, if_pos rfl]
      exact hcr
    · rw [if_neg e, if_neg e]
      have hi' : i < s.cr.length := by omega
      exact (h.cr i hi').kept kk (fun q hq => by rcases (h.cr i hi').ty hq with t | t | t | t <;> exact hn _ _ t C8 C8)
  · show (m.cs ++ [c']).length = (s.cr ++ [c]).length
    rw [hml, hcl, h.len]
  · intro i j hi hj hne q hq hq'
    have hi : i < s.cr.length + 1 := by rw [← hcl]; exact hi
    have hj : j < s.cr.length + 1 := by rw [← hcl]; exact hj
    have hqa : Cf ((m.cs ++ [c']).getD i cm0) q := hq
    have hqb : Cf ((m.cs ++ [c']).getD j cm0) q := hq'
    clear hq hq'
    rw [getD_snoc, h.len] at hqa hqb
    by_cases e : i = s.cr.length
    · rw [if_pos e] at hqa
      rw [if_neg Cb] at hqb
      have h1 := hnew q hqa
      have h2 := ((h.cr j Cb).lt hqb).2
      omega
    · rw [if_neg e] at hqa
      by_cases e' : j = s.cr.length
      · rw [if_pos e'] at hqb
        have h1 := hnew q hqb
        have h2 := ((h.cr i Cb).lt hqa).2
        omega
      · rw [if_neg e'] at hqb
        exact h.dis i j Cb Cb hne q hqa hqb
  · obtain ⟨k', h1, h2⟩ := h.cut
    exact ⟨k', h1, h2.kept kk (fun hq => by
      rcases hq with hq | hq
      · exact h2.notCells ⟨_, h.blk⟩ hq.symm
      · exact h2.notCells (h.crow.ty hq) rfl)⟩
theorem IsSt.more {b mc rc base' : Nat} {MA RA : Option Addr} {t : Stn.St} (h : IsSt w base b MA mc RA rc t) (hb : base' ≤ base) : IsSt w base' b MA mc RA rc t := ⟨h.blk, h.mrow.more hb, h.rrow.more hb, Nat.le_trans hb h.ge⟩
theorem IsNet.begin {W : World} {base b sb mb n c4 c5 : Nat} {RA A4 A5 : Option Addr} (r : Nt.Ru) (hn : r.offs.length = n) (hm : r.rates.length = n)
    (hb : W.heap[b]? = some (.cells (ncl ⟨sb, none, 0, RA, n, A4, c4, A5, c5, none, 0, mb, none, 0, []⟩ (Nt.newK r 0)).toArray 86 (0, 0)))
    (hs : IsSt W base sb none 0 RA n (Stn.new n r.again)) (ho : Row W base 3 1 A4 n c4 (icl r.offs)) (ht : Row W base 3 1 A5 n c5 (icl r.rates))
    (hc : IsCut W mb 0 (List.replicate (n + 1) false)) (hge : base ≤ b ∧ base ≤ mb) (so : ∀ q, blkOf A4 = some q ∨ blkOf A5 = some q → ¬ Three sb none RA q) :
    IsNet W base b ⟨sb, none, 0, RA, n, A4, c4, A5, c5, none, 0, mb, none, 0, []⟩ 0 (Nt.newK r 0) := by
  subst hn
  refine ⟨hb, hs, ho, ?_, Row.nil _ _ _ _, Row.nil _ _ _ _, ?_, rfl, ?_, ⟨0, Nat.le_refl _, hc⟩, hge, so⟩
  · show Row W base 3 1 A5 r.rates.length c5 (icl r.rates)
    rw [hm]; exact ht
  · intro i hi
    exact absurd hi (by show ¬ i < 0; omega)
  · intro i j hi
    exact absurd hi (by show ¬ i < 0; omega)
end
end Go.Proofs.YtdocdgcdldpagaaGreat
namespace Go.Proofs.YtdocdgcdldpagaaGreat
open Go.RowKit
set_option maxHeartbeats 8000000
set_option maxRecDepth 100000
set_option linter.unusedSimpArgs false
set_option linter.unusedVariables false
attribute [local go_sem ↓] Go.wp_at_zero Go.wp_at_succ
attribute [local go_sem high] run_mn run_mx
section
variable {w w' w0 : World}
theorem nvalid_no0 (r : Nt.Ru) (OA : Option Addr) (oc : Nat) (TA : Option Addr) (tc : Nat) (w : World) (h : Nt.vld0 r = false) :
    Calls Tryz.prog 9 #[rval r OA r.offs.length oc TA r.rates.length tc] w fun e w' => e = .returned (.bool false) ∧ Below w.heap.size w w' := by
  have WI := Lib.hid (fun n a b W => nwithin_any n a b W)
  obtain ⟨c1, hc1⟩ : ∃ c, c = decide (1 ≤ r.n ∧ r.n ≤ 64) := ⟨_, rfl⟩
  obtain ⟨c2, hc2⟩ : ∃ c, c = decide (1 ≤ r.again ∧ r.again ≤ 60000) := ⟨_, rfl⟩
  obtain ⟨c3, hc3⟩ : ∃ c, c = decide (1 ≤ r.step ∧ r.step ≤ 1000) := ⟨_, rfl⟩
  obtain ⟨c4, hc4⟩ : ∃ c, c = decide (0 ≤ r.drift ∧ r.drift ≤ 100000) := ⟨_, rfl⟩
  obtain ⟨c5, hc5⟩ : ∃ c, c = ((r.offs.length : Int) != r.n) := ⟨_, rfl⟩
  obtain ⟨c6, hc6⟩ : ∃ c, c = ((r.rates.length : Int) != r.n) := ⟨_, rfl⟩
  have hall : c1 = true → c2 = true → c3 = true → c4 = true → c5 = false → c6 = false → False := by
    intro e1 e2 e3 e4 e5 e6
    rw [e1] at hc1; rw [e2] at hc2; rw [e3] at hc3; rw [e4] at hc4; rw [e5] at hc5; rw [e6] at hc6
    unfold Nt.vld0 at h
    rw [decide_eq_true ⟨decide_eq_true_iff.1 hc1.symm, decide_eq_true_iff.1 hc2.symm, decide_eq_true_iff.1 hc3.symm, decide_eq_true_iff.1 hc4.symm, by simpa using hc5, by simpa using hc6⟩] at h
    cases h
  have W1 := Lib.hid (show ∀ W, Calls Tryz.prog 31 #[.int .i64 r.n, .int .i64 1, .int .i64 64] W fun e w' => e = .returned (.bool c1) ∧ W = w' from fun W => by rw [hc1]; exact nwithin_any _ _ _ W)
  have W2 := Lib.hid (show ∀ W, Calls Tryz.prog 31 #[.int .i64 r.again, .int .i64 1, .int .i64 60000] W fun e w' => e = .returned (.bool c2) ∧ W = w' from fun W => by rw [hc2]; exact nwithin_any _ _ _ W)
  have W3 := Lib.hid (show ∀ W, Calls Tryz.prog 31 #[.int .i64 r.step, .int .i64 1, .int .i64 1000] W fun e w' => e = .returned (.bool c3) ∧ W = w' from fun W => by rw [hc3]; exact nwithin_any _ _ _ W)
  have W4 := Lib.hid (show ∀ W, Calls Tryz.prog 31 #[.int .i64 r.drift, .int .i64 0, .int .i64 100000] W fun e w' => e = .returned (.bool c4) ∧ W = w' from fun W => by rw [hc4]; exact nwithin_any _ _ _ W)
  have z5 := hc5.symm
  have z6 := hc6.symm
  clear hc1 hc2 hc3 hc4 hc5 hc6 h WI
  unfold rval
  cases c1
  case false => (clear hall; go_enter Tryz.func9, Tryz.ntmps9; go_upto_region 1 with fail; generalize hV : World.alloc _ _ = V; have k0 : V.heap[w.heap.size]? = some (.cells #[.int .i64 r.n, .int .i64 r.again, .int .i64 r.step, .int .i64 r.drift, .int .i64 r.lost, .int .i64 r.ret, .int .i64 r.desc, .int .i64 r.late, .int .i64 r.every, .int .i64 r.up.loss, .int .i64 r.up.twice, .int .i64 r.up.least, .int .i64 r.up.most, .int .i64 r.up.seed, .int .i64 r.dn.loss, .int .i64 r.dn.twice, .int .i64 r.dn.least, .int .i64 r.dn.most, .int .i64 r.dn.seed, .slice OA r.offs.length oc, .slice TA r.rates.length tc] 28 (0, 0)) := Bd; have HB := Lib.hid (show Below w.heap.size w V from by rw [← hV]; exact (Below.refl _ w).alloc (Nat.le_refl _) _); have q0 := blk_cell k0 0 rfl; have q1 := blk_cell k0 1 rfl; have q2 := blk_cell k0 2 rfl; have q3 := blk_cell k0 3 rfl; have q19 := blk_cell k0 19 rfl; have q20 := blk_cell k0 20 rfl; clear hV k0; go_wp2_with (first | (with_reducible refine (W1.out _).mono ?_; rintro e w' ⟨rfl, rfl⟩) | (with_reducible refine (W2.out _).mono ?_; rintro e w' ⟨rfl, rfl⟩) | (with_reducible refine (W3.out _).mono ?_; rintro e w' ⟨rfl, rfl⟩) | (with_reducible refine (W4.out _).mono ?_; rintro e w' ⟨rfl, rfl⟩)); go_ret; exact ⟨rfl, HB.out⟩)
  case true =>
    cases c2
    case false => (clear hall; go_enter Tryz.func9, Tryz.ntmps9; go_upto_region 1 with fail; generalize hV : World.alloc _ _ = V; have k0 : V.heap[w.heap.size]? = some (.cells #[.int .i64 r.n, .int .i64 r.again, .int .i64 r.step, .int .i64 r.drift, .int .i64 r.lost, .int .i64 r.ret, .int .i64 r.desc, .int .i64 r.late, .int .i64 r.every, .int .i64 r.up.loss, .int .i64 r.up.twice, .int .i64 r.up.least, .int .i64 r.up.most, .int .i64 r.up.seed, .int .i64 r.dn.loss, .int .i64 r.dn.twice, .int .i64 r.dn.least, .int .i64 r.dn.most, .int .i64 r.dn.seed, .slice OA r.offs.length oc, .slice TA r.rates.length tc] 28 (0, 0)) := Bd; have HB := Lib.hid (show Below w.heap.size w V from by rw [← hV]; exact (Below.refl _ w).alloc (Nat.le_refl _) _); have q0 := blk_cell k0 0 rfl; have q1 := blk_cell k0 1 rfl; have q2 := blk_cell k0 2 rfl; have q3 := blk_cell k0 3 rfl; have q19 := blk_cell k0 19 rfl; have q20 := blk_cell k0 20 rfl; clear hV k0; go_wp2_with (first | (with_reducible refine (W1.out _).mono ?_; rintro e w' ⟨rfl, rfl⟩) | (with_reducible refine (W2.out _).mono ?_; rintro e w' ⟨rfl, rfl⟩) | (with_reducible refine (W3.out _).mono ?_; rintro e w' ⟨rfl, rfl⟩) | (with_reducible refine (W4.out _).mono ?_; rintro e w' ⟨rfl, rfl⟩)); go_ret; exact ⟨rfl, HB.out⟩)
    case true =>
      cases c3
      case false => (clear hall; go_enter Tryz.func9, Tryz.ntmps9; go_upto_region 1 with fail; generalize hV : World.alloc _ _ = V; have k0 : V.heap[w.heap.size]? = some (.cells #[.int .i64 r.n, .int .i64 r.again, .int .i64 r.step, .int .i64 r.drift, .int .i64 r.lost, .int .i64 r.ret, .int .i64 r.desc, .int .i64 r.late, .int .i64 r.every, .int .i64 r.up.loss, .int .i64 r.up.twice, .int .i64 r.up.least, .int .i64 r.up.most, .int .i64 r.up.seed, .int .i64 r.dn.loss, .int .i64 r.dn.twice, .int .i64 r.dn.least, .int .i64 r.dn.most, .int .i64 r.dn.seed, .slice OA r.offs.length oc, .slice TA r.rates.length tc] 28 (0, 0)) := Bd; have HB := Lib.hid (show Below w.heap.size w V from by rw [← hV]; exact (Below.refl _ w).alloc (Nat.le_refl _) _); have q0 := blk_cell k0 0 rfl; have q1 := blk_cell k0 1 rfl; have q2 := blk_cell k0 2 rfl; have q3 := blk_cell k0 3 rfl; have q19 := blk_cell k0 19 rfl; have q20 := blk_cell k0 20 rfl; clear hV k0; go_wp2_with (first | (with_reducible refine (W1.out _).mono ?_; rintro e w' ⟨rfl, rfl⟩) | (with_reducible refine (W2.out _).mono ?_; rintro e w' ⟨rfl, rfl⟩) | (with_reducible refine (W3.out _).mono ?_; rintro e w' ⟨rfl, rfl⟩) | (with_reducible refine (W4.out _).mono ?_; rintro e w' ⟨rfl, rfl⟩)); go_ret; exact ⟨rfl, HB.out⟩)
      case true =>
        cases c4
        case false => (clear hall; go_enter Tryz.func9, Tryz.ntmps9; go_upto_region 1 with fail; generalize hV : World.alloc _ _ = V; have k0 : V.heap[w.heap.size]? = some (.cells #[.int .i64 r.n, .int .i64 r.again, .int .i64 r.step, .int .i64 r.drift, .int .i64 r.lost, .int .i64 r.ret, .int .i64 r.desc, .int .i64 r.late, .int .i64 r.every, .int .i64 r.up.loss, .int .i64 r.up.twice, .int .i64 r.up.least, .int .i64 r.up.most, .int .i64 r.up.seed, .int .i64 r.dn.loss, .int .i64 r.dn.twice, .int .i64 r.dn.least, .int .i64 r.dn.most, .int .i64 r.dn.seed, .slice OA r.offs.length oc, .slice TA r.rates.length tc] 28 (0, 0)) := Bd; have HB := Lib.hid (show Below w.heap.size w V from by rw [← hV]; exact (Below.refl _ w).alloc (Nat.le_refl _) _); have q0 := blk_cell k0 0 rfl; have q1 := blk_cell k0 1 rfl; have q2 := blk_cell k0 2 rfl; have q3 := blk_cell k0 3 rfl; have q19 := blk_cell k0 19 rfl; have q20 := blk_cell k0 20 rfl; clear hV k0; go_wp2_with (first | (with_reducible refine (W1.out _).mono ?_; rintro e w' ⟨rfl, rfl⟩) | (with_reducible refine (W2.out _).mono ?_; rintro e w' ⟨rfl, rfl⟩) | (with_reducible refine (W3.out _).mono ?_; rintro e w' ⟨rfl, rfl⟩) | (with_reducible refine (W4.out _).mono ?_; rintro e w' ⟨rfl, rfl⟩)); go_ret; exact ⟨rfl, HB.out⟩)
        case true =>
          cases c5
          case true => (clear hall; go_enter Tryz.func9, Tryz.ntmps9; go_upto_region 1 with fail; generalize hV : World.alloc _ _ = V; have k0 : V.heap[w.heap.size]? = some (.cells #[.int .i64 r.n, .int .i64 r.again, .int .i64 r.step, .int .i64 r.drift, .int .i64 r.lost, .int .i64 r.ret, .int .i64 r.desc, .int .i64 r.late, .int .i64 r.every, .int .i64 r.up.loss, .int .i64 r.up.twice, .int .i64 r.up.least, .int .i64 r.up.most, .int .i64 r.up.seed, .int .i64 r.dn.loss, .int .i64 r.dn.twice, .int .i64 r.dn.least, .int .i64 r.dn.most, .int .i64 r.dn.seed, .slice OA r.offs.length oc, .slice TA r.rates.length tc] 28 (0, 0)) := Bd; have HB := Lib.hid (show Below w.heap.size w V from by rw [← hV]; exact (Below.refl _ w).alloc (Nat.le_refl _) _); have q0 := blk_cell k0 0 rfl; have q1 := blk_cell k0 1 rfl; have q2 := blk_cell k0 2 rfl; have q3 := blk_cell k0 3 rfl; have q19 := blk_cell k0 19 rfl; have q20 := blk_cell k0 20 rfl; clear hV k0; go_wp2_with (first | (with_reducible refine (W1.out _).mono ?_; rintro e w' ⟨rfl, rfl⟩) | (with_reducible refine (W2.out _).mono ?_; rintro e w' ⟨rfl, rfl⟩) | (with_reducible refine (W3.out _).mono ?_; rintro e w' ⟨rfl, rfl⟩) | (with_reducible refine (W4.out _).mono ?_; rintro e w' ⟨rfl, rfl⟩)); go_ret; exact ⟨rfl, HB.out⟩)
          case false =>
            cases c6
            case true => (clear hall; go_enter Tryz.func9, Tryz.ntmps9; go_upto_region 1 with fail; generalize hV : World.alloc _ _ = V; have k0 : V.heap[w.heap.size]? = some (.cells #[.int .i64 r.n, .int .i64 r.again, .int .i64 r.step, .int .i64 r.drift, .int .i64 r.lost, .int .i64 r.ret, .int .i64 r.desc, .int .i64 r.late, .int .i64 r.every, .int .i64 r.up.loss, .int .i64 r.up.twice, .int .i64 r.up.least, .int .i64 r.up.most, .int .i64 r.up.seed, .int .i64 r.dn.loss, .int .i64 r.dn.twice, .int .i64 r.dn.least, .int .i64 r.dn.most, .int .i64 r.dn.seed, .slice OA r.offs.length oc, .slice TA r.rates.length tc] 28 (0, 0)) := Bd; have HB := Lib.hid (show Below w.heap.size w V from by rw [← hV]; exact (Below.refl _ w).alloc (Nat.le_refl _) _); have q0 := blk_cell k0 0 rfl; have q1 := blk_cell k0 1 rfl; have q2 := blk_cell k0 2 rfl; have q3 := blk_cell k0 3 rfl; have q19 := blk_cell k0 19 rfl; have q20 := blk_cell k0 20 rfl; clear hV k0; go_wp2_with (first | (with_reducible refine (W1.out _).mono ?_; rintro e w' ⟨rfl, rfl⟩) | (with_reducible refine (W2.out _).mono ?_; rintro e w' ⟨rfl, rfl⟩) | (with_reducible refine (W3.out _).mono ?_; rintro e w' ⟨rfl, rfl⟩) | (with_reducible refine (W4.out _).mono ?_; rintro e w' ⟨rfl, rfl⟩)); go_ret; exact ⟨rfl, HB.out⟩)
            case false => exact (hall rfl rfl rfl rfl rfl rfl).elim
end
end Go.Proofs.YtdocdgcdldpagaaGreat

/- A station at the chapter's examples: steps in one form; nil and zero stations; sends. -/
import Derived.Test.YtiidkmnagfhgiaaTa
namespace Go.Proofs.Ytiidkmnagfhgiaa
open Go.RowKit
set_option maxHeartbeats 8000000
set_option maxRecDepth 100000
set_option linter.unusedSimpArgs false
set_option linter.unusedVariables false
attribute [local go_sem ↓] Go.wp_at_zero Go.wp_at_succ
theorem stick_nil (now : Int) (w : World) : Calls Try.prog 26 #[.pointer none, .int .i64 now] w fun e w' => e = .returned (.tuple #[.slice none 0 0, .int .i64 1]) ∧ w = w' := by
  go_enter Try.func26, Try.ntmps26
  go_wp2_with (refine (snone_nil _).mono ?_; rintro e w' ⟨rfl, rfl⟩)
  go_ret2
  exact ⟨rfl, rfl⟩
theorem sstate_nil (w : World) : Calls Try.prog 13 #[.pointer none] w fun e w' => e = .returned (.int .i64 0) ∧ w = w' := by
  go_enter Try.func13, Try.ntmps13
  go_wp2_with (refine (snone_nil _).mono ?_; rintro e w' ⟨rfl, rfl⟩)
  go_ret
  exact ⟨rfl, rfl⟩
theorem srecv_nil (now k f t q : Int) (D : Option Addr) (n cap : Nat) (w : World) : Calls Try.prog 24 #[.pointer none, .int .i64 now, .agg #[.int .i64 k, .int .i64 f, .int .i64 t, .int .i64 q, .slice D n cap]] w fun e w' => e = .returned (.tuple #[.slice none 0 0, .int .i64 1]) ∧ Below w.heap.size w w' := by
  go_enter Try.func24, Try.ntmps24
  go_wp2_with (refine (snone_nil _).mono ?_; rintro e w' ⟨rfl, rfl⟩)
  go_ret2
  exact ⟨rfl, (by repeat (first | (with_reducible exact Below.refl _ _) | (with_reducible refine Below.drew ?_) | (with_reducible refine below_drewN ?_ _) | ((with_reducible refine Below.alloc ?_ ?_ _); rotate_left; (first | omega | (simp <;> omega)); rotate_right) | ((with_reducible refine Below.setCell ?_ ?_ _); rotate_left; (first | omega | (simp <;> omega)); rotate_right) | (with_reducible assumption) | (refine Below.trans ?_ (Below.mono (by assumption) ?_); rotate_left; (first | omega | (simp <;> omega)); rotate_right)))⟩
theorem smissing_zero (b : Nat) (cs : List Value) (w : World) (h : w.heap[b]? = some (.cells cs.toArray 74 (0, 0))) (h0 : cs[0]? = some (.int .i64 0)) :
    Calls Try.prog 14 #[.pointer (some ⟨b, 0, none⟩)] w fun e w' => e = .returned (.slice none 0 0) ∧ w = w' := by
  have N := Lib.hid (snone_zero b cs w h h0)
  clear h h0
  go_enter Try.func14, Try.ntmps14
  go_wp2_with (refine N.out.mono ?_; rintro e w' ⟨rfl, rfl⟩)
  go_ret
  exact ⟨rfl, rfl⟩
theorem sgive_zero (b : Nat) (cs : List Value) (now p : Int) (T : TypeId) (cv : Value) (w : World) (h : w.heap[b]? = some (.cells cs.toArray 74 (0, 0))) (h0 : cs[0]? = some (.int .i64 0)) :
    Calls Try.prog 44 #[.pointer (some ⟨b, 0, none⟩), .int .i64 now, .iface T cv, .int .i64 p] w fun e w' => e = .returned (.tuple #[.slice none 0 0, .int .i64 1]) ∧ w = w' := by
  have N := Lib.hid (snone_zero b cs w h h0)
  clear h h0
  go_enter Try.func44, Try.ntmps44
  go_wp2_with (refine N.out.mono ?_; rintro e w' ⟨rfl, rfl⟩)
  go_ret2
  exact ⟨rfl, rfl⟩
theorem sload_zero (b : Nat) (cs : List Value) (now x : Int) (w : World) (h : w.heap[b]? = some (.cells cs.toArray 74 (0, 0))) (h0 : cs[0]? = some (.int .i64 0)) :
    Calls Try.prog 21 #[.pointer (some ⟨b, 0, none⟩), .int .i64 now, .int .i64 x] w fun e w' => e = .returned (.tuple #[.slice none 0 0, .int .i64 1]) ∧ w = w' := by
  have G := Lib.hid (sgive_zero b cs now x 94 (.agg #[]) w h h0)
  clear h h0
  go_enter Try.func21, Try.ntmps21
  go_wp2_with fail
  refine G.out.mono ?_
  rintro e w' ⟨rfl, rfl⟩
  go_wp2_with fail
  go_ret2
  exact ⟨rfl, rfl⟩
/-- a station b in the state s; the blocks of K stand -/
def SK (w W : World) (b : Nat) (s : Stn.St) (K : List (Nat × Array Value × TypeId)) : Prop :=
  (∃ MA mc RA rc, IsSt W w.heap.size b MA mc RA rc s) ∧ Stn.Inv s ∧ Below w.heap.size w W ∧ ∀ x ∈ K, W.heap[x.1]? = some (.cells x.2.1 x.2.2 (0, 0)) ∧ x.2.2 ≠ 74 ∧ x.2.2 ≠ 3 ∧ x.2.2 ≠ 88
section
variable {w W W' : World} {b : Nat} {s s' : Stn.St} {K : List (Nat × Array Value × TypeId)}
theorem SK.below (h : SK w W b s K) (k : Below W.heap.size W W') : SK w W' b s K := by
  obtain ⟨⟨MA, mc, RA, rc, h1⟩, hi, h2, h3⟩ := h
  exact ⟨⟨MA, mc, RA, rc, h1.below k (Nat.le_refl _)⟩, hi, h2.trans (k.mono h2.size), fun x hx => ⟨blk_below (h3 x hx).1 k (lt_of_block (h3 x hx).1), (h3 x hx).2⟩⟩
theorem SK.drewN (h : SK w W b s K) (q : Nat) : SK w (W.drewN q) b s K := h.below (below_drewN (Below.refl _ _) q)
theorem SK.alloc (h : SK w W b s K) (cs : Array Value) (t : TypeId) (h1 : t ≠ 74) (h2 : t ≠ 3) (h3 : t ≠ 88) : SK w (W.alloc (.cells cs t)) b s ((W.heap.size, cs, t) :: K) := by
  obtain ⟨a, hi, c, d⟩ := h.below ((Below.refl W.heap.size W).alloc (Nat.le_refl _) (.cells cs t))
  refine ⟨a, hi, c, fun x hx => ?_⟩
  rcases List.mem_cons.1 hx with rfl | hx
  · exact ⟨heap_new _ _, h1, h2, h3⟩
  · exact d x hx
theorem SK.drop {K' : List (Nat × Array Value × TypeId)} (h : SK w W b s K) (hK : ∀ x ∈ K', x ∈ K) : SK w W b s K' := ⟨h.1, h.2.1, h.2.2.1, fun x hx => h.2.2.2 x (hK x hx)⟩
/-- behind a call that gives frames -/
def SKPost (w : World) (b : Nat) (s' : Stn.St) (K : List (Nat × Array Value × TypeId)) (fr : List Fr) (err : Int) (W : World) (e : Ending) (W' : World) : Prop :=
  ∃ A c, e = .returned (.tuple #[.slice A fr.length c, .int .i64 err]) ∧ SK w W' b s' K ∧ Rof W' W.heap.size (.slice A fr.length c) fr ∧ ∀ base v l, Rof W base v l → Rof W' base v l
theorem sk_post {MA RA : Option Addr} {mc rc : Nat} {fr : List Fr} {err : Int} {e : Ending} (h1 : IsSt W w.heap.size b MA mc RA rc s) (h2 : Below w.heap.size w W) (h3 : ∀ x ∈ K, W.heap[x.1]? = some (.cells x.2.1 x.2.2 (0, 0)) ∧ x.2.2 ≠ 74 ∧ x.2.2 ≠ 3 ∧ x.2.2 ≠ 88) (hi : Stn.Inv s')
    (h : StPost w.heap.size b MA RA rc s' fr err W e W') : SKPost w b s' K fr err W e W' := by
  obtain ⟨v, MA', mc', rfl, hS, hK, hR, _⟩ := h
  obtain ⟨A, c, rfl⟩ := hR.form
  refine ⟨A, c, rfl, ⟨⟨MA', mc', RA, rc, hS⟩, hi, ?_, fun x hx => ?_⟩, hR, fun base v l hl => ?_⟩
  · exact h2.trans (hK.below (fun i _ hi => (h1.three_lt hi).1) h2.size)
  · obtain ⟨k1, k2, k3, k4⟩ := h3 x hx
    exact ⟨blk_keep k1 hK (h1.away ⟨_, k1⟩ k2 k3 k4), k2, k3, k4⟩
  · refine hl.keptT hK (fun i hi _ => ?_)
    rcases h1.three hi with k | k | k
    · exact ⟨_, k, by decide, by decide⟩
    · exact ⟨_, k, by decide, by decide⟩
    · exact ⟨_, k, by decide, by decide⟩
theorem sk_load (h : SK w W b s K) (now x : Int) (fr : List Fr) (err : Int) (hs : Stn.give s 1 now x = s') (hf : Stn.giveF s 1 now x = fr) (he : Stn.giveE s 1 now x = err) : Calls Try.prog 21 #[.pointer (some ⟨b, 0, none⟩), .int .i64 now, .int .i64 x] W (SKPost w b s' K fr err W) := by
  obtain ⟨⟨MA, mc, RA, rc, h1⟩, hi, h2, h3⟩ := h
  subst hs; subst hf; subst he
  exact (sload_any h1 hi now x h2.size).mono fun e W' h => sk_post h1 h2 h3 (Stn.inv_give hi (by omega)) h
theorem sk_arm (h : SK w W b s K) (now : Int) (fr : List Fr) (err : Int) (hs : Stn.give s 2 now 0 = s') (hf : Stn.giveF s 2 now 0 = fr) (he : Stn.giveE s 2 now 0 = err) : Calls Try.prog 20 #[.pointer (some ⟨b, 0, none⟩), .int .i64 now] W (SKPost w b s' K fr err W) := by
  obtain ⟨⟨MA, mc, RA, rc, h1⟩, hi, h2, h3⟩ := h
  subst hs; subst hf; subst he
  exact (sarm_any h1 hi now h2.size).mono fun e W' h => sk_post h1 h2 h3 (Stn.inv_give hi (by omega)) h
theorem sk_start (h : SK w W b s K) (now x : Int) (fr : List Fr) (err : Int) (hs : Stn.give s 3 now x = s') (hf : Stn.giveF s 3 now x = fr) (he : Stn.giveE s 3 now x = err) : Calls Try.prog 28 #[.pointer (some ⟨b, 0, none⟩), .int .i64 now, .int .i64 x] W (SKPost w b s' K fr err W) := by
  obtain ⟨⟨MA, mc, RA, rc, h1⟩, hi, h2, h3⟩ := h
  subst hs; subst hf; subst he
  exact (sstart_any h1 hi now x h2.size).mono fun e W' h => sk_post h1 h2 h3 (Stn.inv_give hi (by omega)) h
theorem sk_abort (h : SK w W b s K) (now : Int) (fr : List Fr) (err : Int) (hs : Stn.give s 6 now 0 = s') (hf : Stn.giveF s 6 now 0 = fr) (he : Stn.giveE s 6 now 0 = err) : Calls Try.prog 29 #[.pointer (some ⟨b, 0, none⟩), .int .i64 now] W (SKPost w b s' K fr err W) := by
  obtain ⟨⟨MA, mc, RA, rc, h1⟩, hi, h2, h3⟩ := h
  subst hs; subst hf; subst he
  exact (sabort_any h1 hi now h2.size).mono fun e W' h => sk_post h1 h2 h3 (Stn.inv_give hi (by omega)) h
theorem sk_tick (h : SK w W b s K) (now : Int) (fr : List Fr) (err : Int) (hs : Stn.tick s now = s') (hf : Stn.tickF s now = fr) (he : Stn.timeE s now = err) : Calls Try.prog 26 #[.pointer (some ⟨b, 0, none⟩), .int .i64 now] W (SKPost w b s' K fr err W) := by
  obtain ⟨⟨MA, mc, RA, rc, h1⟩, hi, h2, h3⟩ := h
  subst hs; subst hf; subst he
  exact (tick_any h1 hi now h2.size).mono fun e W' h => sk_post h1 h2 h3 (Stn.inv_tick hi) h
/-- bytes of a block -/
theorem rd_block {g : Nat} (l : List Int) (hl : By l) (h : W.heap[g]? = some (.cells (bv l).toArray 5 (0, 0))) : Rd W W.heap.size (some ⟨g, 0, none⟩) l.length l :=
  ⟨rfl, hl, fun _ => ⟨g, 0, rfl, lt_of_block h, fun i hi => by
    rw [Nat.zero_add]
    refine blk_cell h i ?_
    rw [bv, List.getElem?_map, List.getElem?_eq_getElem hi]
    simp [List.getD, List.getElem?_eq_getElem hi]⟩⟩
theorem sk_recv (h : SK w W b s K) (now k f t q : Int) (d : List Int) (cs : Array Value) (cap n : Nat) (hn : d.length = n) (hcs : cs = (bv d).toArray) (hd : By d) (h64 : d.length ≤ 64) (fr : List Fr) (err : Int) (hs : Stn.recv s now ⟨k, f, t, q, d⟩ = s') (hf : Stn.recvF s now ⟨k, f, t, q, d⟩ = fr) (he : Stn.recvE s now ⟨k, f, t, q, d⟩ = err) :
    Calls Try.prog 24 #[.pointer (some ⟨b, 0, none⟩), .int .i64 now, .agg #[.int .i64 k, .int .i64 f, .int .i64 t, .int .i64 q, .slice (some ⟨W.heap.size, 0, none⟩) n cap]] (W.alloc (.cells cs 5)) (SKPost w b s' K fr err (W.alloc (.cells cs 5))) := by
  obtain ⟨⟨MA, mc, RA, rc, h1⟩, hi, h2, h3⟩ := h.below ((Below.refl W.heap.size W).alloc (Nat.le_refl _) (.cells cs 5))
  subst hs; subst hf; subst he; subst hn
  have hb : (W.alloc (.cells cs 5)).heap[W.heap.size]? = some (.cells (bv d).toArray 5 (0, 0)) := by rw [← hcs]; exact heap_new _ _
  have hrd := rd_block d hd hb
  refine (recv_any h1 hi now ⟨k, f, t, q, d⟩ _ cap (by simp only; omega) hrd (fun a ha => ?_)).mono fun e W' h => sk_post h1 h2 h3 (Stn.inv_recv hi hd) h
  injection ha with ha
  rw [← ha]
  exact (Ty.ne ⟨_, hb⟩ ⟨_, h1.blk⟩ (by decide))
theorem sk_state (h : SK w W b s K) (x : Int) (hx : s.st = x) : Calls Try.prog 13 #[.pointer (some ⟨b, 0, none⟩)] W fun e w' => e = .returned (.int .i64 x) ∧ W = w' := by
  obtain ⟨⟨MA, mc, RA, rc, h1⟩, hi, h2, h3⟩ := h
  subst hx
  exact state_any h1 hi
theorem sk_next (h : SK w W b s K) (n x : Int) (hn : nextN s = n) (hx : nextE s = x) : Calls Try.prog 25 #[.pointer (some ⟨b, 0, none⟩)] W fun e w' => e = .returned (.tuple #[.int .i64 n, .int .i64 x]) ∧ ∃ q, w' = W.drewN q := by
  obtain ⟨⟨MA, mc, RA, rc, h1⟩, hi, h2, h3⟩ := h
  subst hn; subst hx
  exact snext_any h1 hi
theorem sk_seen (h : SK w W b s K) (a x y z : Int) (hx : seenR s a = (x, y, z)) : Calls Try.prog 27 #[.pointer (some ⟨b, 0, none⟩), .int .i64 a] W fun e w' => e = .returned (.tuple #[.int .i64 x, .int .i64 y, .int .i64 z]) ∧ Below W.heap.size W w' := by
  obtain ⟨⟨MA, mc, RA, rc, h1⟩, hi, h2, h3⟩ := h
  have := seen_any h1 hi a
  rw [hx] at this
  exact this
theorem sk_missing (h : SK w W b s K) (l : List Nat) (hl : Stn.miss s = l) : Calls Try.prog 14 #[.pointer (some ⟨b, 0, none⟩)] W fun e w' => ∃ A c, e = .returned (.slice A l.length c) ∧ Ri w' w'.heap.size A l.length (l.map (fun (i : Nat) => (i : Int))) ∧ SK w w' b s K ∧ Below W.heap.size W w' := by
  obtain ⟨⟨MA, mc, RA, rc, h1⟩, hi, h2, h3⟩ := h
  have hml := miss_bd s hi
  subst hl
  refine (missing_any h1 hi).mono ?_
  rintro e w' ⟨A, c, rfl, hr, hb⟩
  exact ⟨A, c, rfl, hr.ri (fun x hx => (hml.2 x hx).2), SK.below ⟨⟨MA, mc, RA, rc, h1⟩, hi, h2, h3⟩ hb, hb⟩
end
/-- sends: the same frames -/
theorem sends_yes (A C : Option Addr) (n cap caq : Nat) (l : List Fr) (w : World) (hn : n ≤ 1000) (h : Rf w w.heap.size A n l) (g : Rf w w.heap.size C n l) :
    Calls Try.prog 22 #[.slice A n cap, .int .i64 0, .slice C n caq] w fun e w' => e = .returned (.bool true) ∧ Below w.heap.size w w' := by
  have S := samef_any A C n n cap caq l l w (by omega) (by omega) h g
  rw [frsEq_iff.2 rfl] at S
  have S := Lib.hid S
  clear h g
  go_enter Try.func22, Try.ntmps22
  go_wp2_with fail
  refine S.out.mono ?_
  rintro e w' ⟨rfl, hb⟩
  go_wp2_with fail
  go_ret
  exact ⟨rfl, hb⟩
theorem SK.add {w W : World} {b : Nat} {s : Stn.St} {K : List (Nat × Array Value × TypeId)} (h : SK w W b s K) {i : Nat} {cs : Array Value} {t : TypeId} (k : W.heap[i]? = some (.cells cs t (0, 0))) (h1 : t ≠ 74) (h2 : t ≠ 3) (h3 : t ≠ 88) : SK w W b s ((i, cs, t) :: K) :=
  ⟨h.1, h.2.1, h.2.2.1, fun x hx => by
    rcases List.mem_cons.1 hx with rfl | hx
    · exact ⟨k, h1, h2, h3⟩
    · exact h.2.2.2 x hx⟩
def FvOk (w : World) (y : FV) : Prop := Rd w w.heap.size y.A y.x.d.length y.x.d ∧ (y.A = none → y.x.d.length = 0 ∧ y.cap = 0) ∧ y.x.d.length ≤ y.cap ∧ y.cap ≤ maxLen
theorem fv_ok {w : World} {g cap : Nat} (x : Fr) (hl : By x.d) (h : w.heap[g]? = some (.cells (bv x.d).toArray 5 (0, 0))) (h1 : x.d.length ≤ cap) (h2 : cap ≤ maxLen) : FvOk w ⟨x, some ⟨g, 0, none⟩, cap⟩ :=
  ⟨rd_block _ hl h, fun e => (by cases e), h1, h2⟩
theorem same_lit (A : Option Addr) (c n : Nat) (l : List Int) (cs : Array Value) (w : World) (h : Ri w w.heap.size A n l) (hcs : cs = (iv l).toArray) (hn : l.length = n) (hs : n ≤ 1000) :
    Calls Try.prog 23 #[.slice A n c, .slice (some ⟨w.heap.size, 0, none⟩) n n] (w.alloc (.cells cs 3)) fun e w' => e = .returned (.bool true) ∧ Below w.heap.size w w' := by
  subst hcs; subst hn
  have hB : Below w.heap.size w (w.alloc (.cells (iv l).toArray 3)) := (Below.refl _ _).alloc (Nat.le_refl _) _
  refine (samei_any A (some ⟨w.heap.size, 0, none⟩) l.length l.length c l.length l l _ (by omega) (by omega) ((h.below hB (Nat.le_refl _)).more hB.size) ((Ri.newL w l h.2.1).more (by simp))).mono ?_
  rintro e w' ⟨rfl, q, rfl⟩
  exact ⟨by simp, below_drewN hB q⟩
theorem rf_nil (w : World) (A : Option Addr) : Rf w w.heap.size A 0 [] := ⟨rfl, fun h => absurd h (by omega)⟩
theorem rf_block {w : World} {g : Nat} (vs : List FV) (n : Nat) (l : List Fr) (hn : vs.length = n) (hl : vs.map (·.x) = l) (h : w.heap[g]? = some (.cells (vs.flatMap FV.cells).toArray 40 (0, 0))) (hd : ∀ y ∈ vs, Rd w w.heap.size y.A y.x.d.length y.x.d ∧ (y.A = none → y.x.d.length = 0 ∧ y.cap = 0) ∧ y.x.d.length ≤ y.cap ∧ y.cap ≤ maxLen) : Rf w w.heap.size (some ⟨g, 0, none⟩) n l := by
  subst hn; subst hl
  refine ⟨by simp, fun _ => ⟨g, 0, rfl, lt_of_block h, fun i hi => ?_⟩⟩
  have hx : (vs.map (·.x)).getD i fr0 = vs[i].x := by simp [List.getD, List.getElem?_eq_getElem hi]
  rw [hx]
  have hc : ∀ j u, j < 5 → (FV.cells vs[i])[j]? = some u → w.cell? ⟨g, 0 + i * 5 + j, none⟩ = some u := fun j u hj hu => by
    rw [Nat.zero_add]
    exact blk_cell h _ ((FV.cells_at vs i j hi hj).trans hu)
  obtain ⟨d1, d2, d3, d4⟩ := hd vs[i] (List.getElem_mem hi)
  exact ⟨vs[i].A, vs[i].cap, hc 0 _ (by omega) rfl, hc 1 _ (by omega) rfl, hc 2 _ (by omega) rfl, hc 3 _ (by omega) rfl, hc 4 _ (by omega) rfl, d1, d2, d3, d4⟩
end Go.Proofs.Ytiidkmnagfhgiaa

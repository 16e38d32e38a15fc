/- The examples of the chapter: known() returns true. -/
import Derived.Test.YtgdpoiapkaahfaaLkG
import Derived.Lib.SlBytesConst
namespace Go.Proofs.Ytgdpoiapkaahfaa
open Go.RowKit
set_option maxHeartbeats 16000000
set_option maxRecDepth 100000
set_option linter.unusedSimpArgs false
set_option linter.unusedVariables false
attribute [local go_sem ↓] Go.wp_at_zero Go.wp_at_succ
theorem IsLk.base {w : World} {base base' b c : Nat} {A : Option Addr} {r : Lnk.Ru} {s : Lnk.St} (h : IsLk w base b A c r s) (hb : base' ≤ base) : IsLk w base' b A c r s := ⟨h.blk, h.row.more hb, Nat.le_trans hb h.ge⟩
theorem two_type {w : World} {base b c g : Nat} {A : Option Addr} {r : Lnk.Ru} {s : Lnk.St} (h : IsLk w base b A c r s) {cs : Array Value} {t : TypeId} {fr : Nat × Nat} (hg : w.heap[g]? = some (.cells cs t fr)) (h1 : t ≠ 77) (h2 : t ≠ 87) : ¬ Two b A g := by
  rintro (rfl | hi)
  · have := h.blk
    rw [hg] at this
    injection this with this
    injection this with _ e
    exact h1 e
  · rcases h.row.2 with ⟨rfl, _⟩ | ⟨g', o, cur, rfl, _, hh, _⟩
    · cases hi
    · injection hi with hi
      subst hi
      rw [hg] at hh
      injection hh with hh
      injection hh with _ e
      exact h2 e
/-- three links, apart from each other -/
def Tri (w W : World) (r1 : Lnk.Ru) (b1 : Nat) (s1 : Lnk.St) (r2 : Lnk.Ru) (b2 : Nat) (s2 : Lnk.St) (r3 : Lnk.Ru) (b3 : Nat) (s3 : Lnk.St) : Prop :=
  ∃ A1 c1 A2 c2 A3 c3, IsLk W w.heap.size b1 A1 c1 r1 s1 ∧ IsLk W w.heap.size b2 A2 c2 r2 s2 ∧ IsLk W w.heap.size b3 A3 c3 r3 s3 ∧
    (∀ i, Two b1 A1 i → ¬ Two b2 A2 i) ∧ (∀ i, Two b2 A2 i → ¬ Two b3 A3 i) ∧ (∀ i, Two b3 A3 i → ¬ Two b1 A1 i) ∧ Below w.heap.size w W
section
variable {w W W' : World} {r1 r2 r3 : Lnk.Ru} {b1 b2 b3 : Nat} {s1 s2 s3 s' : Lnk.St}
theorem Tri.rot (h : Tri w W r1 b1 s1 r2 b2 s2 r3 b3 s3) : Tri w W r2 b2 s2 r3 b3 s3 r1 b1 s1 := by
  obtain ⟨A1, c1, A2, c2, A3, c3, h1, h2, h3, d1, d2, d3, hb⟩ := h
  exact ⟨A2, c2, A3, c3, A1, c1, h2, h3, h1, d2, d3, d1, hb⟩
theorem Tri.below (h : Tri w W r1 b1 s1 r2 b2 s2 r3 b3 s3) (k : Below W.heap.size W W') : Tri w W' r1 b1 s1 r2 b2 s2 r3 b3 s3 := by
  obtain ⟨A1, c1, A2, c2, A3, c3, h1, h2, h3, d1, d2, d3, hb⟩ := h
  exact ⟨A1, c1, A2, c2, A3, c3, h1.below k (Nat.le_refl _), h2.below k (Nat.le_refl _), h3.below k (Nat.le_refl _), d1, d2, d3, hb.trans (k.mono hb.size)⟩
theorem Tri.alloc (h : Tri w W r1 b1 s1 r2 b2 s2 r3 b3 s3) (o : Obj) : Tri w (W.alloc o) r1 b1 s1 r2 b2 s2 r3 b3 s3 := h.below ((Below.refl _ _).alloc (Nat.le_refl _) o)
theorem Tri.drewN (h : Tri w W r1 b1 s1 r2 b2 s2 r3 b3 s3) (q : Nat) : Tri w (W.drewN q) r1 b1 s1 r2 b2 s2 r3 b3 s3 := h.below (below_drewN (Below.refl _ _) q)
theorem tri_to {A1 : Option Addr} {c1 : Nat} {A2 A3 : Option Addr} {c2 c3 : Nat} (h1 : IsLk W w.heap.size b1 A1 c1 r1 s1) (h2 : IsLk W w.heap.size b2 A2 c2 r2 s2) (h3 : IsLk W w.heap.size b3 A3 c3 r3 s3) (d1 : ∀ i, Two b1 A1 i → ¬ Two b2 A2 i) (d2 : ∀ i, Two b2 A2 i → ¬ Two b3 A3 i) (d3 : ∀ i, Two b3 A3 i → ¬ Two b1 A1 i) (hb : Below w.heap.size w W)
    (h : LkTo w.heap.size b1 A1 r1 s' W W') : Tri w W' r1 b1 s' r2 b2 s2 r3 b3 s3 := by
  obtain ⟨A', c', h', k, hat⟩ := h
  have hn := two_new (b := b1) hat
  refine ⟨A', c', A2, c2, A3, c3, h', h2.kept k (fun i hi hj => d1 i hj hi), h3.kept k (fun i hi hj => d3 i hi hj), fun i hi hj => d1 i (hn i (h2.two i hj) hi) hj, d2, fun i hi hj => d3 i hi (hn i (h3.two i hi) hj), hb.trans (k.below (fun i _ hi => h1.two_ge i hi) hb.size)⟩
theorem tri_send1 (now x v : Int) (h : Tri w W r1 b1 s1 r2 b2 s2 r3 b3 s3) (hv : 0 ≤ v ∧ v < 256) (hr : Lnk.vld r1 = true) (hi : Lnk.Inv s1) (hs : s1.sent < 1000000000) (hE : Lnk.sendE s1 now 1 = x) (hS : Lnk.send r1 s1 now [v] = s') :
    Calls Try.prog 16 #[.pointer (some ⟨b1, 0, none⟩), .int .i64 now, .slice (some ⟨W.heap.size, 0, none⟩) 1 1] (W.alloc (.cells #[.int .u8 v] 5 (1, 2))) fun e w' => e = .returned (.int .i64 x) ∧ Tri w w' r1 b1 s' r2 b2 s2 r3 b3 s3 := by
  have h' := h.alloc (.cells #[.int .u8 v] 5 (1, 2))
  obtain ⟨A1, c1, A2, c2, A3, c3, h1, h2, h3, d1, d2, d3, hb⟩ := h'
  have hby : By [v] := by intro y hy; simp at hy; subst hy; exact hv
  have hblk := heap_new W (.cells #[.int .u8 v] 5 (1, 2))
  have hrd : Rd (W.alloc (.cells #[.int .u8 v] 5 (1, 2))) (W.alloc (.cells #[.int .u8 v] 5 (1, 2))).heap.size (some ⟨W.heap.size, 0, none⟩) 1 [v] :=
    ⟨rfl, hby, fun _ => ⟨_, 0, rfl, lt_of_block hblk, fun i hi => by
      have : i = 0 := by omega
      subst this
      simp only [World.cell?, hblk]
      rfl⟩⟩
  refine (send_any w.heap.size b1 c1 A1 r1 s1 now (some ⟨W.heap.size, 0, none⟩) 1 1 [v] _ h1 hr hi hs hb.size (by omega) hrd (fun a ha => by injection ha with ha; rw [← ha]; exact two_type h1 hblk (by decide) (by decide))).mono ?_
  rintro e w' ⟨rfl, hto⟩
  rw [hS] at hto
  exact ⟨by rw [hE], tri_to h1 h2 h3 d1 d2 d3 hb hto⟩
theorem tri_send0 (now x : Int) (h : Tri w W r1 b1 s1 r2 b2 s2 r3 b3 s3) (hE : Lnk.sendE s1 now 0 = x) (hx : x ≠ 0) :
    Calls Try.prog 16 #[.pointer (some ⟨b1, 0, none⟩), .int .i64 now, .slice none 0 0] W fun e w' => e = .returned (.int .i64 x) ∧ W = w' := by
  obtain ⟨A1, c1, A2, c2, A3, c3, h1, h2, h3, d1, d2, d3, hb⟩ := h
  subst hE
  exact send_no w.heap.size b1 c1 A1 r1 s1 now none 0 0 W h1 (by omega) hx
theorem tri_next (n x : Int) (h : Tri w W r1 b1 s1 r2 b2 s2 r3 b3 s3) (hu : s1.u.length ≤ 1000) (h1 : Lnk.nextN s1 = n) (h2 : Lnk.nextE s1 = x) :
    Calls Try.prog 26 #[.pointer (some ⟨b1, 0, none⟩)] W fun e w' => e = .returned (.tuple #[.int .i64 n, .int .i64 x]) ∧ W = w' := by
  obtain ⟨A1, c1, A2, c2, A3, c3, g1, g2, g3, d1, d2, d3, hb⟩ := h
  subst h1; subst h2
  exact lnext_any w.heap.size b1 c1 A1 r1 s1 W g1 hu
theorem tri_way (n : Nat) (h : Tri w W r1 b1 s1 r2 b2 s2 r3 b3 s3) (h1 : s1.u.length = n) :
    Calls Try.prog 17 #[.pointer (some ⟨b1, 0, none⟩)] W fun e w' => e = .returned (.int .i64 n) ∧ W = w' := by
  obtain ⟨A1, c1, A2, c2, A3, c3, g1, g2, g3, d1, d2, d3, hb⟩ := h
  subst h1
  exact lway_any w.heap.size b1 c1 A1 r1 s1 W g1
theorem tri_counts (x y z : Int) (h : Tri w W r1 b1 s1 r2 b2 s2 r3 b3 s3) (e1 : s1.sent = x) (e2 : s1.lost = y) (e3 : s1.dbl = z) :
    Calls Try.prog 32 #[.pointer (some ⟨b1, 0, none⟩), .int .i64 x, .int .i64 y, .int .i64 z] W fun e w' => e = .returned (.bool true) ∧ Tri w w' r1 b1 s1 r2 b2 s2 r3 b3 s3 := by
  obtain ⟨A1, c1, A2, c2, A3, c3, g1, g2, g3, d1, d2, d3, hb⟩ := h
  refine (counts_yes w.heap.size b1 c1 A1 r1 s1 x y z W g1 e1 e2 e3).mono ?_
  rintro e w' ⟨rfl, q, rfl⟩
  exact ⟨rfl, Tri.drewN ⟨A1, c1, A2, c2, A3, c3, g1, g2, g3, d1, d2, d3, hb⟩ q⟩
theorem tri_gets0 (now : Int) (h : Tri w W r1 b1 s1 r2 b2 s2 r3 b3 s3) (hi : Lnk.Inv s1) (he : Lnk.recvE s1 now = 0) (hg : Lnk.got s1 now = []) (hr : Lnk.recv s1 now = s') :
    Calls Try.prog 31 #[.pointer (some ⟨b1, 0, none⟩), .int .i64 now, .slice none 0 0] W fun e w' => e = .returned (.bool true) ∧ Tri w w' r1 b1 s' r2 b2 s2 r3 b3 s3 := by
  obtain ⟨A1, c1, A2, c2, A3, c3, g1, g2, g3, d1, d2, d3, hb⟩ := h
  subst hr
  refine (gets_yes w.heap.size b1 c1 A1 r1 s1 now none 0 0 [] W g1 hi hb.size he (by rw [hg]; rfl) (Rds.nil _ _ _ _) (fun a ha => by cases ha) (by omega)).mono ?_
  rintro e w' ⟨rfl, hto⟩
  exact ⟨rfl, tri_to g1 g2 g3 d1 d2 d3 hb hto⟩
theorem tri_gets (now : Int) (n : Nat) (l : List (List Int)) (cs : List Value) (hcs : cs = scells l) (h : Tri w W r1 b1 s1 r2 b2 s2 r3 b3 s3) (hi : Lnk.Inv s1) (he : Lnk.recvE s1 now = 0) (hg : (Lnk.got s1 now).map (·.2) = l) (hl : l.length = n) (hn : n ≤ 1000) (hr : Lnk.recv s1 now = s') :
    Calls Try.prog 31 #[.pointer (some ⟨b1, 0, none⟩), .int .i64 now, .slice (some ⟨W.heap.size, 0, none⟩) n n] (W.alloc (.cells cs.toArray 9)) fun e w' => e = .returned (.bool true) ∧ Tri w w' r1 b1 s' r2 b2 s2 r3 b3 s3 := by
  have h' := h.alloc (.cells cs.toArray 9)
  obtain ⟨A1, c1, A2, c2, A3, c3, g1, g2, g3, d1, d2, d3, hb⟩ := h'
  subst hr
  have hblk := heap_new W (.cells cs.toArray 9)
  refine (gets_yes w.heap.size b1 c1 A1 r1 s1 now (some ⟨W.heap.size, 0, none⟩) n n l _ g1 hi hb.size he hg ⟨by simp [scells, hl], fun _ => ⟨_, 0, rfl, lt_of_block hblk, fun j u hu => by rw [Nat.zero_add]; exact blk_cell hblk j (by rw [hcs]; exact hu)⟩⟩ (fun a ha => by injection ha with ha; rw [← ha]; exact two_type g1 hblk (by decide) (by decide)) hn).mono ?_
  rintro e w' ⟨rfl, hto⟩
  exact ⟨rfl, tri_to g1 g2 g3 d1 d2 d3 hb hto⟩
end
namespace Kn
def ra : Lnk.Ru := ⟨0, 0, 5, 5, 0⟩
def rb : Lnk.Ru := ⟨1000, 0, 0, 0, 0⟩
def rc : Lnk.Ru := ⟨0, 1000, 0, 0, 0⟩
def a1 : Lnk.St := ⟨11166244414315200793, 10, [(15, [120])], 1, 0, 0⟩
def a2 : Lnk.St := ⟨10346034117385188870, 12, [(15, [120]), (17, [121])], 2, 0, 0⟩
def a3 : Lnk.St := ⟨10346034117385188870, 14, [(15, [120]), (17, [121])], 2, 0, 0⟩
def a4 : Lnk.St := ⟨10346034117385188870, 16, [(17, [121])], 2, 0, 0⟩
def a5 : Lnk.St := ⟨10346034117385188870, 17, [], 2, 0, 0⟩
def b1 : Lnk.St := ⟨1442695040888963407, 0, [], 1, 1, 0⟩
def c1 : Lnk.St := ⟨7401132627792533940, 3, [(3, [120]), (3, [120])], 1, 0, 1⟩
def c2 : Lnk.St := ⟨7401132627792533940, 3, [], 1, 0, 1⟩
theorem ea1 : Lnk.send ra (Lnk.new ra) 10 [120] = a1 := by kernel_rfl
theorem ea2 : Lnk.send ra a1 12 [121] = a2 := by kernel_rfl
theorem ea3 : Lnk.recv a2 14 = a3 := by kernel_rfl
theorem ea4 : Lnk.recv a3 16 = a4 := by kernel_rfl
theorem ea4' : Lnk.send ra a4 9 [122] = a4 := by kernel_rfl
theorem ea5 : Lnk.recv a4 17 = a5 := by kernel_rfl
theorem eb1 : Lnk.send rb (Lnk.new rb) 0 [120] = b1 := by kernel_rfl
theorem ec1 : Lnk.send rc (Lnk.new rc) 3 [120] = c1 := by kernel_rfl
theorem ec2 : Lnk.recv c1 3 = c2 := by kernel_rfl
theorem invl {s : Lnk.St} (h1 : (0 ≤ s.x ∧ s.x ≤ 18446744073709551615) ∧ (0 ≤ s.now ∧ s.now ≤ 1073741824) ∧ s.u.length ≤ 1000 ∧ (0 ≤ s.sent ∧ s.sent ≤ 1000000000) ∧ (0 ≤ s.lost ∧ s.lost ≤ s.sent) ∧ (0 ≤ s.dbl ∧ s.dbl ≤ s.sent)) (h2 : s.u.all (fun m => decide (0 ≤ m.1 ∧ m.1 ≤ 1073801824 ∧ m.2.length ≤ 128) && m.2.all (fun x => decide (0 ≤ x ∧ x < 256))) = true) : Lnk.Inv s := by
  obtain ⟨a, b, c, d, e⟩ := h1
  refine ⟨a, b, c, fun m hm => ?_, d, e⟩
  rw [List.all_eq_true] at h2
  have := h2 m hm
  rw [Bool.and_eq_true, decide_eq_true_iff, List.all_eq_true] at this
  exact ⟨this.1.1, this.1.2.1, fun x hx => by simpa using this.2 x hx, this.1.2.2⟩
theorem ia1 : Lnk.Inv a1 := invl (by decide +kernel) (by decide +kernel)
theorem ia2 : Lnk.Inv a2 := invl (by decide +kernel) (by decide +kernel)
theorem ia3 : Lnk.Inv a3 := invl (by decide +kernel) (by decide +kernel)
theorem ia4 : Lnk.Inv a4 := invl (by decide +kernel) (by decide +kernel)
theorem ic1 : Lnk.Inv c1 := invl (by decide +kernel) (by decide +kernel)
theorem ira : Lnk.Inv (Lnk.new ra) := invl (by decide +kernel) (by decide +kernel)
theorem irb : Lnk.Inv (Lnk.new rb) := invl (by decide +kernel) (by decide +kernel)
theorem irc : Lnk.Inv (Lnk.new rc) := invl (by decide +kernel) (by decide +kernel)
end Kn
end Go.Proofs.Ytgdpoiapkaahfaa

import Derived.Test.YtdocdgcdldpagaaGreatAp
import Derived.Test.YtdocdgcdldpagaaGreatAv23
import Derived.Laws.CopyOwn
import Derived.StillTailTactics
import Derived.Test.YtdocdgcdldpagaaGreatAv09
namespace Go.Proofs.YtdocdgcdldpagaaGreat
open Go.RowKit
set_option maxHeartbeats 4000000
set_option maxRecDepth 100000
set_option linter.unusedSimpArgs false
set_option linter.unusedVariables false
attribute [local go_sem ↓] Go.wp_at_zero Go.wp_at_succ
section
variable {w w' : World} {base b c : Nat} {s : Plt.St}
def PassRel (base b c : Nat) (w : World) (l : Int) (R : Plt.St) (kx : Nat) (wr : World) : Prop :=
  ∃ t, Plt.rank t.st ≤ kx ∧ IsP wr base b c t ∧ Plt.Inv t ∧ Plt.run 4 t l = R ∧ Keeps (fun i => i = b) w wr
theorem Di {p : Prop} (h : p := by
  go_wp2_with fail
  refine EV.out.mono ?_
  rintro e w1 ⟨rfl, hb1⟩
  go_wp2_with fail
  go_returns
  exact ⟨rfl, by rw [← HTR.out, Plt.run_stop HD.out]; exact HT.out.below hb1 (Nat.le_refl _), HTK.out.trans (Keeps.of_below hb1) (fun _ _ h => h)⟩
 ) : p := h
theorem Dh {p : Prop} (h : p := by
  clear ca_0 fa_0 ca_1 fa_1 ca_2 fa_2 ca_3 fa_3 ca_4 fa_4 ca_5 fa_5 ca_6 fa_6 ca_7 fa_7 ca_8 fa_8 ca_9 fa_9 ca_10 fa_10 ca_11 fa_11 ca_12 fa_12 ca_13 fa_13 ca_14 fa_14 ca_15 fa_15 ca_16 fa_16 ca_17 fa_17 ca_18 fa_18
  clear hW hk
  go_loopg [4, 5, 6] 5 (fun kx v4 v5 v6 wr => Hid (PassRel base b c w l R kx wr))
  case atStart => exact HS0
  case round =>
    obtain ⟨t, hrk, ht, hti, htr, htk⟩ := hrel.out
    have HT := Lib.hid ht
    have HTI := Lib.hid hti
    have HTR := Lib.hid htr
    have HTK := Lib.hid htk
    have EV := Lib.hid (event_any ht hti)
    obtain ⟨a, ha⟩ : ∃ a, a = (Plt.evt t).1 := ⟨_, rfl⟩
    obtain ⟨x, hx⟩ : ∃ x, x = (Plt.evt t).2.1 := ⟨_, rfl⟩
    rw [← ha, ← hx] at EV
    have EN := Lib.hid (fun (W : World) (hW : Below wr.heap.size wr W) => enter_any (ht.below hW (Nat.le_refl _)) x a)
    have HA := Lib.hid (show Plt.adv t = Plt.ent t x a by rw [ha, hx]; rfl)
    clear ht hti htr htk hrel HS0
    cases hf : (Plt.evt t).2.2
    · have HD := Lib.hid (show Plt.due t l = false by unfold Plt.due; rw [hf]; rfl)
      rw [hf] at EV
      clear hf ha hx EN
      exact Di
    by_cases hle : a ≤ l
    · have HD := Lib.hid (show Plt.due t l = true by unfold Plt.due; rw [hf, ← ha, decide_eq_true hle]; rfl)
      have z : decide (l < a) = false := decide_eq_false Cb
      rw [hf] at EV
      clear hf ha hx hle
      go_wp2_with fail
      refine EV.out.mono ?_
      rintro e w1 ⟨rfl, hb1⟩
      have HB1 := Lib.hid hb1
      clear hb1
      go_wp2_with fail
      refine (EN.out _ HB1.out).mono ?_
      rintro e w2 ⟨rfl, hp2, hk2⟩
      go_wp2_with fail
      go_roundg (Plt.rank (Plt.adv t).st)
      case rel => exact Lib.hid ⟨Plt.adv t, Nat.le_refl _, by rw [HA.out]; exact hp2, Plt.adv_inv HTI.out hl.2 HD.out, by rw [Plt.run_due HD.out]; exact HTR.out, (HTK.out.trans (Keeps.of_below HB1.out) (fun _ _ h => h)).trans hk2 (fun _ _ h => h)⟩
      case measure => have := Plt.due_rank HD.out; omega
    · have HD := Lib.hid (show Plt.due t l = false by unfold Plt.due; rw [hf, ← ha, decide_eq_false hle]; rfl)
      have z : decide (l < a) = true := decide_eq_true Cb
      rw [hf] at EV
      clear hf ha hx hle EN
      exact Di
 ) : p := h
theorem pass_any (h : IsP w base b c s) (hs : Plt.Inv s) {l : Int} (hl : -1073741824 ≤ l ∧ l ≤ 1073741824) :
    Calls Tryz.prog 139 #[.pointer (some ⟨b, 0, none⟩), .int .i64 l] w fun e w' => e = .returned (.tuple #[]) ∧ IsP w' base b c (Plt.pas s l) ∧ Keeps (fun i => i = b) w w' := by
  have H := Lib.hid h
  have hk := h.blk
  have HS := Lib.hid (Plt.beg_inv hs hl)
  obtain ⟨R, hR⟩ : ∃ R, R = Plt.pas s l := ⟨_, rfl⟩
  have HR := Lib.hid hR
  rw [← hR]
  unfold Plt.pas at hR
  have HR2 := Lib.hid hR
  simp only [pcl] at hk
  clear h hs hR
  have ca_0 := blk_cell hk 0 rfl; have fa_0 := blk_free hk 0; have ca_1 := blk_cell hk 1 rfl; have fa_1 := blk_free hk 1; have ca_2 := blk_cell hk 2 rfl; have fa_2 := blk_free hk 2; have ca_3 := blk_cell hk 3 rfl; have fa_3 := blk_free hk 3; have ca_4 := blk_cell hk 4 rfl; have fa_4 := blk_free hk 4; have ca_5 := blk_cell hk 5 rfl; have fa_5 := blk_free hk 5; have ca_6 := blk_cell hk 6 rfl; have fa_6 := blk_free hk 6; have ca_7 := blk_cell hk 7 rfl; have fa_7 := blk_free hk 7; have ca_8 := blk_cell hk 8 rfl; have fa_8 := blk_free hk 8; have ca_9 := blk_cell hk 9 rfl; have fa_9 := blk_free hk 9; have ca_10 := blk_cell hk 10 rfl; have fa_10 := blk_free hk 10; have ca_11 := blk_cell hk 11 rfl; have fa_11 := blk_free hk 11; have ca_12 := blk_cell hk 12 rfl; have fa_12 := blk_free hk 12; have ca_13 := blk_cell hk 13 rfl; have fa_13 := blk_free hk 13; have ca_14 := blk_cell hk 14 rfl; have fa_14 := blk_free hk 14; have ca_15 := blk_cell hk 15 rfl; have fa_15 := blk_free hk 15; have ca_16 := blk_cell hk 16 rfl; have fa_16 := blk_free hk 16; have ca_17 := blk_cell hk 17 rfl; have fa_17 := blk_free hk 17; have ca_18 := blk_cell hk 18 rfl; have fa_18 := blk_free hk 18; have la := lt_of_block hk
  have key : ∀ t, t = Plt.beg s l → ∀ w1 : World, IsP w1 base b c { t with now := l } → Keeps (fun i => i = b) w w1 → Hid (PassRel base b c w l R 5 w1) := fun t ht w1 h1 h2 =>
    Lib.hid ⟨{ t with now := l }, by have := Plt.rank_le t.st; simp only; omega, h1, by rw [ht]; exact HS.out, by rw [ht]; exact HR2.out.symm, h2⟩
  have KEY := Lib.hid key
  clear key
  cases hb : s.begun
  · have HB := Lib.hid (show Plt.beg s l = { s with begun := true, heard := l, since := l } by unfold Plt.beg; rw [hb]; rfl)
    rw [hb] at hk ca_8
    clear hb
    go_enter Tryz.func139, Tryz.ntmps139
    go_wp2_with fail
    generalize hW : World.setCell _ _ _ = W
    have HS0 := KEY.out _ HB.out.symm W ⟨by simp only [pcl]; rw [← hW]; exact Aa, H.out.clk_kept Ah, H.out.ge⟩ Ah
    exact Dh
  · have HB := Lib.hid (show Plt.beg s l = s by unfold Plt.beg; rw [hb]; rfl)
    rw [hb] at hk ca_8
    have HBB := Lib.hid hb
    clear hb
    go_enter Tryz.func139, Tryz.ntmps139
    go_wp2_with fail
    generalize hW : World.setCell _ _ _ = W
    have HS0 := KEY.out _ HB.out.symm W ⟨by simp only [pcl]; rw [HBB.out, ← hW]; exact Aa, H.out.clk_kept Ah, H.out.ge⟩ Ah
    exact Dh
end
end Go.Proofs.YtdocdgcdldpagaaGreat
namespace Go.Proofs.YtdocdgcdldpagaaGreat
open Go.RowKit
set_option maxHeartbeats 8000000
set_option maxRecDepth 100000
set_option linter.unusedSimpArgs false
set_option linter.unusedVariables false
attribute [local go_sem ↓] Go.wp_at_zero Go.wp_at_succ
attribute [local go_sem high] run_mn run_mx
def rag (s : Plt.St) : List Value := [.int .i64 s.id, .int .i64 s.lost, .int .i64 s.ret, .int .i64 s.desc, .int .i64 s.late, .int .i64 s.every, .int .i64 s.d, .int .i64 s.r, .bool s.cs, .int .i64 s.lo, .int .i64 s.hi, .int .i64 s.st, .bool s.begun, .bool s.loaded, .bool s.given, .bool s.asked, .int .i64 s.now, .int .i64 s.heard, .int .i64 s.since, .int .i64 s.prog, .int .i64 s.start, .int .i64 s.reports, .int .i64 s.rep, .int .i64 s.q]
def rzero : Plt.St := ⟨0, 0, 0, 0, 0, 0, 0, 0, false, 0, 0, 0, false, false, false, false, 0, 0, 0, 0, 0, 0, 0, 0⟩
theorem rag_one (s : Plt.St) : (rag s).toArray.all (·.oneCell') = true := by kernel_rfl
def RB (w : World) (i : Nat) (s : Plt.St) : Prop := w.heap[i]? = some (.cells (rag s).toArray 101 (0, 0))
def RC (f : FuncId) (args : Array Value) (s : Plt.St) (W : World) : Prop := Calls Tryz.prog f args W fun e w' => e = .returned (.agg (rag s).toArray) ∧ Below W.heap.size W w'
theorem results_ct {P : Program} {fn : Func} {p b : Tmp} {ty : TypeId} (h : fn.results = #[.cell p ty, .tmp b]) (tmps : Array Value) (w : World) (g : Nat) (t : TypeId) (cs : Array Value) (fr : Nat × Nat) (d : TypeDesc)
    (hp : tmps.getD p undef = .pointer (some ⟨g, 0, none⟩)) (hg : w.heap[g]? = some (.cells cs t fr))
    (hu : P.underlying ty = some d) (hd : (match d with | .struct _ | .array _ _ => true | _ => false) = true) (hi : (P.info? ty).map (·.size) = some cs.size) :
    (results fn tmps).run P w = .ok (.tuple #[.agg cs, tmps.getD b undef]) w := by
  have hp' : tmps[p]?.getD undef = .pointer (some ⟨g, 0, none⟩) := by simpa using hp
  simp [results, h, hp', asAddr, run_loadVar_row w g t ty cs fr d hg hu hd hi]
end Go.Proofs.YtdocdgcdldpagaaGreat
namespace Go.Proofs.YtdocdgcdldpagaaGreat
open Go.RowKit
set_option maxHeartbeats 8000000
set_option maxRecDepth 100000
set_option linter.unusedSimpArgs false
set_option linter.unusedVariables false
attribute [local go_sem ↓] Go.wp_at_zero Go.wp_at_succ
attribute [local go_sem high] run_mn run_mx
theorem pwithin_yes (n a b : Int) (w : World) (h : a ≤ n ∧ n ≤ b) :
    Calls Tryz.prog 73 #[.int .i64 n, .int .i64 a, .int .i64 b] w fun e w' => e = .returned (.bool true) ∧ w = w' :=
  (pwithin_any n a b w).mono fun e w' ⟨h1, h2⟩ => ⟨by rw [h1, Ck.Clk.inB_iff.2 h], h2⟩
theorem pwithin_no (n a b : Int) (w : World) (h : ¬ (a ≤ n ∧ n ≤ b)) :
    Calls Tryz.prog 73 #[.int .i64 n, .int .i64 a, .int .i64 b] w fun e w' => e = .returned (.bool false) ∧ w = w' :=
  (pwithin_any n a b w).mono fun e w' ⟨h1, h2⟩ => ⟨by rw [h1, Ck.Clk.inB_no.2 h], h2⟩
theorem rto_yes (n a b : Int) (w : World) (h : a ≤ n ∧ n ≤ b) :
    Calls Tryz.prog 75 #[.int .i64 n, .int .i64 a, .int .i64 b] w fun e w' => e = .returned (.bool true) ∧ w = w' :=
  (rto_any n a b w).mono fun e w' ⟨h1, h2⟩ => ⟨by rw [h1, Ck.Clk.inB_iff.2 h], h2⟩
theorem rto_no (n a b : Int) (w : World) (h : ¬ (a ≤ n ∧ n ≤ b)) :
    Calls Tryz.prog 75 #[.int .i64 n, .int .i64 a, .int .i64 b] w fun e w' => e = .returned (.bool false) ∧ w = w' :=
  (rto_any n a b w).mono fun e w' ⟨h1, h2⟩ => ⟨by rw [h1, Ck.Clk.inB_no.2 h], h2⟩
theorem ru_cases (a b c d f : Int) : (¬ (1 ≤ a ∧ a ≤ 600000) ∧ Plt.ruOk a b c d f = false) ∨ ((1 ≤ a ∧ a ≤ 600000) ∧ ¬ (a ≤ b ∧ b ≤ 600000) ∧ Plt.ruOk a b c d f = false) ∨
    ((1 ≤ a ∧ a ≤ 600000) ∧ (a ≤ b ∧ b ≤ 600000) ∧ ¬ (1 ≤ c ∧ c ≤ 600000) ∧ Plt.ruOk a b c d f = false) ∨ ((1 ≤ a ∧ a ≤ 600000) ∧ (a ≤ b ∧ b ≤ 600000) ∧ (1 ≤ c ∧ c ≤ 600000) ∧ ¬ (0 ≤ d ∧ d ≤ 600000) ∧ Plt.ruOk a b c d f = false) ∨
    ((1 ≤ a ∧ a ≤ 600000) ∧ (a ≤ b ∧ b ≤ 600000) ∧ (1 ≤ c ∧ c ≤ 600000) ∧ (0 ≤ d ∧ d ≤ 600000) ∧ ¬ (1 ≤ f ∧ f ≤ 600000) ∧ Plt.ruOk a b c d f = false) ∨ ((1 ≤ a ∧ a ≤ 600000) ∧ (a ≤ b ∧ b ≤ 600000) ∧ (1 ≤ c ∧ c ≤ 600000) ∧ (0 ≤ d ∧ d ≤ 600000) ∧ (1 ≤ f ∧ f ≤ 600000) ∧ Plt.ruOk a b c d f = true) := by
  have no : (¬ ((1 ≤ a ∧ a ≤ 600000) ∧ (a ≤ b ∧ b ≤ 600000) ∧ (1 ≤ c ∧ c ≤ 600000) ∧ (0 ≤ d ∧ d ≤ 600000) ∧ (1 ≤ f ∧ f ≤ 600000))) → Plt.ruOk a b c d f = false := fun h => by
    cases hv : Plt.ruOk a b c d f
    · rfl
    · exact absurd (Plt.ruOk_iff.1 hv) h
  by_cases h1 : 1 ≤ a ∧ a ≤ 600000
  · right
    by_cases h2 : a ≤ b ∧ b ≤ 600000
    · right
      by_cases h3 : 1 ≤ c ∧ c ≤ 600000
      · right
        by_cases h4 : 0 ≤ d ∧ d ≤ 600000
        · right
          by_cases h5 : 1 ≤ f ∧ f ≤ 600000
          · exact .inr ⟨h1, h2, h3, h4, h5, Plt.ruOk_iff.2 ⟨h1, h2, h3, h4, h5⟩⟩
          · exact .inl ⟨h1, h2, h3, h4, h5, no (fun h => h5 h.2.2.2.2)⟩
        · exact .inl ⟨h1, h2, h3, h4, no (fun h => h4 h.2.2.2.1)⟩
      · exact .inl ⟨h1, h2, h3, no (fun h => h3 h.2.2.1)⟩
    · exact .inl ⟨h1, h2, no (fun h => h2 h.2.1)⟩
  · exact .inl ⟨h1, no (fun h => h1 h.1)⟩
theorem pvalid_any (a b c d f : Int) (w : World) :
    Calls Tryz.prog 32 #[.agg #[.int .i64 a, .int .i64 b, .int .i64 c, .int .i64 d, .int .i64 f]] w fun e w' => e = .returned (.bool (Plt.ruOk a b c d f)) ∧ Below w.heap.size w w' := by
  rcases ru_cases a b c d f with ⟨h1, E⟩ | ⟨h1, h2, E⟩ | ⟨h1, h2, h3, E⟩ | ⟨h1, h2, h3, h4, E⟩ | ⟨h1, h2, h3, h4, h5, E⟩ | ⟨h1, h2, h3, h4, h5, E⟩
  all_goals
    have HE := Lib.hid E
    clear E
    go_enter Tryz.func32, Tryz.ntmps32
    go_wp2_with (first | (refine (pwithin_yes _ _ _ _ Cb).mono ?_; rintro e w' ⟨rfl, rfl⟩) | (refine (pwithin_no _ _ _ _ Cb).mono ?_; rintro e w' ⟨rfl, rfl⟩))
    go_ret
    exact ⟨ret_bool HE.out.symm, A9⟩
theorem rpvalid_any (a b c d f : Int) (w : World) :
    Calls Tryz.prog 35 #[.agg #[.int .i64 a, .int .i64 b, .int .i64 c, .int .i64 d, .int .i64 f]] w fun e w' => e = .returned (.bool (Plt.ruOk a b c d f)) ∧ Below w.heap.size w w' := by
  rcases ru_cases a b c d f with ⟨h1, E⟩ | ⟨h1, h2, E⟩ | ⟨h1, h2, h3, E⟩ | ⟨h1, h2, h3, h4, E⟩ | ⟨h1, h2, h3, h4, h5, E⟩ | ⟨h1, h2, h3, h4, h5, E⟩
  all_goals
    have HE := Lib.hid E
    clear E
    go_enter Tryz.func35, Tryz.ntmps35
    go_wp2_with (first | (refine (rto_yes _ _ _ _ Cb).mono ?_; rintro e w' ⟨rfl, rfl⟩) | (refine (rto_no _ _ _ _ Cb).mono ?_; rintro e w' ⟨rfl, rfl⟩))
    go_ret
    exact ⟨ret_bool HE.out.symm, A9⟩
def GetYes (l : List Int) (k : Nat) (w : World) (e : Ending) (w' : World) : Prop :=
  ∃ g o c, e = .returned (.tuple #[.slice (some ⟨g, o, none⟩) k c, .int .i64 0]) ∧ (∀ i, i < k → w'.cell? ⟨g, o + i, none⟩ = some (.int .i64 (Frm.gnAt l i))) ∧ Below w.heap.size w w' ∧ w.heap.size ≤ g
def GetNo (l : List Int) (k : Nat) (w : World) (e : Ending) (w' : World) : Prop :=
  ∃ A c, e = .returned (.tuple #[.slice A 0 c, .int .i64 (Frm.gE l.length k)]) ∧ Below w.heap.size w w'
theorem gl_yes {l : List Int} {k : Nat} (h : l.length = 4 * k) : Frm.gL l l.length k = Frm.gn l k ∧ Frm.gE l.length k = 0 := by
  have ho : Frm.gOk l.length k = true := by simp [Frm.gOk]; omega
  unfold Frm.gL Frm.gE
  rw [if_pos ho, if_neg Cb, if_neg Cb, if_neg Cb]
  exact ⟨by simp, rfl⟩
theorem gl_no {l : List Int} {k : Nat} (h : l.length ≠ 4 * k) : Frm.gL l l.length k = [] ∧ Frm.gE l.length k ≠ 0 := by
  have ho : Frm.gOk l.length k = false := by simp [Frm.gOk]; omega
  unfold Frm.gL Frm.gE
  rw [if_neg (by rw [ho]; simp)]
  refine ⟨rfl, ?_⟩
  split
  · omega
  split
  · omega
  split
  · omega
  · omega
theorem gpost_yes {w w' : World} {l : List Int} {k : Nat} {e : Ending} (hl : l.length = 4 * k) (hk : 0 < k) (h : GuPost w l l.length k e w') : GetYes l k w e w' := by
  obtain ⟨A, c, he, ho, hb⟩ := h
  obtain ⟨h1, h2⟩ := gl_yes hl
  rw [h1, h2, Frm.gn_len] at he
  rw [h1, Frm.gn_len] at ho
  obtain ⟨g, o, rfl, hg, hc⟩ := ho.ri.2.2 hk
  refine ⟨g, o, c, he, fun i hi => ?_, hb, ?_⟩
  case refine_2 =>
    rcases ho.1.2 with ⟨_, h0⟩ | ⟨g', c', cur, e', hb', _⟩
    · omega
    · injection e' with e1
      injection e1 with e1
      injection e1 with e1
      omega
  rw [hc i hi]
  congr 2
  simp [Frm.gn, List.getD, hi]
theorem gpost_no {w w' : World} {l : List Int} {k : Nat} {e : Ending} (hl : l.length ≠ 4 * k) (h : GuPost w l l.length k e w') : GetNo l k w e w' := by
  obtain ⟨A, c, he, ho, hb⟩ := h
  obtain ⟨h1, h2⟩ := gl_no hl
  rw [h1] at he
  exact ⟨A, c, he, hb⟩
theorem getk_yes (A : Option Addr) (n cap k : Nat) (l : List Int) (w : World) (hl : l.length = 4 * k) (hn : n = l.length) (hk : 0 < k) (hk2 : k ≤ 100) (hcap : n ≤ cap) (hcm : cap ≤ 9223372036854775807) (h : Rd w w.heap.size A n l) :
    Calls Tryz.prog 164 #[.slice A n cap, .int .i64 k] w (GetYes l k w) := by
  subst hn
  exact (get_uni A _ cap k l w Cb hcap hcm Cb h).mono fun e w' hh => gpost_yes hl hk hh
theorem getk_no (A : Option Addr) (n cap k : Nat) (l : List Int) (w : World) (hl : l.length ≠ 4 * k) (hn : n = l.length) (hn2 : n ≤ 70368744177664) (hk2 : k ≤ 100) (hcap : n ≤ cap) (hcm : cap ≤ 9223372036854775807) (h : Rd w w.heap.size A n l) :
    Calls Tryz.prog 164 #[.slice A n cap, .int .i64 k] w (GetNo l k w) := by
  subst hn
  exact (get_uni A _ cap k l w hn2 hcap hcm Cb h).mono fun e w' hh => gpost_no hl hh
theorem number_any (k f t s : Int) (A : Option Addr) (n cap : Nat) (l : List Int) (w : World) (hn : n = l.length) (hn2 : n ≤ 70368744177664) (hcap : n ≤ cap) (hcm : cap ≤ 9223372036854775807) (h : Rd w w.heap.size A n l) :
    Calls Tryz.prog 162 #[.agg #[.int .i64 k, .int .i64 f, .int .i64 t, .int .i64 s, .slice A n cap]] w fun e w' => e = .returned (.int .i64 (if l.length = 4 then Frm.gnAt l 0 else -1)) ∧ Below w.heap.size w w' := by
  by_cases hl : l.length = 4
  · have G := Lib.hid (fun (W : World) (hW : Rd W W.heap.size A n l) => getk_yes A n cap 1 l W hl hn Cb Cb hcap hcm hW)
    have HH := Lib.hid h
    have E := Lib.hid (show (if l.length = 4 then Frm.gnAt l 0 else (-1 : Int)) = Frm.gnAt l 0 from if_pos hl)
    rw [E.out]
    clear hl hn hn2 h
    go_enter Tryz.func162, Tryz.ntmps162
    go_wp2_with fail
    refine (G.out _ ((HH.out.below (B' := w.heap.size) A9 (Nat.le_refl _)).more C9)).mono ?_
    rintro e w1 ⟨g, o, c, rfl, hc, hb, _⟩
    have c0 := hc 0 Cb
    simp only [Nat.add_zero] at c0
    have hz := hb.size
    try simp at hz
    have HB := Lib.hid (show Below w.heap.size w w1 from A9)
    clear hc hb hz
    go_wp2_with fail
    go_ret
    exact ⟨rfl, HB.out⟩
  · have G := Lib.hid (fun (W : World) (hW : Rd W W.heap.size A n l) => getk_no A n cap 1 l W Cb hn hn2 Cb hcap hcm hW)
    have HH := Lib.hid h
    have E := Lib.hid (show (if l.length = 4 then Frm.gnAt l 0 else (-1 : Int)) = -1 from if_neg hl)
    rw [E.out]
    have hE : Frm.gE l.length (1 : Nat) ≠ 0 := (gl_no (l := l) (k := 1) Cb).2
    obtain ⟨x, hx⟩ : ∃ x, x = Frm.gE l.length (1 : Nat) := ⟨_, rfl⟩
    rw [← hx] at hE
    have z1 : (x == 0) = false := by rw [beq_eq_false_iff_ne]; exact hE
    have z2 : (x != 0) = true := by simpa using hE
    have G := Lib.hid (fun (W : World) (hW : Rd W W.heap.size A n l) => by have := G.out W hW; unfold GetNo at this; rw [← hx] at this; exact this)
    clear hl hn hn2 h hE hx
    go_enter Tryz.func162, Tryz.ntmps162
    go_wp2_with fail
    refine (G.out _ ((HH.out.below (B' := w.heap.size) A9 (Nat.le_refl _)).more C9)).mono ?_
    rintro e w1 ⟨B, c, rfl, hb⟩
    have hz := hb.size
    try simp at hz
    have HB := Lib.hid (show Below w.heap.size w w1 from A9)
    clear hb hz
    go_wp2_with fail
    go_ret
    exact ⟨rfl, HB.out⟩
end Go.Proofs.YtdocdgcdldpagaaGreat

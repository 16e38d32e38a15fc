/- Receive. -/
import Derived.Test.YtgdpoiapkaahfaaLkC
import Derived.Test.YtgdpoiapkaahfaaRbs
namespace Go.Proofs.Ytgdpoiapkaahfaa
open Go.RowKit
set_option maxHeartbeats 8000000
set_option maxRecDepth 100000
set_option linter.unusedSimpArgs false
set_option linter.unusedVariables false
attribute [local go_sem ↓] Go.wp_at_zero Go.wp_at_succ
namespace Lnk
theorem srt_ins_last {m : Msg} : ∀ {l : List Msg}, (∀ x ∈ l, x.1 ≤ m.1) → ins m l = l ++ [m]
  | [], _ => rfl
  | a :: l, h => by rw [ins_le _ (h a (by simp)), srt_ins_last (l := l) (fun x hx => h x (by simp [hx]))]; rfl
theorem srt_of_sorted {l : List Msg} (h : Sorted l) : srt l = l := by
  refine rev_ind (P := fun l => Sorted l → srt l = l) (fun _ => rfl) ?_ l h
  intro u m ih hs
  unfold Sorted at hs
  rw [List.pairwise_append] at hs
  rw [srt_snoc, ih hs.1, srt_ins_last (fun x hx => hs.2.2 x hx m (by simp))]
theorem sorted_drop {l : List Msg} (h : Sorted l) (k : Nat) : Sorted (l.drop k) := List.Pairwise.sublist (List.drop_sublist k l) h
/-- the link's messages k further on -/
def at_ (s : St) (now : Int) (k : Nat) : St := { s with now := now, u := (srt s.u).drop k }
theorem at_srt (s : St) (now : Int) (k : Nat) : srt (at_ s now k).u = (srt s.u).drop k := srt_of_sorted (sorted_drop (sorted_srt _) k)
theorem at_len (s : St) (now : Int) (k : Nat) : (at_ s now k).u.length = s.u.length - k := by simp [at_, length_srt]
end Lnk
theorem mcells_at? {l : List Lnk.Msg} {j : Nat} {m : Lnk.Msg} (h : l[j]? = some m) : (mcells l)[j * 2]? = some (.int .i64 m.1) ∧ (mcells l)[j * 2 + 1]? = some (.string (strOfNums m.2)) := by
  have hj : j < l.length := by
    rcases Nat.lt_or_ge j l.length with h' | h'
    · exact h'
    · rw [List.getElem?_eq_none h'] at h; cases h
  rw [List.getElem?_eq_getElem hj] at h
  injection h with h
  subst h
  exact mcells_at l j hj
theorem IsLk.turn {w : World} {base b c : Nat} {A : Option Addr} {r : Lnk.Ru} {s : Lnk.St} {u : List Lnk.Msg} (h : IsLk w base b A c r s) (he : Lnk.srt u = Lnk.srt s.u) : IsLk w base b A c r { s with u := u } := by
  have hl : u.length = s.u.length := by rw [← Lnk.length_srt u, he, Lnk.length_srt]
  refine ⟨?_, ?_, h.ge⟩
  · have := h.blk
    unfold lkl at this ⊢
    simp only [hl]
    exact this
  · have := h.row
    simp only [hl, he]
    exact this
theorem recv_no (base b c : Nat) (A : Option Addr) (r : Lnk.Ru) (s : Lnk.St) (now : Int) (w : World) (h : IsLk w base b A c r s) (he : Lnk.recvE s now ≠ 0) :
    Calls Try.prog 18 #[.pointer (some ⟨b, 0, none⟩), .int .i64 now] w fun e w' => e = .returned (.tuple #[.slice none 0 0, .int .i64 3]) ∧ w = w' := by
  have N := Lib.hid (none_made b _ w h.blk rfl)
  have c7 : w.cell? ⟨b, 7, none⟩ = some (.int .i64 s.now) := blk_cell h.blk 7 rfl
  have hno : ¬ (s.now ≤ now ∧ now ≤ 1073741824) := fun hh => he (by unfold Lnk.recvE; rw [if_pos hh])
  clear h he
  go_enter Try.func18, Try.ntmps18
  go_wp2_with (first | (refine N.out.mono ?_; rintro e w' ⟨rfl, rfl⟩) | (refine (lwithin_no _ _ _ _ hno).mono ?_; rintro e w' ⟨rfl, rfl⟩))
  go_ret2
  exact ⟨rfl, rfl⟩
/-- what Receive gives -/
def RecvPost (base b : Nat) (A : Option Addr) (r : Lnk.Ru) (s : Lnk.St) (now : Int) (w : World) (e : Ending) (w' : World) : Prop :=
  ∃ oA n oc, e = .returned (.tuple #[.slice oA n oc, .int .i64 0]) ∧ Rb w' w.heap.size w'.heap.size oA n ((Lnk.got s now).map (·.2)) ∧ LkTo base b A r (Lnk.recv s now) w w'
/-- the loop of Receive -/
def RecvRel (base b : Nat) (A : Option Addr) (r : Lnk.Ru) (s : Lnk.St) (now : Int) (w : World) (v : Value) (wr : World) : Prop :=
  ∃ (k : Nat) (A1 : Option Addr) (c1 : Nat) (oA : Option Addr) (oc : Nat) (rl : List RB), v = .slice oA k oc ∧ k ≤ s.u.length ∧ (∀ j (h : j < (Lnk.srt s.u).length), j < k → (Lnk.srt s.u)[j].1 ≤ now) ∧
    IsLk wr base b A1 c1 r (Lnk.at_ s now k) ∧ blkOf A1 = blkOf A ∧ Keeps (Two b A) w wr ∧ Row wr w.heap.size 37 1 oA k oc (rbcs rl) ∧ BGood wr w.heap.size wr.heap.size rl ∧ (∀ x ∈ rl, ∀ a, x.A = some a → a.block < wr.heap.size ∧ blkOf oA ≠ some a.block) ∧ rl.map (·.d) = ((Lnk.srt s.u).take k).map (·.2)
theorem bytes_info : (Try.prog.info? 37).map (fun i => (i.zero, i.size, i.bytes)) = some (some (.slice none 0 0), 1, 24) := by kernel_rfl
theorem recv_close (base b : Nat) (A : Option Addr) (r : Lnk.Ru) (s : Lnk.St) (now : Int) (w wr : World) (k : Nat) (A1 : Option Addr) (c1 : Nat) (oA : Option Addr) (oc : Nat) (rl : List RB) (he : Lnk.recvE s now = 0) (hk : k ≤ s.u.length)
    (h1 : ∀ j (h : j < (Lnk.srt s.u).length), j < k → (Lnk.srt s.u)[j].1 ≤ now) (h2 : ∀ (h : k < (Lnk.srt s.u).length), now < (Lnk.srt s.u)[k].1) (hL : IsLk wr base b A1 c1 r (Lnk.at_ s now k)) (hA : blkOf A1 = blkOf A) (hK : Keeps (Two b A) w wr)
    (hR : Row wr w.heap.size 37 1 oA k oc (rbcs rl)) (hG : BGood wr w.heap.size wr.heap.size rl) (hm : rl.map (·.d) = ((Lnk.srt s.u).take k).map (·.2)) :
    RecvPost base b A r s now w (.returned (.tuple #[.slice oA k oc, .int .i64 0])) wr := by
  obtain ⟨f1, f2⟩ := Lnk.cut_srt (Lnk.sorted_srt s.u) (k := k) (t := now) (by rw [Lnk.length_srt]; exact hk) h1 h2
  refine ⟨oA, k, oc, rfl, ⟨rl, ?_, Rds.of_row hR, hG, fun a ha _ => (hR.lt (g := a.block) (by rw [ha]; rfl)).1⟩, A1, c1, ?_, hK, .inl hA⟩
  · rw [hm]
    unfold Lnk.got
    rw [if_pos he, Lnk.filter_srt, f1]
  · have e : Lnk.recv s now = { Lnk.at_ s now k with u := s.u.filter (fun m => decide (now < m.1)) } := by
      unfold Lnk.recv
      rw [if_pos he]
      rfl
    rw [e]
    exact hL.turn (by rw [Lnk.filter_srt, f2, Lnk.at_srt])
theorem recv_step (base b : Nat) (A : Option Addr) (r : Lnk.Ru) (s : Lnk.St) (now : Int) (w w4 : World) (k : Nat) (A1 A2 : Option Addr) (c1 : Nat) (oA : Option Addr) (oc : Nat) (rl : List RB) (m : Lnk.Msg) (x : RB) (hx : x.d = m.2) (hb : base ≤ b) (hblt : b < w.heap.size)
    (hmk : (Lnk.srt s.u)[k]? = some m) (hmn : m.1 ≤ now) (h1 : ∀ j (h : j < (Lnk.srt s.u).length), j < k → (Lnk.srt s.u)[j].1 ≤ now)
    (hB4 : w4.heap[b]? = some (.cells (lkl r (Lnk.at_ s now k) A1 c1).toArray 77 (0, 0))) (hW4 : Row w4 base 87 2 A1 (s.u.length - k) c1 (mcells ((Lnk.srt s.u).drop k))) (hA2 : A2 = if c1 = 1 then A1 else A1.map (·.add (1 * 2))) (cx lx : Nat) (hcx : cx = c1 - 1) (hlx : lx = s.u.length - k - 1)
    (hAb : ∀ g, blkOf A1 = some g → g ≠ b) (hA : blkOf A1 = blkOf A) (hK : Keeps (Two b A) w w4) (hR : Row w4 w.heap.size 37 1 oA (k + 1) oc (rbcs (rl ++ [x]))) (hG : BGood w4 w.heap.size w4.heap.size (rl ++ [x])) (hX : ∀ y ∈ rl ++ [x], ∀ a, y.A = some a → a.block < w4.heap.size ∧ blkOf oA ≠ some a.block) (hm : rl.map (·.d) = ((Lnk.srt s.u).take k).map (·.2)) :
    RecvRel base b A r s now w (.slice oA (k + 1) oc) (w4.setCell ⟨b, 8, none⟩ (.slice A2 lx cx)) := by
  subst hcx; subst hlx
  have hkl : k < (Lnk.srt s.u).length := by
    rcases Nat.lt_or_ge k (Lnk.srt s.u).length with h' | h'
    · exact h'
    · rw [List.getElem?_eq_none h'] at hmk; cases hmk
  have hkl' := hkl
  rw [Lnk.length_srt] at hkl'
  have hbA : blkOf A2 = blkOf A1 := by
    rw [hA2]
    split
    · rfl
    · cases A1 with
      | none => rfl
      | some a => simp [blkOf, block_of_add]
  have hcut := hW4.cut (k := 1) (by omega)
  rw [← hA2] at hcut
  have hdr : (mcells ((Lnk.srt s.u).drop k)).drop (1 * 2) = mcells ((Lnk.srt s.u).drop (k + 1)) := by rw [mcells_drop, List.drop_drop]
  rw [hdr] at hcut
  have hblk := blk_set hB4 8 (.slice A2 (s.u.length - k - 1) (c1 - 1))
  rw [List.setIfInBounds_toArray] at hblk
  have hsz : s.u.length - k - 1 = (Lnk.at_ s now (k + 1)).u.length := by rw [Lnk.at_len]; omega
  refine ⟨k + 1, A2, c1 - 1, oA, oc, rl ++ [x], rfl, by omega, ?_, ⟨?_, ?_, hb⟩, hbA.trans hA, hK.setCell (.inl (Or.inl rfl)) _, hR.far (fun g hg => ?_) _, ?_, by simpa using hX, ?_⟩
  · intro j hj hjk
    rcases Nat.lt_or_ge j k with h | h
    · exact h1 j hj h
    · obtain rfl : j = k := by omega
      rw [List.getElem?_eq_getElem hj] at hmk
      injection hmk with e
      rw [e]; exact hmn
  · rw [hsz] at hblk ⊢
    simpa [lkl, Lnk.at_] using hblk
  · rw [Lnk.at_srt, ← hsz]
    exact hcut.far (p := ⟨b, 8, none⟩) (fun g hg => hAb g (by rw [← hbA]; exact hg)) _
  · have := (hR.lt hg).1
    show g ≠ b
    omega
  · refine (hG.keep (S := fun i => i = b) ((Keeps.refl (fun i => i = b) w4).setCell (p := ⟨b, 8, none⟩) (.inl rfl) _) (Nat.le_refl _) (fun i hi _ => by omega)).more (by simp)
  · rw [List.map_append, hm, List.take_add_one, hmk]
    simp [hx]
theorem recv_yes (base b c : Nat) (A : Option Addr) (r : Lnk.Ru) (s : Lnk.St) (now : Int) (w : World) (h : IsLk w base b A c r s) (hs : Lnk.Inv s) (hbase : base ≤ w.heap.size) (he : Lnk.recvE s now = 0) :
    Calls Try.prog 18 #[.pointer (some ⟨b, 0, none⟩), .int .i64 now] w (RecvPost base b A r s now w) := by
  obtain ⟨i0, hi0, hz0, hz1, hz2⟩ := info_parts bytes_info
  have N := Lib.hid (none_made b _ w h.blk rfl)
  have c7 : w.cell? ⟨b, 7, none⟩ = some (.int .i64 s.now) := blk_cell h.blk 7 rfl
  have f7 := blk_free h.blk 7
  have hyes : s.now ≤ now ∧ now ≤ 1073741824 := by
    unfold Lnk.recvE at he
    split at he
    · assumption
    · omega
  have HL := Lib.hid h
  have HS := Lib.hid hs
  have HT := Lib.hid h.two
  have HE := Lib.hid he
  have hlt := h.lt
  have hun := hs.2.2.1
  clear h he hs
  go_enter Try.func18, Try.ntmps18
  go_wp2_with (first | (refine N.out.mono ?_; rintro e w' ⟨rfl, rfl⟩) | (refine (lwithin_yes _ _ _ _ hyes).mono ?_; rintro e w' ⟨rfl, rfl⟩))
  have hL0 : IsLk (w.setCell ⟨b, 7, none⟩ (.int .i64 now)) base b A c r (Lnk.at_ s now 0) := (HL.out.set7 now).turn (by simp [Lnk.srt_of_sorted (Lnk.sorted_srt s.u)])
  have HL0 := Lib.hid hL0
  clear hL0
  go_loopw [6] (fun v wr => RecvRel base b A r s now w v wr) (fun v _ => match v with | .slice _ k _ => s.u.length - k | _ => 0)
  case atStart => exact ⟨0, A, c, none, 0, [], rfl, Nat.zero_le _, fun j _ hj => absurd hj (by omega), HL0.out, rfl, (by repeat (first | (with_reducible exact Keeps.refl _ _) | (with_reducible assumption) | (with_reducible refine Keeps.drew ?_) | (with_reducible refine Keeps.drewN ?_ _) | (with_reducible refine Keeps.alloc ?_ _) | ((with_reducible refine Keeps.setCell ?_ ?_ _); rotate_left; (first | (left; exact Or.inl rfl) | (right; (first | omega | (simp <;> omega)))); rotate_right))), Row.nil _ _ _ _, BGood.nil _ _ _, (fun x hx => by cases hx), rfl⟩
  case round =>
    obtain ⟨k, A1, c1, oA, oc, rl, rfl, hk, hle, hL, hA, hK, hR, hG, hX, hm⟩ := hrel
    clear c7 f7
    have hzr := hK.size
    have c8 : wr.cell? ⟨b, 8, none⟩ = some (.slice A1 (Lnk.at_ s now k).u.length c1) := blk_cell hL.blk 8 rfl
    rw [Lnk.at_len] at c8
    have f8 := blk_free hL.blk 8
    have HLK := Lib.hid hL
    have HLE := Lib.hid hle
    have HA := Lib.hid hA
    have HK := Lib.hid hK
    have HR := Lib.hid hR
    have HG := Lib.hid hG
    have HM := Lib.hid hm
    have HX := Lib.hid hX
    clear hL hle hA hK hR hG hX hm HL0
    rcases Nat.lt_or_ge k s.u.length with hkl | hkl
    · have hks : k < (Lnk.srt s.u).length := by rw [Lnk.length_srt]; exact hkl
      obtain ⟨g, o, cur, rfl, hgb, hgl, hgg, hgn, hgc, hgf, hgt, hgx, hgz⟩ := HLK.out.row.some_ (by rw [Lnk.at_len]; omega)
      obtain ⟨m, hmk⟩ : ∃ m, (Lnk.srt s.u)[k]? = some m := ⟨_, List.getElem?_eq_getElem hks⟩
      have hx := mcells_at? (l := (Lnk.srt s.u).drop k) (j := 0) (m := m) (by rw [List.getElem?_drop]; simpa using hmk)
      have cx : wr.cell? ⟨g, o, none⟩ = some (.int .i64 m.1) := hgx 0 _ (by rw [Lnk.at_srt]; exact hx.1)
      have cy : wr.cell? ⟨g, o + 1, none⟩ = some (.string (strOfNums m.2)) := hgx 1 _ (by rw [Lnk.at_srt]; exact hx.2)
      have hmok : Lnk.MOk m := HS.out.2.2.2.1 _ (Lnk.mem_srt.1 (List.mem_of_getElem? hmk))
      have HKS := Lib.hid hks
      have HMK := Lib.hid hmk
      have z1 : (0 : Int) < ((s.u.length - k : Nat) : Int) := by omega
      rw [Lnk.at_len] at hgn
      clear hgg hgt hgx hgz hx hmk hks
      by_cases hmn : m.1 ≤ now
      · obtain ⟨w2, c2, hcv, hrd, hb2, hz2', hc2, hc2'⟩ := conv_bytes m.2 hmok.2.2.1 wr (by have := hmok.2.2.2; omega)
        have HRW := Lib.hid (show Row wr base 87 2 (some ⟨g, o, none⟩) (s.u.length - k) c1 (mcells ((Lnk.srt s.u).drop k)) by have := HLK.out.row; rw [Lnk.at_srt, Lnk.at_len] at this; exact this)
        have HL2 := HLK.out
        have hblt2 := HLK.out.lt
        have hgr := HR.out
        have hob : ∀ g', blkOf oA = some g' → w.heap.size ≤ g' := fun g' hg' => (HR.out.lt hg').1
        have HOB := Lib.hid hob
        have HB2 := Lib.hid hb2
        have HRD := Lib.hid hrd
        have HMO := Lib.hid hmok
        have hc1 : 1 ≤ c1 := by omega
        have hz2a : wr.heap.size + 1 ≤ w2.heap.size := by omega
        clear HL2 hgr hob hb2 hrd hmok hz2'
        by_cases hc11 : c1 = 1
        all_goals
          go_wp2_with (at_builtin; refine wpList_append_row rfl (.tmp 37) (.tmp 46) _ rfl w.heap.size 37 i0 _ 1 24 Try.underlying48 hi0 hz0 hz1 hz2 rfl oA k oc (rbcs rl) rfl ((HR.out.below HB2.out (Nat.le_refl _)).alloc _) ⟨w2.heap.size, 0, none⟩ 1 1 [rbc ⟨some ⟨wr.heap.size, 0, none⟩, c2, m.2⟩] rfl rfl (fun j u hu => by rw [addr_add, Nat.zero_add]; exact blk_cell (heap_new _ _) j hu) (rbcs_one [_]) (by omega) (by unfold maxLen; omega) (by omega) (by simp; omega) ?_; intro oA' oc' w4 hown4 hg4 hat4; (have hz4 := hg4.size; try simp at hz4); have hb4 : w4.heap[b]? = some (.cells (lkl r (Lnk.at_ s now k) (some ⟨g, o, none⟩) c1).toArray 77 (0, 0)) := (hg4.block b (by simp; omega) (fun e => by have := HOB.out b e.symm; omega)).trans ((Below.heap_alloc w2 _ b (by omega)).trans ((HB2.out.block b hblt2).trans HLK.out.blk)); have d8 : w4.cell? ⟨b, 8, none⟩ = some (.slice (some ⟨g, o, none⟩) (Lnk.at_ s now k).u.length c1) := blk_cell hb4 8 rfl; rw [Lnk.at_len] at d8; have f84 := blk_free hb4 8; have hkw : Keeps (fun i => blkOf oA = some i) wr w4 := ((Keeps.of_below HB2.out).alloc _).trans (Keeps.of_grown hg4 (S := fun i => blkOf oA = some i) (fun g h => h)) (fun _ _ h => h); have HKW := Lib.hid hkw; have HAT4 := Lib.hid hat4; have hwz4 : wr.heap.size + 1 ≤ w4.heap.size := (by omega); have hk4 : Keeps (fun i => blkOf oA = some i) w2 w4 := ((Keeps.refl _ w2).alloc _).trans (Keeps.of_grown hg4 (S := fun i => blkOf oA = some i) (fun g h => h)) (fun _ _ h => h); have HK4 := Lib.hid hk4; have hat5 : blkOf oA' = blkOf oA ∨ blkOf oA' = some (w2.heap.size + 1) := (by simpa using hat4); have HAT5 := Lib.hid hat5; clear hkw hat4 hk4 hat5; have HB4 := Lib.hid hb4; have HG4 := Lib.hid hg4; have HO4 := Lib.hid hown4; clear hb4 hg4 hown4)
          go_roundw
          case rel =>
            have hdn : ∀ a, (some ⟨wr.heap.size, 0, none⟩ : Option Addr) = some a → a.block = wr.heap.size := fun a ha => by injection ha with ha; rw [← ha]
            have hnew : blkOf oA ≠ some wr.heap.size := fun e => by have := (HR.out.lt e).2; omega
            refine recv_step base b A r s now w w4 k (some ⟨g, o, none⟩) _ c1 oA' oc' rl m ⟨some ⟨wr.heap.size, 0, none⟩, c2, m.2⟩ rfl HLK.out.ge hlt HMK.out hmn HLE.out HB4.out (HRW.out.kept HKW.out (fun g' hg' e => ?_)) (by first | rw [if_pos hc11] | (rw [if_neg hc11]; simp [addr_add])) _ _ (by omega) (by omega) (fun g' hg' => HLK.out.ne hg') HA.out (HK.out.trans HKW.out (fun i hi e => absurd (HOB.out i e) (by omega))) (by rw [rbcs_snoc]; exact HO4.out) ?_ ?_ HM.out
            · have h1 := HT.out g' (.inr (by rw [← HA.out]; exact hg'))
              have h2 := HOB.out g' e
              omega
            · refine BGood.snoc ((HG.out.kept HKW.out (Nat.le_refl _) (fun x hx a ha => (HX.out x hx a ha).2)).more (by omega)) ⟨?_, fun a ha => by rw [hdn a ha]; omega, hc2, hc2', fun h => by cases h⟩
              exact ((HRD.out.kept HK4.out (by omega) (fun a ha e => by rw [hdn a ha] at e; exact hnew e))).more (by omega)
            · intro y hy a ha
              rcases List.mem_append.1 hy with hy | hy
              · obtain ⟨g1, g2⟩ := HX.out y hy a ha
                refine ⟨by omega, fun e => ?_⟩
                rcases HAT5.out with h5 | h5
                · exact g2 (by rw [← h5]; exact e)
                · rw [h5] at e; injection e with e; omega
              · rw [List.mem_singleton.1 hy] at ha
                rw [hdn a ha]
                refine ⟨by omega, fun e => ?_⟩
                rcases HAT5.out with h5 | h5
                · exact hnew (by rw [← h5]; exact e)
                · rw [h5] at e; injection e with e; omega
          case measure => simp; omega
      · go_wp2_with fail
        go_ret2
        refine recv_close base b A r s now w wr k _ _ oA oc rl HE.out (by omega) HLE.out (fun h => by have e := HMK.out; rw [List.getElem?_eq_getElem h] at e; injection e with e; rw [e]; omega) HLK.out HA.out HK.out HR.out HG.out HM.out
    · obtain rfl : k = s.u.length := by omega
      rw [Nat.sub_self] at c8
      go_wp2_with fail
      go_ret2
      refine recv_close base b A r s now w wr _ _ _ oA oc rl HE.out (Nat.le_refl _) HLE.out (fun h => absurd h (by rw [Lnk.length_srt]; omega)) HLK.out HA.out HK.out HR.out HG.out HM.out
end Go.Proofs.Ytgdpoiapkaahfaa

import Derived.Test.YtdocdgcdldpagaaGreatAp
import Derived.Test.YtdocdgcdldpagaaGreatAv13
import Derived.Test.YtdocdgcdldpagaaGreatAv05
import Derived.Test.YtdocdgcdldpagaaGreatAv07
import Derived.Test.YtdocdgcdldpagaaGreatAv06
import Derived.Test.YtdocdgcdldpagaaGreatAv09
import Derived.Test.YtdocdgcdldpagaaGreatAv10
namespace Go.Proofs.YtdocdgcdldpagaaGreat
open Go.RowKit
set_option maxHeartbeats 8000000
set_option maxRecDepth 100000
set_option linter.unusedSimpArgs false
set_option linter.unusedVariables false
attribute [local go_sem ↓] Go.wp_at_zero Go.wp_at_succ
namespace Lnk
theorem srt_ins_last {m : Msg} : ∀ {l : List Msg}, (∀ x ∈ l, x.1 ≤ m.1) → ins m l = l ++ [m]
  | [], _ => rfl
  | a :: l, h => by rw [ins_le _ (h a C9), srt_ins_last (l := l) (fun x hx => h x (by simp [hx]))]; rfl
theorem srt_of_sorted {l : List Msg} (h : Sorted l) : srt l = l := by
  refine rev_ind (P := fun l => Sorted l → srt l = l) (fun _ => rfl) ?_ l h
  intro u m ih hs
  unfold Sorted at hs
  rw [List.pairwise_append] at hs
  rw [srt_snoc, ih hs.1, srt_ins_last (fun x hx => hs.2.2 x hx m C9)]
theorem sorted_drop {l : List Msg} (h : Sorted l) (k : Nat) : Sorted (l.drop k) := List.Pairwise.sublist (List.drop_sublist k l) h
def at_ (s : St) (now : Int) (k : Nat) : St := { s with now := now, u := (srt s.u).drop k }
theorem at_srt (s : St) (now : Int) (k : Nat) : srt (at_ s now k).u = (srt s.u).drop k := srt_of_sorted (sorted_drop (sorted_srt _) k)
theorem at_len (s : St) (now : Int) (k : Nat) : (at_ s now k).u.length = s.u.length - k := by simp [at_, length_srt]
end Lnk
theorem mcells_at? {l : List Lnk.Msg} {j : Nat} {m : Lnk.Msg} (h : l[j]? = some m) : (mcells l)[j * 2]? = some (.int .i64 m.1) ∧ (mcells l)[j * 2 + 1]? = some (.string (strOfNums m.2)) := by
  have hj : j < l.length := by
    rcases Nat.lt_or_ge j l.length with h' | h'
    · exact h'
    · rw [List.getElem?_eq_none h'] at h; cases h
  rw [List.getElem?_eq_getElem hj] at h
  injection h with h
  subst h
  exact mcells_at l j hj
theorem IsLk.turn {w : World} {base b c : Nat} {A : Option Addr} {r : Lnk.Ru} {s : Lnk.St} {u : List Lnk.Msg} (h : IsLk w base b A c r s) (he : Lnk.srt u = Lnk.srt s.u) : IsLk w base b A c r { s with u := u } := by
  have hl : u.length = s.u.length := by rw [← Lnk.length_srt u, he, Lnk.length_srt]
  refine ⟨?_, ?_, h.ge⟩
  · have := h.blk
    unfold lkl at this ⊢
    simp only [hl]
    exact this
  · have := h.row
    simp only [hl, he]
    exact this
theorem lkrecv_no (base b c : Nat) (A : Option Addr) (r : Lnk.Ru) (s : Lnk.St) (now : Int) (w : World) (h : IsLk w base b A c r s) (he : Lnk.recvE s now ≠ 0) :
    Calls Tryz.prog 131 #[.pointer (some ⟨b, 0, none⟩), .int .i64 now] w fun e w' => e = .returned (.tuple #[.slice none 0 0, .int .i64 3]) ∧ w = w' := by
  have N := Lib.hid (none_made b _ w h.blk rfl)
  have c7 : w.cell? ⟨b, 7, none⟩ = some (.int .i64 s.now) := blk_cell h.blk 7 rfl
  have hno : ¬ (s.now ≤ now ∧ now ≤ 1073741824) := fun hh => he (by unfold Lnk.recvE; rw [if_pos hh])
  clear h he
  go_enter Tryz.func131, Tryz.ntmps131
  go_wp2_with (first | (refine N.out.mono ?_; rintro e w' ⟨rfl, rfl⟩) | (refine (lwithin_no _ _ _ _ hno).mono ?_; rintro e w' ⟨rfl, rfl⟩))
  go_ret2
  exact ⟨rfl, rfl⟩
def RecvPost (base b : Nat) (A : Option Addr) (r : Lnk.Ru) (s : Lnk.St) (now : Int) (w : World) (e : Ending) (w' : World) : Prop :=
  ∃ oA n oc, e = .returned (.tuple #[.slice oA n oc, .int .i64 0]) ∧ Rb w' w.heap.size w'.heap.size oA n ((Lnk.got s now).map (·.2)) ∧ LkTo base b A r (Lnk.recv s now) w w'
def RecvRel (base b : Nat) (A : Option Addr) (r : Lnk.Ru) (s : Lnk.St) (now : Int) (w : World) (v : Value) (wr : World) : Prop :=
  ∃ (k : Nat) (A1 : Option Addr) (c1 : Nat) (oA : Option Addr) (oc : Nat) (rl : List LRB), v = .slice oA k oc ∧ k ≤ s.u.length ∧ (∀ j (h : j < (Lnk.srt s.u).length), j < k → (Lnk.srt s.u)[j].1 ≤ now) ∧
    IsLk wr base b A1 c1 r (Lnk.at_ s now k) ∧ blkOf A1 = blkOf A ∧ Keeps (Two b A) w wr ∧ Row wr w.heap.size 47 1 oA k oc (rbcs rl) ∧ BGood wr w.heap.size wr.heap.size rl ∧ (∀ x ∈ rl, ∀ a, x.A = some a → a.block < wr.heap.size ∧ blkOf oA ≠ some a.block) ∧ rl.map (·.d) = ((Lnk.srt s.u).take k).map (·.2)
theorem bytes_info : (Tryz.prog.info? 47).map (fun i => (i.zero, i.size, i.bytes)) = some (some (.slice none 0 0), 1, 24) := by kernel_rfl
theorem recv_close (base b : Nat) (A : Option Addr) (r : Lnk.Ru) (s : Lnk.St) (now : Int) (w wr : World) (k : Nat) (A1 : Option Addr) (c1 : Nat) (oA : Option Addr) (oc : Nat) (rl : List LRB) (he : Lnk.recvE s now = 0) (hk : k ≤ s.u.length)
    (h1 : ∀ j (h : j < (Lnk.srt s.u).length), j < k → (Lnk.srt s.u)[j].1 ≤ now) (h2 : ∀ (h : k < (Lnk.srt s.u).length), now < (Lnk.srt s.u)[k].1) (hL : IsLk wr base b A1 c1 r (Lnk.at_ s now k)) (hA : blkOf A1 = blkOf A) (hK : Keeps (Two b A) w wr)
    (hR : Row wr w.heap.size 47 1 oA k oc (rbcs rl)) (hG : BGood wr w.heap.size wr.heap.size rl) (hm : rl.map (·.d) = ((Lnk.srt s.u).take k).map (·.2)) :
    RecvPost base b A r s now w (.returned (.tuple #[.slice oA k oc, .int .i64 0])) wr := by
  obtain ⟨f1, f2⟩ := Lnk.cut_srt (Lnk.sorted_srt s.u) (k := k) (t := now) (by rw [Lnk.length_srt]; exact hk) h1 h2
  refine ⟨oA, k, oc, rfl, ⟨rl, ?_, Rds.of_row hR, hG, fun a ha _ => (hR.lt (g := a.block) (by rw [ha]; rfl)).1⟩, A1, c1, ?_, hK, .inl hA⟩
  · rw [hm]
    unfold Lnk.got
    rw [if_pos he, Lnk.filter_srt, f1]
  · have e : Lnk.recv s now = { Lnk.at_ s now k with u := s.u.filter (fun m => decide (now < m.1)) } := by
      unfold Lnk.recv
      rw [if_pos he]
      rfl
    rw [e]
    exact hL.turn (by rw [Lnk.filter_srt, f2, Lnk.at_srt])
theorem recv_step (base b : Nat) (A : Option Addr) (r : Lnk.Ru) (s : Lnk.St) (now : Int) (w w4 : World) (k : Nat) (A1 A2 : Option Addr) (c1 : Nat) (oA : Option Addr) (oc : Nat) (rl : List LRB) (m : Lnk.Msg) (x : LRB) (hx : x.d = m.2) (hb : base ≤ b) (hblt : b < w.heap.size)
    (hmk : (Lnk.srt s.u)[k]? = some m) (hmn : m.1 ≤ now) (h1 : ∀ j (h : j < (Lnk.srt s.u).length), j < k → (Lnk.srt s.u)[j].1 ≤ now)
    (hB4 : w4.heap[b]? = some (.cells (lkl r (Lnk.at_ s now k) A1 c1).toArray 172 (0, 0))) (hW4 : Row w4 base 175 2 A1 (s.u.length - k) c1 (mcells ((Lnk.srt s.u).drop k))) (hA2 : A2 = if c1 = 1 then A1 else A1.map (·.add (1 * 2))) (cx lx : Nat) (hcx : cx = c1 - 1) (hlx : lx = s.u.length - k - 1)
    (hAb : ∀ g, blkOf A1 = some g → g ≠ b) (hA : blkOf A1 = blkOf A) (hK : Keeps (Two b A) w w4) (hR : Row w4 w.heap.size 47 1 oA (k + 1) oc (rbcs (rl ++ [x]))) (hG : BGood w4 w.heap.size w4.heap.size (rl ++ [x])) (hX : ∀ y ∈ rl ++ [x], ∀ a, y.A = some a → a.block < w4.heap.size ∧ blkOf oA ≠ some a.block) (hm : rl.map (·.d) = ((Lnk.srt s.u).take k).map (·.2)) :
    RecvRel base b A r s now w (.slice oA (k + 1) oc) (w4.setCell ⟨b, 8, none⟩ (.slice A2 lx cx)) := by
  subst hcx; subst hlx
  have hkl : k < (Lnk.srt s.u).length := by
    rcases Nat.lt_or_ge k (Lnk.srt s.u).length with h' | h'
    · exact h'
    · rw [List.getElem?_eq_none h'] at hmk; cases hmk
  have hkl' := hkl
  rw [Lnk.length_srt] at hkl'
  have hbA : blkOf A2 = blkOf A1 := by
    rw [hA2]
    split
    · rfl
    · cases A1 with
      | none => rfl
      | some a => simp [blkOf, block_of_add]
  have hcut := hW4.cut (k := 1) Cb
  rw [← hA2] at hcut
  have hdr : (mcells ((Lnk.srt s.u).drop k)).drop (1 * 2) = mcells ((Lnk.srt s.u).drop (k + 1)) := by rw [mcells_drop, List.drop_drop]
  rw [hdr] at hcut
  have hblk := blk_set hB4 8 (.slice A2 (s.u.length - k - 1) (c1 - 1))
  rw [List.setIfInBounds_toArray] at hblk
  have hsz : s.u.length - k - 1 = (Lnk.at_ s now (k + 1)).u.length := by rw [Lnk.at_len]; omega
  refine ⟨k + 1, A2, c1 - 1, oA, oc, rl ++ [x], rfl, by omega, ?_, ⟨?_, ?_, hb⟩, hbA.trans hA, hK.setCell (.inl (Or.inl rfl)) _, hR.far (fun g hg => ?_) _, ?_, by simpa using hX, ?_⟩
  · intro j hj hjk
    rcases Nat.lt_or_ge j k with h | h
    · exact h1 j hj h
    · obtain rfl : j = k := by omega
      rw [List.getElem?_eq_getElem hj] at hmk
      injection hmk with e
      rw [e]; exact hmn
  · rw [hsz] at hblk ⊢
    simpa [lkl, Lnk.at_] using hblk
  · rw [Lnk.at_srt, ← hsz]
    exact hcut.far (p := ⟨b, 8, none⟩) (fun g hg => hAb g (by rw [← hbA]; exact hg)) _
  · have := (hR.lt hg).1
    show g ≠ b
    omega
  · refine (hG.keep (S := fun i => i = b) ((Keeps.refl (fun i => i = b) w4).setCell (p := ⟨b, 8, none⟩) (.inl rfl) _) (Nat.le_refl _) (fun i hi _ => by omega)).more C9
  · rw [List.map_append, hm, List.take_add_one, hmk]
    simp [hx]
theorem recv_yes (base b c : Nat) (A : Option Addr) (r : Lnk.Ru) (s : Lnk.St) (now : Int) (w : World) (h : IsLk w base b A c r s) (hs : Lnk.Inv s) (hbase : base ≤ w.heap.size) (he : Lnk.recvE s now = 0) :
    Calls Tryz.prog 131 #[.pointer (some ⟨b, 0, none⟩), .int .i64 now] w (RecvPost base b A r s now w) := by
  obtain ⟨i0, hi0, hz0, hz1, hz2⟩ := info_parts bytes_info
  have N := Lib.hid (none_made b _ w h.blk rfl)
  have c7 : w.cell? ⟨b, 7, none⟩ = some (.int .i64 s.now) := blk_cell h.blk 7 rfl
  have f7 := blk_free h.blk 7
  have hyes : s.now ≤ now ∧ now ≤ 1073741824 := by
    unfold Lnk.recvE at he
    split at he
    · assumption
    · omega
  have HL := Lib.hid h
  have HS := Lib.hid hs
  have HT := Lib.hid h.two
  have HE := Lib.hid he
  have hlt := h.lt
  have hun := hs.2.2.1
  clear h he hs
  go_enter Tryz.func131, Tryz.ntmps131
  go_wp2_with (first | (refine N.out.mono ?_; rintro e w' ⟨rfl, rfl⟩) | (refine (lwithin_yes _ _ _ _ hyes).mono ?_; rintro e w' ⟨rfl, rfl⟩))
  have hL0 : IsLk (w.setCell ⟨b, 7, none⟩ (.int .i64 now)) base b A c r (Lnk.at_ s now 0) := (HL.out.set7 now).turn (by simp [Lnk.srt_of_sorted (Lnk.sorted_srt s.u)])
  have HL0 := Lib.hid hL0
  clear hL0
  go_loopw [6] (fun v wr => RecvRel base b A r s now w v wr) (fun v _ => match v with | .slice _ k _ => s.u.length - k | _ => 0)
  case atStart => exact ⟨0, A, c, none, 0, [], rfl, Nat.zero_le _, fun j _ hj => absurd hj Cb, HL0.out, rfl, Ad, Row.nil _ _ _ _, BGood.nil _ _ _, (fun x hx => by cases hx), rfl⟩
  case round =>
    obtain ⟨k, A1, c1, oA, oc, rl, rfl, hk, hle, hL, hA, hK, hR, hG, hX, hm⟩ := hrel
    clear c7 f7
    have hzr := hK.size
    have c8 : wr.cell? ⟨b, 8, none⟩ = some (.slice A1 (Lnk.at_ s now k).u.length c1) := blk_cell hL.blk 8 rfl
    rw [Lnk.at_len] at c8
    have f8 := blk_free hL.blk 8
    have HLK := Lib.hid hL
    have HLE := Lib.hid hle
    have HA := Lib.hid hA
    have HK := Lib.hid hK
    have HR := Lib.hid hR
    have HG := Lib.hid hG
    have HM := Lib.hid hm
    have HX := Lib.hid hX
    clear hL hle hA hK hR hG hX hm HL0
    rcases Nat.lt_or_ge k s.u.length with hkl | hkl
    · have hks : k < (Lnk.srt s.u).length := by rw [Lnk.length_srt]; exact hkl
      obtain ⟨g, o, cur, rfl, hgb, hgl, hgg, hgn, hgc, hgf, hgt, hgx, hgz⟩ := HLK.out.row.some_ (by rw [Lnk.at_len]; omega)
      obtain ⟨m, hmk⟩ : ∃ m, (Lnk.srt s.u)[k]? = some m := ⟨_, List.getElem?_eq_getElem hks⟩
      have hx := mcells_at? (l := (Lnk.srt s.u).drop k) (j := 0) (m := m) (by rw [List.getElem?_drop]; simpa using hmk)
      have cx : wr.cell? ⟨g, o, none⟩ = some (.int .i64 m.1) := hgx 0 _ (by rw [Lnk.at_srt]; exact hx.1)
      have cy : wr.cell? ⟨g, o + 1, none⟩ = some (.string (strOfNums m.2)) := hgx 1 _ (by rw [Lnk.at_srt]; exact hx.2)
      have hmok : Lnk.MOk m := HS.out.2.2.2.1 _ (Lnk.mem_srt.1 (List.mem_of_getElem? hmk))
      have HKS := Lib.hid hks
      have HMK := Lib.hid hmk
      have z1 : (0 : Int) < ((s.u.length - k : Nat) : Int) := by omega
      rw [Lnk.at_len] at hgn
      clear hgg hgt hgx hgz hx hmk hks
      by_cases hmn : m.1 ≤ now
      · obtain ⟨w2, c2, hcv, hrd, hb2, hz2', hc2, hc2'⟩ := conv_bytes m.2 hmok.2.2.1 wr (by have := hmok.2.2.2; omega)
        have HRW := Lib.hid (show Row wr base 175 2 (some ⟨g, o, none⟩) (s.u.length - k) c1 (mcells ((Lnk.srt s.u).drop k)) by have := HLK.out.row; rw [Lnk.at_srt, Lnk.at_len] at this; exact this)
        have HL2 := HLK.out
        have hblt2 := HLK.out.lt
        have hgr := HR.out
        have hob : ∀ g', blkOf oA = some g' → w.heap.size ≤ g' := fun g' hg' => (HR.out.lt hg').1
        have HOB := Lib.hid hob
        have HB2 := Lib.hid hb2
        have HRD := Lib.hid hrd
        have HMO := Lib.hid hmok
        have hc1 : 1 ≤ c1 := by omega
        have hz2a : wr.heap.size + 1 ≤ w2.heap.size := by omega
        clear HL2 hgr hob hb2 hrd hmok hz2'
        by_cases hc11 : c1 = 1
        all_goals
          go_wp2_with (at_builtin; refine wpList_append_row rfl (.tmp 37) (.tmp 46) _ rfl w.heap.size 47 i0 _ 1 24 Tryz.underlying143 hi0 hz0 hz1 hz2 rfl oA k oc (rbcs rl) rfl ((HR.out.below HB2.out (Nat.le_refl _)).alloc _) ⟨w2.heap.size, 0, none⟩ 1 1 [rbc ⟨some ⟨wr.heap.size, 0, none⟩, c2, m.2⟩] rfl rfl (fun j u hu => by rw [addr_add, Nat.zero_add]; exact blk_cell (heap_new _ _) j hu) (rbcs_one [_]) Cb Bv Cb C6 ?_; intro oA' oc' w4 hown4 hg4 hat4; (have hz4 := hg4.size; try simp at hz4); have hb4 : w4.heap[b]? = some (.cells (lkl r (Lnk.at_ s now k) (some ⟨g, o, none⟩) c1).toArray 172 (0, 0)) := (hg4.block b C6 (fun e => by have := HOB.out b e.symm; omega)).trans ((Below.heap_alloc w2 _ b Cb).trans ((HB2.out.block b hblt2).trans HLK.out.blk)); have d8 : w4.cell? ⟨b, 8, none⟩ = some (.slice (some ⟨g, o, none⟩) (Lnk.at_ s now k).u.length c1) := blk_cell hb4 8 rfl; rw [Lnk.at_len] at d8; have f84 := blk_free hb4 8; have hkw : Keeps (fun i => blkOf oA = some i) wr w4 := ((Keeps.of_below HB2.out).alloc _).trans (Keeps.of_grown hg4 (S := fun i => blkOf oA = some i) (fun g h => h)) (fun _ _ h => h); have HKW := Lib.hid hkw; have HAT4 := Lib.hid hat4; have hwz4 : wr.heap.size + 1 ≤ w4.heap.size := Cb; have hk4 : Keeps (fun i => blkOf oA = some i) w2 w4 := ((Keeps.refl _ w2).alloc _).trans (Keeps.of_grown hg4 (S := fun i => blkOf oA = some i) (fun g h => h)) (fun _ _ h => h); have HK4 := Lib.hid hk4; have hat5 : blkOf oA' = blkOf oA ∨ blkOf oA' = some (w2.heap.size + 1) := (by simpa using hat4); have HAT5 := Lib.hid hat5; clear hkw hat4 hk4 hat5; have HB4 := Lib.hid hb4; have HG4 := Lib.hid hg4; have HO4 := Lib.hid hown4; clear hb4 hg4 hown4)
          go_roundw
          case rel =>
            have hdn : ∀ a, (some ⟨wr.heap.size, 0, none⟩ : Option Addr) = some a → a.block = wr.heap.size := fun a ha => by injection ha with ha; rw [← ha]
            have hnew : blkOf oA ≠ some wr.heap.size := fun e => by have := (HR.out.lt e).2; omega
            refine recv_step base b A r s now w w4 k (some ⟨g, o, none⟩) _ c1 oA' oc' rl m ⟨some ⟨wr.heap.size, 0, none⟩, c2, m.2⟩ rfl HLK.out.ge hlt HMK.out hmn HLE.out HB4.out (HRW.out.kept HKW.out (fun g' hg' e => ?_)) (by first | rw [if_pos hc11] | (rw [if_neg hc11]; simp [addr_add])) _ _ Cb Cb (fun g' hg' => HLK.out.ne hg') HA.out (HK.out.trans HKW.out (fun i hi e => absurd (HOB.out i e) Cb)) (by rw [rbcs_snoc]; exact HO4.out) ?_ ?_ HM.out
            · have h1 := HT.out g' (.inr (by rw [← HA.out]; exact hg'))
              have h2 := HOB.out g' e
              omega
            · refine BGood.snoc ((HG.out.kept HKW.out (Nat.le_refl _) (fun x hx a ha => (HX.out x hx a ha).2)).more Cb) ⟨?_, fun a ha => by rw [hdn a ha]; omega, hc2, hc2', fun h => by cases h⟩
              exact ((HRD.out.kept HK4.out Cb (fun a ha e => by rw [hdn a ha] at e; exact hnew e))).more Cb
            · intro y hy a ha
              rcases List.mem_append.1 hy with hy | hy
              · obtain ⟨g1, g2⟩ := HX.out y hy a ha
                refine ⟨by omega, fun e => ?_⟩
                rcases HAT5.out with h5 | h5
                · exact g2 (by rw [← h5]; exact e)
                · rw [h5] at e; injection e with e; omega
              · rw [List.mem_singleton.1 hy] at ha
                rw [hdn a ha]
                refine ⟨by omega, fun e => ?_⟩
                rcases HAT5.out with h5 | h5
                · exact hnew (by rw [← h5]; exact e)
                · rw [h5] at e; injection e with e; omega
          case measure => simp; omega
      · go_wp2_with fail
        go_ret2
        refine recv_close base b A r s now w wr k _ _ oA oc rl HE.out Cb HLE.out (fun h => by have e := HMK.out; rw [List.getElem?_eq_getElem h] at e; injection e with e; rw [e]; omega) HLK.out HA.out HK.out HR.out HG.out HM.out
    · obtain rfl : k = s.u.length := by omega
      rw [Nat.sub_self] at c8
      go_wp2_with fail
      go_ret2
      refine recv_close base b A r s now w wr _ _ _ oA oc rl HE.out (Nat.le_refl _) HLE.out (fun h => absurd h Bm) HLK.out HA.out HK.out HR.out HG.out HM.out
end Go.Proofs.YtdocdgcdldpagaaGreat
namespace Go.Proofs.YtdocdgcdldpagaaGreat
open Go.RowKit
set_option maxHeartbeats 8000000
set_option maxRecDepth 100000
set_option linter.unusedSimpArgs false
set_option linter.unusedVariables false
attribute [local go_sem ↓] Go.wp_at_zero Go.wp_at_succ
theorem send_is {r : Lnk.Ru} {s : Lnk.St} {now : Int} {d : List Int} (h : Lnk.sendE s now d.length ≠ 0) : Lnk.send r s now d = s := by unfold Lnk.send; rw [if_neg h]
theorem send_any (base b c : Nat) (A : Option Addr) (r : Lnk.Ru) (s : Lnk.St) (now : Int) (D : Option Addr) (n cap : Nat) (d : List Int) (w : World) (h : IsLk w base b A c r s) (hr : Lnk.vld r = true) (hs : Lnk.Inv s) (hsent : s.sent < 1000000000000000) (hbase : base ≤ w.heap.size)
    (hn : n ≤ 140737488355328) (hd : Rd w w.heap.size D n d) (hD : ∀ a, D = some a → ¬ Two b A a.block) :
    Calls Tryz.prog 130 #[.pointer (some ⟨b, 0, none⟩), .int .i64 now, .slice D n cap] w (SendPost base b A r (Lnk.send r s now d) (Lnk.sendE s now n) w) := by
  by_cases he : Lnk.sendE s now n = 0
  · rw [he]
    exact send_yes base b c A r s now D n cap d w h hr hs hsent hbase hd hD he
  · refine (send_no base b c A r s now D n cap w h hn he).mono ?_
    rintro e w' ⟨rfl, rfl⟩
    refine ⟨rfl, ?_⟩
    rw [send_is (by rw [hd.1]; exact he)]
    exact LkTo.same h (Keeps.refl _ _)
def sfE (s : Lnk.St) (now k f t q : Int) (n : Nat) : Int := if Frm.vd k f t q n = true then Lnk.sendE s now (n + 10) else 2
def sfS (r : Lnk.Ru) (s : Lnk.St) (now k f t q : Int) (d : List Int) : Lnk.St := if Frm.vd k f t q d.length = true then Lnk.send r s now (Frm.enc k f t q d) else s
theorem sendf_any (base b c : Nat) (A : Option Addr) (r : Lnk.Ru) (s : Lnk.St) (now : Int) (k f t q : Int) (D : Option Addr) (n cap : Nat) (d : List Int) (w : World) (h : IsLk w base b A c r s) (hr : Lnk.vld r = true) (hs : Lnk.Inv s) (hsent : s.sent < 1000000000000000) (hbase : base ≤ w.heap.size)
    (hn : n ≤ 140737488355328) (hd : Rd w w.heap.size D n d) :
    Calls Tryz.prog 101 #[.pointer (some ⟨b, 0, none⟩), .int .i64 now, .agg #[.int .i64 k, .int .i64 f, .int .i64 t, .int .i64 q, .slice D n cap]] w (SendPost base b A r (sfS r s now k f t q d) (sfE s now k f t q n) w) := by
  have HT := Lib.hid h.two
  have HL := Lib.hid h
  have hdl := hd.1
  have N := Lib.hid (fun (W : World) (hW : IsLk W base b A c r s) => none_made b _ W hW.blk rfl)
  have hlt := h.lt
  cases hv : Frm.vd k f t q n
  · have EN := Lib.hid (fun W : World => enc_no k f t q D n cap W hn hv)
    have E1 := Lib.hid (show sfE s now k f t q n = 2 by unfold sfE; rw [if_neg (by rw [hv]; simp)])
    have E2 := Lib.hid (show sfS r s now k f t q d = s by unfold sfS; rw [if_neg (by rw [hdl, hv]; simp)])
    clear hv h hd hs hr hdl
    go_enter Tryz.func101, Tryz.ntmps101
    go_wp2_with fail
    refine (N.out _ (HL.out.alloc _)).mono ?_
    rintro e w' ⟨rfl, rfl⟩
    go_wp2_with fail
    refine (EN.out _).mono ?_
    rintro e w1 ⟨rfl, hb1⟩
    have hz1 := hb1.size; try simp at hz1
    go_wp2_with fail
    go_ret
    rw [E1.out, E2.out]
    have hB : Below w.heap.size w w1 := A9
    exact ⟨rfl, LkTo.same (HL.out.below hB (Nat.le_refl _)) (Keeps.of_below hB)⟩
  · have hn64 : n ≤ 64 := (Frm.vd_bd hv).2.2.2.2
    have EN := Lib.hid (fun (W : World) (hW : Rd W W.heap.size D n d) => enc_yes k f t q D n cap d W hv hW)
    have E1 := Lib.hid (show sfE s now k f t q n = Lnk.sendE s now (n + 10) by unfold sfE; rw [if_pos hv])
    have E2 := Lib.hid (show sfS r s now k f t q d = Lnk.send r s now (Frm.enc k f t q d) by unfold sfS; rw [if_pos (by rw [hdl]; exact hv)])
    have HD := Lib.hid hd
    have HS := Lib.hid hs
    have HR := Lib.hid hr
    clear hv h hd hs hr hdl
    go_enter Tryz.func101, Tryz.ntmps101
    go_wp2_with fail
    refine (N.out _ (HL.out.alloc _)).mono ?_
    rintro e w' ⟨rfl, rfl⟩
    go_wp2_with fail
    refine (EN.out _ ((HD.out.alloc (Nat.le_refl _) _).more C9)).mono ?_
    rintro e w1 ⟨A', cap', rfl, hO, hb1⟩
    have hz1 := hb1.size; try simp at hz1
    have hB : Below w.heap.size w w1 := A9
    have HB := Lib.hid hB
    have HO := Lib.hid hO
    have hA' : ∀ a, A' = some a → w.heap.size + 1 ≤ a.block := by
      intro a ha
      rcases HO.out.form with ⟨h1, _⟩ | ⟨g, h1, h2, _⟩
      · rw [h1] at ha; cases ha
      · rw [h1] at ha; injection ha with ha; rw [← ha]; simpa using h2
    have HA := Lib.hid hA'
    clear hb1 hB hO hA'
    go_wp2_with fail
    refine (send_any base b c A r s now A' (n + 10) cap' (Frm.enc k f t q d) w1 (HL.out.below HB.out (Nat.le_refl _)) HR.out HS.out hsent Cb Cb HO.out.rd (fun a ha hT => by have := HA.out a ha; have := HT.out _ hT; omega)).mono ?_
    rintro e w2 ⟨rfl, hTo⟩
    have HTo := Lib.hid hTo
    clear hTo
    go_wp2_with fail
    go_ret
    rw [E1.out, E2.out]
    exact ⟨rfl, LkTo.trans (r' := r) (Keeps.of_below HB.out) (.inl rfl) HTo.out⟩
end Go.Proofs.YtdocdgcdldpagaaGreat
namespace Go.Proofs.YtdocdgcdldpagaaGreat
open Go.RowKit
set_option maxHeartbeats 4000000
set_option linter.unusedSimpArgs false
set_option linter.unusedVariables false
namespace Frm
def uk (l : List Int) (i : Nat) : Int := if dE l = 0 then l.getD i 0 else 0
def us (l : List Int) : Int := if dE l = 0 then dS l else 0
def ud (l : List Int) : List Int := if dE l = 0 then dd l else []
theorem dd_len {r : List Int} (h : 10 + dm r ≤ r.length) : (dd r).length = dm r := by rw [dd, List.length_take, List.length_drop]; omega
theorem dE_len {l : List Int} (h : dE l = 0) : l.length = 10 + dm l := by
  unfold dE at h
  by_cases h1 : l.length < 10
  · rw [if_pos h1] at h; omega
  · rw [if_neg h1] at h
    by_cases h2 : ¬ (l.getD 0 0 = 213 ∧ l.getD 1 0 = 76 ∧ l.getD 7 0 ≤ 64)
    · rw [if_pos h2] at h; omega
    · rw [if_neg h2] at h
      by_cases h3 : l.length < 10 + dm l
      · rw [if_pos h3] at h; omega
      · rw [if_neg h3] at h
        by_cases h4 : 10 + dm l < l.length
        · rw [if_pos h4] at h; omega
        · omega
end Frm
def UPost (w : World) (l : List Int) (e : Ending) (w' : World) : Prop :=
  ∃ A cap, e = .returned (.tuple #[.agg #[.int .i64 (Frm.uk l 2), .int .i64 (Frm.uk l 3), .int .i64 (Frm.uk l 4), .int .i64 (Frm.us l), .slice A (Frm.ud l).length cap], .int .i64 (Frm.dE l)]) ∧ Ow w' w.heap.size A (Frm.ud l).length cap (Frm.ud l) ∧ Below w.heap.size w w'
theorem dpost_uni {w w' : World} {l : List Int} {e : Ending} (h : DPost w l e w') : UPost w l e w' := by
  rcases h with ⟨h0, he, hb⟩ | ⟨h0, A, cap, he, ho, hb⟩
  · refine ⟨none, 0, ?_, ?_, hb⟩
    · rw [he]; simp [Frm.uk, Frm.us, Frm.ud, h0]
    · simp only [Frm.ud, h0, if_false]; exact Ow.nil _ _
  · have hl : (Frm.dd l).length = Frm.dm l := Frm.dd_len (by have := Frm.dE_len h0; omega)
    refine ⟨A, cap, ?_, ?_, hb⟩
    · rw [he]; simp [Frm.uk, Frm.us, Frm.ud, h0, hl]
    · simp only [Frm.ud, h0, if_true]; rw [hl]; exact ho
theorem dec_uni (A : Option Addr) (n cap : Nat) (l : List Int) (w : World) (hn : n ≤ 140737488355328) (hcap : n ≤ cap) (hcm : cap ≤ 9223372036854775807) (h : Rd w w.heap.size A n l) : Calls Tryz.prog 132 #[.slice A n cap] w fun e w' => UPost w l e w' :=
  (dec_any A n cap l w hn hcap hcm h).mono fun e w' => dpost_uni
end Go.Proofs.YtdocdgcdldpagaaGreat
namespace Go.Proofs.YtdocdgcdldpagaaGreat
set_option linter.unusedVariables false
set_option linter.unusedSimpArgs false
set_option maxHeartbeats 4000000
namespace Nt
open Ck
structure Ru where
  (n again step drift lost ret desc late every : Int)
  (up dn : Lnk.Ru)
  (offs rates : List Int)
structure Cr where
  p : Plt.St
  up : Lnk.St
  dn : Lnk.St
  s : Int
structure St where
  r : Ru
  now : Int
  steps : Int
  st : Stn.St
  ss : Int
  cr : List Cr
  cut : List Bool
  ev : List (Int × Int × Int)
def l0 : Lnk.St := ⟨0, 0, [], 0, 0, 0⟩
def p0 : Plt.St := ⟨0, 0, 0, 0, 0, 0, 0, 0, false, 0, 0, 0, false, false, false, false, 0, 0, 0, 0, 0, 0, 0, 0⟩
def c0 : Cr := ⟨p0, l0, l0, 0⟩
def lru (r : Lnk.Ru) (i : Nat) : Lnk.Ru := { r with seed := r.seed + ((i : Int) + 1) }
def dec (m : List Int) : Option Fr := if Frm.dE m = 0 then some ⟨m.getD 2 0, m.getD 3 0, m.getD 4 0, Frm.dS m, Frm.dd m⟩ else none
def rcv (l : List Lnk.Msg) : List Fr := l.filterMap (fun m => dec m.2)
def idx (f : Fr) : Nat := (max f.f f.t).toNat
def put (s : St) (i : Nat) (c : Cr) : St := { s with cr := s.cr.set i c }
def at_ (s : St) (i : Nat) : Cr := s.cr.getD i c0
def snd1 (s : St) (i : Nat) (f : Fr) : St :=
  if f.f = 0 then put s i { at_ s i with dn := sfS (lru s.r.dn i) (at_ s i).dn s.now f.k f.f f.t f.s f.d } else put s i { at_ s i with up := sfS (lru s.r.up i) (at_ s i).up s.now f.k f.f f.t f.s f.d }
def snd (s : St) (f : Fr) : St := if s.cut.getD (idx f) false then s else snd1 s (idx f - 1) f
def sndL (s : St) (l : List Fr) : St := l.foldl snd s
def look (s : St) : St := if s.st.st = s.ss then s else { s with ss := s.st.st, ev := s.ev ++ [(s.now, 0, s.st.st)] }
def doE (s : St) (k x : Int) : Int := if 1 ≤ k ∧ k ≤ 6 then Stn.giveE s.st k s.now x else 2
def doS (s : St) (k x : Int) : St := if doE s k x = 0 then look (sndL { s with st := Stn.give s.st k s.now x } (Stn.giveF s.st k s.now x)) else s
def lcl (s : St) (i : Nat) : Int := lV (s.r.offs.getD i 0) (s.r.rates.getD i 0) s.now
def hear1 (s : St) (f : Fr) : St := sndL { s with st := Stn.recv s.st s.now f } (Stn.recvF s.st s.now f)
def hear (s : St) (i : Nat) : St := (rcv (Lnk.got (at_ s i).up s.now)).foldl hear1 (put s i { at_ s i with up := Lnk.recv (at_ s i).up s.now })
def fly1 (i : Nat) (s : St) (f : Fr) : St := sndL (put s i { at_ s i with p := Plt.rcvS (at_ s i).p (lcl s i) f }) (Plt.rcvF (at_ s i).p (lcl s i) f)
def flyT (i : Nat) (s : St) : St := sndL (put s i { at_ s i with p := Plt.tickS (at_ s i).p (lcl s i) }) (Plt.tickF (at_ s i).p (lcl s i))
def note (i : Nat) (s : St) : St := if (at_ s i).p.st = (at_ s i).s then s else { put s i { at_ s i with s := (at_ s i).p.st } with ev := s.ev ++ [(s.now, (i : Int) + 1, (at_ s i).p.st)] }
def fly (s : St) (i : Nat) : St := note i (flyT i ((rcv (Lnk.got (at_ s i).dn s.now)).foldl (fly1 i) (put s i { at_ s i with dn := Lnk.recv (at_ s i).dn s.now })))
def stepE (s : St) : Int := if 3600000 < s.now + s.r.step then 3 else if s.steps = 100000 then 7 else 0
def step0 (s : St) : St := sndL { s with steps := s.steps + 1, now := s.now + s.r.step, st := Stn.tick s.st (s.now + s.r.step) } (Stn.tickF s.st (s.now + s.r.step))
def hears (s : St) : Nat → St
  | 0 => s
  | k + 1 => hear (hears s k) k
def flies (s : St) : Nat → St
  | 0 => s
  | k + 1 => fly (flies s k) k
def step (s : St) : St := if stepE s = 0 then flies (look (hears (step0 s) s.cr.length)) s.cr.length else s
def runE0 (s : St) (u : Int) : Int := if s.now ≤ u ∧ u ≤ 3600000 then 0 else 3
def runK : Nat → St → Int → St × Int
  | 0, s, _ => (s, 0)
  | k + 1, s, u => if s.now + s.r.step ≤ u then (if stepE s = 0 then runK k (step s) u else (s, stepE s)) else (s, 0)
def run (s : St) (u : Int) : St × Int := if runE0 s u = 0 then runK 3600001 s u else (s, 3)
def cutS (s : St) (a : Nat) (b : Bool) : St := { s with cut := s.cut.set a b }
end Nt
end Go.Proofs.YtdocdgcdldpagaaGreat
namespace Go.Proofs.YtdocdgcdldpagaaGreat
open Go.RowKit
def Ty (w : World) (i : Nat) (e : TypeId) : Prop := ∃ cs, w.heap[i]? = some (.cells cs e (0, 0))
theorem Ty.ne {w : World} {i j : Nat} {e f : TypeId} (h : Ty w i e) (g : Ty w j f) (hne : e ≠ f) : i ≠ j := by
  rintro rfl
  obtain ⟨a, ha⟩ := h
  obtain ⟨c, hc⟩ := g
  rw [ha] at hc
  injection hc with hc
  injection hc with _ hc
  exact hne hc
theorem Keeps.set1 {w w' : World} {b : Nat} (h : Keeps (fun i => i = b) w w') (o : Nat) (u : Value) : Keeps (fun i => i = b) w (w'.setCell ⟨b, o, none⟩ u) := h.setCell (.inl rfl) u
end Go.Proofs.YtdocdgcdldpagaaGreat

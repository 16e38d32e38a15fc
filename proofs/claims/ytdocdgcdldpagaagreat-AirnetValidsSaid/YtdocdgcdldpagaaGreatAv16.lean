import Derived.Test.YtdocdgcdldpagaaGreatAp
import Derived.Test.YtdocdgcdldpagaaGreatAv15
import Derived.Test.YtdocdgcdldpagaaGreatAv14
namespace Go.Proofs.YtdocdgcdldpagaaGreat
open Go.RowKit
set_option maxHeartbeats 8000000
set_option maxRecDepth 100000
set_option linter.unusedSimpArgs false
set_option linter.unusedVariables false
attribute [local go_sem ↓] Go.wp_at_zero Go.wp_at_succ
section
variable {w : World} {base b mc rc : Nat} {MA RA : Option Addr} {s : Stn.St}
theorem miss_bd (s : Stn.St) (hs : Stn.Inv s) : (Stn.miss s).length ≤ 64 ∧ ∀ x ∈ Stn.miss s, 1 ≤ x ∧ x ≤ 64 := by
  have hl := hs.ack
  have hn := hs.n
  unfold Stn.miss
  split
  · simp
  · have key : ∀ (l : List Bool) (lo : Nat), (Stn.missFrom lo l).length ≤ l.length := by
      intro l
      induction l with
      | nil => intro lo; simp [Stn.missFrom]
      | cons a l ih =>
        intro lo
        unfold Stn.missFrom
        split
        · have := ih (lo + 1); simp; omega
        · have := ih (lo + 1); simp; omega
    refine ⟨by have := key s.ack 1; omega, fun x hx => ?_⟩
    have := Stn.missFrom_ge _ _ _ hx
    omega
theorem frames_any (h : IsSt w base b MA mc RA rc s) (hs : Stn.Inv s) (hc : s.cmd ≠ 0) :
    Calls Tryz.prog 100 #[.pointer (some ⟨b, 0, none⟩)] w fun e w' => ∃ v, e = .returned v ∧ Rof w' w.heap.size v (Stn.frames s) ∧ Below w.heap.size w w' := by
  obtain ⟨i0, hi0, hz0, hz1, hz2⟩ := info_parts info_fr
  obtain ⟨T, cv, fk, fm, fs, fd, hcur, C⟩ := cmd_of s hs hc
  have c4 : w.cell? ⟨b, 4, none⟩ = some (.int .i64 s.seq) := blk_cell h.blk 4 rfl
  have c7 : w.cell? ⟨b, 7, none⟩ = some (.int .i64 s.prog) := blk_cell h.blk 7 rfl
  have c8 : w.cell? ⟨b, 8, none⟩ = some (.iface T cv) := by rw [← hcur]; exact blk_cell h.blk 8 rfl
  have c9 : w.cell? ⟨b, 9, none⟩ = some (.slice MA (Stn.miss s).length mc) := blk_cell h.blk 9 rfl
  obtain ⟨hml, hmx⟩ := miss_bd s hs
  have hblt := lt_of_block h.blk
  have M := Lib.hid h.mrow
  have HML := Lib.hid hmx
  have hp := hs.prog
  have CK := Lib.hid C.ck
  have hat9 := hs.at_
  have CD := Lib.hid (fun W => C.cd W s.prog hp (fun _ => by omega))
  clear hat9
  have m1 := C.ak.m
  have m2 := C.ad.m
  have n1 := C.ak.n
  have n2 := C.ad.n
  have q1 := C.ak.c
  have q2 := C.ad.c
  have FE := Lib.hid (show ∀ i, i < (Stn.miss s).length → (Stn.frames s).take (i + 1) = (Stn.frames s).take i ++ [⟨s.cmd, 0, (((Stn.miss s).getD i 0 : Nat) : Int), s.seq, cdat s.cmd s.at_ s.prog⟩] from fun i hi => by
    have hl : i < (Stn.frames s).length := by simpa [Stn.frames] using hi
    rw [List.take_succ_eq_append_getElem hl]
    simp [Stn.frames, data_is, List.getD, List.getElem?_eq_getElem hi])
  have FL := Lib.hid (show (Stn.frames s).length = (Stn.miss s).length by simp [Stn.frames])
  obtain ⟨n, hn⟩ : ∃ n, n = (Stn.miss s).length := ⟨_, rfl⟩
  obtain ⟨dl, hdl⟩ : ∃ dl, dl = cdat s.cmd s.at_ s.prog := ⟨_, rfl⟩
  rw [← hdl] at CD FE
  rw [← hn] at c9 hml FE FL M
  have HMN := Lib.hid hn
  clear hcur C hs h hmx hn hdl hc
  go_enter Tryz.func100, Tryz.ntmps100
  go_wp2_with fail
  go_loopw [3, 11] (fun s3 s11 wr => ∃ i : Nat, s11 = .int .i64 i ∧ i ≤ n ∧ Rof wr w.heap.size s3 ((Stn.frames s).take i) ∧ Below w.heap.size w wr) (fun _ s11 _ => n - (intOf s11).toNat)
  case atStart => exact ⟨0, by go_num, by omega, by simpa using Rof.nil w w.heap.size, A9⟩
  case round =>
    obtain ⟨i, rfl, hi, hR, hB⟩ := hrel
    have hzr := hB.size
    by_cases hlt : i < n
    · obtain ⟨g, o, cur, rfl, _, hg, _, _, _, _, _, hcell, _⟩ := M.out.some_ Cb
      obtain ⟨x, hx⟩ : ∃ x, x = (Stn.miss s).getD i 0 := ⟨_, rfl⟩
      have k0 : w.cell? ⟨g, o + i, none⟩ = some (.int .i64 x) := hcell i _ (by
        rw [List.getElem?_map, List.getElem?_eq_getElem (by rw [← HMN.out]; exact hlt), hx]
        simp [List.getD, List.getElem?_eq_getElem (show i < (Stn.miss s).length by rw [← HMN.out]; exact hlt)])
      have d0 := ((bcell hB).1 g (o + i) hg).trans k0
      have d4 := ((bcell hB).1 b 4 hblt).trans c4
      have d7 := ((bcell hB).1 b 7 hblt).trans c7
      have d8 := ((bcell hB).1 b 8 hblt).trans c8
      have FI := Lib.hid (FE.out i hlt)
      rw [← hx] at FI
      have hbr : b < wr.heap.size := by omega
      obtain ⟨vs, hv1, hv2, hv3⟩ := hR
      have hlen : ((Stn.frames s).take i).length = i := by rw [List.length_take, FL.out]; omega
      have HV1 := Lib.hid hv1
      rw [hlen] at hv2
      have HLEN := Lib.hid hlen
      obtain ⟨A3, cap3, rfl⟩ := own_formS hv2
      have HV3 := Lib.hid hv3
      have HV2 := Lib.hid hv2
      clear c4 c7 c8 c9 k0 hx hcell hv1 hv3 hlen hv2
      go_upto_region 5 with fail
      go_region_held3 (fun w' => w'.cell? ⟨b, 8, none⟩ = some (.iface T cv) ∧ w'.cell? ⟨b, 4, none⟩ = some (.int .i64 s.seq) ∧ w'.cell? ⟨b, 7, none⟩ = some (.int .i64 s.prog)) (first | (refine ⟨?_, ?_, ?_⟩ <;> simp [go_sem, *]; done) | go_keep) (first | (refine (CK.out _).mono ?_; rintro e w4 ⟨rfl, hb4⟩; have hz4 := hb4.size; (try simp at hz4); have e8 : w4.cell? ⟨b, 8, none⟩ = some (.iface T cv) := ((bcell hb4).1 b _ Ba).trans Bz; have e4 : w4.cell? ⟨b, 4, none⟩ = some (.int .i64 s.seq) := ((bcell hb4).1 b _ Ba).trans Bz; have e7 : w4.cell? ⟨b, 7, none⟩ = some (.int .i64 s.prog) := ((bcell hb4).1 b _ Ba).trans Bz) | (refine (CD.out _).mono ?_; rintro e w5 ⟨A5, cap5, rfl, hO5, hb5⟩; have hz5 := hb5.size; (try simp at hz5); have HB5 := Lib.hid (show Below wr.heap.size wr w5 from A9); have HO5 := Lib.hid hO5; have hz54 : wr.heap.size ≤ w5.heap.size := Cb; have e8 : w5.cell? ⟨b, 8, none⟩ = some (.iface T cv) := ((bcell hb5).1 b _ Ba).trans Bz; have e4 : w5.cell? ⟨b, 4, none⟩ = some (.int .i64 s.seq) := ((bcell hb5).1 b _ Ba).trans Bz; have e7 : w5.cell? ⟨b, 7, none⟩ = some (.int .i64 s.prog) := ((bcell hb5).1 b _ Ba).trans Bz; clear hb5 hO5) | (refine step_append_any _ rfl (.tmp 15) (.tmp 38) _ rfl w.heap.size 147 i0 _ 5 56 Tryz.underlying113 hi0 hz0 hz1 hz2 rfl Cb (.slice A3 i cap3) i _ rfl ((own_below HV2.out HB5.out).alloc _) (w5.heap.size + 1) (some ⟨w5.heap.size, 0, none⟩) 1 1 (FV.cells ⟨⟨s.cmd, 0, x, s.seq, dl⟩, A5, cap5⟩) rfl (Reads.newN w5 #[.int .i64 s.cmd, .int .i64 0, .int .i64 x, .int .i64 s.seq, .slice A5 dl.length cap5] 147 1 5 rfl) (FV.one _) Bn Cb C6 ?_; intro v1 w7 hown1 hg1 hat1; have HO7 := Lib.hid hown1; have HG7 := Lib.hid hg1; have hz7 := hg1.size; (try simp at hz7); have e8 : w7.cell? ⟨b, 8, none⟩ = some (.iface T cv) := (World.cell?_of_block (hg1.block b C6 (fun e => by have := (HV2.out.lt _ e.symm).1; omega))).trans Bz; have e4 : w7.cell? ⟨b, 4, none⟩ = some (.int .i64 s.seq) := (World.cell?_of_block (hg1.block b C6 (fun e => by have := (HV2.out.lt _ e.symm).1; omega))).trans Bz; have e7 : w7.cell? ⟨b, 7, none⟩ = some (.int .i64 s.prog) := (World.cell?_of_block (hg1.block b C6 (fun e => by have := (HV2.out.lt _ e.symm).1; omega))).trans Bz; clear hown1 hg1 hat1))
      have HR7 := Lib.hid (Rof.append (w' := w7) (v' := v1) (vs := vs) (y := ⟨⟨s.cmd, 0, x, s.seq, dl⟩, A5, cap5⟩) HV1.out (by rw [HLEN.out]; exact (own_below HV2.out HB5.out).alloc _) (fun y hy => ((HV3.out y hy).below (B := wr.heap.size) HB5.out (Nat.le_refl _)).alloc _) ((HO5.out.more Cb).alloc _) HG7.out (by rw [HLEN.out]; exact HO7.out))
      have hB7 : Below w.heap.size w w7 := (((hB.trans (HB5.out.mono hzr)).alloc Cb _).grown HG7.out C6 (fun g hg => (HV2.out.lt g hg).1))
      have HB7 := Lib.hid hB7
      clear e8 e4 e7 hB7 hB
      go_wp2_with fail
      go_roundw
      case rel => exact ⟨i + 1, by go_num, by omega, by rw [FI.out]; exact HR7.out, HB7.out⟩
      case measure => simp [intOf]; omega
    · obtain rfl : i = n := by omega
      have E := Lib.hid (show (Stn.frames s).take i = Stn.frames s by rw [List.take_of_length_le (by rw [FL.out]; omega)])
      rw [E.out] at hR
      go_wp2_with fail
      go_ret
      exact ⟨_, rfl, hR, hB⟩
end
end Go.Proofs.YtdocdgcdldpagaaGreat
namespace Go.Proofs.YtdocdgcdldpagaaGreat
open Go.RowKit
set_option maxHeartbeats 8000000
set_option maxRecDepth 100000
set_option linter.unusedSimpArgs false
set_option linter.unusedVariables false
attribute [local go_sem ↓] Go.wp_at_zero Go.wp_at_succ
theorem Row.ty {w : World} {base size n c : Nat} {e : TypeId} {A : Option Addr} {xs : List Value} (h : Row w base e size A n c xs) {g : Nat} (hg : blkOf A = some g) : Ty w g e := by
  rcases h.2 with ⟨rfl, _⟩ | ⟨g', o, cur, rfl, _, hh, _⟩
  · cases hg
  · simp only [blkOf, Option.some.injEq] at hg
    subst hg
    exact ⟨_, hh⟩
def Three (b : Nat) (MA RA : Option Addr) (i : Nat) : Prop := i = b ∨ blkOf MA = some i ∨ blkOf RA = some i
section
variable {w w' : World} {base b mc rc : Nat} {MA RA : Option Addr} {s : Stn.St}
theorem IsSt.lt (h : IsSt w base b MA mc RA rc s) : b < w.heap.size := lt_of_block h.blk
theorem IsSt.three (h : IsSt w base b MA mc RA rc s) {i : Nat} (hi : Three b MA RA i) : Ty w i 162 ∨ Ty w i 3 ∨ Ty w i 165 := by
  rcases hi with rfl | hi | hi
  · exact .inl ⟨_, h.blk⟩
  · exact .inr (.inl (h.mrow.ty hi))
  · exact .inr (.inr (h.rrow.ty hi))
theorem IsSt.away (h : IsSt w base b MA mc RA rc s) {i : Nat} {e : TypeId} (g : Ty w i e) (h1 : e ≠ 162) (h2 : e ≠ 3) (h3 : e ≠ 165) : ¬ Three b MA RA i := fun hi => by
  rcases h.three hi with k | k | k
  · exact g.ne k h1 rfl
  · exact g.ne k h2 rfl
  · exact g.ne k h3 rfl
theorem IsSt.three_lt (h : IsSt w base b MA mc RA rc s) {i : Nat} (hi : Three b MA RA i) : base ≤ i ∧ i < w.heap.size := by
  rcases hi with rfl | hi | hi
  · exact ⟨h.ge, h.lt⟩
  · exact h.mrow.lt hi
  · exact h.rrow.lt hi
theorem IsSt.mne (h : IsSt w base b MA mc RA rc s) {g : Nat} (hg : blkOf MA = some g) : g ≠ b := (h.mrow.ty hg).ne ⟨_, h.blk⟩ C8
theorem IsSt.rne (h : IsSt w base b MA mc RA rc s) {g : Nat} (hg : blkOf RA = some g) : g ≠ b := (h.rrow.ty hg).ne ⟨_, h.blk⟩ C8
theorem IsSt.kept {S : Nat → Prop} (h : IsSt w base b MA mc RA rc s) (k : Keeps S w w') (hS : ∀ i, Three b MA RA i → ¬ S i) : IsSt w' base b MA mc RA rc s :=
  ⟨blk_keep h.blk k (hS b (.inl rfl)), h.mrow.kept k (fun g hg => hS g (.inr (.inl hg))), h.rrow.kept k (fun g hg => hS g (.inr (.inr hg))), h.ge⟩
theorem IsSt.below {B : Nat} (h : IsSt w base b MA mc RA rc s) (k : Below B w w') (hB : w.heap.size ≤ B) : IsSt w' base b MA mc RA rc s :=
  h.kept (S := fun _ => False) ⟨k.os, k.tape, k.output, k.size, fun i hi _ => k.block i Cb⟩ (fun _ _ h => h)
theorem IsSt.alloc (h : IsSt w base b MA mc RA rc s) (o : Obj) : IsSt (w.alloc o) base b MA mc RA rc s := ⟨blk_alloc h.blk o, h.mrow.alloc o, h.rrow.alloc o, h.ge⟩
theorem IsSt.drewN (h : IsSt w base b MA mc RA rc s) (q : Nat) : IsSt (w.drewN q) base b MA mc RA rc s := ⟨h.blk, h.mrow, h.rrow, h.ge⟩
theorem IsSt.drew (h : IsSt w base b MA mc RA rc s) : IsSt w.drew base b MA mc RA rc s := ⟨h.blk, h.mrow, h.rrow, h.ge⟩
end
theorem Rof.far' {w : World} {base b : Nat} {v : Value} {l : List Fr} {cs : Array Value} {t : TypeId} (h : Rof w base v l) (hb : w.heap[b]? = some (.cells cs t (0, 0))) (h1 : t ≠ 147) (h2 : t ≠ 5) (o : Nat) (u : Value) : Rof (w.setCell ⟨b, o, none⟩ u) base v l := by
  obtain ⟨vs, g1, g2, g3⟩ := h
  have hk : w.grownBy (w.setCell ⟨b, o, none⟩ u) (some b) := ⟨rfl, rfl, rfl, by simp [World.setCell], fun i hi hne => Below.heap_setCell w ⟨b, o, none⟩ u i (fun e => hne (by rw [e]))⟩
  refine ⟨vs, g1, g2.kept hk ?_, fun y hy => (g3 y hy).grown hk (fun g hg e => ?_)⟩
  · rcases g2.2 with ⟨rfl, _⟩ | ⟨g, c, cur, rfl, _, hh, _⟩
    · left; rfl
    · right
      intro e
      simp only [Value.ownBlock, Option.some.injEq] at e
      exact (Ty.ne ⟨_, hb⟩ ⟨_, hh⟩ h1) e.symm
  · have ho := g3 y hy
    rw [hg] at ho
    obtain ⟨cur, hc, _⟩ := ho.block
    injection e with e
    exact (Ty.ne ⟨_, hb⟩ ⟨_, hc⟩ h2) e.symm
def StPost (base b : Nat) (MA RA : Option Addr) (rc : Nat) (s' : Stn.St) (fr : List Fr) (err : Int) (w : World) (e : Ending) (w' : World) : Prop :=
  ∃ v MA' mc', e = .returned (.tuple #[v, .int .i64 err]) ∧ IsSt w' base b MA' mc' RA rc s' ∧ Keeps (Three b MA RA) w w' ∧ Rof w' w.heap.size v fr ∧ (blkOf MA' = blkOf MA ∨ ∃ g, blkOf MA' = some g ∧ w.heap.size ≤ g)
def gvE (s : Stn.St) (k now x p : Int) : Int :=
  if ¬ (0 ≤ p ∧ p ≤ 4294967295) then 2 else if Stn.timeE s now ≠ 0 then 3 else if k = 3 ∧ ¬ (now ≤ x ∧ x ≤ 3600000) then 3 else if Stn.may k s.st = false then 8 else 0
section
variable {w w' : World} {base b mc rc : Nat} {MA RA : Option Addr} {s : Stn.St} {T : TypeId} {cv : Value} {k x : Int} {fk fm fs fd : FuncId}
theorem timeE_cases (s : Stn.St) (now : Int) : Stn.timeE s now = 0 ∨ Stn.timeE s now = 3 := by unfold Stn.timeE; split <;> simp
theorem D2 {p : Prop} (h : p := by
  go_enter Tryz.func107, Tryz.ntmps107; go_wp2_with fail; refine N.out.mono ?_; rintro e w' ⟨rfl, rfl⟩; go_wp2_with fail
  refine CH.out.mono ?_; rintro e w' ⟨rfl, rfl⟩; go_wp2_with fail
  go_region_held3 (fun w' => w'.cell? ⟨b, 2, none⟩ = some (.int .i64 s.st)) (first | (simp [go_sem, *]; done) | go_keep) (first | (refine (CM.out _).mono ?_; rintro e w4 ⟨rfl, hb4⟩; have hz4 := hb4.size; (try simp at hz4); have e2 : w4.cell? ⟨b, 2, none⟩ = some (.int .i64 s.st) := ((bcell hb4).1 b _ Ba).trans Bz))
  go_wp2_with fail
  go_ret2
  rw [E.out]
  exact ⟨rfl, A9⟩
 ) : p := h
theorem D3 {p : Prop} (h : p := by
  go_enter Tryz.func107, Tryz.ntmps107; go_wp2_with fail; refine N.out.mono ?_; rintro e w' ⟨rfl, rfl⟩; go_wp2_with fail
  refine CH.out.mono ?_; rintro e w' ⟨rfl, rfl⟩; go_wp2_with fail
  go_ret2
  rw [E.out]
  exact ⟨rfl, A9⟩
 ) : p := h
theorem give_no (h : IsSt w base b MA mc RA rc s) (hs : Stn.Inv s) (C : Cmd T cv k x fk fm fs fd) (now p : Int) (he : gvE s k now x p ≠ 0) :
    Calls Tryz.prog 107 #[.pointer (some ⟨b, 0, none⟩), .int .i64 now, .iface T cv, .int .i64 p] w fun e w' => e = .returned (.tuple #[.slice none 0 0, .int .i64 (gvE s k now x p)]) ∧ Below w.heap.size w w' := by
  have N := Lib.hid (h.none hs)
  have CH := Lib.hid (stcheck_any h now)
  have c2 : w.cell? ⟨b, 2, none⟩ = some (.int .i64 s.st) := blk_cell h.blk 2 rfl
  have hst := hs.st
  have hb := h.lt
  have CM := Lib.hid (fun W => C.cm W s.st hst.1)
  have m1 := C.am.m
  have n1 := C.am.n
  have q1 := C.am.c
  have ta := C.ta
  have HE := Lib.hid he
  clear h hs C he
  by_cases hp : 0 ≤ p ∧ p ≤ 4294967295
  · by_cases ht : Stn.timeE s now = 0
    · rw [ht] at CH
      by_cases h3 : k = 3
      · subst h3
        simp only [if_true, decide_true] at ta
        by_cases hx : now ≤ x ∧ x ≤ 3600000
        · cases hm : Stn.may 3 s.st
          · have E := Lib.hid (show gvE s 3 now x p = 8 by unfold gvE; rw [if_neg (by simp [hp]), if_neg (by simp [ht]), if_neg (by simp [hx]), if_pos hm])
            rw [hm] at CM
            clear hm ht
            exact D2
          · exact absurd (by unfold gvE; rw [if_neg (by simp [hp]), if_neg (by simp [ht]), if_neg (by simp [hx]), if_neg (by simp [hm])]) HE.out
        · have E := Lib.hid (show gvE s 3 now x p = 3 by unfold gvE; rw [if_neg (by simp [hp]), if_neg (by simp [ht]), if_pos (by simp only [true_and]; exact hx)])
          by_cases hxn : x < now
          all_goals
            (try (have hxm : 3600000 < x := by omega))
            (try clear hx)
            (try clear ht)
            exact D3
      · simp only [if_neg h3, decide_eq_false h3] at ta
        cases hm : Stn.may k s.st
        · have E := Lib.hid (show gvE s k now x p = 8 by unfold gvE; rw [if_neg (by simp [hp]), if_neg (by simp [ht]), if_neg (by simp [h3]), if_pos hm])
          rw [hm] at CM
          clear hm ht h3
          exact D2
        · exact absurd (by unfold gvE; rw [if_neg (by simp [hp]), if_neg (by simp [ht]), if_neg (by simp [h3]), if_neg (by simp [hm])]) HE.out
    · have ht3 : Stn.timeE s now = 3 := (timeE_cases s now).resolve_left ht
      have E := Lib.hid (show gvE s k now x p = 3 by unfold gvE; rw [if_neg (by simp [hp]), if_pos ht])
      rw [ht3] at CH
      clear ht ht3
      exact D3
  · have E := Lib.hid (show gvE s k now x p = 2 by unfold gvE; rw [if_pos hp])
    have hp' : p < 0 ∨ 4294967295 < p := by omega
    clear hp
    rcases hp' with hp' | hp'
    all_goals
      go_enter Tryz.func107, Tryz.ntmps107; go_wp2_with fail; refine N.out.mono ?_; rintro e w' ⟨rfl, rfl⟩; go_wp2_with fail
      go_ret2
      rw [E.out]
      exact ⟨rfl, A9⟩
end
end Go.Proofs.YtdocdgcdldpagaaGreat
namespace Go.Proofs.YtdocdgcdldpagaaGreat
open Go.RowKit
set_option maxHeartbeats 8000000
set_option maxRecDepth 100000
set_option linter.unusedSimpArgs false
set_option linter.unusedVariables false
attribute [local go_sem ↓] Go.wp_at_zero Go.wp_at_succ
section
variable {w w' : World} {base b mc rc : Nat} {MA RA : Option Addr} {s : Stn.St} {T : TypeId} {cv : Value} {k x : Int} {fk fm fs fd : FuncId}
theorem info_in : (Tryz.prog.info? 3).map (fun i => (i.zero, i.size, i.bytes)) = some (some (.int .i64 0), 1, 8) := by kernel_rfl
theorem and_16 (u : Int) (hu : 0 ≤ u ∧ u < 4611686018427387904) : bits .and .i64 u 65535 = u % 65536 := by
  obtain ⟨a, rfl⟩ : ∃ a : Nat, u = a := ⟨u.toNat, by omega⟩
  show IntKind.i64.wrap ((BitVec.ofInt 64 (a : Int) &&& BitVec.ofInt 64 ((65535 : Nat) : Int)).toNat : Int) = _
  rw [BitVec.toNat_and, ofInt_nat 64 a Cb, ofInt_nat 64 65535 Cb, show (65535 : Nat) = 2 ^ 16 - 1 by rfl, Nat.and_two_pow_sub_one_eq_mod, IntKind.wrap_i64]
  omega
theorem gvE_ok {s : Stn.St} {k now x p : Int} (h : gvE s k now x p = 0) : (0 ≤ p ∧ p ≤ 4294967295) ∧ Stn.timeE s now = 0 ∧ (k = 3 → now ≤ x ∧ x ≤ 3600000) ∧ Stn.may k s.st = true := by
  unfold gvE at h
  by_cases a : ¬ (0 ≤ p ∧ p ≤ 4294967295)
  · rw [if_pos a] at h; omega
  rw [if_neg a] at h
  by_cases c : Stn.timeE s now ≠ 0
  · rw [if_pos c] at h; omega
  rw [if_neg c] at h
  by_cases d : k = 3 ∧ ¬ (now ≤ x ∧ x ≤ 3600000)
  · rw [if_pos d] at h; omega
  rw [if_neg d] at h
  by_cases e : Stn.may k s.st = false
  · rw [if_pos e] at h; omega
  refine ⟨by omega, by omega, fun hk => by omega, by simpa using e⟩
def give1 (s : Stn.St) (k now x : Int) : Stn.St := { Stn.give0 s k now x with some := s.some }
theorem inv_give1 {s : Stn.St} {k now x : Int} (h : Stn.Inv s) (hk : 1 ≤ k ∧ k ≤ 6) (ht : Stn.timeE s now = 0) (hx : k = 3 → now ≤ x ∧ x ≤ 3600000) (hp : k = 1 → 0 ≤ x ∧ x ≤ 4294967295) : Stn.Inv (give1 s k now x) := by
  have ht := Stn.timeE_ok ht
  have hb := Stn.given_bd k
  obtain ⟨h1, h2, h3, h4, h5, h6, h7, h8, h9, h10, h11, h12⟩ := h
  refine ⟨h1, h2, ?_, ?_, ?_, ?_, ?_, ?_, ?_, by simp [give1, Stn.give0], h11, h12⟩
  · simp only [give1, Stn.give0]; omega
  · simp only [give1, Stn.give0]; omega
  · simp only [give1, Stn.give0]; omega
  · simp only [give1, Stn.give0]; split <;> omega
  · simp only [give1, Stn.give0]; omega
  · simp only [give1, Stn.give0]; split <;> omega
  · simp only [give1, Stn.give0]; omega
theorem miss_give1 (s : Stn.St) (k now x : Int) (hk : k ≠ 0) : Stn.miss (give1 s k now x) = (List.range s.n).map (1 + ·) := by
  unfold Stn.miss
  rw [if_neg (by simpa [give1, Stn.give0] using hk)]
  exact Stn.missFrom_all s.n 1
theorem D4 {p : Prop} (h : p := by
  (repeat (first | with_reducible exact Keeps.refl _ _ | (with_reducible refine Keeps.set1 ?_ _ _) | (with_reducible refine Keeps.drew ?_) | (with_reducible refine Keeps.drewN ?_ _) | (with_reducible refine Keeps.alloc ?_ _)))
 ) : p := h
theorem give_yes (h : IsSt w base b MA mc RA rc s) (hs : Stn.Inv s) (C : Cmd T cv k x fk fm fs fd) (hk : 1 ≤ k ∧ k ≤ 6) (now p : Int) (he : gvE s k now x p = 0) (hp1 : k = 1 → p = x) (hp2 : k ≠ 1 → p = s.prog) (hbase : base ≤ w.heap.size) :
    Calls Tryz.prog 107 #[.pointer (some ⟨b, 0, none⟩), .int .i64 now, .iface T cv, .int .i64 p] w (StPost base b MA RA rc (give1 s k now x) (Stn.frames (give1 s k now x)) 0 w) := by
  obtain ⟨hp, ht, hx, hm⟩ := gvE_ok he
  obtain ⟨i0, hi0, hz0, hz1, hz2⟩ := info_parts info_in
  have N := Lib.hid (h.none hs)
  have CH := Lib.hid (stcheck_any h now)
  rw [ht] at CH
  have hst := hs.st
  have hsq := hs.seq
  have hb := h.lt
  have hn := hs.n
  have CM := Lib.hid (fun W => C.cm W s.st hst.1)
  rw [hm] at CM
  have CS := Lib.hid C.cs
  have m1 := C.am.m
  have n1 := C.am.n
  have q1 := C.am.c
  have m2 := C.as_.m
  have n2 := C.as_.n
  have q2 := C.as_.c
  have ta := C.ta
  have CC := Lib.hid C
  have H := Lib.hid h
  have HS := Lib.hid hs
  have hB := h.blk
  unfold stl at hB
  have ca_0 := blk_cell hB 0 rfl; have fa_0 := blk_free hB 0; have ca_1 := blk_cell hB 1 rfl; have fa_1 := blk_free hB 1; have ca_2 := blk_cell hB 2 rfl; have fa_2 := blk_free hB 2; have ca_3 := blk_cell hB 3 rfl; have fa_3 := blk_free hB 3; have ca_4 := blk_cell hB 4 rfl; have fa_4 := blk_free hB 4; have ca_5 := blk_cell hB 5 rfl; have fa_5 := blk_free hB 5; have ca_6 := blk_cell hB 6 rfl; have fa_6 := blk_free hB 6; have ca_7 := blk_cell hB 7 rfl; have fa_7 := blk_free hB 7; have ca_8 := blk_cell hB 8 rfl; have fa_8 := blk_free hB 8; have ca_9 := blk_cell hB 9 rfl; have fa_9 := blk_free hB 9; have ca_10 := blk_cell hB 10 rfl; have fa_10 := blk_free hB 10; have la := lt_of_block hB
  have HX := Lib.hid hx
  have HT := Lib.hid ht
  have HP1 := Lib.hid hp1
  have HP2 := Lib.hid hp2
  clear h hs C he hm ht hp1 hp2 hx
  have W16 := and_16 (s.seq + 1) Cb
  have HKD := Lib.hid (show Stn.miss (give1 s k now x) = (List.range s.n).map (1 + ·) from miss_give1 s k now x Cb)
  have HCUR := Lib.hid (show curV (give1 s k now x) = .iface T cv from CC.out.cur _ rfl (fun h => by simp [give1, Stn.give0, h]))
  have HINV := Lib.hid (show Stn.Inv (give1 s k now x) from inv_give1 HS.out hk HT.out HX.out (fun h => by rw [← HP1.out h]; exact hp))
  have HPR := Lib.hid (show (give1 s k now x).prog = p by
    simp only [give1, Stn.give0]
    split
    · rename_i h; exact (HP1.out h).symm
    · rename_i h; exact (HP2.out h).symm)
  have hta2 : ∃ (y : Int) (t : Bool), (∀ W : World, (Instr.typeAssert (.iface T cv) 159 189 true).run Tryz.prog W = .ok (.tuple #[.agg #[.int .i64 y], .bool t]) W) ∧ ((t = true ∧ now ≤ y ∧ y ≤ 3600000) ∨ t = false) := by
    by_cases h3 : k = 3
    · exact ⟨x, true, fun W => by have := ta W; rw [if_pos h3, decide_eq_true h3] at this; exact this, .inl ⟨rfl, HX.out h3⟩⟩
    · exact ⟨0, false, fun W => by have := ta W; rw [if_neg h3, decide_eq_false h3] at this; exact this, .inr rfl⟩
  clear ta
  obtain ⟨y, t, ta, ht⟩ := hta2
  rcases ht with ⟨rfl, hx1, hx2⟩ | rfl
  all_goals
    go_enter Tryz.func107, Tryz.ntmps107; go_wp2_with fail; refine N.out.mono ?_; rintro e w' ⟨rfl, rfl⟩; go_wp2_with fail
    refine CH.out.mono ?_; rintro e w' ⟨rfl, rfl⟩; go_wp2_with fail
    go_region_held3 (fun w' => w'.cell? ⟨b, 2, none⟩ = some (.int .i64 s.st)) (first | (simp [go_sem, *]; done) | go_keep) (first | (refine (CM.out _).mono ?_; rintro e w4 ⟨rfl, hb4⟩; have hz4 := hb4.size; (try simp at hz4); have k4 := blk_below (q := b) Ae hb4 Ba; have hB4 : Below w.heap.size w w4 := A9; have e2 : w4.cell? ⟨b, 2, none⟩ = some (.int .i64 s.st) := blk_cell k4 2 rfl))
    have K4 := Lib.hid k4
    have cc_0 := blk_cell k4 0 rfl; have fc_0 := blk_free k4 0; have cc_1 := blk_cell k4 1 rfl; have fc_1 := blk_free k4 1; have cc_2 := blk_cell k4 2 rfl; have fc_2 := blk_free k4 2; have cc_3 := blk_cell k4 3 rfl; have fc_3 := blk_free k4 3; have cc_4 := blk_cell k4 4 rfl; have fc_4 := blk_free k4 4; have cc_5 := blk_cell k4 5 rfl; have fc_5 := blk_free k4 5; have cc_6 := blk_cell k4 6 rfl; have fc_6 := blk_free k4 6; have cc_7 := blk_cell k4 7 rfl; have fc_7 := blk_free k4 7; have cc_8 := blk_cell k4 8 rfl; have fc_8 := blk_free k4 8; have cc_9 := blk_cell k4 9 rfl; have fc_9 := blk_free k4 9; have cc_10 := blk_cell k4 10 rfl; have fc_10 := blk_free k4 10; have lc := lt_of_block k4
    clear ca_0 fa_0 ca_1 fa_1 ca_2 fa_2 ca_3 fa_3 ca_4 fa_4 ca_5 fa_5 ca_6 fa_6 ca_7 fa_7 ca_8 fa_8 ca_9 fa_9 ca_10 fa_10 hB e2
    go_wp2_with fail
    generalize hV : World.setCell _ _ _ = V
    have k5 : V.heap[b]? = some (.cells #[.int .i64 s.n, .int .i64 s.again, .int .i64 s.st, .int .i64 now, .int .i64 ((s.seq + 1) % 65536), .int .i64 now, .bool s.some, .int .i64 p, .iface T cv, .slice MA (Stn.miss s).length mc, .slice RA s.n rc] 162 (0, 0)) := by rw [← hV]; exact Aa
    have hK5 : Keeps (fun i => i = b) w V := by
      rw [← hV]
      refine (Keeps.of_below hB4).trans (S' := fun i => i = b) ?_ (fun _ _ h => h)
      exact D4
    clear cc_0 fc_0 cc_1 fc_1 cc_2 fc_2 cc_3 fc_3 cc_4 fc_4 cc_5 fc_5 cc_6 fc_6 cc_7 fc_7 cc_8 fc_8 cc_9 fc_9 cc_10 fc_10 hV K4 k4 hB4
    refine (CS.out _).mono ?_
    rintro e w5 ⟨rfl, hb5⟩
    have hz5 := hb5.size
    have k6 := blk_below (q := b) k5 hb5 (lt_of_block k5)
    have hK6 := hK5.trans (Keeps.of_below (S := fun i => i = b) hb5) (fun _ _ h => h)
    have hz6 := hK6.size
    have HK6 := Lib.hid hK6
    clear k5 hK5 hb5 hK6
    have cd_0 := blk_cell k6 0 rfl; have fd_0 := blk_free k6 0; have cd_1 := blk_cell k6 1 rfl; have fd_1 := blk_free k6 1; have cd_2 := blk_cell k6 2 rfl; have fd_2 := blk_free k6 2; have cd_3 := blk_cell k6 3 rfl; have fd_3 := blk_free k6 3; have cd_4 := blk_cell k6 4 rfl; have fd_4 := blk_free k6 4; have cd_5 := blk_cell k6 5 rfl; have fd_5 := blk_free k6 5; have cd_6 := blk_cell k6 6 rfl; have fd_6 := blk_free k6 6; have cd_7 := blk_cell k6 7 rfl; have fd_7 := blk_free k6 7; have cd_8 := blk_cell k6 8 rfl; have fd_8 := blk_free k6 8; have cd_9 := blk_cell k6 9 rfl; have fd_9 := blk_free k6 9; have cd_10 := blk_cell k6 10 rfl; have fd_10 := blk_free k6 10; have ld := lt_of_block k6
    go_wp2_with fail
    generalize hV : World.setCell _ _ _ = V6
    have k7 : V6.heap[b]? = some (.cells #[.int .i64 s.n, .int .i64 s.again, .int .i64 (Stn.given k), .int .i64 now, .int .i64 ((s.seq + 1) % 65536), .int .i64 now, .bool s.some, .int .i64 p, .iface T cv, .slice none 0 0, .slice RA s.n rc] 162 (0, 0)) := by rw [← hV]; exact Aa
    have hK7 : Keeps (fun i => i = b) w V6 := by
      rw [← hV]
      refine HK6.out.trans (S' := fun i => i = b) ?_ (fun _ _ h => h)
      exact D4
    have HK7 := Lib.hid hK7
    have K7 := Lib.hid k7
    clear cd_0 fd_0 cd_1 fd_1 cd_2 fd_2 cd_3 fd_3 cd_4 fd_4 cd_5 fd_5 cd_6 fd_6 cd_7 fd_7 cd_8 fd_8 cd_9 fd_9 cd_10 fd_10 hV k6 k7 hK7
    go_loopw [95] (fun s95 wr => ∃ (j : Nat) (A : Option Addr) (c : Nat), s95 = .int .i64 j ∧ j ≤ s.n ∧ Hid (wr.heap[b]? = some (.cells #[.int .i64 s.n, .int .i64 s.again, .int .i64 (Stn.given k), .int .i64 now, .int .i64 ((s.seq + 1) % 65536), .int .i64 now, .bool s.some, .int .i64 p, .iface T cv, .slice A j c, .slice RA s.n rc] 162 (0, 0))) ∧ Hid (wr.ownsRow w.heap.size 3 1 (.slice A j c) j (((List.range j).map (1 + ·)).map (fun (i : Nat) => .int .i64 i))) ∧ Hid (Keeps (fun i => i = b) w wr)) (fun s95 _ => s.n - (intOf s95).toNat)
    case atStart => exact ⟨0, none, 0, by go_num, by omega, K7, Lib.hid (World.ownsRow_nil _ _ _ _), HK7⟩
    case round =>
      obtain ⟨j, A, c, rfl, hj, HB, HO, HK⟩ := hrel
      have hzr := HK.out.size
      have hbr : b < wr.heap.size := by omega
      have hk := HB.out
      by_cases hlt : j < s.n
      · have ce_0 := blk_cell hk 0 rfl; have fe_0 := blk_free hk 0; have ce_1 := blk_cell hk 1 rfl; have fe_1 := blk_free hk 1; have ce_2 := blk_cell hk 2 rfl; have fe_2 := blk_free hk 2; have ce_3 := blk_cell hk 3 rfl; have fe_3 := blk_free hk 3; have ce_4 := blk_cell hk 4 rfl; have fe_4 := blk_free hk 4; have ce_5 := blk_cell hk 5 rfl; have fe_5 := blk_free hk 5; have ce_6 := blk_cell hk 6 rfl; have fe_6 := blk_free hk 6; have ce_7 := blk_cell hk 7 rfl; have fe_7 := blk_free hk 7; have ce_8 := blk_cell hk 8 rfl; have fe_8 := blk_free hk 8; have ce_9 := blk_cell hk 9 rfl; have fe_9 := blk_free hk 9; have ce_10 := blk_cell hk 10 rfl; have fe_10 := blk_free hk 10; have le := lt_of_block hk
        clear hk
        have hjn : (j : Int) < (s.n : Int) := by omega
        have HE := Lib.hid (show ((List.range (j + 1)).map (1 + ·)).map (fun (i : Nat) => Value.int .i64 (i : Int)) = ((List.range j).map (1 + ·)).map (fun (i : Nat) => Value.int .i64 (i : Int)) ++ [.int .i64 ((j : Int) + 1)] from by
          rw [List.range_succ, List.map_append, List.map_append]
          simp only [List.map_cons, List.map_nil]
          congr 3
          omega)
        go_wp2_with (at_builtin; refine wpList_append_any _ rfl (.tmp 102) (.tmp 105) _ rfl w.heap.size 3 i0 _ 1 8 Tryz.underlying26 hi0 hz0 hz1 hz2 rfl Cb _ j _ rfl (HO.out.alloc _) (wr.heap.size + 1) (some ⟨wr.heap.size, 0, none⟩) 1 1 [.int .i64 ((j : Int) + 1)] rfl (Reads.newN wr #[.int .i64 ((j : Int) + 1)] 3 1 1 rfl) Bt Bn Cb C6 ?_; intro v1 w7 hown1 hg1 hat1; (have hz7 := hg1.size); (try simp at hz7); obtain ⟨A', c', rfl⟩ := own_formS hown1; have k8 : w7.heap[b]? = _ := (hg1.block b C6 (fun e => by have := (HO.out.lt _ e.symm).1; omega)).trans (blk_alloc HB.out _); have e9 : w7.cell? ⟨b, 9, none⟩ = some (.slice A j c) := blk_cell k8 9 rfl; have f9 := blk_free k8 9; have K8 := Lib.hid k8; have HG := Lib.hid hg1; have HO1 := Lib.hid hown1; clear k8 hg1 hown1 hat1)
        have HN := Lib.hid (show Keeps (fun i => i = b) w (w7.setCell ⟨b, 9, none⟩ (.slice A' (j + 1) c')) from Keeps.set1 (((HK.out.alloc _).trans (Keeps.of_grown HG.out (S := fun i => w.heap.size ≤ i) (fun g hg => (HO.out.lt g hg).1)) (fun i hi hh => by omega))) 9 _)
        have KN := Lib.hid (blk_set K8.out 9 (.slice A' (j + 1) c'))
        have ON := Lib.hid (show (w7.setCell ⟨b, 9, none⟩ (.slice A' (j + 1) c')).ownsRow w.heap.size 3 1 (.slice A' (j + 1) c') (j + 1) (((List.range (j + 1)).map (1 + ·)).map (fun (i : Nat) => .int .i64 i)) from by
          rw [HE.out]
          exact own_far HO1.out (by show b < w.heap.size; exact hb) _)
        go_roundw
        case rel => exact ⟨j + 1, A', c', by go_num, by omega, by simpa using KN, ON, HN⟩
        case measure => simp [intOf]; omega
      · obtain rfl : j = s.n := by omega
        have hml : (Stn.miss (give1 s k now x)).length = s.n := by rw [HKD.out]; simp
        have hrow := Row.of_own HO.out
        have hSt : IsSt wr base b A c RA rc (give1 s k now x) := by
          refine ⟨?_, ?_, ?_, H.out.ge⟩
          · rw [show stl (give1 s k now x) A c RA rc = [.int .i64 s.n, .int .i64 s.again, .int .i64 (Stn.given k), .int .i64 now, .int .i64 ((s.seq + 1) % 65536), .int .i64 now, .bool s.some, .int .i64 p, .iface T cv, .slice A s.n c, .slice RA s.n rc] from by unfold stl; rw [HCUR.out, HPR.out, hml]; rfl]
            exact HB.out
          · rw [hml, HKD.out]; exact hrow.more hbase
          · exact H.out.rrow.kept HK.out (fun g hg => H.out.rne hg)
        have FR := Lib.hid (frames_any hSt HINV.out (show (give1 s k now x).cmd ≠ 0 from by show k ≠ 0; omega))
        have HST := Lib.hid hSt
        obtain ⟨g, o, cur, hA, hge, _⟩ := hrow.some_ Cb
        have hAe := Lib.hid (show blkOf A = some g by rw [hA]; rfl)
        clear hk hml hrow hSt hA
        go_wp2_with fail
        refine FR.out.mono ?_
        rintro e w9 ⟨v, rfl, hR, hB9⟩
        have HR := Lib.hid hR
        have HB9 := Lib.hid hB9
        clear hR hB9
        go_wp2_with fail
        go_ret2
        exact ⟨v, A, c, rfl, HST.out.below HB9.out (Nat.le_refl _), (HK.out.trans (Keeps.of_below (S := fun i => i = b) HB9.out) (fun _ _ h => h)).mono (fun i _ hi => .inl hi), HR.out.more hzr, .inr ⟨g, hAe.out, hge⟩⟩
end
end Go.Proofs.YtdocdgcdldpagaaGreat

import Derived.Test.YtdocdgcdldpagaaGreatAp
import Derived.Test.YtdocdgcdldpagaaGreatAv29
import Derived.Test.YtdocdgcdldpagaaGreatAv30
namespace Go.Proofs.YtdocdgcdldpagaaGreat
set_option linter.unusedVariables false
set_option linter.unusedSimpArgs false
set_option maxHeartbeats 4000000
namespace Nt
open Go.RowKit
theorem Inv.setSt {N : Nat} {s : St} (h : Inv N s) {t : Stn.St} (ht : Stn.Inv t) (hn : t.n = s.st.n) : Inv N { s with st := t } := { h with st := ht, sn := hn.trans h.sn }
theorem Inv.look {N : Nat} {s : St} (h : Inv N s) : Inv (N + 1) (look s) := by
  unfold Nt.look
  split
  · exact h.mono Cb
  · exact { h.mono (M := N + 1) Cb with ev := by have := h.ev; simp only [List.length_append, List.length_singleton]; omega }
theorem rcv_ok {l : List Lnk.Msg} (h : ∀ m ∈ l, Lnk.MOk m) : ∀ f ∈ rcv l, By f.d ∧ f.d.length ≤ 64 := by
  intro f hf
  unfold rcv at hf
  obtain ⟨m, hm, he⟩ := List.mem_filterMap.1 hf
  have hb := (h m hm).2.2.1
  unfold dec at he
  split at he
  · rename_i h0
    injection he with he
    subst he
    have hl := Frm.dE_len h0
    refine ⟨fun x hx => hb x (List.mem_of_mem_drop (List.mem_of_mem_take hx)), ?_⟩
    show (Frm.dd m.2).length ≤ 64
    rw [Frm.dd_len Cb]
    unfold Frm.dE at h0
    split at h0
    · omega
    · split at h0
      · omega
      · rename_i h1
        have h1 := Classical.not_not.1 h1
        unfold Frm.dm
        omega
  · cases he
theorem got_mok {l : Lnk.St} (h : Lnk.Inv l) (now : Int) : (∀ m ∈ Lnk.got l now, Lnk.MOk m) ∧ (Lnk.got l now).length ≤ 1000 := by
  unfold Lnk.got
  split
  · refine ⟨fun m hm => h.2.2.2.1 m (List.mem_filter.1 (Lnk.mem_srt.1 hm)).1, ?_⟩
    rw [Lnk.length_srt]
    exact Nat.le_trans (List.length_filter_le _ _) h.2.2.1
  · exact ⟨fun m hm => (by cases hm), by simp⟩
theorem rcv_le (l : List Lnk.Msg) : (rcv l).length ≤ l.length := List.length_filterMap_le _ _
theorem Inv.hear1 {N : Nat} {s : St} (h : Inv N s) {f : Fr} (hf : By f.d) (hN : N + 1 ≤ 1000000000000000) : Inv (N + 1) (hear1 s f) := by
  unfold Nt.hear1
  have ok := recvF_ok s.st h.st s.now h.now f
  have h1 := h.setSt (t := Stn.recv s.st s.now f) (Stn.inv_recv h.st hf) (recv_n _ _ _)
  have h2 := h1.sndL (l := Stn.recvF s.st s.now f) (fun g hg => by have := ok.1 g hg; rw [h.sn] at this; exact this) Cb
  exact h2.mono Cb
theorem hear1_same (s : St) (f : Fr) : (hear1 s f).cr.length = s.cr.length ∧ (hear1 s f).now = s.now ∧ (hear1 s f).steps = s.steps ∧ (hear1 s f).r = s.r := by
  unfold hear1
  have h1 := sndL_len (Stn.recvF s.st s.now f) { s with st := Stn.recv s.st s.now f }
  have h2 := sndL_same (Stn.recvF s.st s.now f) { s with st := Stn.recv s.st s.now f }
  exact ⟨h1, h2.1, h2.2.1, h2.2.2.1⟩
theorem hearL_same : ∀ (l : List Fr) (s : St), (l.foldl hear1 s).cr.length = s.cr.length ∧ (l.foldl hear1 s).now = s.now ∧ (l.foldl hear1 s).steps = s.steps ∧ (l.foldl hear1 s).r = s.r
  | [], s => ⟨rfl, rfl, rfl, rfl⟩
  | f :: l, s => by
    have h1 := hearL_same l (hear1 s f)
    have h2 := hear1_same s f
    rw [List.foldl_cons, h1.1, h1.2.1, h1.2.2.1, h1.2.2.2]
    exact h2
theorem Inv.hearL {N : Nat} : ∀ {l : List Fr} {s : St}, Inv N s → (∀ f ∈ l, By f.d) → N + l.length ≤ 1000000000000000 → Inv (N + l.length) (l.foldl Nt.hear1 s)
  | [], s, h, _, _ => h
  | f :: l, s, h, hf, hN => by
    simp only [List.length_cons] at hN ⊢
    have h1 := h.hear1 (hf f (List.mem_cons_self ..)) Cb
    have h2 := Inv.hearL (l := l) h1 (fun g hg => hf g (List.mem_cons_of_mem _ hg)) Cb
    rw [List.foldl_cons, show N + (l.length + 1) = N + 1 + l.length by omega]
    exact h2
theorem CInv.recvUp {N i : Nat} {now : Int} {c : Cr} (h : CInv N i c) : CInv N i { c with up := Lnk.recv c.up now } := { h with up := Lnk.inv_recv h.up, us := by have := h.us; simp only [sent_recv]; exact this }
theorem CInv.recvDn {N i : Nat} {now : Int} {c : Cr} (h : CInv N i c) : CInv N i { c with dn := Lnk.recv c.dn now } := { h with dn := Lnk.inv_recv h.dn, ds := by have := h.ds; simp only [sent_recv]; exact this }
theorem Inv.hear {N : Nat} {s : St} (h : Inv N s) {i : Nat} (hi : i < s.cr.length) (hN : N + 1000 ≤ 1000000000000000) : Inv (N + 1000) (hear s i) := by
  unfold Nt.hear
  have hc := h.cr i hi
  have hg := got_mok hc.up s.now
  have hl := rcv_le (Lnk.got (at_ s i).up s.now)
  have h1 := (h.put hi (hc.recvUp (now := s.now))).hearL (l := rcv (Lnk.got (at_ s i).up s.now)) (fun f hf => (rcv_ok hg.1 f hf).1) Cb
  exact h1.mono Cb
theorem hear_same (s : St) (i : Nat) : (hear s i).cr.length = s.cr.length ∧ (hear s i).now = s.now ∧ (hear s i).steps = s.steps ∧ (hear s i).r = s.r := by
  unfold hear
  have h := hearL_same (rcv (Lnk.got (at_ s i).up s.now)) (put s i { at_ s i with up := Lnk.recv (at_ s i).up s.now })
  rw [put_len] at h
  exact h
theorem rcvS_reports (s : Plt.St) (l : Int) (f : Fr) : (Plt.rcvS s l f).reports = s.reports ∧ (Plt.rcvS s l f).id = s.id := by
  unfold Plt.rcvS
  split
  · obtain ⟨u, hu⟩ : ∃ u, u = ({ Plt.pas s l with heard := l } : Plt.St) := ⟨_, rfl⟩
    have e : Plt.recv s l (Plt.fmOf f) = Plt.pas (Plt.take u (Plt.fmOf f)).1 l := by rw [hu]; rfl
    have ur : u.reports = (Plt.pas s l).reports := by rw [hu]
    have ui : u.id = (Plt.pas s l).id := by rw [hu]
    rw [e]
    have h1 := Plt.pas_same s l
    have i1 := Plt.pas_id s l
    have h2 := Plt.take_same u (Plt.fmOf f)
    have h3 := Plt.pas_same (Plt.take u (Plt.fmOf f)).1 l
    have i3 := Plt.pas_id (Plt.take u (Plt.fmOf f)).1 l
    clear hu e
    constructor <;> omega
  · exact ⟨rfl, rfl⟩
theorem tickS_reports (s : Plt.St) (l : Int) : (Plt.tickS s l).reports ≤ s.reports + 1 ∧ (Plt.tickS s l).id = s.id := by
  unfold Plt.tickS
  split
  · have h := Plt.pas_same s l
    have hi := Plt.pas_id s l
    unfold Plt.tick
    split
    · omega
    · simp only; omega
  · omega
theorem CInv.rcvP {N i : Nat} {l : Int} {c : Cr} (h : CInv N i c) {f : Fr} (hf : By f.d) : CInv N i { c with p := Plt.rcvS c.p l f } :=
  { h with p := Plt.rcvS_inv h.p l hf, id := (rcvS_reports c.p l f).2.trans h.id, rep := by have := (rcvS_reports c.p l f).1; have := h.rep; simp only; omega }
theorem Inv.fly1 {N : Nat} {s : St} (h : Inv N s) {i : Nat} (hi : i < s.cr.length) {f : Fr} (hf : By f.d) (hN : N + 1 ≤ 1000000000000000) : Inv (N + 1) (fly1 i s f) := by
  unfold Nt.fly1
  have hc := h.cr i hi
  have ok := rcvF_ok (at_ s i).p hc.p (n := s.cr.length) (by have := hc.id; omega) (lcl s i) hf
  have h2 := (h.put hi (hc.rcvP (l := lcl s i) hf)).sndL (l := Plt.rcvF (at_ s i).p (lcl s i) f) (fun g hg => by rw [put_len]; exact ok.1 g hg) Cb
  exact h2.mono Cb
theorem fly1_same (i : Nat) (s : St) (f : Fr) : (fly1 i s f).cr.length = s.cr.length ∧ (fly1 i s f).now = s.now ∧ (fly1 i s f).steps = s.steps ∧ (fly1 i s f).r = s.r := by
  unfold fly1
  have h1 := sndL_len (Plt.rcvF (at_ s i).p (lcl s i) f) (put s i { at_ s i with p := Plt.rcvS (at_ s i).p (lcl s i) f })
  have h2 := sndL_same (Plt.rcvF (at_ s i).p (lcl s i) f) (put s i { at_ s i with p := Plt.rcvS (at_ s i).p (lcl s i) f })
  rw [put_len] at h1
  exact ⟨h1, h2.1, h2.2.1, h2.2.2.1⟩
theorem flyL_same (i : Nat) : ∀ (l : List Fr) (s : St), (l.foldl (fly1 i) s).cr.length = s.cr.length ∧ (l.foldl (fly1 i) s).now = s.now ∧ (l.foldl (fly1 i) s).steps = s.steps ∧ (l.foldl (fly1 i) s).r = s.r
  | [], s => ⟨rfl, rfl, rfl, rfl⟩
  | f :: l, s => by
    have h1 := flyL_same i l (fly1 i s f)
    have h2 := fly1_same i s f
    rw [List.foldl_cons, h1.1, h1.2.1, h1.2.2.1, h1.2.2.2]
    exact h2
theorem Inv.flyL {N i : Nat} : ∀ {l : List Fr} {s : St}, Inv N s → i < s.cr.length → (∀ f ∈ l, By f.d) → N + l.length ≤ 1000000000000000 → Inv (N + l.length) (l.foldl (Nt.fly1 i) s)
  | [], s, h, _, _, _ => h
  | f :: l, s, h, hi, hf, hN => by
    simp only [List.length_cons] at hN ⊢
    have h1 := h.fly1 hi (hf f (List.mem_cons_self ..)) Cb
    have h2 := Inv.flyL (l := l) h1 (by rw [(fly1_same i s f).1]; exact hi) (fun g hg => hf g (List.mem_cons_of_mem _ hg)) Cb
    rw [List.foldl_cons, show N + (l.length + 1) = N + 1 + l.length by omega]
    exact h2
theorem CInv.tickP {N i : Nat} {l : Int} {c : Cr} (h : CInv N i c) : CInv (N + 1) i { c with p := Plt.tickS c.p l } :=
  { h with p := Plt.tickS_inv h.p l, id := (tickS_reports c.p l).2.trans h.id, rep := by have := (tickS_reports c.p l).1; have := h.rep; simp only; omega, us := by have := h.us; simp only; omega, ds := by have := h.ds; simp only; omega }
theorem flyT_same (i : Nat) (s : St) : (flyT i s).cr.length = s.cr.length ∧ (flyT i s).now = s.now ∧ (flyT i s).steps = s.steps ∧ (flyT i s).r = s.r := by
  unfold flyT
  have h1 := sndL_len (Plt.tickF (at_ s i).p (lcl s i)) (put s i { at_ s i with p := Plt.tickS (at_ s i).p (lcl s i) })
  have h2 := sndL_same (Plt.tickF (at_ s i).p (lcl s i)) (put s i { at_ s i with p := Plt.tickS (at_ s i).p (lcl s i) })
  rw [put_len] at h1
  exact ⟨h1, h2.1, h2.2.1, h2.2.2.1⟩
theorem note_same (i : Nat) (s : St) : (note i s).cr.length = s.cr.length ∧ (note i s).now = s.now ∧ (note i s).steps = s.steps ∧ (note i s).r = s.r := by
  unfold note
  split
  · exact ⟨rfl, rfl, rfl, rfl⟩
  · exact ⟨put_len _ _ _, rfl, rfl, rfl⟩
theorem fly_same (s : St) (i : Nat) : (fly s i).cr.length = s.cr.length ∧ (fly s i).now = s.now ∧ (fly s i).steps = s.steps ∧ (fly s i).r = s.r := by
  unfold fly
  have h1 := flyL_same i (rcv (Lnk.got (at_ s i).dn s.now)) (put s i { at_ s i with dn := Lnk.recv (at_ s i).dn s.now })
  have h2 := flyT_same i ((rcv (Lnk.got (at_ s i).dn s.now)).foldl (fly1 i) (put s i { at_ s i with dn := Lnk.recv (at_ s i).dn s.now }))
  have h3 := note_same i (flyT i ((rcv (Lnk.got (at_ s i).dn s.now)).foldl (fly1 i) (put s i { at_ s i with dn := Lnk.recv (at_ s i).dn s.now })))
  rw [put_len] at h1
  rw [h3.1, h3.2.1, h3.2.2.1, h3.2.2.2, h2.1, h2.2.1, h2.2.2.1, h2.2.2.2]
  exact h1
theorem Inv.flyT {N : Nat} {s : St} (h : Inv N s) {i : Nat} (hi : i < s.cr.length) (hN : N + 2 ≤ 1000000000000000) : Inv (N + 2) (flyT i s) := by
  unfold Nt.flyT
  have hc := h.cr i hi
  have ok := pltickF_ok (at_ s i).p hc.p (n := s.cr.length) (by have := hc.id; omega) (lcl s i)
  have h2 := ((h.mono (M := N + 1) Cb).put hi (hc.tickP (l := lcl s i))).sndL (l := Plt.tickF (at_ s i).p (lcl s i)) (fun g hg => by rw [put_len]; exact ok.1 g hg) Cb
  exact h2.mono Cb
theorem Inv.note {N : Nat} {s : St} (h : Inv N s) {i : Nat} (hi : i < s.cr.length) : Inv (N + 1) (note i s) := by
  unfold Nt.note
  split
  · exact h.mono Cb
  · have hc := (h.mono (M := N + 1) Cb).cr i hi
    have h1 := (h.mono (M := N + 1) Cb).put hi (c := { at_ s i with s := (at_ s i).p.st }) { hc with }
    exact { h1 with ev := by have := h.ev; simp only [List.length_append, List.length_singleton]; omega }
theorem Inv.fly {N : Nat} {s : St} (h : Inv N s) {i : Nat} (hi : i < s.cr.length) (hN : N + 1003 ≤ 1000000000000000) : Inv (N + 1003) (fly s i) := by
  unfold Nt.fly
  have hc := h.cr i hi
  have hg := got_mok hc.dn s.now
  have hl := rcv_le (Lnk.got (at_ s i).dn s.now)
  have h1 := (h.put hi (hc.recvDn (now := s.now))).flyL (i := i) (l := rcv (Lnk.got (at_ s i).dn s.now)) (by rw [put_len]; exact hi) (fun f hf => (rcv_ok hg.1 f hf).1) Cb
  have hl1 := (flyL_same i (rcv (Lnk.got (at_ s i).dn s.now)) (Nt.put s i { at_ s i with dn := Lnk.recv (at_ s i).dn s.now })).1
  rw [put_len] at hl1
  have h2 := h1.flyT (i := i) (by rw [hl1]; exact hi) Cb
  have h3 := h2.note (i := i) (by rw [(flyT_same i _).1, hl1]; exact hi)
  exact h3.mono Cb
theorem hears_same (s : St) : ∀ k, (hears s k).cr.length = s.cr.length ∧ (hears s k).now = s.now ∧ (hears s k).steps = s.steps ∧ (hears s k).r = s.r
  | 0 => ⟨rfl, rfl, rfl, rfl⟩
  | k + 1 => by
    have h1 := hear_same (hears s k) k
    have h2 := hears_same s k
    rw [hears, h1.1, h1.2.1, h1.2.2.1, h1.2.2.2]
    exact h2
theorem flies_same (s : St) : ∀ k, (flies s k).cr.length = s.cr.length ∧ (flies s k).now = s.now ∧ (flies s k).steps = s.steps ∧ (flies s k).r = s.r
  | 0 => ⟨rfl, rfl, rfl, rfl⟩
  | k + 1 => by
    have h1 := fly_same (flies s k) k
    have h2 := flies_same s k
    rw [flies, h1.1, h1.2.1, h1.2.2.1, h1.2.2.2]
    exact h2
theorem Inv.hears {N : Nat} {s : St} (h : Inv N s) (hN : N + 64000 ≤ 1000000000000000) : ∀ k, k ≤ s.cr.length → Inv (N + 1000 * k) (hears s k)
  | 0, _ => h
  | k + 1, hk => by
    have := h.n
    have h1 := (Inv.hears h hN k Cb).hear (i := k) (by rw [(hears_same s k).1]; omega) Cb
    rw [Nt.hears, show N + 1000 * (k + 1) = N + 1000 * k + 1000 by omega]
    exact h1
theorem Inv.flies {N : Nat} {s : St} (h : Inv N s) (hN : N + 64192 ≤ 1000000000000000) : ∀ k, k ≤ s.cr.length → Inv (N + 1003 * k) (flies s k)
  | 0, _ => h
  | k + 1, hk => by
    have := h.n
    have h1 := (Inv.flies h hN k Cb).fly (i := k) (by rw [(flies_same s k).1]; omega) Cb
    rw [Nt.flies, show N + 1003 * (k + 1) = N + 1003 * k + 1003 by omega]
    exact h1
theorem stepE_ok {s : St} (h : stepE s = 0) : s.now + s.r.step ≤ 3600000 ∧ s.steps ≠ 100000 := by
  unfold stepE at h
  split at h
  · omega
  · split at h
    · omega
    · omega
def stepA (s : St) : St := { s with steps := s.steps + 1, now := s.now + s.r.step, st := Stn.tick s.st (s.now + s.r.step) }
theorem Inv.stepA {N : Nat} {s : St} (h : Inv N s) (he : stepE s = 0) : Inv N (stepA s) := by
  have hk := stepE_ok he
  have h1 := h.now
  have h2 := h.step
  have h3 := h.steps
  have h4 := h.setSt (t := Stn.tick s.st (s.now + s.r.step)) (Stn.inv_tick h.st) (tick_n _ _)
  exact { h4 with now := by simp only [Nt.stepA]; omega, steps := by simp only [Nt.stepA]; omega }
theorem Inv.step0 {N : Nat} {s : St} (h : Inv N s) (he : stepE s = 0) (hN : N + 64 ≤ 1000000000000000) : Inv (N + 64) (step0 s) := by
  have ok := tickF_ok s.st h.st (s.now + s.r.step)
  have h2 := (h.stepA he).sndL (l := Stn.tickF s.st (s.now + s.r.step)) (fun g hg => by have := ok.1 g hg; rw [h.sn] at this; exact this) Cb
  exact h2.mono Cb
theorem step0_len (s : St) : (step0 s).cr.length = s.cr.length := sndL_len _ _
theorem Inv.stepS {N : Nat} {s : St} (h : Inv N s) (hN : N + 200000 ≤ 1000000000000000) : Inv (N + 200000) (Nt.step s) := by
  unfold Nt.step
  split
  · rename_i he
    have hn := h.n
    have h1 := h.step0 he Cb
    have e1 := step0_len s
    have h2 := h1.hears Cb s.cr.length Cb
    have e2 := (hears_same (Nt.step0 s) s.cr.length).1
    have h3 := h2.look
    have e3 : (Nt.look (Nt.hears (Nt.step0 s) s.cr.length)).cr.length = s.cr.length := by
      have k : ∀ t : St, (Nt.look t).cr.length = t.cr.length := by
        intro t
        unfold Nt.look
        split <;> rfl
      rw [k, e2, e1]
    have h4 := h3.flies Cb s.cr.length Cb
    exact h4.mono Cb
  · exact h.mono Cb
theorem doE_k {s : St} {k x : Int} (h : doE s k x = 0) : (1 ≤ k ∧ k ≤ 6) ∧ Stn.giveE s.st k s.now x = 0 := by
  unfold doE at h
  split at h
  · rename_i hk; exact ⟨hk, h⟩
  · omega
theorem Inv.doS {N : Nat} {s : St} (h : Inv N s) (k x : Int) (hN : N + 65 ≤ 1000000000000000) : Inv (N + 65) (doS s k x) := by
  unfold Nt.doS
  split
  · rename_i he
    have hk := (doE_k he).1
    have ok := giveF_ok s.st h.st k s.now x hk
    have h1 := (h.setSt (t := Stn.give s.st k s.now x) (Stn.inv_give h.st hk) (give_n _ _ _ _)).sndL (l := Stn.giveF s.st k s.now x) (fun g hg => by have := ok.1 g hg; rw [h.sn] at this; exact this) Cb
    exact h1.look.mono Cb
  · exact h.mono Cb
theorem Inv.cutS {N : Nat} {s : St} (h : Inv N s) (a : Nat) (b : Bool) : Inv N (cutS s a b) := { h with cut := by simp only [Nt.cutS, List.length_set]; exact h.cut }
end Nt
end Go.Proofs.YtdocdgcdldpagaaGreat
namespace Go.Proofs.YtdocdgcdldpagaaGreat
open Go.RowKit
set_option maxHeartbeats 8000000
set_option maxRecDepth 100000
set_option linter.unusedSimpArgs false
set_option linter.unusedVariables false
attribute [local go_sem ↓] Go.wp_at_zero Go.wp_at_succ
namespace Nt
theorem hear1_ok {N : Nat} {s : St} (h : Inv N s) {f : Fr} (hf : By f.d) : Inv N { s with st := Stn.recv s.st s.now f } ∧ (∀ g ∈ Stn.recvF s.st s.now f, FOk s.cr.length g) ∧ (Stn.recvF s.st s.now f).length ≤ 1 := by
  have ok := recvF_ok s.st h.st s.now h.now f
  exact ⟨h.setSt (t := Stn.recv s.st s.now f) (Stn.inv_recv h.st hf) (recv_n _ _ _), fun g hg => by have := ok.1 g hg; rw [h.sn] at this; exact this, ok.2⟩
end Nt
theorem Rof.at_ {w : World} {base n cap : Nat} {A : Option Addr} {l : List Fr} (h : Rof w base (.slice A n cap) l) {j : Nat} (hj : j < n) : ∃ (g o : Nat) (D : Option Addr) (dc : Nat), A = some ⟨g, o, none⟩ ∧ g < w.heap.size ∧ Ty w g 147 ∧
    w.cell? ⟨g, o + j * 5, none⟩ = some (.int .i64 (l.getD j fr0).k) ∧ w.cell? ⟨g, o + j * 5 + 1, none⟩ = some (.int .i64 (l.getD j fr0).f) ∧ w.cell? ⟨g, o + j * 5 + 2, none⟩ = some (.int .i64 (l.getD j fr0).t) ∧ w.cell? ⟨g, o + j * 5 + 3, none⟩ = some (.int .i64 (l.getD j fr0).s) ∧
    w.cell? ⟨g, o + j * 5 + 4, none⟩ = some (.slice D (l.getD j fr0).d.length dc) ∧ Ow w base D (l.getD j fr0).d.length dc (l.getD j fr0).d := by
  have hl := h.len
  obtain ⟨vs, h1, h2, h3⟩ := h
  rw [hl] at h2
  rcases h2.2 with ⟨_, h0⟩ | ⟨g, c, cur, e, _, hh, _⟩
  · omega
  · injection e with e1 e2 e3
    subst e1; subst e3
    have hvl : vs.length = n := by rw [← hl, ← h1]; simp
    have hiv : j < vs.length := by omega
    have hx : l.getD j fr0 = vs[j].x := by rw [← h1]; simp [List.getD, List.getElem?_eq_getElem hiv]
    have hc : ∀ q u, q < 5 → (FV.cells vs[j])[q]? = some u → w.cell? ⟨g, j * 5 + q, none⟩ = some u := fun q u hq hu => by
      have := World.ownsRow.cellAt h2 (g := g) (j * 5 + q) Cb
      rw [this, FV.cells_at vs j q hiv hq, hu]
    refine ⟨g, 0, vs[j].A, vs[j].cap, rfl, lt_of_block hh, ⟨_, hh⟩, ?_⟩
    rw [hx]
    refine ⟨?_, ?_, ?_, ?_, ?_, h3 vs[j] (List.getElem_mem hiv)⟩
    · have := hc 0 _ Cb rfl; simpa using this
    · have := hc 1 _ Cb rfl; simpa using this
    · have := hc 2 _ Cb rfl; simpa using this
    · have := hc 3 _ Cb rfl; simpa using this
    · have := hc 4 _ Cb rfl; simpa using this
theorem Ow.ty {w : World} {base n cap : Nat} {A : Option Addr} {l : List Int} (h : Ow w base A n cap l) : ∀ a, A = some a → Ty w a.block 5 := by
  intro a ha
  rcases h.form with ⟨e, _⟩ | ⟨g, e, _⟩
  · rw [e] at ha; cases ha
  · subst e
    injection ha with ha
    subst ha
    obtain ⟨cur, hc, _⟩ := h.block
    exact ⟨_, hc⟩
def HS (base b k : Nat) (m : NM) (w0 : World) (fb : Nat) (v : Value) (L : List Fr) (s : Nt.St) (w : World) (m1 : NM) : Prop := IsNet w base b m1 k s ∧ Keeps (NF b m) w0 w ∧ NG b m m1 w0.heap.size ∧ Rof w fb v L
section
variable {w w' w0 : World} {base b k N fb : Nat} {m m1 : NM} {s s' : Nt.St} {v : Value} {L : List Fr}
theorem HS.below (h : HS base b k m w0 fb v L s w m1) (g : Below w.heap.size w w') : HS base b k m w0 fb v L s w' m1 :=
  ⟨h.1.below g, h.2.1.trans (Keeps.of_below (S := fun _ => False) g) (fun _ _ h => h.elim), h.2.2.1, h.2.2.2.below g (Nat.le_refl _)⟩
theorem HS.to (h : HS base b k m w0 fb v L s w m1) (g : NTo base b m1 k s' w w') : ∃ m2, HS base b k m w0 fb v L s' w' m2 := by
  obtain ⟨m2, g1, g2, g3⟩ := NTo.trans h.2.1 h.2.2.1 g
  obtain ⟨_, _, k2, _⟩ := g
  exact ⟨m2, g1, g2, g3, rof_net h.1 k2 h.2.2.2⟩
theorem nhear_any (h : IsNet w base b m k s) (hs : Nt.Inv N s) {i : Nat} (hi : i < s.cr.length) (hbase : base ≤ w.heap.size) (hN : N + 1000 ≤ 1000000000000000) :
    Calls Tryz.prog 59 #[.pointer (some ⟨b, 0, none⟩), .int .i64 i] w fun e w' => e = .returned (.tuple #[]) ∧ NTo base b m k (Nt.hear s i) w w' := by
  obtain ⟨g, o, hCA, hTc, d0, d1, d2, d3, _⟩ := h.cells hi
  have c25 : w.cell? ⟨b, 25, none⟩ = some (.slice m.CA s.cr.length m.cc) := blk_cell h.blk 25 rfl
  have c21 : w.cell? ⟨b, 21, none⟩ = some (.int .i64 s.now) := blk_cell h.blk 21 rfl
  rw [hCA] at c25
  have hc := h.cr i hi
  have hci := hs.cr i hi
  have RC := Lib.hid (nrecv_any b base _ _ _ _ _ s.now w c21 hc.up hci.up hbase)
  have hgm := Nt.got_mok hci.up s.now
  obtain ⟨L, hL⟩ : ∃ L, L = Nt.rcv (Lnk.got (Nt.at_ s i).up s.now) := ⟨_, rfl⟩
  have hLl : L.length ≤ 1000 := by rw [hL]; exact Nat.le_trans (Nt.rcv_le _) hgm.2
  have HLB := Lib.hid (show ∀ f ∈ L, By f.d ∧ f.d.length ≤ 64 from by rw [hL]; exact Nt.rcv_ok hgm.1)
  obtain ⟨s1, hs1⟩ : ∃ s1, s1 = Nt.put s i { Nt.at_ s i with up := Lnk.recv (Nt.at_ s i).up s.now } := ⟨_, rfl⟩
  have HS1 := Lib.hid (show Nt.Inv N s1 from by rw [hs1]; exact hs.put hi hci.recvUp)
  have E := Lib.hid (show Nt.hear s i = L.foldl Nt.hear1 s1 from by rw [hL, hs1]; rfl)
  have TO := Lib.hid (show ∀ w1 : World, LkTo base (m.cs.getD i cm0).ub (m.cs.getD i cm0).uA (Nt.lru s.r.up i) (Lnk.recv (Nt.at_ s i).up s.now) w w1 → NTo base b m k s1 w w1 from fun w1 g => by rw [hs1]; exact h.toUp hi g)
  have ic : (i : Int) < (s.cr.length : Int) := by omega
  have i0 : (0 : Int) ≤ (i : Int) := by omega
  have hn64 := hs.n.2
  unfold RcPost at RC
  rw [← hL] at RC
  obtain ⟨cm, hcm⟩ : ∃ cm, cm = m.cs.getD i cm0 := ⟨_, rfl⟩
  rw [← hcm] at RC TO d1
  clear h hs hc hci hgm hs1 hL d0 d2 d3 hcm
  go_enter Tryz.func59, Tryz.ntmps59
  go_wp2_with fail
  refine RC.out.mono ?_
  rintro _ w1 ⟨v, rfl, hR, hlk⟩
  obtain ⟨m1, n1, n2, n3⟩ := TO.out _ hlk
  have hz1 := n2.size
  obtain ⟨n, hn⟩ : ∃ n, n = L.length := ⟨_, rfl⟩
  have hH := Lib.hid (show HS base b k m w w.heap.size v L s1 w1 m1 from ⟨n1, n2, n3, hR⟩)
  obtain ⟨A, cap, rfl⟩ := hR.form
  rw [← hn] at hH hLl ⊢
  have HNL := Lib.hid hn
  clear hlk hR n1 n2 n3 hn c21 c25 d1 RC TO hTc
  go_wp2_with fail
  go_loopw [19] (fun s19 wr => ∃ (j : Nat) (m2 : NM), s19 = .int .i64 j ∧ j ≤ n ∧ w.heap.size ≤ wr.heap.size ∧ Hid (HS base b k m w w.heap.size (.slice A n cap) L ((L.take j).foldl Nt.hear1 s1) wr m2)) (fun s19 _ => n - (intOf s19).toNat)
  case atStart => exact ⟨0, m1, by go_num, by omega, hz1, hH⟩
  case round =>
    obtain ⟨j, m2, rfl, hj, hzr, HI⟩ := hrel
    by_cases hlt : j < n
    · have hji : (j : Int) < (n : Int) := by omega
      have hjl : j < L.length := by rw [← HNL.out]; exact hlt
      obtain ⟨t, ht⟩ : ∃ t, t = (L.take j).foldl Nt.hear1 s1 := ⟨_, rfl⟩
      have hlj : (L.take j).length = j := by rw [List.length_take]; omega
      obtain ⟨f, hf⟩ : ∃ f, f = L.getD j fr0 := ⟨_, rfl⟩
      have hfm : f ∈ L := by rw [hf, List.getD, List.getElem?_eq_getElem hjl]; exact List.getElem_mem _
      have hfb := HLB.out f hfm
      have hsv : Nt.Inv (N + j) t := by
        rw [ht, ← hlj]
        have := HS1.out.hearL (l := L.take j) (fun f hf => (HLB.out f (List.mem_of_mem_take hf)).1) Cb
        rw [hlj] at this ⊢
        exact this
      have SN := Lib.hid (show (L.take (j + 1)).foldl Nt.hear1 s1 = Nt.sndL { t with st := Stn.recv t.st t.now f } (Stn.recvF t.st t.now f) from by
        rw [ht, List.take_succ_eq_append_getElem hjl, List.foldl_append, hf, List.getD, List.getElem?_eq_getElem hjl]
        rfl)
      have hok := Nt.hear1_ok hsv hfb.1
      have OK1 := Lib.hid hok.1
      have OK2 := Lib.hid hok.2.1
      have hol := hok.2.2
      rw [← ht] at HI
      obtain ⟨gf, of, D, dc, rfl, hgf, hgt, q0, q1, q2, q3, q4, how⟩ := HI.out.2.2.2.at_ hlt
      rw [← hf] at q0 q1 q2 q3 q4 how
      have hds : ∀ a, D = some a → a.block ≠ m2.sb := fun a ha => (how.ty a ha).ne ⟨_, HI.out.1.st.blk⟩ C8
      have hfd := hfb.2
      have c23 : wr.cell? ⟨b, 23, none⟩ = some (.pointer (some ⟨m2.sb, 0, none⟩)) := blk_cell HI.out.1.blk 23 rfl
      have c21 : wr.cell? ⟨b, 21, none⟩ = some (.int .i64 t.now) := blk_cell HI.out.1.blk 21 rfl
      have hbw := HI.out.1.lt (.inl rfl)
      have HRV := Lib.hid (show ∀ W : World, Below wr.heap.size wr W → Calls Tryz.prog 103 #[.pointer (some ⟨m2.sb, 0, none⟩), .int .i64 t.now, .agg #[.int .i64 f.k, .int .i64 f.f, .int .i64 f.t, .int .i64 f.s, .slice D f.d.length dc]] W fun e w' => ∃ (v : Value) (er : Int) (m3 : NM), e = .returned (.tuple #[v, .int .i64 er]) ∧ Rof w' W.heap.size v (Stn.recvF t.st t.now f) ∧ HS base b k m w w.heap.size (.slice (some ⟨gf, of, none⟩) n cap) L { t with st := Stn.recv t.st t.now f } w' m3 from fun W hW => by
        have h1 := HI.out.below hW
        refine (recv_any h1.1.st hsv.st t.now f D dc Cb ((how.rd.below hW (Nat.le_refl _)).more hW.size) hds).mono ?_
        rintro e w' ⟨v, MA', mc', e1, g1, g2, g3, g4⟩
        obtain ⟨m3, h3⟩ := h1.to (h1.1.toSt g1 g2 g4)
        exact ⟨v, _, m3, e1, g3, h3⟩)
      clear hok hsv ht hds how hgt hfm hfb hf hlj hjl hfd
      go_upto_region 3 with fail
      generalize hWa : World.alloc _ _ = Wa
      have bA : Below wr.heap.size wr Wa := by rw [← hWa]; exact (Below.refl _ wr).alloc (Nat.le_refl _) _
      have yF : Wa.heap[wr.heap.size]? = some (.cells #[.int .i64 f.k, .int .i64 f.f, .int .i64 f.t, .int .i64 f.s, .slice D f.d.length dc] 147 (0, 0)) := by rw [← hWa]; exact heap_new _ _
      have a23 := (bA.cell (p := ⟨b, 23, none⟩) hbw.2).trans c23
      have a21 := (bA.cell (p := ⟨b, 21, none⟩) hbw.2).trans c21
      have u0 := blk_cell yF 0 rfl
      have u1 := blk_cell yF 1 rfl
      have u2 := blk_cell yF 2 rfl
      have u3 := blk_cell yF 3 rfl
      have u4 := blk_cell yF 4 rfl
      clear hWa c21 c23 q0 q1 q2 q3 q4 yF
      go_region_with (first | (go_at_call 103; refine (HRV.out _ (by first | exact below_drewN bA _ | exact bA.drew | exact bA)).mono ?_; rintro e w5 ⟨v5, er, m5, rfl, hr5, h5⟩; have R5 := Lib.hid hr5; have H5 := Lib.hid h5; clear hr5 h5))
      all_goals
        have S5 := Lib.hid (nsend_any H5.out.1 OK1.out OK2.out R5.out (Nat.le_trans hbase H5.out.2.1.size) Cb Cb)
        go_wp2_with (refine S5.out.mono ?_; rintro e w6 ⟨rfl, hto⟩; obtain ⟨m6, h6⟩ := H5.out.to hto; have H6 := Lib.hid h6; have hz6 := h6.2.1.size; clear h6 hto)
        go_roundw
        case rel => exact ⟨j + 1, m6, by go_num, by omega, hz6, Lib.hid (by rw [SN.out]; exact H6.out)⟩
        case measure => simp [intOf]; omega
    · have hj' : j = n := by omega
      subst hj'
      have E2 := Lib.hid (show L.take j = L by rw [List.take_of_length_le Bc])
      rw [E2.out] at HI
      have ik : ¬ ((j : Int) < (j : Int)) := by omega
      go_wp2_with fail
      exact bodyPost_end (results_none rfl _ _ _) rfl ⟨rfl, m2, by rw [E.out]; exact HI.out.1, HI.out.2.1, HI.out.2.2.1⟩
end
end Go.Proofs.YtdocdgcdldpagaaGreat

import Derived.Test.YtdocdgcdldpagaaGreatAp
import Derived.Test.YtdocdgcdldpagaaGreatAv26
namespace Go.Proofs.YtdocdgcdldpagaaGreat
open Go.RowKit
set_option maxHeartbeats 8000000
set_option maxRecDepth 100000
set_option linter.unusedSimpArgs false
set_option linter.unusedVariables false
attribute [local go_sem ↓] Go.wp_at_zero Go.wp_at_succ
theorem prd_kept {S : Nat → Prop} {w w' : World} {B : Nat} {A : Option Addr} {n : Nat} {l : List Int} (h : Rd w B A n l) (k : Keeps S w w') (hB : B ≤ w.heap.size) (hS : ∀ a, A = some a → ¬ S a.block) : Rd w' B A n l :=
  ⟨h.1, h.2.1, fun hn => by
    obtain ⟨b, o, e, hb, hc⟩ := h.2.2 hn
    exact ⟨b, o, e, hb, fun i hi => (World.cell?_of_block (k.block b Cb (hS _ e))).trans (hc i hi)⟩⟩
theorem rof_one {w : World} {base g1 g2 : Nat} {k f t s z : Int} (h1 : w.heap[g1]? = some (.cells #[.int .u8 z] 5 (0, 0))) (h2 : w.heap[g2]? = some (.cells #[.int .i64 k, .int .i64 f, .int .i64 t, .int .i64 s, .slice (some ⟨g1, 0, none⟩) 1 1] 147 (0, 0)))
    (hz : 0 ≤ z ∧ z < 256) (b1 : base ≤ g1) (b2 : base ≤ g2) : Rof w base (.slice (some ⟨g2, 0, none⟩) 1 1) [⟨k, f, t, s, [z]⟩] := by
  refine ⟨[⟨⟨k, f, t, s, [z]⟩, some ⟨g1, 0, none⟩, 1⟩], rfl, ⟨rfl, .inr ⟨g2, 1, _, rfl, b2, h2, Nat.le_refl _, by unfold maxLen; omega, rfl, rfl⟩⟩, fun y hy => ?_⟩
  obtain rfl : y = ⟨⟨k, f, t, s, [z]⟩, some ⟨g1, 0, none⟩, 1⟩ := by simpa using hy
  exact ⟨⟨rfl, .inr ⟨g1, 1, _, rfl, b1, h1, Nat.le_refl _, by unfold maxLen; omega, rfl, rfl⟩⟩, fun x hx => by
    obtain rfl : x = z := by simpa using hx
    exact hz⟩
def PRPost (base b c : Nat) (s' : Plt.St) (fr : List Fr) (er : Int) (w : World) (e : Ending) (w' : World) : Prop :=
  ∃ v, e = .returned (.tuple #[v, .int .i64 er]) ∧ Rof w' w.heap.size v fr ∧ IsP w' base b c s' ∧ Keeps (fun i => i = b ∨ i = c) w w'
section
variable {w w' : World} {base b c : Nat} {s : Plt.St}
theorem PRPost.same {er : Int} (h : IsP w' base b c s) (k : Below w.heap.size w w') {s' : Plt.St} {fr : List Fr} {er' : Int} (hs : s' = s) (hf : fr = []) (he : er' = er) : PRPost base b c s' fr er' w (.returned (.tuple #[.slice none 0 0, .int .i64 er])) w' := by
  subst hs hf he
  exact ⟨_, rfl, Rof.nil _ _, h, Keeps.of_below k⟩
theorem IsP.drew (h : IsP w base b c s) : IsP w.drew base b c s := ⟨h.blk, h.clk, h.ge⟩
theorem IsP.two (h : IsP w base b c s) {B : Nat} (hB : w.heap.size ≤ B) : b < B ∧ c < B := by have := h.lt; omega
theorem precv_any (h : IsP w base b c s) (hs : Plt.Inv s) (k f t q : Int) (A : Option Addr) (n cap : Nat) (l : List Int) (hn : n = l.length) (hn2 : n ≤ 9223372036854775807) (hcap : n ≤ cap) (hcm : cap ≤ 9223372036854775807) (hr : Rd w w.heap.size A n l) (hA : ∀ a, A = some a → a.block ≠ b ∧ a.block ≠ c) (hrep : s.reports < 1000000000000000) (now : Int) :
    Calls Tryz.prog 104 #[.pointer (some ⟨b, 0, none⟩), .int .i64 now, .agg #[.int .i64 k, .int .i64 f, .int .i64 t, .int .i64 q, .slice A n cap]] w (PRPost base b c (Plt.rcvS s now ⟨k, f, t, q, l⟩) (Plt.rcvF s now ⟨k, f, t, q, l⟩) (Plt.rcvE s now ⟨k, f, t, q, l⟩) w) := by
  have HH := Lib.hid h
  have NO := Lib.hid (fun (W : World) (hW : IsP W base b c s) => pnone_any hW hs)
  have hE : Plt.rcvE s now ⟨k, f, t, q, l⟩ = if Frm.vd k f t q n = true ∧ t = s.id then Plt.timE s now else 2 := by rw [hn]; rfl
  have hS : ∀ x, Plt.rcvE s now ⟨k, f, t, q, l⟩ = x → x ≠ 0 → Plt.rcvS s now ⟨k, f, t, q, l⟩ = s ∧ Plt.rcvF s now ⟨k, f, t, q, l⟩ = [] := fun x hx h0 => by
    unfold Plt.rcvS Plt.rcvF
    rw [if_neg (by rw [hx]; exact h0), if_neg (by rw [hx]; exact fun hh => h0 hh.1)]
    exact ⟨rfl, rfl⟩
  cases hv : Frm.vd k f t q n
  · have VA := Lib.hid (fun W : World => by have := valid_any k f t q A n cap W hn2; rw [hv] at this; exact this)
    have E := Lib.hid (show Plt.rcvE s now ⟨k, f, t, q, l⟩ = 2 by rw [hE, hv, if_neg C9])
    have ES := Lib.hid (hS 2 E.out Cb)
    clear hv hE hS h hs hn hn2 hcap hcm hr hA hrep
    go_enter Tryz.func104, Tryz.ntmps104; go_upto_region 1 with fail; generalize hV : World.alloc _ _ = V; have k0 : V.heap[w.heap.size]? = some (.cells #[.int .i64 k, .int .i64 f, .int .i64 t, .int .i64 q, .slice A n cap] 147 (0, 0)) := Bd; have HV := Lib.hid (show Below w.heap.size w V by rw [← hV]; exact (Below.refl _ _).alloc (Nat.le_refl _) _); have hzV : w.heap.size < V.heap.size := lt_of_block k0; clear hV; (have cf_0 := blk_cell k0 0 rfl; have ff_0 := blk_free k0 0; have cf_1 := blk_cell k0 1 rfl; have ff_1 := blk_free k0 1; have cf_2 := blk_cell k0 2 rfl; have ff_2 := blk_free k0 2; have cf_3 := blk_cell k0 3 rfl; have ff_3 := blk_free k0 3; have cf_4 := blk_cell k0 4 rfl; have ff_4 := blk_free k0 4; have lf := lt_of_block k0); have K0 := Lib.hid k0; clear k0; (have HP := Lib.hid (HH.out.below HV.out (Nat.le_refl _))); (go_wp2_with fail); refine (NO.out _ HP.out).mono ?_; rintro e w' ⟨rfl, rfl⟩; (go_wp2_with fail); (have c0 := blk_cell HP.out.blk 0 rfl)
    (first | (go_region_with (first | (go_at_call 133; refine (VA.out _).mono ?_; rintro e w1 ⟨rfl, hb1⟩; have hb2 : Below V.heap.size V w1 := As; have HB1 := Lib.hid (HV.out.trans (hb2.mono HV.out.size)); have j0 := blk_below K0.out hb2 hzV; have HJ := Lib.hid j0; have HP1 := Lib.hid (HP.out.below hb2 (Nat.le_refl _)); clear hb1 hb2 c0; (clear cf_0 ff_0 cf_1 ff_1 cf_2 ff_2 cf_3 ff_3 cf_4 ff_4); (have cg_0 := blk_cell j0 0 rfl; have fg_0 := blk_free j0 0; have cg_1 := blk_cell j0 1 rfl; have fg_1 := blk_free j0 1; have cg_2 := blk_cell j0 2 rfl; have fg_2 := blk_free j0 2; have cg_3 := blk_cell j0 3 rfl; have fg_3 := blk_free j0 3; have cg_4 := blk_cell j0 4 rfl; have fg_4 := blk_free j0 4; have lg := lt_of_block j0); clear j0; (have c0 := blk_cell HP1.out.blk 0 rfl)))) | fail)
    all_goals
      go_wp2_with fail
      go_ret2
      exact PRPost.same (by first | exact HP1.out | exact HP1.out.drew) (by first | exact HB1.out | exact HB1.out.drew) ES.out.1 ES.out.2 E.out
  have VA := Lib.hid (fun W : World => by have := valid_any k f t q A n cap W hn2; rw [hv] at this; exact this)
  by_cases ht : t = s.id
  case neg =>
    have E := Lib.hid (show Plt.rcvE s now ⟨k, f, t, q, l⟩ = 2 by rw [hE, if_neg (fun hh => ht hh.2)])
    have ES := Lib.hid (hS 2 E.out Cb)
    have z1 : (t == s.id) = false := by rw [beq_eq_false_iff_ne]; exact ht
    have z2 : (t != s.id) = true := by simpa using ht
    clear hv hE hS h hs hn hn2 hcap hcm hr hA hrep ht
    go_enter Tryz.func104, Tryz.ntmps104; go_upto_region 1 with fail; generalize hV : World.alloc _ _ = V; have k0 : V.heap[w.heap.size]? = some (.cells #[.int .i64 k, .int .i64 f, .int .i64 t, .int .i64 q, .slice A n cap] 147 (0, 0)) := Bd; have HV := Lib.hid (show Below w.heap.size w V by rw [← hV]; exact (Below.refl _ _).alloc (Nat.le_refl _) _); have hzV : w.heap.size < V.heap.size := lt_of_block k0; clear hV; (have cf_0 := blk_cell k0 0 rfl; have ff_0 := blk_free k0 0; have cf_1 := blk_cell k0 1 rfl; have ff_1 := blk_free k0 1; have cf_2 := blk_cell k0 2 rfl; have ff_2 := blk_free k0 2; have cf_3 := blk_cell k0 3 rfl; have ff_3 := blk_free k0 3; have cf_4 := blk_cell k0 4 rfl; have ff_4 := blk_free k0 4; have lf := lt_of_block k0); have K0 := Lib.hid k0; clear k0; (have HP := Lib.hid (HH.out.below HV.out (Nat.le_refl _))); (go_wp2_with fail); refine (NO.out _ HP.out).mono ?_; rintro e w' ⟨rfl, rfl⟩; (go_wp2_with fail); (have c0 := blk_cell HP.out.blk 0 rfl)
    (first | (go_region_held3 (fun w' => (w'.cell? ⟨w.heap.size, 0, none⟩ = some (.int .i64 k) ∧ w'.cell? ⟨w.heap.size, 1, none⟩ = some (.int .i64 f) ∧ w'.cell? ⟨w.heap.size, 2, none⟩ = some (.int .i64 t) ∧ w'.cell? ⟨w.heap.size, 3, none⟩ = some (.int .i64 q) ∧ w'.cell? ⟨w.heap.size, 4, none⟩ = some (.slice A n cap)) ∧ w'.cell? ⟨b, 0, none⟩ = some (.int .i64 s.id)) (first | (refine ⟨⟨?_, ?_, ?_, ?_, ?_⟩, ?_⟩ <;> simp [go_sem, *]; done) | go_keep) (first | (go_at_call 133; refine (VA.out _).mono ?_; rintro e w1 ⟨rfl, hb1⟩; have hb2 : Below V.heap.size V w1 := As; have HB1 := Lib.hid (HV.out.trans (hb2.mono HV.out.size)); have j0 := blk_below K0.out hb2 hzV; have HJ := Lib.hid j0; have HP1 := Lib.hid (HP.out.below hb2 (Nat.le_refl _)); clear hb1 hb2 c0; (clear cf_0 ff_0 cf_1 ff_1 cf_2 ff_2 cf_3 ff_3 cf_4 ff_4); (have cg_0 := blk_cell j0 0 rfl; have fg_0 := blk_free j0 0; have cg_1 := blk_cell j0 1 rfl; have fg_1 := blk_free j0 1; have cg_2 := blk_cell j0 2 rfl; have fg_2 := blk_free j0 2; have cg_3 := blk_cell j0 3 rfl; have fg_3 := blk_free j0 3; have cg_4 := blk_cell j0 4 rfl; have fg_4 := blk_free j0 4; have lg := lt_of_block j0); clear j0; (have c0 := blk_cell HP1.out.blk 0 rfl)))))
    go_wp2_with fail
    go_ret2
    exact PRPost.same HP1.out HB1.out ES.out.1 ES.out.2 E.out
  case pos =>
  have z1 : (t == s.id) = true := by rw [ht]; simp
  have z2 : (t != s.id) = false := by rw [ht]; simp
  have E0 : Plt.rcvE s now ⟨k, f, t, q, l⟩ = Plt.timE s now := by rw [hE, if_pos ⟨hv, ht⟩]
  rcases Plt.timE_cases s now with he | he
  case inr =>
    have E := Lib.hid (E0.trans he)
    have ES := Lib.hid (hS 3 E.out Cb)
    have CH := Lib.hid (fun (W : World) (hW : IsP W base b c s) => by have := check_any hW now; rw [he] at this; exact this)
    clear hv hE hS h hs hn hn2 hcap hcm hr hA hrep ht E0 he
    go_enter Tryz.func104, Tryz.ntmps104; go_upto_region 1 with fail; generalize hV : World.alloc _ _ = V; have k0 : V.heap[w.heap.size]? = some (.cells #[.int .i64 k, .int .i64 f, .int .i64 t, .int .i64 q, .slice A n cap] 147 (0, 0)) := Bd; have HV := Lib.hid (show Below w.heap.size w V by rw [← hV]; exact (Below.refl _ _).alloc (Nat.le_refl _) _); have hzV : w.heap.size < V.heap.size := lt_of_block k0; clear hV; (have cf_0 := blk_cell k0 0 rfl; have ff_0 := blk_free k0 0; have cf_1 := blk_cell k0 1 rfl; have ff_1 := blk_free k0 1; have cf_2 := blk_cell k0 2 rfl; have ff_2 := blk_free k0 2; have cf_3 := blk_cell k0 3 rfl; have ff_3 := blk_free k0 3; have cf_4 := blk_cell k0 4 rfl; have ff_4 := blk_free k0 4; have lf := lt_of_block k0); have K0 := Lib.hid k0; clear k0; (have HP := Lib.hid (HH.out.below HV.out (Nat.le_refl _))); (go_wp2_with fail); refine (NO.out _ HP.out).mono ?_; rintro e w' ⟨rfl, rfl⟩; (go_wp2_with fail); (have c0 := blk_cell HP.out.blk 0 rfl)
    (first | (go_region_held3 (fun w' => (w'.cell? ⟨w.heap.size, 0, none⟩ = some (.int .i64 k) ∧ w'.cell? ⟨w.heap.size, 1, none⟩ = some (.int .i64 f) ∧ w'.cell? ⟨w.heap.size, 2, none⟩ = some (.int .i64 t) ∧ w'.cell? ⟨w.heap.size, 3, none⟩ = some (.int .i64 q) ∧ w'.cell? ⟨w.heap.size, 4, none⟩ = some (.slice A n cap)) ∧ w'.cell? ⟨b, 0, none⟩ = some (.int .i64 s.id)) (first | (refine ⟨⟨?_, ?_, ?_, ?_, ?_⟩, ?_⟩ <;> simp [go_sem, *]; done) | go_keep) (first | (go_at_call 133; refine (VA.out _).mono ?_; rintro e w1 ⟨rfl, hb1⟩; have hb2 : Below V.heap.size V w1 := As; have HB1 := Lib.hid (HV.out.trans (hb2.mono HV.out.size)); have j0 := blk_below K0.out hb2 hzV; have HJ := Lib.hid j0; have HP1 := Lib.hid (HP.out.below hb2 (Nat.le_refl _)); clear hb1 hb2 c0; (clear cf_0 ff_0 cf_1 ff_1 cf_2 ff_2 cf_3 ff_3 cf_4 ff_4); (have cg_0 := blk_cell j0 0 rfl; have fg_0 := blk_free j0 0; have cg_1 := blk_cell j0 1 rfl; have fg_1 := blk_free j0 1; have cg_2 := blk_cell j0 2 rfl; have fg_2 := blk_free j0 2; have cg_3 := blk_cell j0 3 rfl; have fg_3 := blk_free j0 3; have cg_4 := blk_cell j0 4 rfl; have fg_4 := blk_free j0 4; have lg := lt_of_block j0); clear j0; (have c0 := blk_cell HP1.out.blk 0 rfl)))))
    go_wp2_with fail
    refine (CH.out _ B7).mono ?_
    rintro e w' ⟨rfl, rfl⟩
    go_wp2_with fail
    go_ret2
    exact PRPost.same B7 (by first | exact HB1.out | exact below_drewN HB1.out _) ES.out.1 ES.out.2 E.out
  case inl =>
  have E := Lib.hid (E0.trans he)
  have CH := Lib.hid (fun (W : World) (hW : IsP W base b c s) => by have := check_any hW now; rw [he] at this; exact this)
  have hl := (Plt.timE_ok he).1
  have hvv := Frm.vd_iff.1 hv
  obtain ⟨p, hp⟩ : ∃ p, p = Plt.pas s now := ⟨_, rfl⟩
  obtain ⟨u, hu⟩ : ∃ u, u = ({ p with heard := now } : Plt.St) := ⟨_, rfl⟩
  have hpi : Plt.Inv p := by rw [hp]; exact Plt.pas_inv hs hl
  have hui : Plt.Inv u := by rw [hu]; exact Plt.heard_inv hpi hl
  have hur : u.reports < 1000000000000000 := by rw [hu]; show p.reports < _; rw [hp, (Plt.pas_same s now).2.2.1]; exact hrep
  obtain ⟨x, hx⟩ : ∃ x, x = Plt.fmOf ⟨k, f, t, q, l⟩ := ⟨_, rfl⟩
  have hxn : -1 ≤ x.n ∧ x.n ≤ 4294967295 := by rw [hx]; exact Plt.fmOf_n hr.2.1
  obtain ⟨r, hrr⟩ : ∃ r, r = Plt.take u x := ⟨_, rfl⟩
  have hri : Plt.Inv r.1 := by rw [hrr]; exact Plt.take_inv hui hxn
  have hss : Plt.rcvS s now ⟨k, f, t, q, l⟩ = Plt.pas r.1 now := by
    unfold Plt.rcvS
    rw [if_pos E.out, hrr, hu, hp, hx]; rfl
  have hff : Plt.rcvF s now ⟨k, f, t, q, l⟩ = if r.2 = true then [⟨8, s.id, 0, q, [k]⟩] else [] := by
    unfold Plt.rcvF
    have e1 : Plt.recvA s now (Plt.fmOf ⟨k, f, t, q, l⟩) = r.2 := by rw [hrr, hu, hp, hx]; rfl
    rw [e1]
    cases hr2 : r.2
    · rw [if_neg C9, if_neg C9]
    · rw [if_pos ⟨E.out, rfl⟩, if_pos rfl]
  have hid : (Plt.pas r.1 now).id = s.id := by
    rw [Plt.pas_id, hrr, (Plt.take_same u x).2.2.2.2.2, hu]
    show p.id = _
    rw [hp, Plt.pas_id]
  obtain ⟨v, hvd⟩ : ∃ v, v = Plt.pas r.1 now := ⟨_, rfl⟩
  have PA := Lib.hid (fun (W : World) (hW : IsP W base b c s) => by have := pass_any hW hs hl; rw [← hp] at this; exact this)
  have TK := Lib.hid (fun (W : World) (hW : IsP W base b c u) (hR : Rd W W.heap.size A n l) => by have := take_any hW hui k f t q A n cap l hn hvv.2.2.1 hcap hcm hR hur; rw [← hx, ← hrr] at this; exact this)
  have PB := Lib.hid (fun (W : World) (hW : IsP W base b c r.1) => by have := pass_any hW hri hl; rw [← hvd] at this; exact this)
  rw [hss, hff, E.out, ← hvd]
  rw [← hvd] at hid
  have HR := Lib.hid hr
  have HU := Lib.hid hu
  have hk255 : 0 ≤ k ∧ k < 256 := by omega
  have HA := Lib.hid hA
  have HID := Lib.hid hid
  obtain ⟨r1, r2⟩ := r
  simp only at *
  clear hv hE hS h hs hn hn2 hcap hcm hr hA hrep ht E0 he hl hvv hp hu hpi hui hur hx hxn hrr hri hss hff hvd hid
  have wk : IntKind.u8.wrap k = k := by rw [IntKind.wrap_u8]; omega
  cases r2
  all_goals
    go_enter Tryz.func104, Tryz.ntmps104; go_upto_region 1 with fail; generalize hV : World.alloc _ _ = V; have k0 : V.heap[w.heap.size]? = some (.cells #[.int .i64 k, .int .i64 f, .int .i64 t, .int .i64 q, .slice A n cap] 147 (0, 0)) := Bd; have HV := Lib.hid (show Below w.heap.size w V by rw [← hV]; exact (Below.refl _ _).alloc (Nat.le_refl _) _); have hzV : w.heap.size < V.heap.size := lt_of_block k0; clear hV; (have cf_0 := blk_cell k0 0 rfl; have ff_0 := blk_free k0 0; have cf_1 := blk_cell k0 1 rfl; have ff_1 := blk_free k0 1; have cf_2 := blk_cell k0 2 rfl; have ff_2 := blk_free k0 2; have cf_3 := blk_cell k0 3 rfl; have ff_3 := blk_free k0 3; have cf_4 := blk_cell k0 4 rfl; have ff_4 := blk_free k0 4; have lf := lt_of_block k0); have K0 := Lib.hid k0; clear k0; (have HP := Lib.hid (HH.out.below HV.out (Nat.le_refl _))); (go_wp2_with fail); refine (NO.out _ HP.out).mono ?_; rintro e w' ⟨rfl, rfl⟩; (go_wp2_with fail); (have c0 := blk_cell HP.out.blk 0 rfl)
    (first | (go_region_held3 (fun w' => (w'.cell? ⟨w.heap.size, 0, none⟩ = some (.int .i64 k) ∧ w'.cell? ⟨w.heap.size, 1, none⟩ = some (.int .i64 f) ∧ w'.cell? ⟨w.heap.size, 2, none⟩ = some (.int .i64 t) ∧ w'.cell? ⟨w.heap.size, 3, none⟩ = some (.int .i64 q) ∧ w'.cell? ⟨w.heap.size, 4, none⟩ = some (.slice A n cap)) ∧ w'.cell? ⟨b, 0, none⟩ = some (.int .i64 s.id)) (first | (refine ⟨⟨?_, ?_, ?_, ?_, ?_⟩, ?_⟩ <;> simp [go_sem, *]; done) | go_keep) (first | (go_at_call 133; refine (VA.out _).mono ?_; rintro e w1 ⟨rfl, hb1⟩; have hb2 : Below V.heap.size V w1 := As; have HB1 := Lib.hid (HV.out.trans (hb2.mono HV.out.size)); have j0 := blk_below K0.out hb2 hzV; have HJ := Lib.hid j0; have HP1 := Lib.hid (HP.out.below hb2 (Nat.le_refl _)); clear hb1 hb2 c0; (clear cf_0 ff_0 cf_1 ff_1 cf_2 ff_2 cf_3 ff_3 cf_4 ff_4); (have cg_0 := blk_cell j0 0 rfl; have fg_0 := blk_free j0 0; have cg_1 := blk_cell j0 1 rfl; have fg_1 := blk_free j0 1; have cg_2 := blk_cell j0 2 rfl; have fg_2 := blk_free j0 2; have cg_3 := blk_cell j0 3 rfl; have fg_3 := blk_free j0 3; have cg_4 := blk_cell j0 4 rfl; have fg_4 := blk_free j0 4; have lg := lt_of_block j0); clear j0; (have c0 := blk_cell HP1.out.blk 0 rfl)))))
    go_wp2_with fail
    refine (CH.out _ B7).mono ?_
    rintro e w' ⟨rfl, rfl⟩
    go_wp2_with fail
    refine (PA.out _ B7).mono ?_
    rintro e w2 ⟨rfl, hp2, hk2⟩
    have HK2 := Lib.hid (show Keeps (fun i => i = b ∨ i = c) w w2 from (Keeps.of_below (by first | exact HB1.out | exact below_drewN HB1.out _)).trans hk2 (fun _ _ h => .inl h))
    have j2 := blk_keep (show _ from HJ.out) (show Keeps (fun i => i = b) w1 w2 from by first | exact hk2 | exact ⟨hk2.os, hk2.tape, hk2.output, hk2.size, hk2.block⟩) Bq
    have HP2 := Lib.hid hp2
    have HJ2 := Lib.hid j2
    clear hk2 hp2 HP HP1 HB1 HV hzV K0 c0
    clear cg_0 fg_0 cg_1 fg_1 cg_2 fg_2 cg_3 fg_3 cg_4 fg_4
    have hk := HP2.out.blk
    simp only [pcl] at hk
    have c13 := blk_cell hk 13 rfl
    have f13 := blk_free hk 13
    clear hk j2
    go_upto_region 10 with fail
    generalize hW : World.setCell _ _ _ = W3
    have hp3 : IsP W3 base b c u := ⟨by rw [HU.out]; simp only [pcl]; rw [← hW]; have hk := HP2.out.blk; simp only [pcl] at hk; exact Aa, by rw [HU.out, ← hW]; exact Ck.clk_far HP2.out.clk (fun e => HP2.out.ne e.symm) _, HP2.out.ge⟩
    have hk3 : Keeps (fun i => i = b) w2 W3 := by rw [← hW]; (repeat (first | with_reducible exact Keeps.refl _ _ | (with_reducible refine Keeps.set1 ?_ _ _) | (with_reducible refine Keeps.drew ?_) | (with_reducible refine Keeps.drewN ?_ _) | (with_reducible refine Keeps.alloc ?_ _)))
    have HK3 := Lib.hid (HK2.out.trans hk3 (fun _ _ h => .inl h))
    have j3 := blk_keep HJ2.out hk3 Bq
    have HP3 := Lib.hid hp3
    have HJ3 := Lib.hid j3
    have hr3 := (prd_kept HR.out HK3.out (Nat.le_refl _) (fun a ha hh => by have := HA.out a ha; omega)).more HK3.out.size
    have HR3 := Lib.hid hr3
    clear hW hp3 hk3 HK2 HP2 HJ2 c13 f13 hr3
    have cg_0 := blk_cell j3 0 rfl; have fg_0 := blk_free j3 0; have cg_1 := blk_cell j3 1 rfl; have fg_1 := blk_free j3 1; have cg_2 := blk_cell j3 2 rfl; have fg_2 := blk_free j3 2; have cg_3 := blk_cell j3 3 rfl; have fg_3 := blk_free j3 3; have cg_4 := blk_cell j3 4 rfl; have fg_4 := blk_free j3 4; have lg := lt_of_block j3
    clear j3
    go_wp2_with fail
    refine (TK.out _ HP3.out HR3.out).mono ?_
    rintro e w4 ⟨rfl, hp4, hk4⟩
    have HK4 := Lib.hid (HK3.out.trans hk4 (fun _ _ h => h))
    have HP4 := Lib.hid hp4
    have j4 := blk_keep HJ3.out hk4 Bq
    have HJ4 := Lib.hid j4
    clear hp4 hk4 j4 HK3 HP3 HR3 HJ3
    clear cg_0 fg_0 cg_1 fg_1 cg_2 fg_2 cg_3 fg_3 cg_4 fg_4
    go_wp2_with fail
    refine (PB.out _ HP4.out).mono ?_
    rintro e w5 ⟨rfl, hp5, hk5⟩
    have HK5 := Lib.hid (HK4.out.trans hk5 (fun _ _ h => .inl h))
    have HP5 := Lib.hid hp5
    have j5 := blk_keep HJ4.out hk5 Bq
    clear hp5 hk5 HK4 HP4 HJ4
    have c0 := blk_cell HP5.out.blk 0 rfl
    have cg_0 := blk_cell j5 0 rfl; have fg_0 := blk_free j5 0; have cg_1 := blk_cell j5 1 rfl; have fg_1 := blk_free j5 1; have cg_2 := blk_cell j5 2 rfl; have fg_2 := blk_free j5 2; have cg_3 := blk_cell j5 3 rfl; have fg_3 := blk_free j5 3; have cg_4 := blk_cell j5 4 rfl; have fg_4 := blk_free j5 4; have lg := lt_of_block j5
    clear j5
    go_wp2_with fail
  · go_ret2
    exact ⟨_, rfl, Rof.nil _ _, HP5.out, HK5.out⟩
  · have hz5 : w.heap.size ≤ w5.heap.size := HK5.out.size
    rw [HID.out] at c0
    (go_region_held3 (fun w' => w'.cell? ⟨b, 0, none⟩ = some (.int .i64 s.id) ∧ w'.cell? ⟨w.heap.size, 3, none⟩ = some (.int .i64 q) ∧ w'.cell? ⟨w.heap.size, 0, none⟩ = some (.int .i64 k)) (first | (refine ⟨?_, ?_, ?_⟩ <;> simp [go_sem, *]; done) | go_keep) (fail))
    go_wp2_with fail
    go_ret2
    exact ⟨_, rfl, rof_one (g1 := w5.heap.size) (g2 := w5.heap.size + 1) (blk_alloc (heap_new _ _) _) (heap_new' _ _ _ C9) hk255 Cb Cb, by first | exact ((HP5.out.alloc _).alloc _).drew | exact (HP5.out.alloc _).alloc _, by first | exact ((HK5.out.alloc _).alloc _).drew | exact (HK5.out.alloc _).alloc _⟩
end
end Go.Proofs.YtdocdgcdldpagaaGreat

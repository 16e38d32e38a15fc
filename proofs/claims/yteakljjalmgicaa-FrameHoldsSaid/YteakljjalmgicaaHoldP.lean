/- Encodings in plain numbers: they are read again, not with one byte changed, and found in a stream (no program in sight). -/
import Derived.Test.YteakljjalmgicaaDecU
namespace Go.Proofs.Yteakljjalmgicaa
set_option maxHeartbeats 4000000
set_option linter.unusedSimpArgs false
set_option linter.unusedVariables false
namespace Frm
theorem xor_cancel {a b c : Nat} (h : a ^^^ c = b ^^^ c) : a = b := by
  have := congrArg (· ^^^ c) h
  simpa [Nat.xor_assoc] using this
theorem xor_cancel' {a b c : Nat} (h : c ^^^ a = c ^^^ b) : a = b := by
  rw [Nat.xor_comm c a, Nat.xor_comm c b] at h; exact xor_cancel h
theorem odd_xor (x : Nat) : (x * 2 % 65536 ^^^ 4129) % 2 = 1 := by
  rw [show (2 : Nat) = 2 ^ 1 from rfl, Nat.xor_mod_two_pow]
  rw [show x * 2 ^ 1 % 65536 % 2 ^ 1 = 0 by omega]
  rfl
theorem step_inj {a b : Nat} (ha : a < 65536) (hb : b < 65536) (h : step a = step b) : a = b := by
  unfold step at h
  by_cases h1 : a / 32768 = 1 <;> by_cases h2 : b / 32768 = 1
  · rw [if_pos h1, if_pos h2] at h
    have := xor_cancel h; omega
  · rw [if_pos h1, if_neg h2] at h
    have := odd_xor a; omega
  · rw [if_neg h1, if_pos h2] at h
    have := odd_xor b; omega
  · rw [if_neg h1, if_neg h2] at h; omega
theorem iter_inj {a b : Nat} (ha : a < 65536) (hb : b < 65536) : ∀ j, iter j a = iter j b → a = b
  | 0, h => h
  | j + 1, h => iter_inj ha hb j (step_inj (iter_lt ha j) (iter_lt hb j) h)
theorem byteN_c {c d y : Nat} (hc : c < 65536) (hd : d < 65536) (hy : y < 256) (h : byteN c y = byteN d y) : c = d :=
  xor_cancel (iter_inj (xor_lt hc (by omega)) (xor_lt hd (by omega)) 8 h)
theorem byteN_y {c x y : Nat} (hc : c < 65536) (hx : x < 256) (hy : y < 256) (h : byteN c x = byteN c y) : x = y := by
  have := xor_cancel' (iter_inj (xor_lt hc (by omega)) (xor_lt hc (by omega)) 8 h)
  omega
theorem fold_inj : ∀ (l : List Int), By l → ∀ c d, c < 65536 → d < 65536 → l.foldl (fun c y => byteN c y.toNat) c = l.foldl (fun c y => byteN c y.toNat) d → c = d
  | [], _, _, _, _, _, h => h
  | x :: t, hb, c, d, hc, hd, h => by
    have hx := hb x (by simp)
    exact byteN_c hc hd (by omega) (fold_inj t (fun y hy => hb y (by simp [hy])) _ _ (byteN_lt hc (by omega)) (byteN_lt hd (by omega)) h)
theorem crc_mid {p q : List Int} {x y : Int} (hp : By p) (hq : By q) (hx : 0 ≤ x ∧ x < 256) (hy : 0 ≤ y ∧ y < 256) (h : crcN (p ++ x :: q) = crcN (p ++ y :: q)) : x = y := by
  simp only [crcN, List.foldl_append, List.foldl_cons] at h
  have hc := foldl_lt p hp 65535 (by decide)
  have h1 := fold_inj q hq _ _ (byteN_lt hc (by omega)) (byteN_lt hc (by omega)) h
  have h2 := byteN_y hc (by omega) (by omega) h1
  omega
/-- the encoding of a frame, as data -/
def encF (y : Fr) : List Int := enc y.k y.f y.t y.s y.d
def okF (y : Fr) : Prop := vd y.k y.f y.t y.s y.d.length = true ∧ By y.d
def bodF (y : Fr) : List Int := body y.k y.f y.t y.s y.d
def cF (y : Fr) : Nat := crcN (bodF y)
theorem encF_eq (y : Fr) : encF y = 213 :: 76 :: (bodF y ++ [(cF y : Int) / 256, (cF y : Int) % 256]) := rfl
theorem bodF_eq (y : Fr) : bodF y = y.k :: y.f :: y.t :: (y.s / 256) :: (y.s % 256) :: (y.d.length : Int) :: y.d := rfl
theorem bodF_len (y : Fr) : (bodF y).length = y.d.length + 6 := by simp [bodF_eq]
theorem encF_len (y : Fr) : (encF y).length = 10 + y.d.length := by simp [encF_eq, bodF_len]; omega
theorem bodF_by {y : Fr} (h : okF y) : By (bodF y) := body_by h.1 h.2
theorem cF_lt {y : Fr} (h : okF y) : cF y < 65536 := crcN_lt (bodF_by h)
theorem encF_by {y : Fr} (h : okF y) : By (encF y) := by
  have hc := cF_lt h
  have hb := bodF_by h
  intro x hx
  rw [encF_eq] at hx
  simp only [List.mem_cons, List.mem_append, List.not_mem_nil, or_false] at hx
  rcases hx with h1 | h1 | h1 | h1 | h1
  · omega
  · omega
  · exact hb x h1
  · omega
  · omega
/-- what a decoding without an error says of the bytes -/
theorem dE_conv {l : List Int} (h : dE l = 0) : (l.getD 0 0 = 213 ∧ l.getD 1 0 = 76 ∧ l.getD 7 0 ≤ 64) ∧ l.length = 10 + dm l ∧ ((dsum l : Nat) : Int) = 256 * l.getD (dm l + 8) 0 + l.getD (dm l + 9) 0 := by
  have hl := dE_len h
  unfold dE at h
  by_cases h1 : l.length < 10
  · rw [if_pos h1] at h; omega
  · rw [if_neg h1] at h
    by_cases h2 : ¬ (l.getD 0 0 = 213 ∧ l.getD 1 0 = 76 ∧ l.getD 7 0 ≤ 64)
    · rw [if_pos h2] at h; omega
    · rw [if_neg h2, if_neg (by omega), if_neg (by omega)] at h
      by_cases h3 : ((dsum l : Nat) : Int) ≠ 256 * l.getD (dm l + 8) 0 + l.getD (dm l + 9) 0
      · rw [if_pos h3] at h; omega
      · exact ⟨by simpa using h2, hl, by simpa using h3⟩
theorem enc_dm {y : Fr} (r : List Int) : dm (encF y ++ r) = y.d.length := by simp [dm, encF_eq, bodF_eq]
theorem enc_sub (y : Fr) : ((encF y).drop 2).take (y.d.length + 6) = bodF y := by
  rw [encF_eq, ← bodF_len]
  simp
theorem getD_app (p q : List Int) (i : Nat) (h : p.length ≤ i) : (p ++ q).getD i 0 = q.getD (i - p.length) 0 := by
  simp [List.getD, List.getElem?_append_right h]
theorem enc_c1 (y : Fr) : (encF y).getD (y.d.length + 8) 0 = (cF y : Int) / 256 := by
  rw [show encF y = ([213, 76] ++ bodF y) ++ [(cF y : Int) / 256, (cF y : Int) % 256] from rfl, getD_app _ _ _ (by simp [bodF_len])]
  simp [bodF_len]
theorem enc_c2 (y : Fr) : (encF y).getD (y.d.length + 9) 0 = (cF y : Int) % 256 := by
  rw [show encF y = ([213, 76] ++ bodF y) ++ [(cF y : Int) / 256, (cF y : Int) % 256] from rfl, getD_app _ _ _ (by simp [bodF_len])]
  rw [show y.d.length + 9 - (([213, 76] : List Int) ++ bodF y).length = 1 by simp [bodF_len]]
  rfl
theorem enc_dS {y : Fr} (h : okF y) : dS (encF y) = y.s := by
  simp [dS, encF_eq, bodF_eq]; omega
theorem enc_dd (y : Fr) : dd (encF y) = y.d := by
  have hm : dm (encF y) = y.d.length := by simpa using enc_dm (y := y) []
  rw [dd, hm]
  simp [encF_eq, bodF_eq]
theorem enc_dE {y : Fr} (h : okF y) : dE (encF y) = 0 := by
  have hm : dm (encF y) = y.d.length := by simpa using enc_dm (y := y) []
  have hv := vd_bd h.1
  refine dE_0 ⟨rfl, rfl, ?_⟩ ?_ ?_ ?_
  · simp [encF_eq, bodF_eq]; omega
  · rw [encF_len, hm]
  · rw [dsum, hm, enc_sub, enc_c1, enc_c2]
    show ((cF y : Nat) : Int) = _
    omega
  · rw [enc_dS h, hm]
    simpa [encF_eq, bodF_eq] using h.1
theorem enc_toFr {y : Fr} (h : okF y) : toFr (encF y) = y := by
  rw [toFr, enc_dS h, enc_dd]
  rfl
theorem getD_set {l : List Int} {i j : Nat} {v : Int} (h : i ≠ j) : (l.set j v).getD i 0 = l.getD i 0 := by
  simp [List.getD, List.getElem?_set_ne (Ne.symm h)]
theorem getD_set_eq {l : List Int} {j : Nat} {v : Int} (h : j < l.length) : (l.set j v).getD j 0 = v := by
  simp [List.getD, List.getElem?_set_self h]
/-- no encoding with one byte changed is read -/
theorem enc_flip {y : Fr} (h : okF y) {j : Nat} (hj : j < (encF y).length) {v : Int} (hv : 0 ≤ v ∧ v < 256) (hne : v ≠ (encF y).getD j 0) : dE ((encF y).set j v) ≠ 0 := by
  intro hd
  obtain ⟨⟨g0, g1, g7⟩, hl, hc⟩ := dE_conv hd
  have hel := encF_len y
  have hby := encF_by h
  have hv' := vd_bd h.1
  rw [List.length_set, hel] at hl
  have hm : dm ((encF y).set j v) = y.d.length := by omega
  rw [hm] at hc
  have hm7 : ((encF y).set j v).getD 7 0 = (y.d.length : Int) := by
    have h0 : 0 ≤ ((encF y).set j v).getD 7 0 := by
      by_cases e : 7 = j
      · subst e; rw [getD_set_eq hj]; exact hv.1
      · rw [getD_set e]; exact (hby.at_ 7).1
    have : (((encF y).set j v).getD 7 0).toNat = y.d.length := hm
    omega
  have e7 : (encF y).getD 7 0 = (y.d.length : Int) := by simp [encF_eq, bodF_eq]
  have j0 : j ≠ 0 := fun e => by subst e; rw [getD_set_eq hj] at g0; exact hne g0
  have j1 : j ≠ 1 := fun e => by subst e; rw [getD_set_eq hj] at g1; exact hne g1
  have j7 : j ≠ 7 := fun e => by subst e; rw [getD_set_eq hj] at hm7; rw [e7] at hne; exact hne hm7
  have hcl := cF_lt h
  have hds : (dsum (encF y) : Nat) = cF y := by
    have hm' : dm (encF y) = y.d.length := by simpa using enc_dm (y := y) []
    rw [dsum, hm', enc_sub]; rfl
  by_cases hj8 : j < y.d.length + 8
  · have hc1 : ((encF y).set j v).getD (y.d.length + 8) 0 = (cF y : Int) / 256 := by rw [getD_set (by omega), enc_c1]
    have hc2 : ((encF y).set j v).getD (y.d.length + 9) 0 = (cF y : Int) % 256 := by rw [getD_set (by omega), enc_c2]
    rw [hc1, hc2] at hc
    have hds' : dsum ((encF y).set j v) = crcN ((bodF y).set (j - 2) v) := by
      rw [dsum, hm]
      congr 1
      rw [encF_eq]
      rw [show j = (j - 2) + 2 by omega]
      simp only [List.set_cons_succ, List.drop_succ_cons, List.drop_zero]
      rw [List.set_append_left _ _ (by rw [bodF_len]; omega), ← bodF_len]
      have : ((bodF y).set (j - 2 + 2 - 2) v).length = (bodF y).length := by simp
      rw [show j - 2 + 2 - 2 = j - 2 by omega] at *
      rw [show (bodF y).length = ((bodF y).set (j - 2) v).length by simp]
      exact List.take_left
    rw [hds'] at hc
    have heq : crcN ((bodF y).set (j - 2) v) = crcN (bodF y) := by
      have : ((cF y : Nat) : Int) = crcN (bodF y) := rfl
      omega
    have hjb : j - 2 < (bodF y).length := by rw [bodF_len]; omega
    have hbb := bodF_by h
    have hsplit : bodF y = (bodF y).take (j - 2) ++ (bodF y)[j - 2] :: (bodF y).drop (j - 2 + 1) := by
      rw [← List.drop_eq_getElem_cons hjb, List.take_append_drop]
    have hset : (bodF y).set (j - 2) v = (bodF y).take (j - 2) ++ v :: (bodF y).drop (j - 2 + 1) := List.set_eq_take_append_cons_drop .. |>.trans (by rw [if_pos hjb])
    rw [hset] at heq
    have heq2 := heq.trans (congrArg crcN hsplit)
    have hx := crc_mid (fun z hz => hbb z (List.mem_of_mem_take hz)) (fun z hz => hbb z (List.mem_of_mem_drop hz)) hv (hbb _ (List.getElem_mem hjb)) heq2
    apply hne
    rw [hx]
    obtain ⟨i, rfl⟩ : ∃ i, j = i + 2 := ⟨j - 2, by omega⟩
    simp only [Nat.add_sub_cancel] at hjb ⊢
    rw [encF_eq]
    simp only [List.getD_cons_succ]
    simp [List.getD, List.getElem?_append_left hjb, List.getElem?_eq_getElem hjb]
  · have hds' : dsum ((encF y).set j v) = cF y := by
      rw [dsum, hm]
      show crcN _ = crcN _
      congr 1
      rw [← enc_sub y]
      apply List.ext_getElem?
      intro i
      by_cases hi : i < y.d.length + 6
      · rw [List.getElem?_take_of_lt hi, List.getElem?_take_of_lt hi, List.getElem?_drop, List.getElem?_drop, List.getElem?_set_ne (by omega)]
      · rw [List.getElem?_eq_none (by simp; omega), List.getElem?_eq_none (by simp; omega)]
    rw [hds'] at hc
    by_cases e8 : j = y.d.length + 8
    · subst e8
      rw [getD_set_eq hj, getD_set (by omega), enc_c2] at hc
      rw [enc_c1] at hne
      omega
    · obtain rfl : j = y.d.length + 9 := by omega
      rw [getD_set_eq hj, getD_set (by omega), enc_c1] at hc
      rw [enc_c2] at hne
      omega
/-- where no 213 stands, no frame begins -/
theorem scan_skip {l : List Int} {i : Nat} (h : i < l.length) (hne : l.getD i 0 ≠ 213) : scan l i = scan l (i + 1) := by
  have h0 : (l.drop i).getD 0 0 = l.getD i 0 := by simp [List.getD, List.getElem?_drop]
  refine scan_none h (opB_a (by rw [List.length_drop]; omega) (by rw [h0]; exact hne)) ?_
  by_cases hs : (l.drop i).length < 10 ∨ (l.drop i).length < 10 + dm (l.drop i)
  · exact frAt_short hs
  · refine frAt_no ?_
    rw [dE_2]
    · decide
    · rw [List.length_take]; omega
    · intro hh
      rw [getD_take (by omega), h0] at hh
      exact hne hh.1
theorem scan_enc {l : List Int} {i : Nat} {y : Fr} {r : List Int} (hy : okF y) (h : l.drop i = encF y ++ r) : scan l i = (y :: (scan l (i + 10 + y.d.length)).1, (scan l (i + 10 + y.d.length)).2) := by
  have hlen : (l.drop i).length = 10 + y.d.length + r.length := by rw [h, List.length_append, encF_len]
  rw [List.length_drop] at hlen
  have hv := vd_bd hy.1
  have h7 : (l.drop i).getD 7 0 = (y.d.length : Int) := by rw [h]; simp [encF_eq, bodF_eq]
  have hd : dm (l.drop i) = y.d.length := by rw [h]; exact enc_dm r
  have ht : (l.drop i).take (10 + y.d.length) = encF y := by rw [h, ← encF_len]; exact List.take_left
  refine scan_some (by omega) ?_ ?_
  · rw [opB_l (by rw [List.length_drop]; omega) (by rw [h]; rfl) (by rw [h]; rfl), h7, decide_eq_false_iff_not, List.length_drop]
    omega
  · rw [frAt_yes (by rw [List.length_drop]; omega) (by rw [hd, List.length_drop]; omega) (by rw [hd, ht]; exact enc_dE hy), hd, ht, enc_toFr hy]
/-- pieces of a stream: bytes between, and an encoding -/
def flat (ps : List (List Int × Fr)) : List Int := ps.flatMap fun p => p.1 ++ encF p.2
theorem scan_junk : ∀ (j : List Int) (l : List Int) (i : Nat) (r : List Int), (∀ x ∈ j, x ≠ 213) → l.drop i = j ++ r → scan l i = scan l (i + j.length)
  | [], _, _, _, _, _ => rfl
  | x :: j, l, i, r, hj, h => by
    have hlen := congrArg List.length h
    rw [List.length_drop, List.length_append, List.length_cons] at hlen
    have hx : l.getD i 0 = x := by
      have h0 : (l.drop i).getD 0 0 = l.getD i 0 := by simp [List.getD, List.getElem?_drop]
      rw [← h0, h]; rfl
    rw [scan_skip (by omega) (by rw [hx]; exact hj x (by simp))]
    have hd : l.drop (i + 1) = j ++ r := by
      rw [← List.drop_drop, h]; rfl
    rw [scan_junk j l (i + 1) r (fun z hz => hj z (by simp [hz])) hd, List.length_cons]
    congr 1
    omega
theorem scan_flat : ∀ (ps : List (List Int × Fr)) (l : List Int) (i : Nat), (∀ p ∈ ps, (∀ x ∈ p.1, x ≠ 213) ∧ okF p.2) → l.drop i = flat ps → i ≤ l.length → scan l i = (ps.map (·.2), l.length)
  | [], l, i, _, h, hi => by
    have hlen := congrArg List.length h
    rw [List.length_drop] at hlen
    have h0 : (flat []).length = 0 := rfl
    rw [scan_end (by omega)]
    have : i = l.length := by omega
    rw [this]; rfl
  | (j, y) :: ps, l, i, hp, h, hi => by
    obtain ⟨hj, hy⟩ := hp (j, y) (by simp)
    have h' : l.drop i = j ++ (encF y ++ flat ps) := by rw [h]; simp [flat]
    have hlen := congrArg List.length h'
    rw [List.length_drop, List.length_append, List.length_append, encF_len] at hlen
    rw [scan_junk j l i _ hj h']
    have hd : l.drop (i + j.length) = encF y ++ flat ps := by rw [← List.drop_drop, h']; simp
    rw [scan_enc hy hd]
    have hd2 : l.drop (i + j.length + 10 + y.d.length) = flat ps := by
      rw [show i + j.length + 10 + y.d.length = (i + j.length) + (10 + y.d.length) by omega, ← List.drop_drop, hd, ← encF_len]
      simp
    rw [scan_flat ps l _ (fun p hp' => hp p (by simp [hp'])) hd2 (by omega)]
    rfl
end Frm
end Go.Proofs.Yteakljjalmgicaa

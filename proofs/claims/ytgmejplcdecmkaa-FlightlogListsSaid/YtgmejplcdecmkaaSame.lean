/- Equal bytes, equal frames. -/
import Derived.Test.YtgmejplcdecmkaaSum
import Derived.Laws.BytesArg
namespace Go.Proofs.Ytgmejplcdecmkaa
open Go.RowKit
set_option maxHeartbeats 4000000
set_option linter.unusedSimpArgs false
set_option linter.unusedVariables false
theorem ofNat_inj {x y : Int} (hx : 0 ≤ x ∧ x < 256) (hy : 0 ≤ y ∧ y < 256) (h : UInt8.ofNat x.toNat = UInt8.ofNat y.toNat) : x = y := by
  have := congrArg UInt8.toNat h
  simp at this
  omega
theorem nums_inj : ∀ {l m : List Int}, By l → By m → l.map (fun n => UInt8.ofNat n.toNat) = m.map (fun n => UInt8.ofNat n.toNat) → l = m
  | [], [], _, _, _ => rfl
  | [], y :: m, _, _, h => by simp at h
  | x :: l, [], _, _, h => by simp at h
  | x :: l, y :: m, h1, h2, h => by
    simp only [List.map_cons, List.cons.injEq] at h
    rw [ofNat_inj (h1 x (by simp)) (h2 y (by simp)) h.1, nums_inj (fun z hz => h1 z (by simp [hz])) (fun z hz => h2 z (by simp [hz])) h.2]
theorem str_inj {l m : List Int} (h1 : By l) (h2 : By m) (h : strOfNums l = strOfNums m) : l = m := by
  apply nums_inj h1 h2
  rw [← strOfNums_data, ← strOfNums_data, h]
theorem toList_loop (bs : ByteArray) : ∀ (n i : Nat) (r : List UInt8), bs.size - i = n → ByteArray.toList.loop bs i r = r.reverse ++ bs.data.toList.drop i := by
  intro n
  induction n with
  | zero =>
    intro i r h
    unfold ByteArray.toList.loop
    have hs : bs.size = bs.data.toList.length := by show bs.data.size = _; simp
    rw [if_neg (by omega), List.drop_eq_nil_of_le (by omega), List.append_nil]
  | succ n ih =>
    intro i r h
    unfold ByteArray.toList.loop
    have hs : bs.size = bs.data.toList.length := by show bs.data.size = _; simp
    have hi : i < bs.data.toList.length := by omega
    rw [if_pos (by omega), ih (i + 1) _ (by omega), List.drop_eq_getElem_cons hi]
    have : bs.get! i = bs.data.toList[i] := by
      show bs.data[i]! = _
      rw [getElem!_pos bs.data i (by simpa using hi)]
      simp
    simp [this]
theorem toList_data (bs : ByteArray) : bs.toList = bs.data.toList := by
  unfold ByteArray.toList
  rw [toList_loop bs _ 0 [] rfl]
  simp
theorem str_eq {l m : List Int} (h1 : By l) (h2 : By m) : ((strOfNums l).toList == (strOfNums m).toList) = decide (l = m) := by
  rw [toList_data, toList_data, strOfNums_data, strOfNums_data]
  by_cases h : l = m
  · subst h; simp
  · have : ¬ l.map (fun n => UInt8.ofNat n.toNat) = m.map (fun n => UInt8.ofNat n.toNat) := fun e => h (nums_inj h1 h2 e)
    simp only [h, decide_false, beq_eq_false_iff_ne, ne_eq]
    exact this
theorem str_of {w : World} {B : Nat} {A : Option Addr} {n : Nat} {l : List Int} (h : Rd w B A n l) (cap : Nat) : (convert 28 9 (.slice A n cap)).run Try.prog w = .ok (.string (strOfNums l)) w := by
  obtain ⟨hl, hb, hr⟩ := h
  rcases Nat.eq_zero_or_pos n with h0 | h0
  · subst h0
    obtain rfl : l = [] := List.eq_nil_of_length_eq_zero hl
    cases A with
    | none => exact run_convert_bytes_nil w _ _ Try.underlying28 Try.underlying5 _ _ _ Try.underlying9
    | some x =>
      rw [run_convert_bytes_string w _ _ _ _ 0 cap Try.underlying28 Try.underlying5 Try.underlying9]
      rw [run_bytesToString w x 0 cap [] (by simp [loadCells, loadCellsFrom, Sem.run_pure])]
      simp [strOfNums, ByteArray.empty, ByteArray.emptyWithCapacity]
      try rfl
  · obtain ⟨b, o, rfl, _, hc⟩ := hr h0
    exact run_convert_bytes_arg w _ _ Try.underlying28 Try.underlying5 b o n cap l hl hc _ Try.underlying9
theorem sameb_any (A C : Option Addr) (n m cap caq : Nat) (l k : List Int) (w : World) (h : Rd w w.heap.size A n l) (g : Rd w w.heap.size C m k) :
    Calls Try.prog 81 #[.slice A n cap, .slice C m caq] w fun e w' => e = .returned (.bool (decide (l = k))) ∧ w = w' := by
  have h1 := str_of h cap
  have h2 := str_of g caq
  go_enter Try.func81, Try.ntmps81
  go_wp2_with fail
  go_ret
  exact ⟨ret_bool (str_eq h.2.1 g.2.1), rfl⟩
/-- two frames are equal -/
def sameB (k f t s k' f' t' s' : Int) (l m : List Int) : Bool := decide (k = k' ∧ f = f' ∧ t = t' ∧ s = s' ∧ l = m)
theorem beq_ff {a b : Int} (h : a ≠ b) : (a == b) = false := by rw [beq_eq_false_iff_ne]; exact h
theorem same_any (k f t s k' f' t' s' : Int) (A C : Option Addr) (n m cap caq : Nat) (l l' : List Int) (w : World) (h : Rd w w.heap.size A n l) (g : Rd w w.heap.size C m l') :
    Calls Try.prog 65 #[.agg #[.int .i64 k, .int .i64 f, .int .i64 t, .int .i64 s, .slice A n cap], .agg #[.int .i64 k', .int .i64 f', .int .i64 t', .int .i64 s', .slice C m caq]] w
      fun e w' => e = .returned (.bool (sameB k f t s k' f' t' s' l l')) ∧ Below w.heap.size w w' := by
  have H := Lib.hid h
  have G := Lib.hid g
  clear h g
  by_cases e1 : k = k'
  · subst e1
    by_cases e2 : f = f'
    · subst e2
      by_cases e3 : t = t'
      · subst e3
        by_cases e4 : s = s'
        · subst e4
          have E := Lib.hid (show sameB k f t s k f t s l l' = decide (l = l') by simp [sameB])
          go_enter Try.func65, Try.ntmps65
          go_wp2_with fail
          refine (sameb_any A C n m cap caq l l' _ (Rd.more (Rd.alloc (Rd.alloc H.out (Nat.le_refl _) _) (by simp) _) (by simp; omega)) (Rd.more (Rd.alloc (Rd.alloc G.out (Nat.le_refl _) _) (by simp) _) (by simp; omega))).mono ?_
          rintro e w' ⟨rfl, rfl⟩
          go_wp2_with fail
          go_ret
          exact ⟨ret_bool E.out.symm, (by repeat (first | (with_reducible exact Below.refl _ _) | (with_reducible refine Below.drew ?_) | (with_reducible refine below_drewN ?_ _) | ((with_reducible refine Below.alloc ?_ ?_ _); rotate_left; (first | omega | (simp <;> omega)); rotate_right) | ((with_reducible refine Below.setCell ?_ ?_ _); rotate_left; (first | omega | (simp <;> omega)); rotate_right) | (with_reducible assumption) | (refine Below.trans ?_ (Below.mono (by assumption) ?_); rotate_left; (first | omega | (simp <;> omega)); rotate_right)))⟩
        · have E := Lib.hid (show sameB k f t s k f t s' l l' = false by simp [sameB, e4])
          have z := beq_ff e4
          clear e4
          go_enter Try.func65, Try.ntmps65
          go_wp2_with fail
          go_ret
          exact ⟨ret_bool E.out.symm, (by repeat (first | (with_reducible exact Below.refl _ _) | (with_reducible refine Below.drew ?_) | (with_reducible refine below_drewN ?_ _) | ((with_reducible refine Below.alloc ?_ ?_ _); rotate_left; (first | omega | (simp <;> omega)); rotate_right) | ((with_reducible refine Below.setCell ?_ ?_ _); rotate_left; (first | omega | (simp <;> omega)); rotate_right) | (with_reducible assumption) | (refine Below.trans ?_ (Below.mono (by assumption) ?_); rotate_left; (first | omega | (simp <;> omega)); rotate_right)))⟩
      · have E := Lib.hid (show sameB k f t s k f t' s' l l' = false by simp [sameB, e3])
        have z := beq_ff e3
        clear e3
        go_enter Try.func65, Try.ntmps65
        go_wp2_with fail
        go_ret
        exact ⟨ret_bool E.out.symm, (by repeat (first | (with_reducible exact Below.refl _ _) | (with_reducible refine Below.drew ?_) | (with_reducible refine below_drewN ?_ _) | ((with_reducible refine Below.alloc ?_ ?_ _); rotate_left; (first | omega | (simp <;> omega)); rotate_right) | ((with_reducible refine Below.setCell ?_ ?_ _); rotate_left; (first | omega | (simp <;> omega)); rotate_right) | (with_reducible assumption) | (refine Below.trans ?_ (Below.mono (by assumption) ?_); rotate_left; (first | omega | (simp <;> omega)); rotate_right)))⟩
    · have E := Lib.hid (show sameB k f t s k f' t' s' l l' = false by simp [sameB, e2])
      have z := beq_ff e2
      clear e2
      go_enter Try.func65, Try.ntmps65
      go_wp2_with fail
      go_ret
      exact ⟨ret_bool E.out.symm, (by repeat (first | (with_reducible exact Below.refl _ _) | (with_reducible refine Below.drew ?_) | (with_reducible refine below_drewN ?_ _) | ((with_reducible refine Below.alloc ?_ ?_ _); rotate_left; (first | omega | (simp <;> omega)); rotate_right) | ((with_reducible refine Below.setCell ?_ ?_ _); rotate_left; (first | omega | (simp <;> omega)); rotate_right) | (with_reducible assumption) | (refine Below.trans ?_ (Below.mono (by assumption) ?_); rotate_left; (first | omega | (simp <;> omega)); rotate_right)))⟩
  · have E := Lib.hid (show sameB k f t s k' f' t' s' l l' = false by simp [sameB, e1])
    have z := beq_ff e1
    clear e1
    go_enter Try.func65, Try.ntmps65
    go_wp2_with fail
    go_ret
    exact ⟨ret_bool E.out.symm, (by repeat (first | (with_reducible exact Below.refl _ _) | (with_reducible refine Below.drew ?_) | (with_reducible refine below_drewN ?_ _) | ((with_reducible refine Below.alloc ?_ ?_ _); rotate_left; (first | omega | (simp <;> omega)); rotate_right) | ((with_reducible refine Below.setCell ?_ ?_ _); rotate_left; (first | omega | (simp <;> omega)); rotate_right) | (with_reducible assumption) | (refine Below.trans ?_ (Below.mono (by assumption) ?_); rotate_left; (first | omega | (simp <;> omega)); rotate_right)))⟩
end Go.Proofs.Ytgmejplcdecmkaa

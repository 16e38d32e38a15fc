/- PutNumbers. -/
import Derived.Test.YtgmejplcdecmkaaInts
import Derived.Test.YtgmejplcdecmkaaREnc
namespace Go.Proofs.Ytgmejplcdecmkaa
open Go.RowKit
set_option maxHeartbeats 4000000
set_option maxRecDepth 100000
set_option linter.unusedSimpArgs false
set_option linter.unusedVariables false
namespace Frm
/-- a number that can be encoded -/
def okN (x : Int) : Bool := inB x 0 4294967295
def okAll (l : List Int) : Bool := l.all okN
/-- the four bytes of a number -/
def num4 (x : Int) : List Int := [x / 16777216, x / 65536 % 256, x / 256 % 256, x % 256]
def pn : List Int → List Int
  | [] => []
  | x :: l => num4 x ++ pn l
theorem pn_append (l m : List Int) : pn (l ++ m) = pn l ++ pn m := by
  induction l with
  | nil => rfl
  | cons x t ih => simp [pn, ih]
theorem pn_len (l : List Int) : (pn l).length = 4 * l.length := by
  induction l with
  | nil => rfl
  | cons x t ih => simp [pn, num4, ih]; omega
theorem okN_iff {x : Int} : okN x = true ↔ 0 ≤ x ∧ x ≤ 4294967295 := inB_iff
theorem num4_by {x : Int} (h : okN x = true) : By (num4 x) := by
  rw [okN_iff] at h
  intro y hy
  simp [num4] at hy
  omega
theorem pn_by {l : List Int} (h : okAll l = true) : By (pn l) := by
  induction l with
  | nil => intro x hx; cases hx
  | cons x t ih =>
    simp [okAll] at h
    exact By.append (num4_by h.1) (ih (by simpa [okAll] using h.2))
theorem okAll_at {l : List Int} (h : okAll l = true) {j : Nat} (hj : j < l.length) : okN (l.getD j 0) = true := by
  rw [okAll, List.all_eq_true] at h
  have := h _ (List.getElem_mem hj)
  simpa [List.getD, List.getElem?_eq_getElem hj] using this
theorem okAll_take {l : List Int} (h : okAll l = true) (j : Nat) : okAll (l.take j) = true := by
  rw [okAll, List.all_eq_true] at h ⊢
  exact fun x hx => h x (List.mem_of_mem_take hx)
end Frm
theorem put1 (x : Int) (w : World) : Calls Try.prog 86 #[.int .i64 x] w fun e w' => e = .returned (.bool (!Frm.okN x)) ∧ w = w' := by
  go_enter Try.func86, Try.ntmps86
  go_wp2_with fail
  refine (fwithin_any _ _ _ _).mono ?_
  rintro e w1 ⟨rfl, rfl⟩
  go_wp2_with fail
  go_ret
  exact ⟨rfl, rfl⟩
theorem put1_is (x : Int) (r : Bool) (w : World) (h : Frm.okN x = !r) : Calls Try.prog 86 #[.int .i64 x] w fun e w' => e = .returned (.bool r) ∧ w = w' := by
  have := put1 x w
  rw [h, Bool.not_not] at this
  exact this
/-- what IndexFunc answers -/
def IPost (l : List Int) (e : Ending) : Prop := (Frm.okAll l = true ∧ e = .returned (.int .i64 (-1))) ∨ (Frm.okAll l = false ∧ ∃ r : Nat, r < l.length ∧ e = .returned (.int .i64 r))
theorem index_any (A : Option Addr) (n cap : Nat) (l : List Int) (w : World) (hn : n ≤ 140737488355328) (h : Ri w w.heap.size A n l) :
    Calls Try.prog 90 #[.slice A n cap, .func (.func 86) #[] #[]] w fun e w' => IPost l e ∧ w = w' := by
  obtain ⟨hl, hb, hr⟩ := h
  have HL := Lib.hid hl
  clear hl hb
  go_enter Try.func90, Try.ntmps90
  go_wp2_with fail
  go_loop [8] (fun s => ∃ (j : Nat), s = .int .i64 j ∧ j ≤ n ∧ Hid (∀ i, i < j → Frm.okN (l.getD i 0) = true)) (fun s => n - (intOf s).toNat)
  case atStart => exact ⟨0, by go_num, by omega, Lib.hid (fun i hi => absurd hi (by omega))⟩
  case round =>
    obtain ⟨j, rfl, hj, HA⟩ := hrel
    by_cases hlt : j < n
    · obtain ⟨b, o, rfl, hbl, hcl⟩ := hr (by omega)
      have c1 := hcl j hlt
      obtain ⟨x, hx⟩ : ∃ x, l.getD j 0 = x := ⟨_, rfl⟩
      rw [hx] at c1
      have HX := Lib.hid hx
      clear hr hcl hx
      cases ho : Frm.okN x
      · have P := Lib.hid (fun W : World => put1_is x true W (by simp [ho]))
        have E := Lib.hid (show Frm.okAll l = false by
          rw [Frm.okAll, List.all_eq_false]
          have hjl : j < l.length := by rw [HL.out]; exact hlt
          refine ⟨l[j], List.getElem_mem hjl, ?_⟩
          have : l[j] = x := by rw [← HX.out]; simp [List.getD, List.getElem?_eq_getElem hjl]
          rw [this, ho]; simp)
        have hjl := Lib.hid (show j < l.length by rw [HL.out]; exact hlt)
        clear ho
        go_wp2_with fail
        refine (P.out _).mono ?_
        rintro e w1 ⟨rfl, rfl⟩
        go_wp2_with fail
        go_ret
        exact ⟨.inr ⟨E.out, j, hjl.out, rfl⟩, rfl⟩
      · have P := Lib.hid (fun W : World => put1_is x false W (by simp [ho]))
        have E := Lib.hid (show ∀ i, i < j + 1 → Frm.okN (l.getD i 0) = true from fun i hi => by
          rcases Nat.lt_or_ge i j with h | h
          · exact HA.out i h
          · obtain rfl : i = j := by omega
            rw [HX.out, ho])
        clear ho HA
        go_wp2_with fail
        refine (P.out _).mono ?_
        rintro e w1 ⟨rfl, rfl⟩
        go_wp2_with fail
        go_round
        case rel => exact ⟨j + 1, by go_num, by omega, E⟩
        case measure => simp [intOf]; omega
    · obtain rfl : j = n := by omega
      have E := Lib.hid (show Frm.okAll l = true by
        rw [Frm.okAll, List.all_eq_true]
        intro x hx
        obtain ⟨i, hi, rfl⟩ := List.getElem_of_mem hx
        have := HA.out i (by rw [← HL.out]; exact hi)
        simpa [List.getD, List.getElem?_eq_getElem hi] using this)
      clear hr HA
      go_wp2_with fail
      go_ret
      exact ⟨.inl ⟨E.out, rfl⟩, rfl⟩
theorem contains_any (A : Option Addr) (n cap : Nat) (l : List Int) (w : World) (hn : n ≤ 140737488355328) (h : Ri w w.heap.size A n l) :
    Calls Try.prog 85 #[.slice A n cap, .func (.func 86) #[] #[]] w fun e w' => e = .returned (.bool (!Frm.okAll l)) ∧ w = w' := by
  have H := Lib.hid (index_any A n cap l w hn h)
  clear h
  go_enter Try.func85, Try.ntmps85
  go_wp2_with fail
  refine H.out.mono ?_
  rintro e w1 ⟨⟨h1, rfl⟩ | ⟨h1, r, hr, rfl⟩, rfl⟩
  · have HH := Lib.hid h1
    clear h1
    go_wp2_with fail
    go_ret
    exact ⟨ret_bool (by rw [HH.out]; simp), rfl⟩
  · have HH := Lib.hid h1
    clear h1 hr
    go_wp2_with fail
    go_ret
    exact ⟨ret_bool (by rw [HH.out]; simp), rfl⟩
theorem put_no (A : Option Addr) (n cap : Nat) (l : List Int) (w : World) (hn : n ≤ 140737488355328) (h : Ri w w.heap.size A n l) (hx : 16 < n ∨ Frm.okAll l = false) :
    Calls Try.prog 72 #[.slice A n cap] w fun e w' => e = .returned (.tuple #[.slice none 0 0, .int .i64 2]) ∧ w = w' := by
  have C := Lib.hid (contains_any A n cap l w hn h)
  clear h
  rcases Nat.lt_or_ge 16 n with h16 | h16
  · clear hx
    go_enter Try.func72, Try.ntmps72
    go_wp2_with fail
    go_ret2
    exact ⟨rfl, rfl⟩
  · have hf : Frm.okAll l = false := hx.resolve_left (by omega)
    rw [hf] at C
    clear hx hf
    go_enter Try.func72, Try.ntmps72
    go_wp2_with fail
    refine C.out.mono ?_
    rintro e w1 ⟨rfl, rfl⟩
    go_wp2_with fail
    go_ret2
    exact ⟨rfl, rfl⟩
theorem put_yes (A : Option Addr) (n cap : Nat) (l : List Int) (w : World) (h : Ri w w.heap.size A n l) (hn : n ≤ 16) (hx : Frm.okAll l = true) :
    Calls Try.prog 72 #[.slice A n cap] w fun e w' => ∃ A' cap', e = .returned (.tuple #[.slice A' (4 * n) cap', .int .i64 0]) ∧ Ow w' w.heap.size A' (4 * n) cap' (Frm.pn l) ∧ Below w.heap.size w w' := by
  obtain ⟨i0, hi0, hz0, hz1, hz2⟩ := info_parts info_u8
  have C := Lib.hid (contains_any A n cap l w (by omega) h)
  rw [hx] at C
  have HX := Lib.hid hx
  have HH := Lib.hid h
  clear h hx
  go_enter Try.func72, Try.ntmps72
  go_wp2_with fail
  refine C.out.mono ?_
  rintro e w1 ⟨rfl, rfl⟩
  go_wp2_with fail
  go_loopw [4, 16] (fun s4 s16 wr => ∃ j : Nat, s16 = .int .i64 j ∧ j ≤ n ∧ wr.ownsRow w.heap.size 5 1 s4 (4 * j) (bv (Frm.pn (l.take j))) ∧ Below w.heap.size w wr) (fun _ s16 _ => n - (intOf s16).toNat)
  case atStart => exact ⟨0, by go_num, by omega, by simpa [Frm.pn, bv] using World.ownsRow_nil w w.heap.size _ 1, (by repeat (first | (with_reducible exact Below.refl _ _) | (with_reducible refine Below.drew ?_) | (with_reducible refine below_drewN ?_ _) | ((with_reducible refine Below.alloc ?_ ?_ _); rotate_left; (first | omega | (simp <;> omega)); rotate_right) | ((with_reducible refine Below.setCell ?_ ?_ _); rotate_left; (first | omega | (simp <;> omega)); rotate_right) | (with_reducible assumption) | (refine Below.trans ?_ (Below.mono (by assumption) ?_); rotate_left; (first | omega | (simp <;> omega)); rotate_right)))⟩
  case round =>
    obtain ⟨j, rfl, hj, hown, hB⟩ := hrel
    obtain ⟨A4, cap4, rfl⟩ := own_form hown
    have hzr := hB.size
    have HR := HH.out.below hB (Nat.le_refl _)
    by_cases hlt : j < n
    · obtain ⟨bl, o, rfl, hbl, hcl⟩ := HR.2.2 (by omega)
      have hck := hcl j hlt
      have hlen := HR.1
      have hok := Frm.okN_iff.1 (Frm.okAll_at HX.out (j := j) (by omega))
      have E := Lib.hid (show Frm.pn (l.take (j + 1)) = Frm.pn (l.take j) ++ Frm.num4 (l.getD j 0) by rw [take_snoc l j (by omega), Frm.pn_append]; simp [Frm.pn])
      obtain ⟨y, hy⟩ : ∃ y, l.getD j 0 = y := ⟨_, rfl⟩
      rw [hy] at hck E hok
      obtain ⟨y0, y1⟩ := hok
      clear hcl HR hy hlen
      go_wp2_with (at_builtin; refine wpList_append_any _ rfl (.tmp 20) (.tmp 32) _ rfl w.heap.size 5 i0 _ 1 1 Try.underlying28 hi0 hz0 hz1 hz2 rfl (by omega) _ (4 * j) _ rfl (hown.alloc _) (wr.heap.size + 1) (some ⟨wr.heap.size, 0, none⟩) 4 4 (bv (Frm.num4 y)) rfl (Reads.new wr #[.int .u8 (y / 16777216), .int .u8 (y / 65536 % 256), .int .u8 (y / 256 % 256), .int .u8 (y % 256)] 5) (bv_one _) (by simp only [maxLen]; omega) (by omega) (by simp; omega) ?_; intro v1 w2 hown1 hg1 hat1)
      have ET := E.out
      go_roundw
      case rel =>
        refine ⟨j + 1, by go_num, by omega, ?_, (hB.alloc hzr _).grown hg1 (by simp; omega) (fun g hg => (hown.lt g hg).1)⟩
        rw [ET]
        have hx := hown1
        rw [show 4 * (j + 1) = 4 * j + 4 by omega]
        simp only [bv, List.map_append] at hx ⊢
        exact hx
      case measure => simp [intOf]; omega
    · obtain rfl : j = n := by omega
      have E := Lib.hid (show l.take j = l by rw [List.take_of_length_le (by rw [HH.out.1]; omega)])
      rw [E.out] at hown
      clear HR
      go_wp2_with fail
      go_ret2
      exact ⟨A4, cap4, rfl, ⟨hown, Frm.pn_by HX.out⟩, hB⟩
end Go.Proofs.Ytgmejplcdecmkaa

/- known() of the chapter returns true. -/
import Derived.Test.YtgdpoiapkaahfaaLkK
namespace Go.Proofs.Ytgdpoiapkaahfaa
open Go.RowKit
set_option maxHeartbeats 16000000
set_option maxRecDepth 100000
set_option linter.unusedSimpArgs false
set_option linter.unusedVariables false
attribute [local go_sem ↓] Go.wp_at_zero Go.wp_at_succ
theorem known_true (w : World) : Calls Try.prog 12 #[] w fun e w' => e = .returned (.bool true) ∧ Below w.heap.size w w' := by
  have kc := fun (w : World) (C : Array Value) (n c : Nat) => Lib.run_convert_bytes_const (P := Try.prog) w 37 5 C n c Try.underlying37 Try.underlying5
  have NA := Lib.hid (fun W : World => lnew_yes Kn.ra W (by decide +kernel) (by decide +kernel))
  have NB := Lib.hid (fun W : World => lnew_yes Kn.rb W (by decide +kernel) (by decide +kernel))
  have NC := Lib.hid (fun W : World => lnew_yes Kn.rc W (by decide +kernel) (by decide +kernel))
  go_enter Try.func12, Try.ntmps12
  go_wp2_with fail
  refine (NA.out _).mono ?_
  rintro e w1 ⟨ba, rfl, ha1, hb1⟩
  have HA1 := Lib.hid ha1
  have HB1 := Lib.hid hb1
  clear ha1 hb1
  go_wp2_with fail
  refine (NB.out _).mono ?_
  rintro e w2 ⟨bb, rfl, ha2, hb2⟩
  have HA2 := Lib.hid ha2
  have HB2 := Lib.hid hb2
  clear ha2 hb2
  go_wp2_with fail
  refine (NC.out _).mono ?_
  rintro e w3 ⟨bc, rfl, ha3, hb3⟩
  have T := Lib.hid (show Tri w w3 Kn.ra ba (Lnk.new Kn.ra) Kn.rb bb (Lnk.new Kn.rb) Kn.rc bc (Lnk.new Kn.rc) from by
    have z1 := HB1.out.size; have z2 := HB2.out.size; have z3 := hb3.size
    have l1 := HA1.out.lt; have l2 := HA2.out.lt; have g2 := HA2.out.ge; have g3 := ha3.ge
    have tn : ∀ b i, Two b none i → i = b := fun b i h => by rcases h with h | h; exact h; cases h
    refine ⟨none, 0, none, 0, none, 0, (HA1.out.below (HB2.out.trans (hb3.mono z2)) (Nat.le_refl _)), (HA2.out.below hb3 (Nat.le_refl _)).base z1, ha3.base (by omega), fun i h1 h2 => ?_, fun i h1 h2 => ?_, fun i h1 h2 => ?_, (HB1.out.trans (HB2.out.mono z1)).trans (hb3.mono (by omega))⟩
    · have := tn _ _ h1; have := tn _ _ h2; omega
    · have := tn _ _ h1; have := tn _ _ h2; omega
    · have := tn _ _ h1; have := tn _ _ h2; omega)
  clear ha3 hb3 HA1 HB1 HA2 HB2 NA NB NC
  go_wp2_with fail
  refine (tri_send1 10 0 120 T.out (by omega) (by decide +kernel) Kn.ira (by decide +kernel) (by decide +kernel) Kn.ea1).mono ?_
  rintro e w4 ⟨rfl, t⟩
  have T := Lib.hid t; clear t
  go_wp2_with fail
  refine (tri_send1 12 0 121 T.out (by omega) (by decide +kernel) Kn.ia1 (by decide +kernel) (by decide +kernel) Kn.ea2).mono ?_
  rintro e w5 ⟨rfl, t⟩
  have T := Lib.hid t; clear t
  go_wp2_with fail
  refine (tri_next 15 0 T.out (by decide +kernel) (by decide +kernel) (by decide +kernel)).mono ?_
  rintro e w' ⟨rfl, rfl⟩
  go_wp2_with fail
  refine (tri_gets0 14 T.out Kn.ia2 (by decide +kernel) (by decide +kernel) Kn.ea3).mono ?_
  rintro e w6 ⟨rfl, t⟩
  have T := Lib.hid t; clear t
  go_wp2_with fail
  refine (tri_gets 16 1 [[120]] [.string ⟨#[120]⟩] (by kernel_rfl) T.out Kn.ia3 (by decide +kernel) (by decide +kernel) rfl (by omega) Kn.ea4).mono ?_
  rintro e w7 ⟨rfl, t⟩
  have T := Lib.hid t; clear t
  go_wp2_with fail
  refine (tri_way 1 T.out (by decide +kernel)).mono ?_
  rintro e w' ⟨rfl, rfl⟩
  go_wp2_with fail
  refine (tri_send1 9 3 122 T.out (by omega) (by decide +kernel) Kn.ia4 (by decide +kernel) (by decide +kernel) Kn.ea4').mono ?_
  rintro e w8 ⟨rfl, t⟩
  have T := Lib.hid t; clear t
  go_wp2_with fail
  refine (tri_send0 16 2 T.out (by decide +kernel) (by omega)).mono ?_
  rintro e w' ⟨rfl, rfl⟩
  go_wp2_with fail
  refine (tri_gets 17 1 [[121]] [.string ⟨#[121]⟩] (by kernel_rfl) T.out Kn.ia4 (by decide +kernel) (by decide +kernel) rfl (by omega) Kn.ea5).mono ?_
  rintro e w9 ⟨rfl, t⟩
  have T := Lib.hid t.rot; clear t
  go_wp2_with fail
  refine (tri_send1 0 0 120 T.out (by omega) (by decide +kernel) Kn.irb (by decide +kernel) (by decide +kernel) Kn.eb1).mono ?_
  rintro e w10 ⟨rfl, t⟩
  have T := Lib.hid t; clear t
  go_wp2_with fail
  refine (tri_way 0 T.out (by decide +kernel)).mono ?_
  rintro e w' ⟨rfl, rfl⟩
  go_wp2_with fail
  refine (tri_counts 1 1 0 T.out (by decide +kernel) (by decide +kernel) (by decide +kernel)).mono ?_
  rintro e w11 ⟨rfl, t⟩
  have T := Lib.hid t.rot; clear t
  go_wp2_with fail
  refine (tri_send1 3 0 120 T.out (by omega) (by decide +kernel) Kn.irc (by decide +kernel) (by decide +kernel) Kn.ec1).mono ?_
  rintro e w12 ⟨rfl, t⟩
  have T := Lib.hid t; clear t
  go_wp2_with fail
  refine (tri_gets 3 2 [[120], [120]] [.string ⟨#[120]⟩, .string ⟨#[120]⟩] (by kernel_rfl) T.out Kn.ic1 (by decide +kernel) (by decide +kernel) rfl (by omega) Kn.ec2).mono ?_
  rintro e w13 ⟨rfl, t⟩
  have T := Lib.hid t; clear t
  go_wp2_with fail
  refine (tri_counts 1 0 1 T.out (by decide +kernel) (by decide +kernel) (by decide +kernel)).mono ?_
  rintro e w14 ⟨rfl, t⟩
  have hB : Below w.heap.size w w14 := by obtain ⟨_, _, _, _, _, _, _, _, _, _, _, _, h⟩ := t; exact h
  have HB := Lib.hid hB
  have hz := hB.size
  clear t T hB
  go_wp2_with fail
  refine (lrecv_nil _ _).mono ?_
  rintro e w' ⟨rfl, rfl⟩
  go_wp2_with fail
  generalize hV : World.alloc _ _ = V
  have k14 : V.heap[w14.heap.size]? = some (.cells ([.bool false, .int .i64 0, .int .i64 0, .int .i64 0, .int .i64 0, .int .i64 0, .int .u64 0, .int .i64 0, .slice none 0 0, .int .i64 0, .int .i64 0, .int .i64 0]).toArray 77 (0, 0)) := by rw [← hV]; exact heap_new _ _
  have hBV : Below w.heap.size w V := by have := HB.out; rw [← hV]; exact (by repeat (first | (with_reducible exact Below.refl _ _) | (with_reducible refine Below.drew ?_) | (with_reducible refine below_drewN ?_ _) | ((with_reducible refine Below.alloc ?_ ?_ _); rotate_left; (first | omega | (simp <;> omega)); rotate_right) | ((with_reducible refine Below.setCell ?_ ?_ _); rotate_left; (first | omega | (simp <;> omega)); rotate_right) | (with_reducible assumption) | (refine Below.trans ?_ (Below.mono (by assumption) ?_); rotate_left; (first | omega | (simp <;> omega)); rotate_right)))
  have hzV := hBV.size
  have HBV := Lib.hid hBV
  have K14 := Lib.hid k14
  clear hV hBV k14
  refine (lnext_zero w14.heap.size [.bool false, .int .i64 0, .int .i64 0, .int .i64 0, .int .i64 0, .int .i64 0, .int .u64 0, .int .i64 0, .slice none 0 0, .int .i64 0, .int .i64 0, .int .i64 0] _ K14.out rfl).mono ?_
  rintro e w' ⟨rfl, rfl⟩
  go_wp2_with fail
  refine (lsend_nil _ _ _).mono ?_
  rintro e w' ⟨rfl, rfl⟩
  go_wp2_with fail
  refine (lsendf_zero w14.heap.size [.bool false, .int .i64 0, .int .i64 0, .int .i64 0, .int .i64 0, .int .i64 0, .int .u64 0, .int .i64 0, .slice none 0 0, .int .i64 0, .int .i64 0, .int .i64 0] 0 0 0 0 0 none 0 0 _ (blk_alloc K14.out _) rfl).mono ?_
  rintro e w15 ⟨rfl, hb15⟩
  have hz15 := hb15.size; try simp at hz15
  have k15 := blk_below (blk_alloc K14.out _) hb15 (by have := lt_of_block K14.out; simp; omega)
  have HB15 := Lib.hid (show Below w.heap.size w w15 from by have := HBV.out; exact (by repeat (first | (with_reducible exact Below.refl _ _) | (with_reducible refine Below.drew ?_) | (with_reducible refine below_drewN ?_ _) | ((with_reducible refine Below.alloc ?_ ?_ _); rotate_left; (first | omega | (simp <;> omega)); rotate_right) | ((with_reducible refine Below.setCell ?_ ?_ _); rotate_left; (first | omega | (simp <;> omega)); rotate_right) | (with_reducible assumption) | (refine Below.trans ?_ (Below.mono (by assumption) ?_); rotate_left; (first | omega | (simp <;> omega)); rotate_right))))
  have K15 := Lib.hid k15
  clear hb15 k15
  go_wp2_with fail
  refine (lway_nil _).mono ?_
  rintro e w' ⟨rfl, rfl⟩
  go_wp2_with fail
  refine (counts_zero w14.heap.size [.bool false, .int .i64 0, .int .i64 0, .int .i64 0, .int .i64 0, .int .i64 0, .int .u64 0, .int .i64 0, .slice none 0 0, .int .i64 0, .int .i64 0, .int .i64 0] _ K15.out rfl).mono ?_
  rintro e w' ⟨rfl, rfl⟩
  go_wp2_with fail
  refine (lcopy_nil _).mono ?_
  rintro e w' ⟨rfl, rfl⟩
  go_wp2_with fail
  go_ret
  exact ⟨rfl, HB15.out⟩
end Go.Proofs.Ytgdpoiapkaahfaa

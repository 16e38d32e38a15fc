/- Where bounds meet; the reference's grow and New; 'is'. -/
import Derived.Test.YtfbkbpoabajgdaaBnd
import Derived.Test.YtfbkbpoabajgdaaClk
namespace Go.Proofs.Ytfbkbpoabajgdaa
open Go.RowKit
set_option maxHeartbeats 4000000
set_option linter.unusedSimpArgs false
set_option linter.unusedVariables false
set_option maxRecDepth 100000
def mOk (al ah bl bh : Int) : Bool := Clk.vB al ah && Clk.vB bl bh
def mE (al ah bl bh : Int) : Int := if mOk al ah bl bh then if min ah bh < max al bl then 10 else 0 else 2
def mLo (al ah bl bh : Int) : Int := if mE al ah bl bh = 0 then max al bl else 0
def mHi (al ah bl bh : Int) : Int := if mE al ah bl bh = 0 then min ah bh else 0
theorem mx_if (a b : Int) : (if a < b then b else a) = max a b := by split <;> omega
theorem mn_if (a b : Int) : (if b < a then b else a) = min a b := by split <;> omega
theorem m_bad {al ah bl bh : Int} (h : mOk al ah bl bh = false) : mLo al ah bl bh = 0 ∧ mHi al ah bl bh = 0 ∧ mE al ah bl bh = 2 := by simp [mLo, mHi, mE, h]
theorem m_check {al ah bl bh : Int} (h : mOk al ah bl bh = true) (v : min ah bh < max al bl) : mLo al ah bl bh = 0 ∧ mHi al ah bl bh = 0 ∧ mE al ah bl bh = 10 := by simp [mLo, mHi, mE, h, v]
theorem m_ok {al ah bl bh : Int} (h : mOk al ah bl bh = true) (v : max al bl ≤ min ah bh) : mLo al ah bl bh = max al bl ∧ mHi al ah bl bh = min ah bh ∧ mE al ah bl bh = 0 := by
  have : ¬ min ah bh < max al bl := by omega
  simp only [mLo, mHi, mE, h, if_neg this, if_true]; simp
theorem Meet_any (al ah bl bh : Int) (w : World) :
    Calls Try.prog 15 #[.agg #[.int .i64 al, .int .i64 ah], .agg #[.int .i64 bl, .int .i64 bh]] w fun e w' => e = .returned (.tuple #[.agg #[.int .i64 (mLo al ah bl bh), .int .i64 (mHi al ah bl bh)], .int .i64 (mE al ah bl bh)]) ∧ Below w.heap.size w w' := by
  cases h1 : Clk.vB al ah with
  | false =>
    obtain ⟨e1, e2, e3⟩ := m_bad (al := al) (ah := ah) (bl := bl) (bh := bh) (by simp [mOk, h1])
    have E1 := Lib.hid e1; have E2 := Lib.hid e2; have E3 := Lib.hid e3
    clear e1 e2 e3
    have V := Lib.hid (fun W : World => h1 ▸ valid_any al ah W)
    clear h1
    go_enter Try.func15, Try.ntmps15
    go_wp2_with fail
    refine (V.out _).mono ?_
    rintro e w1 ⟨rfl, hb⟩
    have hz := hb.size; simp at hz
    have ca0_0 := (bcell hb).1 (w.heap.size) 0 (by first | omega | (simp; done) | (simp; omega)); have fa0_0 := (bcell hb).2 (w.heap.size) 0 (by first | omega | (simp; done) | (simp; omega)); have ca0_1 := (bcell hb).1 (w.heap.size) 1 (by first | omega | (simp; done) | (simp; omega)); have fa0_1 := (bcell hb).2 (w.heap.size) 1 (by first | omega | (simp; done) | (simp; omega)); have ca1_0 := (bcell hb).1 (w.heap.size + 1) 0 (by first | omega | (simp; done) | (simp; omega)); have fa1_0 := (bcell hb).2 (w.heap.size + 1) 0 (by first | omega | (simp; done) | (simp; omega)); have ca1_1 := (bcell hb).1 (w.heap.size + 1) 1 (by first | omega | (simp; done) | (simp; omega)); have fa1_1 := (bcell hb).2 (w.heap.size + 1) 1 (by first | omega | (simp; done) | (simp; omega)); have ca2_0 := (bcell hb).1 (w.heap.size + 2) 0 (by first | omega | (simp; done) | (simp; omega)); have fa2_0 := (bcell hb).2 (w.heap.size + 2) 0 (by first | omega | (simp; done) | (simp; omega)); have ca2_1 := (bcell hb).1 (w.heap.size + 2) 1 (by first | omega | (simp; done) | (simp; omega)); have fa2_1 := (bcell hb).2 (w.heap.size + 2) 1 (by first | omega | (simp; done) | (simp; omega)); try simp [go_sem] at ca0_0 fa0_0 ca0_1 fa0_1 ca1_0 fa1_0 ca1_1 fa1_1 ca2_0 fa2_0 ca2_1 fa2_1
    go_wp2_with fail
    refine bodyPost_ret (v := .tuple #[.agg #[.int .i64 0, .int .i64 0], .int .i64 2]) ?_ rfl ⟨ret_bb E1.out.symm E2.out.symm E3.out.symm, (by repeat (first | (with_reducible exact Below.refl _ _) | (with_reducible refine Below.drew ?_) | (with_reducible refine below_drewN ?_ _) | ((with_reducible refine Below.alloc ?_ ?_ _); rotate_left; (first | omega | (simp <;> omega)); rotate_right) | ((with_reducible refine Below.setCell ?_ ?_ _); rotate_left; (first | omega | (simp <;> omega)); rotate_right) | (with_reducible assumption) | (refine Below.trans ?_ (Below.mono (by assumption) ?_); rotate_left; (first | omega | (simp <;> omega)); rotate_right)))⟩
    simp [results, Try.results15, go_sem, *]
  | true =>
    have V := Lib.hid (fun W : World => h1 ▸ valid_any al ah W)
    cases h2 : Clk.vB bl bh with
    | false =>
      obtain ⟨e1, e2, e3⟩ := m_bad (al := al) (ah := ah) (bl := bl) (bh := bh) (by simp [mOk, h2])
      have E1 := Lib.hid e1; have E2 := Lib.hid e2; have E3 := Lib.hid e3
      clear e1 e2 e3
      have V2 := Lib.hid (fun W : World => h2 ▸ valid_any bl bh W)
      clear h1 h2
      go_enter Try.func15, Try.ntmps15
      go_wp2_with fail
      refine (V.out _).mono ?_
      rintro e w1 ⟨rfl, hb⟩
      have hz := hb.size; simp at hz
      have ca0_0 := (bcell hb).1 (w.heap.size) 0 (by first | omega | (simp; done) | (simp; omega)); have fa0_0 := (bcell hb).2 (w.heap.size) 0 (by first | omega | (simp; done) | (simp; omega)); have ca0_1 := (bcell hb).1 (w.heap.size) 1 (by first | omega | (simp; done) | (simp; omega)); have fa0_1 := (bcell hb).2 (w.heap.size) 1 (by first | omega | (simp; done) | (simp; omega)); have ca1_0 := (bcell hb).1 (w.heap.size + 1) 0 (by first | omega | (simp; done) | (simp; omega)); have fa1_0 := (bcell hb).2 (w.heap.size + 1) 0 (by first | omega | (simp; done) | (simp; omega)); have ca1_1 := (bcell hb).1 (w.heap.size + 1) 1 (by first | omega | (simp; done) | (simp; omega)); have fa1_1 := (bcell hb).2 (w.heap.size + 1) 1 (by first | omega | (simp; done) | (simp; omega)); have ca2_0 := (bcell hb).1 (w.heap.size + 2) 0 (by first | omega | (simp; done) | (simp; omega)); have fa2_0 := (bcell hb).2 (w.heap.size + 2) 0 (by first | omega | (simp; done) | (simp; omega)); have ca2_1 := (bcell hb).1 (w.heap.size + 2) 1 (by first | omega | (simp; done) | (simp; omega)); have fa2_1 := (bcell hb).2 (w.heap.size + 2) 1 (by first | omega | (simp; done) | (simp; omega)); try simp [go_sem] at ca0_0 fa0_0 ca0_1 fa0_1 ca1_0 fa1_0 ca1_1 fa1_1 ca2_0 fa2_0 ca2_1 fa2_1
      go_wp2_with fail
      refine (V2.out _).mono ?_
      rintro e w2 ⟨rfl, hb2⟩
      have hz2 := hb2.size; try simp at hz2
      have cb0_0 := (bcell hb2).1 (w.heap.size) 0 (by first | omega | (simp; done) | (simp; omega)); have fb0_0 := (bcell hb2).2 (w.heap.size) 0 (by first | omega | (simp; done) | (simp; omega)); have cb0_1 := (bcell hb2).1 (w.heap.size) 1 (by first | omega | (simp; done) | (simp; omega)); have fb0_1 := (bcell hb2).2 (w.heap.size) 1 (by first | omega | (simp; done) | (simp; omega)); have cb1_0 := (bcell hb2).1 (w.heap.size + 1) 0 (by first | omega | (simp; done) | (simp; omega)); have fb1_0 := (bcell hb2).2 (w.heap.size + 1) 0 (by first | omega | (simp; done) | (simp; omega)); have cb1_1 := (bcell hb2).1 (w.heap.size + 1) 1 (by first | omega | (simp; done) | (simp; omega)); have fb1_1 := (bcell hb2).2 (w.heap.size + 1) 1 (by first | omega | (simp; done) | (simp; omega)); have cb2_0 := (bcell hb2).1 (w.heap.size + 2) 0 (by first | omega | (simp; done) | (simp; omega)); have fb2_0 := (bcell hb2).2 (w.heap.size + 2) 0 (by first | omega | (simp; done) | (simp; omega)); have cb2_1 := (bcell hb2).1 (w.heap.size + 2) 1 (by first | omega | (simp; done) | (simp; omega)); have fb2_1 := (bcell hb2).2 (w.heap.size + 2) 1 (by first | omega | (simp; done) | (simp; omega)); try simp [go_sem] at cb0_0 fb0_0 cb0_1 fb0_1 cb1_0 fb1_0 cb1_1 fb1_1 cb2_0 fb2_0 cb2_1 fb2_1
      go_wp2_with fail
      refine bodyPost_ret (v := .tuple #[.agg #[.int .i64 0, .int .i64 0], .int .i64 2]) ?_ rfl ⟨ret_bb E1.out.symm E2.out.symm E3.out.symm, (by repeat (first | (with_reducible exact Below.refl _ _) | (with_reducible refine Below.drew ?_) | (with_reducible refine below_drewN ?_ _) | ((with_reducible refine Below.alloc ?_ ?_ _); rotate_left; (first | omega | (simp <;> omega)); rotate_right) | ((with_reducible refine Below.setCell ?_ ?_ _); rotate_left; (first | omega | (simp <;> omega)); rotate_right) | (with_reducible assumption) | (refine Below.trans ?_ (Below.mono (by assumption) ?_); rotate_left; (first | omega | (simp <;> omega)); rotate_right)))⟩
      simp [results, Try.results15, go_sem, *]
    | true =>
      have V2 := Lib.hid (fun W : World => h2 ▸ valid_any bl bh W)
      have C1 := Lib.hid (m_check (al := al) (ah := ah) (bl := bl) (bh := bh) (by simp [mOk, h1, h2]))
      have C2 := Lib.hid (m_ok (al := al) (ah := ah) (bl := bl) (bh := bh) (by simp [mOk, h1, h2]))
      clear h1 h2
      rcases Int.lt_or_le al bl with n1 | n1 <;> rcases Int.lt_or_le bh ah with n2 | n2 <;> rcases Int.lt_or_le (min ah bh) (max al bl) with hv | hv
      all_goals
        go_enter Try.func15, Try.ntmps15
        go_wp2_with fail
        refine (V.out _).mono ?_
        rintro e w1 ⟨rfl, hb⟩
        have hz := hb.size; simp at hz
        have ca0_0 := (bcell hb).1 (w.heap.size) 0 (by first | omega | (simp; done) | (simp; omega)); have fa0_0 := (bcell hb).2 (w.heap.size) 0 (by first | omega | (simp; done) | (simp; omega)); have ca0_1 := (bcell hb).1 (w.heap.size) 1 (by first | omega | (simp; done) | (simp; omega)); have fa0_1 := (bcell hb).2 (w.heap.size) 1 (by first | omega | (simp; done) | (simp; omega)); have ca1_0 := (bcell hb).1 (w.heap.size + 1) 0 (by first | omega | (simp; done) | (simp; omega)); have fa1_0 := (bcell hb).2 (w.heap.size + 1) 0 (by first | omega | (simp; done) | (simp; omega)); have ca1_1 := (bcell hb).1 (w.heap.size + 1) 1 (by first | omega | (simp; done) | (simp; omega)); have fa1_1 := (bcell hb).2 (w.heap.size + 1) 1 (by first | omega | (simp; done) | (simp; omega)); have ca2_0 := (bcell hb).1 (w.heap.size + 2) 0 (by first | omega | (simp; done) | (simp; omega)); have fa2_0 := (bcell hb).2 (w.heap.size + 2) 0 (by first | omega | (simp; done) | (simp; omega)); have ca2_1 := (bcell hb).1 (w.heap.size + 2) 1 (by first | omega | (simp; done) | (simp; omega)); have fa2_1 := (bcell hb).2 (w.heap.size + 2) 1 (by first | omega | (simp; done) | (simp; omega)); try simp [go_sem] at ca0_0 fa0_0 ca0_1 fa0_1 ca1_0 fa1_0 ca1_1 fa1_1 ca2_0 fa2_0 ca2_1 fa2_1
        go_wp2_with fail
        refine (V2.out _).mono ?_
        rintro e w2 ⟨rfl, hb2⟩
        have hz2 := hb2.size; try simp at hz2
        have cb0_0 := (bcell hb2).1 (w.heap.size) 0 (by first | omega | (simp; done) | (simp; omega)); have fb0_0 := (bcell hb2).2 (w.heap.size) 0 (by first | omega | (simp; done) | (simp; omega)); have cb0_1 := (bcell hb2).1 (w.heap.size) 1 (by first | omega | (simp; done) | (simp; omega)); have fb0_1 := (bcell hb2).2 (w.heap.size) 1 (by first | omega | (simp; done) | (simp; omega)); have cb1_0 := (bcell hb2).1 (w.heap.size + 1) 0 (by first | omega | (simp; done) | (simp; omega)); have fb1_0 := (bcell hb2).2 (w.heap.size + 1) 0 (by first | omega | (simp; done) | (simp; omega)); have cb1_1 := (bcell hb2).1 (w.heap.size + 1) 1 (by first | omega | (simp; done) | (simp; omega)); have fb1_1 := (bcell hb2).2 (w.heap.size + 1) 1 (by first | omega | (simp; done) | (simp; omega)); have cb2_0 := (bcell hb2).1 (w.heap.size + 2) 0 (by first | omega | (simp; done) | (simp; omega)); have fb2_0 := (bcell hb2).2 (w.heap.size + 2) 0 (by first | omega | (simp; done) | (simp; omega)); have cb2_1 := (bcell hb2).1 (w.heap.size + 2) 1 (by first | omega | (simp; done) | (simp; omega)); have fb2_1 := (bcell hb2).2 (w.heap.size + 2) 1 (by first | omega | (simp; done) | (simp; omega)); try simp [go_sem] at cb0_0 fb0_0 cb0_1 fb0_1 cb1_0 fb1_0 cb1_1 fb1_1 cb2_0 fb2_0 cb2_1 fb2_1
        have hz30 : w.heap.size < w2.heap.size := by omega
        have hz31 : w.heap.size + 1 < w2.heap.size := by omega
        have hz32 : w.heap.size + 1 + 1 < w2.heap.size := by omega
        go_wp2_with fail
        first | (obtain ⟨d1, d2, d3⟩ := C1.out hv; refine bodyPost_ret (v := .tuple #[.agg #[.int .i64 0, .int .i64 0], .int .i64 10]) ?_ rfl ⟨ret_bb d1.symm d2.symm d3.symm, (by repeat (first | (with_reducible exact Below.refl _ _) | (with_reducible refine Below.drew ?_) | (with_reducible refine below_drewN ?_ _) | ((with_reducible refine Below.alloc ?_ ?_ _); rotate_left; (first | omega | (simp <;> omega)); rotate_right) | ((with_reducible refine Below.setCell ?_ ?_ _); rotate_left; (first | omega | (simp <;> omega)); rotate_right) | (with_reducible assumption) | (refine Below.trans ?_ (Below.mono (by assumption) ?_); rotate_left; (first | omega | (simp <;> omega)); rotate_right)))⟩; (simp [results, Try.results15, go_sem, *] <;> fail)) | (obtain ⟨d1, d2, d3⟩ := C2.out hv; refine bodyPost_ret (v := .tuple #[.agg #[.int .i64 al, .int .i64 ah], .int .i64 0]) ?_ rfl ⟨ret_bb (Eq.trans ?_ d1.symm) (Eq.trans ?_ d2.symm) d3.symm, (by repeat (first | (with_reducible exact Below.refl _ _) | (with_reducible refine Below.drew ?_) | (with_reducible refine below_drewN ?_ _) | ((with_reducible refine Below.alloc ?_ ?_ _); rotate_left; (first | omega | (simp <;> omega)); rotate_right) | ((with_reducible refine Below.setCell ?_ ?_ _); rotate_left; (first | omega | (simp <;> omega)); rotate_right) | (with_reducible assumption) | (refine Below.trans ?_ (Below.mono (by assumption) ?_); rotate_left; (first | omega | (simp <;> omega)); rotate_right)))⟩ <;> first | omega | (simp [results, Try.results15, go_sem, *] <;> fail)) | (obtain ⟨d1, d2, d3⟩ := C2.out hv; refine bodyPost_ret (v := .tuple #[.agg #[.int .i64 al, .int .i64 bh], .int .i64 0]) ?_ rfl ⟨ret_bb (Eq.trans ?_ d1.symm) (Eq.trans ?_ d2.symm) d3.symm, (by repeat (first | (with_reducible exact Below.refl _ _) | (with_reducible refine Below.drew ?_) | (with_reducible refine below_drewN ?_ _) | ((with_reducible refine Below.alloc ?_ ?_ _); rotate_left; (first | omega | (simp <;> omega)); rotate_right) | ((with_reducible refine Below.setCell ?_ ?_ _); rotate_left; (first | omega | (simp <;> omega)); rotate_right) | (with_reducible assumption) | (refine Below.trans ?_ (Below.mono (by assumption) ?_); rotate_left; (first | omega | (simp <;> omega)); rotate_right)))⟩ <;> first | omega | (simp [results, Try.results15, go_sem, *] <;> fail)) | (obtain ⟨d1, d2, d3⟩ := C2.out hv; refine bodyPost_ret (v := .tuple #[.agg #[.int .i64 bl, .int .i64 ah], .int .i64 0]) ?_ rfl ⟨ret_bb (Eq.trans ?_ d1.symm) (Eq.trans ?_ d2.symm) d3.symm, (by repeat (first | (with_reducible exact Below.refl _ _) | (with_reducible refine Below.drew ?_) | (with_reducible refine below_drewN ?_ _) | ((with_reducible refine Below.alloc ?_ ?_ _); rotate_left; (first | omega | (simp <;> omega)); rotate_right) | ((with_reducible refine Below.setCell ?_ ?_ _); rotate_left; (first | omega | (simp <;> omega)); rotate_right) | (with_reducible assumption) | (refine Below.trans ?_ (Below.mono (by assumption) ?_); rotate_left; (first | omega | (simp <;> omega)); rotate_right)))⟩ <;> first | omega | (simp [results, Try.results15, go_sem, *] <;> fail)) | (obtain ⟨d1, d2, d3⟩ := C2.out hv; refine bodyPost_ret (v := .tuple #[.agg #[.int .i64 bl, .int .i64 bh], .int .i64 0]) ?_ rfl ⟨ret_bb (Eq.trans ?_ d1.symm) (Eq.trans ?_ d2.symm) d3.symm, (by repeat (first | (with_reducible exact Below.refl _ _) | (with_reducible refine Below.drew ?_) | (with_reducible refine below_drewN ?_ _) | ((with_reducible refine Below.alloc ?_ ?_ _); rotate_left; (first | omega | (simp <;> omega)); rotate_right) | ((with_reducible refine Below.setCell ?_ ?_ _); rotate_left; (first | omega | (simp <;> omega)); rotate_right) | (with_reducible assumption) | (refine Below.trans ?_ (Below.mono (by assumption) ?_); rotate_left; (first | omega | (simp <;> omega)); rotate_right)))⟩ <;> first | omega | (simp [results, Try.results15, go_sem, *] <;> fail))

theorem rMeet_any (al ah bl bh : Int) (w : World) :
    Calls Try.prog 16 #[.agg #[.int .i64 al, .int .i64 ah], .agg #[.int .i64 bl, .int .i64 bh]] w fun e w' => e = .returned (.tuple #[.agg #[.int .i64 (mLo al ah bl bh), .int .i64 (mHi al ah bl bh)], .int .i64 (mE al ah bl bh)]) ∧ Below w.heap.size w w' := by
  cases h1 : Clk.vB al ah with
  | false =>
    obtain ⟨e1, e2, e3⟩ := m_bad (al := al) (ah := ah) (bl := bl) (bh := bh) (by simp [mOk, h1])
    have E1 := Lib.hid e1; have E2 := Lib.hid e2; have E3 := Lib.hid e3
    clear e1 e2 e3
    have V := Lib.hid (fun W : World => h1 ▸ rvalid_any al ah W)
    clear h1
    go_enter Try.func16, Try.ntmps16
    go_wp2_with fail
    refine (V.out _).mono ?_
    rintro e w1 ⟨rfl, hb⟩
    have hz := hb.size; simp at hz
    have ca0_0 := (bcell hb).1 (w.heap.size) 0 (by first | omega | (simp; done) | (simp; omega)); have fa0_0 := (bcell hb).2 (w.heap.size) 0 (by first | omega | (simp; done) | (simp; omega)); have ca0_1 := (bcell hb).1 (w.heap.size) 1 (by first | omega | (simp; done) | (simp; omega)); have fa0_1 := (bcell hb).2 (w.heap.size) 1 (by first | omega | (simp; done) | (simp; omega)); have ca1_0 := (bcell hb).1 (w.heap.size + 1) 0 (by first | omega | (simp; done) | (simp; omega)); have fa1_0 := (bcell hb).2 (w.heap.size + 1) 0 (by first | omega | (simp; done) | (simp; omega)); have ca1_1 := (bcell hb).1 (w.heap.size + 1) 1 (by first | omega | (simp; done) | (simp; omega)); have fa1_1 := (bcell hb).2 (w.heap.size + 1) 1 (by first | omega | (simp; done) | (simp; omega)); have ca2_0 := (bcell hb).1 (w.heap.size + 2) 0 (by first | omega | (simp; done) | (simp; omega)); have fa2_0 := (bcell hb).2 (w.heap.size + 2) 0 (by first | omega | (simp; done) | (simp; omega)); have ca2_1 := (bcell hb).1 (w.heap.size + 2) 1 (by first | omega | (simp; done) | (simp; omega)); have fa2_1 := (bcell hb).2 (w.heap.size + 2) 1 (by first | omega | (simp; done) | (simp; omega)); try simp [go_sem] at ca0_0 fa0_0 ca0_1 fa0_1 ca1_0 fa1_0 ca1_1 fa1_1 ca2_0 fa2_0 ca2_1 fa2_1
    go_wp2_with fail
    refine bodyPost_ret (v := .tuple #[.agg #[.int .i64 0, .int .i64 0], .int .i64 2]) ?_ rfl ⟨ret_bb E1.out.symm E2.out.symm E3.out.symm, (by repeat (first | (with_reducible exact Below.refl _ _) | (with_reducible refine Below.drew ?_) | (with_reducible refine below_drewN ?_ _) | ((with_reducible refine Below.alloc ?_ ?_ _); rotate_left; (first | omega | (simp <;> omega)); rotate_right) | ((with_reducible refine Below.setCell ?_ ?_ _); rotate_left; (first | omega | (simp <;> omega)); rotate_right) | (with_reducible assumption) | (refine Below.trans ?_ (Below.mono (by assumption) ?_); rotate_left; (first | omega | (simp <;> omega)); rotate_right)))⟩
    simp [results, Try.results16, go_sem, *]
  | true =>
    have V := Lib.hid (fun W : World => h1 ▸ rvalid_any al ah W)
    cases h2 : Clk.vB bl bh with
    | false =>
      obtain ⟨e1, e2, e3⟩ := m_bad (al := al) (ah := ah) (bl := bl) (bh := bh) (by simp [mOk, h2])
      have E1 := Lib.hid e1; have E2 := Lib.hid e2; have E3 := Lib.hid e3
      clear e1 e2 e3
      have V2 := Lib.hid (fun W : World => h2 ▸ rvalid_any bl bh W)
      clear h1 h2
      go_enter Try.func16, Try.ntmps16
      go_wp2_with fail
      refine (V.out _).mono ?_
      rintro e w1 ⟨rfl, hb⟩
      have hz := hb.size; simp at hz
      have ca0_0 := (bcell hb).1 (w.heap.size) 0 (by first | omega | (simp; done) | (simp; omega)); have fa0_0 := (bcell hb).2 (w.heap.size) 0 (by first | omega | (simp; done) | (simp; omega)); have ca0_1 := (bcell hb).1 (w.heap.size) 1 (by first | omega | (simp; done) | (simp; omega)); have fa0_1 := (bcell hb).2 (w.heap.size) 1 (by first | omega | (simp; done) | (simp; omega)); have ca1_0 := (bcell hb).1 (w.heap.size + 1) 0 (by first | omega | (simp; done) | (simp; omega)); have fa1_0 := (bcell hb).2 (w.heap.size + 1) 0 (by first | omega | (simp; done) | (simp; omega)); have ca1_1 := (bcell hb).1 (w.heap.size + 1) 1 (by first | omega | (simp; done) | (simp; omega)); have fa1_1 := (bcell hb).2 (w.heap.size + 1) 1 (by first | omega | (simp; done) | (simp; omega)); have ca2_0 := (bcell hb).1 (w.heap.size + 2) 0 (by first | omega | (simp; done) | (simp; omega)); have fa2_0 := (bcell hb).2 (w.heap.size + 2) 0 (by first | omega | (simp; done) | (simp; omega)); have ca2_1 := (bcell hb).1 (w.heap.size + 2) 1 (by first | omega | (simp; done) | (simp; omega)); have fa2_1 := (bcell hb).2 (w.heap.size + 2) 1 (by first | omega | (simp; done) | (simp; omega)); try simp [go_sem] at ca0_0 fa0_0 ca0_1 fa0_1 ca1_0 fa1_0 ca1_1 fa1_1 ca2_0 fa2_0 ca2_1 fa2_1
      go_wp2_with fail
      refine (V2.out _).mono ?_
      rintro e w2 ⟨rfl, hb2⟩
      have hz2 := hb2.size; try simp at hz2
      have cb0_0 := (bcell hb2).1 (w.heap.size) 0 (by first | omega | (simp; done) | (simp; omega)); have fb0_0 := (bcell hb2).2 (w.heap.size) 0 (by first | omega | (simp; done) | (simp; omega)); have cb0_1 := (bcell hb2).1 (w.heap.size) 1 (by first | omega | (simp; done) | (simp; omega)); have fb0_1 := (bcell hb2).2 (w.heap.size) 1 (by first | omega | (simp; done) | (simp; omega)); have cb1_0 := (bcell hb2).1 (w.heap.size + 1) 0 (by first | omega | (simp; done) | (simp; omega)); have fb1_0 := (bcell hb2).2 (w.heap.size + 1) 0 (by first | omega | (simp; done) | (simp; omega)); have cb1_1 := (bcell hb2).1 (w.heap.size + 1) 1 (by first | omega | (simp; done) | (simp; omega)); have fb1_1 := (bcell hb2).2 (w.heap.size + 1) 1 (by first | omega | (simp; done) | (simp; omega)); have cb2_0 := (bcell hb2).1 (w.heap.size + 2) 0 (by first | omega | (simp; done) | (simp; omega)); have fb2_0 := (bcell hb2).2 (w.heap.size + 2) 0 (by first | omega | (simp; done) | (simp; omega)); have cb2_1 := (bcell hb2).1 (w.heap.size + 2) 1 (by first | omega | (simp; done) | (simp; omega)); have fb2_1 := (bcell hb2).2 (w.heap.size + 2) 1 (by first | omega | (simp; done) | (simp; omega)); try simp [go_sem] at cb0_0 fb0_0 cb0_1 fb0_1 cb1_0 fb1_0 cb1_1 fb1_1 cb2_0 fb2_0 cb2_1 fb2_1
      go_wp2_with fail
      refine bodyPost_ret (v := .tuple #[.agg #[.int .i64 0, .int .i64 0], .int .i64 2]) ?_ rfl ⟨ret_bb E1.out.symm E2.out.symm E3.out.symm, (by repeat (first | (with_reducible exact Below.refl _ _) | (with_reducible refine Below.drew ?_) | (with_reducible refine below_drewN ?_ _) | ((with_reducible refine Below.alloc ?_ ?_ _); rotate_left; (first | omega | (simp <;> omega)); rotate_right) | ((with_reducible refine Below.setCell ?_ ?_ _); rotate_left; (first | omega | (simp <;> omega)); rotate_right) | (with_reducible assumption) | (refine Below.trans ?_ (Below.mono (by assumption) ?_); rotate_left; (first | omega | (simp <;> omega)); rotate_right)))⟩
      simp [results, Try.results16, go_sem, *]
    | true =>
      have V2 := Lib.hid (fun W : World => h2 ▸ rvalid_any bl bh W)
      have C1 := Lib.hid (m_check (al := al) (ah := ah) (bl := bl) (bh := bh) (by simp [mOk, h1, h2]))
      have C2 := Lib.hid (m_ok (al := al) (ah := ah) (bl := bl) (bh := bh) (by simp [mOk, h1, h2]))
      clear h1 h2
      rcases Int.lt_or_le al bl with n1 | n1 <;> rcases Int.lt_or_le bh ah with n2 | n2 <;> rcases Int.lt_or_le (min ah bh) (max al bl) with hv | hv
      all_goals
        go_enter Try.func16, Try.ntmps16
        go_wp2_with fail
        refine (V.out _).mono ?_
        rintro e w1 ⟨rfl, hb⟩
        have hz := hb.size; simp at hz
        have ca0_0 := (bcell hb).1 (w.heap.size) 0 (by first | omega | (simp; done) | (simp; omega)); have fa0_0 := (bcell hb).2 (w.heap.size) 0 (by first | omega | (simp; done) | (simp; omega)); have ca0_1 := (bcell hb).1 (w.heap.size) 1 (by first | omega | (simp; done) | (simp; omega)); have fa0_1 := (bcell hb).2 (w.heap.size) 1 (by first | omega | (simp; done) | (simp; omega)); have ca1_0 := (bcell hb).1 (w.heap.size + 1) 0 (by first | omega | (simp; done) | (simp; omega)); have fa1_0 := (bcell hb).2 (w.heap.size + 1) 0 (by first | omega | (simp; done) | (simp; omega)); have ca1_1 := (bcell hb).1 (w.heap.size + 1) 1 (by first | omega | (simp; done) | (simp; omega)); have fa1_1 := (bcell hb).2 (w.heap.size + 1) 1 (by first | omega | (simp; done) | (simp; omega)); have ca2_0 := (bcell hb).1 (w.heap.size + 2) 0 (by first | omega | (simp; done) | (simp; omega)); have fa2_0 := (bcell hb).2 (w.heap.size + 2) 0 (by first | omega | (simp; done) | (simp; omega)); have ca2_1 := (bcell hb).1 (w.heap.size + 2) 1 (by first | omega | (simp; done) | (simp; omega)); have fa2_1 := (bcell hb).2 (w.heap.size + 2) 1 (by first | omega | (simp; done) | (simp; omega)); try simp [go_sem] at ca0_0 fa0_0 ca0_1 fa0_1 ca1_0 fa1_0 ca1_1 fa1_1 ca2_0 fa2_0 ca2_1 fa2_1
        go_wp2_with fail
        refine (V2.out _).mono ?_
        rintro e w2 ⟨rfl, hb2⟩
        have hz2 := hb2.size; try simp at hz2
        have cb0_0 := (bcell hb2).1 (w.heap.size) 0 (by first | omega | (simp; done) | (simp; omega)); have fb0_0 := (bcell hb2).2 (w.heap.size) 0 (by first | omega | (simp; done) | (simp; omega)); have cb0_1 := (bcell hb2).1 (w.heap.size) 1 (by first | omega | (simp; done) | (simp; omega)); have fb0_1 := (bcell hb2).2 (w.heap.size) 1 (by first | omega | (simp; done) | (simp; omega)); have cb1_0 := (bcell hb2).1 (w.heap.size + 1) 0 (by first | omega | (simp; done) | (simp; omega)); have fb1_0 := (bcell hb2).2 (w.heap.size + 1) 0 (by first | omega | (simp; done) | (simp; omega)); have cb1_1 := (bcell hb2).1 (w.heap.size + 1) 1 (by first | omega | (simp; done) | (simp; omega)); have fb1_1 := (bcell hb2).2 (w.heap.size + 1) 1 (by first | omega | (simp; done) | (simp; omega)); have cb2_0 := (bcell hb2).1 (w.heap.size + 2) 0 (by first | omega | (simp; done) | (simp; omega)); have fb2_0 := (bcell hb2).2 (w.heap.size + 2) 0 (by first | omega | (simp; done) | (simp; omega)); have cb2_1 := (bcell hb2).1 (w.heap.size + 2) 1 (by first | omega | (simp; done) | (simp; omega)); have fb2_1 := (bcell hb2).2 (w.heap.size + 2) 1 (by first | omega | (simp; done) | (simp; omega)); try simp [go_sem] at cb0_0 fb0_0 cb0_1 fb0_1 cb1_0 fb1_0 cb1_1 fb1_1 cb2_0 fb2_0 cb2_1 fb2_1
        have hz30 : w.heap.size < w2.heap.size := by omega
        have hz31 : w.heap.size + 1 < w2.heap.size := by omega
        have hz32 : w.heap.size + 1 + 1 < w2.heap.size := by omega
        go_wp2_with fail
        first | (obtain ⟨d1, d2, d3⟩ := C1.out hv; refine bodyPost_ret (v := .tuple #[.agg #[.int .i64 0, .int .i64 0], .int .i64 10]) ?_ rfl ⟨ret_bb d1.symm d2.symm d3.symm, (by repeat (first | (with_reducible exact Below.refl _ _) | (with_reducible refine Below.drew ?_) | (with_reducible refine below_drewN ?_ _) | ((with_reducible refine Below.alloc ?_ ?_ _); rotate_left; (first | omega | (simp <;> omega)); rotate_right) | ((with_reducible refine Below.setCell ?_ ?_ _); rotate_left; (first | omega | (simp <;> omega)); rotate_right) | (with_reducible assumption) | (refine Below.trans ?_ (Below.mono (by assumption) ?_); rotate_left; (first | omega | (simp <;> omega)); rotate_right)))⟩; (simp [results, Try.results16, go_sem, *] <;> fail)) | (obtain ⟨d1, d2, d3⟩ := C2.out hv; refine bodyPost_ret (v := .tuple #[.agg #[.int .i64 al, .int .i64 ah], .int .i64 0]) ?_ rfl ⟨ret_bb (Eq.trans ?_ d1.symm) (Eq.trans ?_ d2.symm) d3.symm, (by repeat (first | (with_reducible exact Below.refl _ _) | (with_reducible refine Below.drew ?_) | (with_reducible refine below_drewN ?_ _) | ((with_reducible refine Below.alloc ?_ ?_ _); rotate_left; (first | omega | (simp <;> omega)); rotate_right) | ((with_reducible refine Below.setCell ?_ ?_ _); rotate_left; (first | omega | (simp <;> omega)); rotate_right) | (with_reducible assumption) | (refine Below.trans ?_ (Below.mono (by assumption) ?_); rotate_left; (first | omega | (simp <;> omega)); rotate_right)))⟩ <;> first | omega | (simp [results, Try.results16, go_sem, *] <;> fail)) | (obtain ⟨d1, d2, d3⟩ := C2.out hv; refine bodyPost_ret (v := .tuple #[.agg #[.int .i64 al, .int .i64 bh], .int .i64 0]) ?_ rfl ⟨ret_bb (Eq.trans ?_ d1.symm) (Eq.trans ?_ d2.symm) d3.symm, (by repeat (first | (with_reducible exact Below.refl _ _) | (with_reducible refine Below.drew ?_) | (with_reducible refine below_drewN ?_ _) | ((with_reducible refine Below.alloc ?_ ?_ _); rotate_left; (first | omega | (simp <;> omega)); rotate_right) | ((with_reducible refine Below.setCell ?_ ?_ _); rotate_left; (first | omega | (simp <;> omega)); rotate_right) | (with_reducible assumption) | (refine Below.trans ?_ (Below.mono (by assumption) ?_); rotate_left; (first | omega | (simp <;> omega)); rotate_right)))⟩ <;> first | omega | (simp [results, Try.results16, go_sem, *] <;> fail)) | (obtain ⟨d1, d2, d3⟩ := C2.out hv; refine bodyPost_ret (v := .tuple #[.agg #[.int .i64 bl, .int .i64 ah], .int .i64 0]) ?_ rfl ⟨ret_bb (Eq.trans ?_ d1.symm) (Eq.trans ?_ d2.symm) d3.symm, (by repeat (first | (with_reducible exact Below.refl _ _) | (with_reducible refine Below.drew ?_) | (with_reducible refine below_drewN ?_ _) | ((with_reducible refine Below.alloc ?_ ?_ _); rotate_left; (first | omega | (simp <;> omega)); rotate_right) | ((with_reducible refine Below.setCell ?_ ?_ _); rotate_left; (first | omega | (simp <;> omega)); rotate_right) | (with_reducible assumption) | (refine Below.trans ?_ (Below.mono (by assumption) ?_); rotate_left; (first | omega | (simp <;> omega)); rotate_right)))⟩ <;> first | omega | (simp [results, Try.results16, go_sem, *] <;> fail)) | (obtain ⟨d1, d2, d3⟩ := C2.out hv; refine bodyPost_ret (v := .tuple #[.agg #[.int .i64 bl, .int .i64 bh], .int .i64 0]) ?_ rfl ⟨ret_bb (Eq.trans ?_ d1.symm) (Eq.trans ?_ d2.symm) d3.symm, (by repeat (first | (with_reducible exact Below.refl _ _) | (with_reducible refine Below.drew ?_) | (with_reducible refine below_drewN ?_ _) | ((with_reducible refine Below.alloc ?_ ?_ _); rotate_left; (first | omega | (simp <;> omega)); rotate_right) | ((with_reducible refine Below.setCell ?_ ?_ _); rotate_left; (first | omega | (simp <;> omega)); rotate_right) | (with_reducible assumption) | (refine Below.trans ?_ (Below.mono (by assumption) ?_); rotate_left; (first | omega | (simp <;> omega)); rotate_right)))⟩ <;> first | omega | (simp [results, Try.results16, go_sem, *] <;> fail))
theorem rgrow_any (lo hi d l : Int) (w : World) :
    Calls Try.prog 38 #[.agg #[.int .i64 lo, .int .i64 hi], .int .i64 d, .int .i64 l] w fun e w' => e = .returned (.tuple #[.agg #[.int .i64 (if 1073741824 < l then 0 else GLo lo hi d l), .int .i64 (if 1073741824 < l then 0 else GHi lo hi d l)], .int .i64 (if 1073741824 < l then 3 else GE lo hi d l)]) ∧ Below w.heap.size w w' := by
  by_cases h : 1073741824 < l
  · rw [if_pos h, if_pos h, if_pos h]
    go_enter Try.func38, Try.ntmps38
    go_wp2_with fail
    refine bodyPost_ret (v := .tuple #[.agg #[.int .i64 0, .int .i64 0], .int .i64 3]) ?_ rfl ⟨rfl, (by repeat (first | (with_reducible exact Below.refl _ _) | (with_reducible refine Below.drew ?_) | (with_reducible refine below_drewN ?_ _) | ((with_reducible refine Below.alloc ?_ ?_ _); rotate_left; (first | omega | (simp <;> omega)); rotate_right) | ((with_reducible refine Below.setCell ?_ ?_ _); rotate_left; (first | omega | (simp <;> omega)); rotate_right) | (with_reducible assumption) | (refine Below.trans ?_ (Below.mono (by assumption) ?_); rotate_left; (first | omega | (simp <;> omega)); rotate_right)))⟩
    simp [results, Try.results38, go_sem]
  · rw [if_neg h, if_neg h, if_neg h]
    go_enter Try.func38, Try.ntmps38
    go_wp2_with fail
    refine (rGrow_any _ _ _ _ _).mono ?_
    rintro e w1 ⟨rfl, hb⟩
    have hz := hb.size; simp at hz
    have ca0_0 := (bcell hb).1 (w.heap.size) 0 (by first | omega | (simp; done) | (simp; omega)); have fa0_0 := (bcell hb).2 (w.heap.size) 0 (by first | omega | (simp; done) | (simp; omega)); have ca0_1 := (bcell hb).1 (w.heap.size) 1 (by first | omega | (simp; done) | (simp; omega)); have fa0_1 := (bcell hb).2 (w.heap.size) 1 (by first | omega | (simp; done) | (simp; omega)); have ca1_0 := (bcell hb).1 (w.heap.size + 1) 0 (by first | omega | (simp; done) | (simp; omega)); have fa1_0 := (bcell hb).2 (w.heap.size + 1) 0 (by first | omega | (simp; done) | (simp; omega)); have ca1_1 := (bcell hb).1 (w.heap.size + 1) 1 (by first | omega | (simp; done) | (simp; omega)); have fa1_1 := (bcell hb).2 (w.heap.size + 1) 1 (by first | omega | (simp; done) | (simp; omega)); try simp [go_sem] at ca0_0 fa0_0 ca0_1 fa0_1 ca1_0 fa1_0 ca1_1 fa1_1
    go_wp2_with fail
    refine bodyPost_ret (v := .tuple #[.agg #[.int .i64 (GLo lo hi d l), .int .i64 (GHi lo hi d l)], .int .i64 (GE lo hi d l)]) ?_ rfl ⟨rfl, (by repeat (first | (with_reducible exact Below.refl _ _) | (with_reducible refine Below.drew ?_) | (with_reducible refine below_drewN ?_ _) | ((with_reducible refine Below.alloc ?_ ?_ _); rotate_left; (first | omega | (simp <;> omega)); rotate_right) | ((with_reducible refine Below.setCell ?_ ?_ _); rotate_left; (first | omega | (simp <;> omega)); rotate_right) | (with_reducible assumption) | (refine Below.trans ?_ (Below.mono (by assumption) ?_); rotate_left; (first | omega | (simp <;> omega)); rotate_right)))⟩
    simp [results, Try.results38, go_sem, *]
theorem rNew_no (d : Int) (w : World) (h : ¬ (0 ≤ d ∧ d ≤ 100000)) :
    Calls Try.prog 18 #[.int .i64 d] w fun e w' => e = .returned (.tuple #[.agg #[.int .i64 0, .int .i64 0, .bool false, .int .i64 0, .int .i64 0], .int .i64 2]) ∧ Below w.heap.size w w' := by
  have H := Lib.hid (Clk.inB_no.2 h)
  go_enter Try.func18, Try.ntmps18
  go_wp2_with (go_at_call 28; refine (to_any _ _ _ _).mono ?_; rintro e w' ⟨rfl, rfl⟩; rw [H.out])
  refine bodyPost_ret (v := .tuple #[.agg #[.int .i64 0, .int .i64 0, .bool false, .int .i64 0, .int .i64 0], .int .i64 2]) ?_ rfl ⟨rfl, (by repeat (first | (with_reducible exact Below.refl _ _) | (with_reducible refine Below.drew ?_) | (with_reducible refine below_drewN ?_ _) | ((with_reducible refine Below.alloc ?_ ?_ _); rotate_left; (first | omega | (simp <;> omega)); rotate_right) | ((with_reducible refine Below.setCell ?_ ?_ _); rotate_left; (first | omega | (simp <;> omega)); rotate_right) | (with_reducible assumption) | (refine Below.trans ?_ (Below.mono (by assumption) ?_); rotate_left; (first | omega | (simp <;> omega)); rotate_right)))⟩
  simp [results, Try.results18, go_sem]
theorem rNew_yes (d : Int) (w : World) (h : 0 ≤ d ∧ d ≤ 100000) :
    Calls Try.prog 18 #[.int .i64 d] w fun e w' => e = .returned (.tuple #[.agg #[.int .i64 d, .int .i64 0, .bool false, .int .i64 0, .int .i64 0], .int .i64 0]) ∧ Below w.heap.size w w' := by
  go_enter Try.func18, Try.ntmps18
  go_wp2_with (go_at_call 28; refine (to_yes _ _ _ _ h).mono ?_; rintro e w' ⟨rfl, rfl⟩)
  refine bodyPost_ret (v := .tuple #[.agg #[.int .i64 d, .int .i64 0, .bool false, .int .i64 0, .int .i64 0], .int .i64 0]) ?_ rfl ⟨rfl, (by repeat (first | (with_reducible exact Below.refl _ _) | (with_reducible refine Below.drew ?_) | (with_reducible refine below_drewN ?_ _) | ((with_reducible refine Below.alloc ?_ ?_ _); rotate_left; (first | omega | (simp <;> omega)); rotate_right) | ((with_reducible refine Below.setCell ?_ ?_ _); rotate_left; (first | omega | (simp <;> omega)); rotate_right) | (with_reducible assumption) | (refine Below.trans ?_ (Below.mono (by assumption) ?_); rotate_left; (first | omega | (simp <;> omega)); rotate_right)))⟩
  simp [results, Try.results18, go_sem]
/-- 'is': for the examples -/
theorem is_yes (lo hi : Int) (w : World) :
    Calls Try.prog 30 #[.agg #[.int .i64 lo, .int .i64 hi], .int .i64 0, .int .i64 lo, .int .i64 hi] w fun e w' => e = .returned (.bool true) ∧ Below w.heap.size w w' := by
  go_enter Try.func30, Try.ntmps30
  go_wp2_with fail
  go_ret
  exact ⟨rfl, (by repeat (first | (with_reducible exact Below.refl _ _) | (with_reducible refine Below.drew ?_) | (with_reducible refine below_drewN ?_ _) | ((with_reducible refine Below.alloc ?_ ?_ _); rotate_left; (first | omega | (simp <;> omega)); rotate_right) | ((with_reducible refine Below.setCell ?_ ?_ _); rotate_left; (first | omega | (simp <;> omega)); rotate_right) | (with_reducible assumption) | (refine Below.trans ?_ (Below.mono (by assumption) ?_); rotate_left; (first | omega | (simp <;> omega)); rotate_right)))⟩
end Go.Proofs.Ytfbkbpoabajgdaa

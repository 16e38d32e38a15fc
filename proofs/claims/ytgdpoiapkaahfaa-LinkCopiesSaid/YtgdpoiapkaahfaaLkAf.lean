/- act, whatever it does. -/
import Derived.Test.YtgdpoiapkaahfaaLkAe
import Derived.Test.YtgdpoiapkaahfaaLkAd
namespace Go.Proofs.Ytgdpoiapkaahfaa
open Go.RowKit
theorem act_any (base b c : Nat) (A : Option Addr) (r : Lnk.Ru) (s : Lnk.St) (A' : Option Addr) (n c' : Nat) (a : LAct) (D E : Option Addr) (cd ce : Nat) (w : World) (h : IsLk w base b A c r s) (hr : Lnk.vld r = true) (hs : Lnk.Inv s) (hsent : s.sent < 1000000000) (hn : n = s.u.length) (hnc : n ≤ c') (hbase : base ≤ w.heap.size) (X : Nat → Prop) (hw : RWay w X A' n s.u) (hX : ∀ i, X i → ¬ Two b A i)
    (hd : a.d.length ≤ 200) (hf : a.f.d.length ≤ 100) (hdd : Rd w w.heap.size D a.d.length a.d) (hde : Rd w w.heap.size E a.f.d.length a.f.d) :
    Calls Try.prog 14 #[.pointer (some ⟨b, 0, none⟩), rlv r s A' n c', .agg #[.int .i64 a.kind, .int .i64 a.now, .slice D a.d.length cd, .int .i64 a.f.k, .int .i64 a.f.f, .int .i64 a.f.t, .int .i64 a.f.s, .slice E a.f.d.length ce]] w (ActPost base b A X r (actS r s a) w) := by
  by_cases h0 : a.kind = 0
  · exact act_send base b c A r s A' n c' a D E cd ce w h hr hs hsent hn hnc hbase X hw hX hd hf h0 hdd
  · by_cases h1 : a.kind = 1
    · exact act_sendf base b c A r s A' n c' a D E cd ce w h hr hs hsent hn hnc hbase X hw hX hd hf h1 hde
    · exact act_recv base b c A r s A' n c' a D E cd ce w h hr hs hn hnc hbase X hw hX h0 h1 hd hf
end Go.Proofs.Ytgdpoiapkaahfaa

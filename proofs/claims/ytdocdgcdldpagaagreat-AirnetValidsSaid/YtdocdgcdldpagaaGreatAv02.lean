import Derived.Test.YtdocdgcdldpagaaGreatAp
import Derived.Test.YtdocdgcdldpagaaGreatAv01
import Derived.Deep.AppendLies
import Derived.Deep.Draws
import Derived.Maps.AppendAt
import Derived.RegionTactic
namespace Go.Proofs.YtdocdgcdldpagaaGreat
open Go.RowKit
set_option linter.unusedSimpArgs false
set_option linter.unusedVariables false
theorem block_of_add (a : Addr) (n : Nat) : (a.add n).block = a.block := by unfold Addr.add; split <;> rfl
theorem add_of_add (a : Addr) (i j : Nat) : (a.add i).add j = a.add (i + j) := by
  unfold Addr.add
  by_cases hi : i = 0 <;> by_cases hj : j = 0 <;> simp [hi, hj, Nat.add_assoc]
def Reads (w : World) (B size : Nat) (A : Option Addr) (n : Nat) (xs : List Value) : Prop :=
  xs.length = n * size ∧ (0 < n → ∃ ad, A = some ad ∧ ad.block < B ∧ ∀ j u, xs[j]? = some u → w.cell? (ad.add j) = some u)
section
variable {w w' : World} {B B' size n : Nat} {A : Option Addr} {xs : List Value}
theorem Reads.none_ : Reads w B size A 0 [] := ⟨by simp, fun h => absurd h Cb⟩
theorem Reads.at_ {k : Nat} (h : Reads w B 1 A n xs) (hk : k < n) : ∃ ad u, A = some ad ∧ ad.block < B ∧ xs[k]? = some u ∧ w.cell? (ad.add k) = some u := by
  obtain ⟨ad, e, hb, hc⟩ := h.2 Cb
  have hl : k < xs.length := by have := h.1; omega
  exact ⟨ad, xs[k], e, hb, List.getElem?_eq_getElem hl, hc k _ (List.getElem?_eq_getElem hl)⟩
theorem Reads.keep (h : Reads w B size A n xs) (hk : ∀ p : Addr, p.block < B → w'.cell? p = w.cell? p) : Reads w' B size A n xs :=
  ⟨h.1, fun hn => by
    obtain ⟨ad, e, hb, hc⟩ := h.2 hn
    exact ⟨ad, e, hb, fun j u hu => (hk _ (by rw [block_of_add]; exact hb)).trans (hc j u hu)⟩⟩
theorem Reads.more (h : Reads w B size A n xs) (hB : B ≤ B') : Reads w B' size A n xs :=
  ⟨h.1, fun hn => by
    obtain ⟨ad, e, hb, hc⟩ := h.2 hn
    exact ⟨ad, e, by omega, hc⟩⟩
theorem Reads.below (h : Reads w B size A n xs) (hb : Below B w w') : Reads w' B size A n xs := h.keep fun _ hp => hb.cell hp
theorem Reads.drew (h : Reads w B size A n xs) : Reads w.drew B size A n xs := h
theorem Reads.drewN (h : Reads w B size A n xs) (k : Nat) : Reads (w.drewN k) B size A n xs := h
theorem Reads.alloc (h : Reads w B size A n xs) (hB : B ≤ w.heap.size) (o : Obj) : Reads (w.alloc o) B size A n xs := h.keep fun p hp => World.cell?_alloc_lt w o p Cb
theorem Reads.setCell (h : Reads w B size A n xs) {p : Addr} (hB : B ≤ p.block) (u : Value) : Reads (w.setCell p u) B size A n xs :=
  h.keep fun q hq => World.cell?_setCell_other w p q u (fun e => by subst e; omega)
theorem Reads.grown (h : Reads w B size A n xs) {row : Option Nat} (hg : w.grownBy w' row) (hB : B ≤ w.heap.size) (hr : ∀ g, row = some g → B ≤ g) : Reads w' B size A n xs :=
  h.keep fun p hp => World.cell?_of_block (hg.block p.block Cb (fun e => by have := hr _ e.symm; omega))
theorem Reads.cut (h : Reads w B size A n xs) {k cap : Nat} (hk : k ≤ n) (hc : n ≤ cap) :
    Reads w B size (if cap = k then A else A.map (·.add (k * size))) (n - k) (xs.drop (k * size)) := by
  refine ⟨by rw [List.length_drop, h.1, Nat.sub_mul], fun hn => ?_⟩
  obtain ⟨ad, rfl, hb, hcell⟩ := h.2 Cb
  rw [if_neg Cb]
  refine ⟨ad.add (k * size), rfl, by rw [block_of_add]; exact hb, fun j u hu => ?_⟩
  rw [add_of_add]
  exact hcell _ u (by rw [← hu, List.getElem?_drop])
theorem Reads.of_own {base : Nat} {e : TypeId} {c : Nat} (h : w.ownsRow base e size (.slice A n c) n xs) : Reads w w.heap.size size A n xs := by
  refine ⟨h.1, fun hn => ?_⟩
  obtain ⟨g, cap, hv, _, hlt⟩ := h.form hn
  have hA : A = some ⟨g, 0, none⟩ := by injection hv
  subst hA
  exact ⟨_, rfl, hlt, h.cells (g := g) rfl⟩
end
section
variable {P : Program} (w : World)
theorem run_append_of_nil (base : Nat) (t ty e : TypeId) (i : TypeInfo) (size : Nat) (ht : P.underlying t = some (.slice e)) (hi : P.info? e = some i)
    (v : Value) (n : Nat) (xs : List Value) (hown : w.ownsRow base e size v n xs) (c : Nat) : (Builtin.append_ #[t, t] ty #[v, .slice none 0 c]).run P w = .ok v w := by
  rcases hown.2 with ⟨rfl, rfl⟩ | ⟨g, cap, cur, rfl, _, _, hnc, _⟩
  · simp [Builtin.append_, run_underlying ht, sizeOf, typeInfo, hi, Builtin.lenOf, Builtin.firstCells]
  · simp [Builtin.append_, run_underlying ht, sizeOf, typeInfo, hi, Builtin.lenOf, Builtin.firstCells, hnc, storeCells]
theorem run_append_any (base : Nat) (t ty e : TypeId) (i : TypeInfo) (z : Value) (size bytes : Nat) (ht : P.underlying t = some (.slice e)) (hi : P.info? e = some i) (hz : i.zero = some z)
    (hsize : i.size = size) (hby : i.bytes = bytes) (hzs : z.cells.size = size) (hsz : 0 < size)
    (v : Value) (n : Nat) (xs : List Value) (hown : w.ownsRow base e size v n xs)
    (B : Nat) (A : Option Addr) (m c : Nat) (news : List Value) (hr : Reads w B size A m news) (h1 : ∀ u ∈ news, u.oneCell' = true)
    (h63 : n + m ≤ maxLen) (hbytes : (n + m) * bytes ≤ 140737488355328) (hbase : base ≤ w.heap.size) :
    ∃ v' w', (Builtin.append_ #[t, t] ty #[v, .slice A m c]).run P w = .ok v' w' ∧ w'.ownsRow base e size v' (n + m) (xs ++ news) ∧ w.grownBy w' v.ownBlock ∧
      (v'.ownBlock = v.ownBlock ∨ v'.ownBlock = some w.heap.size) := by
  rcases A with _ | ad
  · have hm : m = 0 := by
      rcases Nat.eq_zero_or_pos m with h0 | h0
      · exact h0
      · obtain ⟨ad, h, _⟩ := hr.2 h0
        cases h
    subst hm
    have hn : news = [] := List.eq_nil_of_length_eq_zero (by simpa using hr.1)
    subst hn
    exact ⟨v, w, run_append_of_nil w base t ty e i size ht hi v n xs hown c, by simpa using hown, World.grownBy.refl w _, .inl rfl⟩
  · have hcells : ∀ j u, news[j]? = some u → w.cell? (ad.add j) = some u := by
      intro j u hu
      rcases Nat.eq_zero_or_pos m with h0 | h0
      · subst h0
        have hn : news = [] := List.eq_nil_of_length_eq_zero (by simpa using hr.1)
        subst hn
        simp at hu
      · obtain ⟨ad', h, _, hc⟩ := hr.2 h0
        injection h with h
        subst h
        exact hc j u hu
    obtain ⟨v', w', hrun, h2, h3, _, h5⟩ := run_append_own_at (P := P) w base t ty e i z size bytes ht hi hz hsize hby hzs hsz v n xs hown ad m c news hr.1 hcells h1 h63 hbytes hbase
    exact ⟨v', w', hrun, h2, h3, h5⟩
theorem wp_append_any {o : Oper} {a : Act} {K : Act → World → Prop} {Q : Exit → Act → World → Prop} (s x : Operand) (t : TypeId)
    (ho : o.op = .call { callee := .builtin .append, args := #[s, x], argTypes := #[t, t] })
    (base : Nat) (e : TypeId) (i : TypeInfo) (z : Value) (size bytes : Nat) (ht : P.underlying t = some (.slice e)) (hi : P.info? e = some i) (hz : i.zero = some z)
    (hsize : i.size = size) (hby : i.bytes = bytes) (hzs : z.cells.size = size) (hsz : 0 < size)
    (v : Value) (n : Nat) (xs : List Value) (hs : a.eval s = v) (hown : w.ownsRow base e size v n xs)
    (B : Nat) (A : Option Addr) (m c : Nat) (news : List Value) (hx : a.eval x = .slice A m c) (hr : Reads w B size A m news) (h1 : ∀ u ∈ news, u.oneCell' = true)
    (h63 : n + m ≤ maxLen) (hbytes : (n + m) * bytes ≤ 140737488355328) (hbase : base ≤ w.heap.size)
    (h : ∀ v' w', w'.ownsRow base e size v' (n + m) (xs ++ news) → w.grownBy w' v.ownBlock → (v'.ownBlock = v.ownBlock ∨ v'.ownBlock = some w.heap.size) → K (a.put o.dst v') w') : o.wp P a w K Q := by
  obtain ⟨v', w', hrun, h2, h3, h4⟩ := run_append_any (P := P) w base t o.type e i z size bytes ht hi hz hsize hby hzs hsz v n xs hown B A m c news hr h1 h63 hbytes hbase
  unfold Oper.wp execOp
  simp only [ho, resolve, invoke, builtin, Sem.run_bind, Sem.run_pure, Result.andThen_ok, List.map_toArray, List.map_cons, List.map_nil, hs, hx, hrun]
  exact h v' w' h2 h3 h4
theorem wpList_append_any {ops : Array Oper} {rest : List Oper} {o : Oper} {a : Act} {Q : Exit → Act → World → Prop} (hgd : o.guard = none) (s x : Operand) (t : TypeId)
    (ho : o.op = .call { callee := .builtin .append, args := #[s, x], argTypes := #[t, t] })
    (base : Nat) (e : TypeId) (i : TypeInfo) (z : Value) (size bytes : Nat) (ht : P.underlying t = some (.slice e)) (hi : P.info? e = some i) (hz : i.zero = some z)
    (hsize : i.size = size) (hby : i.bytes = bytes) (hzs : z.cells.size = size) (hsz : 0 < size)
    (v : Value) (n : Nat) (xs : List Value) (hs : a.eval s = v) (hown : w.ownsRow base e size v n xs)
    (B : Nat) (A : Option Addr) (m c : Nat) (news : List Value) (hx : a.eval x = .slice A m c) (hr : Reads w B size A m news) (h1 : ∀ u ∈ news, u.oneCell' = true)
    (h63 : n + m ≤ maxLen) (hbytes : (n + m) * bytes ≤ 140737488355328) (hbase : base ≤ w.heap.size)
    (h : ∀ v' w', w'.ownsRow base e size v' (n + m) (xs ++ news) → w.grownBy w' v.ownBlock → (v'.ownBlock = v.ownBlock ∨ v'.ownBlock = some w.heap.size) → wpList P ops Q rest (a.put o.dst v') w') : wpList P ops Q (o :: rest) a w :=
  wpList_plain hgd fun _ hK => wp_append_any w s x t ho base e i z size bytes ht hi hz hsize hby hzs hsz v n xs hs hown B A m c news hx hr h1 h63 hbytes hbase fun v' w' h2 h3 h4 => hK _ _ (h v' w' h2 h3 h4)
theorem step_append_any {ops : Array Oper} {o : Oper} {a : Act} {K : Act → World → Prop} {Q : Exit → Act → World → Prop} {E : Prop} (hgd : o.guard = none) (s x : Operand) (t : TypeId)
    (ho : o.op = .call { callee := .builtin .append, args := #[s, x], argTypes := #[t, t] })
    (base : Nat) (e : TypeId) (i : TypeInfo) (z : Value) (size bytes : Nat) (ht : P.underlying t = some (.slice e)) (hi : P.info? e = some i) (hz : i.zero = some z)
    (hsize : i.size = size) (hby : i.bytes = bytes) (hzs : z.cells.size = size) (hsz : 0 < size)
    (v : Value) (n : Nat) (xs : List Value) (hs : a.eval s = v) (hown : w.ownsRow base e size v n xs)
    (B : Nat) (A : Option Addr) (m c : Nat) (news : List Value) (hx : a.eval x = .slice A m c) (hr : Reads w B size A m news) (h1 : ∀ u ∈ news, u.oneCell' = true)
    (h63 : n + m ≤ maxLen) (hbytes : (n + m) * bytes ≤ 140737488355328) (hbase : base ≤ w.heap.size)
    (h : ∀ v' w', w'.ownsRow base e size v' (n + m) (xs ++ news) → w.grownBy w' v.ownBlock → (v'.ownBlock = v.ownBlock ∨ v'.ownBlock = some w.heap.size) → K (a.put o.dst v') w') :
    if Region.wanted o (yielded ops a.tmps) = true then Oper.wp P o a w K Q else E := by
  have hw : Region.wanted o (yielded ops a.tmps) = true := by simp [Region.wanted, hgd]
  rw [if_pos hw]
  exact wp_append_any w s x t ho base e i z size bytes ht hi hz hsize hby hzs hsz v n xs hs hown B A m c news hx hr h1 h63 hbytes hbase h
end
section
variable {w w' : World} {B : Nat} {A : Option Addr} {n cap : Nat} {l : List Int}
theorem addr_add (b o n : Nat) : (⟨b, o, none⟩ : Addr).add n = ⟨b, o + n, none⟩ := by unfold Addr.add; split <;> simp_all
theorem Rd.reads (h : Rd w B A n l) : Reads w B 1 A n (bv l) := by
  obtain ⟨hl, hb, hr⟩ := h
  refine ⟨by simp [bv, hl], fun hn => ?_⟩
  obtain ⟨b, o, rfl, hbl, hc⟩ := hr hn
  refine ⟨_, rfl, hbl, fun j u hu => ?_⟩
  have hj : j < l.length := by
    rcases Nat.lt_or_ge j l.length with h | h
    · exact h
    · simp [bv, List.getElem?_eq_none h] at hu
  rw [addr_add, hc j Cb]
  simp [bv, List.getElem?_eq_getElem hj] at hu
  subst hu
  simp [List.getD, List.getElem?_eq_getElem hj]
theorem Reads.new (w : World) (cs : Array Value) (t : TypeId) : Reads (w.alloc (.cells cs t)) (w.heap.size + 1) 1 (some ⟨w.heap.size, 0, none⟩) cs.size cs.toList := by
  refine ⟨by simp, fun _ => ⟨_, rfl, by simp, fun i u hu => ?_⟩⟩
  rw [addr_add, Nat.zero_add]
  have h := heap_new w (.cells cs t)
  simp only [World.cell?, h]
  simpa using hu
theorem bv_one (l : List Int) : ∀ u ∈ bv l, u.oneCell' = true := ints_oneCell .u8 l
def Ow (w : World) (base : Nat) (A : Option Addr) (n cap : Nat) (l : List Int) : Prop := w.ownsRow base 5 1 (.slice A n cap) n (bv l) ∧ By l
theorem Ow.len {base : Nat} (h : Ow w base A n cap l) : l.length = n := by have := h.1.1; simpa [bv] using this
theorem Ow.rd {base : Nat} (h : Ow w base A n cap l) : Rd w w.heap.size A n l := Rd.of_own h.1 h.2
theorem Ow.form {base : Nat} (h : Ow w base A n cap l) : (A = none ∧ n = 0 ∧ cap = 0) ∨ ∃ g, A = some ⟨g, 0, none⟩ ∧ base ≤ g ∧ g < w.heap.size ∧ n ≤ cap ∧ cap ≤ maxLen := by
  rcases h.1.2 with ⟨e, h0⟩ | ⟨g, c, cur, e, hb, hh, h1, h2, h3, h4⟩
  · injection e with e1 e2 e3
    exact .inl ⟨e1, h0, e3⟩
  · injection e with e1 e2 e3
    subst e1; subst e3
    exact .inr ⟨g, rfl, hb, lt_of_block hh, h1, h2⟩
theorem Ow.block {base g : Nat} (h : Ow w base (some ⟨g, 0, none⟩) n cap l) : ∃ cur, w.heap[g]? = some (.cells cur 5 (0, 0)) ∧ n ≤ cap ∧ cur.size = cap ∧ cur.toList.take n = bv l := by
  rcases h.1.2 with ⟨e, h0⟩ | ⟨g', c, cur, e, hb, hh, h1, h2, h3, h4⟩
  · cases e
  · injection e with e1 e2 e3
    injection e1 with e1
    injection e1 with e1
    subst e1; subst e3
    exact ⟨cur, hh, h1, by omega, by simpa using h4⟩
theorem Ow.below {base B : Nat} (h : Ow w base A n cap l) (k : Below B w w') (hB : w.heap.size ≤ B) : Ow w' base A n cap l := by
  refine ⟨h.1.kept (row := none) ⟨k.os, k.tape, k.output, k.size, fun i hi _ => k.block i Cb⟩ ?_, h.2⟩
  rcases h.form with ⟨rfl, _⟩ | ⟨g, rfl, _⟩
  · left; rfl
  · right; simp [Value.ownBlock]
theorem Ow.grown {base : Nat} {row : Option Nat} (h : Ow w base A n cap l) (hg : w.grownBy w' row) (hne : ∀ g, A = some ⟨g, 0, none⟩ → some g ≠ row) : Ow w' base A n cap l := by
  refine ⟨h.1.kept hg ?_, h.2⟩
  rcases h.form with ⟨rfl, _⟩ | ⟨g, rfl, _⟩
  · left; rfl
  · right; exact hne g rfl
theorem Ow.drew {base : Nat} (h : Ow w base A n cap l) : Ow w.drew base A n cap l := h
theorem Ow.drewN {base : Nat} (h : Ow w base A n cap l) (k : Nat) : Ow (w.drewN k) base A n cap l := h
theorem Ow.alloc {base : Nat} (h : Ow w base A n cap l) (o : Obj) : Ow (w.alloc o) base A n cap l := ⟨h.1.alloc o, h.2⟩
theorem Ow.more {base base' : Nat} (h : Ow w base A n cap l) (hb : base' ≤ base) : Ow w base' A n cap l := by
  refine ⟨⟨h.1.1, ?_⟩, h.2⟩
  rcases h.1.2 with e | ⟨g, c, cur, e, hb', rest⟩
  · exact .inl e
  · exact .inr ⟨g, c, cur, e, by omega, rest⟩
theorem own_form {base : Nat} {e : TypeId} {v : Value} {xs : List Value} (h : w.ownsRow base e 1 v n xs) : ∃ A cap, v = .slice A n cap := by
  rcases h.2 with ⟨rfl, rfl⟩ | ⟨g, c, cur, rfl, _⟩
  · exact ⟨_, _, rfl⟩
  · exact ⟨_, _, rfl⟩
theorem Ow.nil (w : World) (base : Nat) : Ow w base none 0 0 [] := ⟨World.ownsRow_nil w base _ _, by intro x hx; cases hx⟩
end
end Go.Proofs.YtdocdgcdldpagaaGreat
namespace Go.Proofs.YtdocdgcdldpagaaGreat
open Go.RowKit
set_option maxHeartbeats 4000000
set_option linter.unusedSimpArgs false
set_option linter.unusedVariables false
theorem start_any (w : World) : Calls Tryz.prog 150 #[] w fun e w' => e = .returned (.agg #[.int .u8 213, .int .u8 76]) ∧ Below w.heap.size w w' := by
  go_enter Tryz.func150, Tryz.ntmps150
  go_wp2_with fail
  refine bodyPost_ret (v := .agg #[.int .u8 213, .int .u8 76]) ?_ rfl ⟨rfl, A9⟩
  simp [results, Tryz.results150, go_sem]
theorem info_u8 : (Tryz.prog.info? 5).map (fun i => (i.zero, i.size, i.bytes)) = some (some (.int .u8 0), 1, 1) := by kernel_rfl
theorem getD_eq {l k : List Int} (h : l.length = k.length) (hh : ∀ i, i < l.length → l.getD i 0 = k.getD i 0) : l = k := by
  apply List.ext_getElem h
  intro i h1 h2
  have := hh i h1
  simpa [List.getD, List.getElem?_eq_getElem h1, List.getElem?_eq_getElem h2] using this
theorem clone_any (A : Option Addr) (n cap : Nat) (l : List Int) (w : World) (hn : n ≤ 140737488355328) (hnil : A = none → n = 0) (h : Rd w w.heap.size A n l) :
    Calls Tryz.prog 154 #[.slice A n cap] w fun e w' => ∃ A' cap', e = .returned (.slice A' n cap') ∧ Ow w' w.heap.size A' n cap' l ∧ Below w.heap.size w w' := by
  obtain ⟨i0, hi0, hz0, hz1, hz2⟩ := info_parts info_u8
  cases A with
  | none =>
    obtain rfl := hnil rfl
    have hl : l = [] := List.eq_nil_of_length_eq_zero h.1
    subst hl
    have kn := fun (W : World) => Lib.run_eql_slice_nil (P := Tryz.prog) W 47 5 none 0 cap 0 0 Tryz.underlying47
    simp only [Option.isNone] at kn
    go_enter Tryz.func154, Tryz.ntmps154
    go_wp2_with fail
    go_ret
    exact ⟨none, 0, rfl, Ow.nil _ _, A9⟩
  | some a =>
    have hb := h.2.1
    have hr := h.reads
    have HH := Lib.hid h
    clear h hnil
    have kn := fun (W : World) => Lib.run_eql_slice_nil (P := Tryz.prog) W 47 5 (some a) n cap 0 0 Tryz.underlying47
    simp only [Option.isNone] at kn
    go_enter Tryz.func154, Tryz.ntmps154
    go_wp2_with (at_builtin; refine wpList_append_any _ rfl (.tmp 5) (.tmp 6) _ rfl w.heap.size 5 i0 _ 1 1 Tryz.underlying47 hi0 hz0 hz1 hz2 rfl Cb (.slice (some ⟨w.heap.size, 0, none⟩) 0 0) 0 [] rfl (World.ownsRow_lit w #[] 0 (Nat.le_refl _) Bv rfl) w.heap.size (some a) n cap (bv l) rfl (hr.alloc (Nat.le_refl _) _) (bv_one l) Bn Cb C9 ?_; intro v1 w1 hown1 hg1 hat1)
    go_ret
    simp only [Nat.zero_add, List.nil_append] at hown1
    obtain ⟨A', cap', rfl⟩ := own_form hown1
    exact ⟨A', cap', rfl, ⟨hown1, hb⟩, ((Below.refl _ _).alloc (Nat.le_refl _) _).grown hg1 C9 (fun k hk => by simp [Value.ownBlock] at hk; omega)⟩
end Go.Proofs.YtdocdgcdldpagaaGreat
namespace Go.Proofs.YtdocdgcdldpagaaGreat
open Go.RowKit
set_option maxHeartbeats 4000000
set_option linter.unusedSimpArgs false
set_option linter.unusedVariables false
section
variable {w w' : World} {B : Nat} {A : Option Addr} {n cap : Nat} {l : List Int}
theorem Rd.sub {b o : Nat} (h : Rd w B (some ⟨b, o, none⟩) n l) (lo m : Nat) (hm : lo + m ≤ n) : Rd w B (some ⟨b, o + lo, none⟩) m ((l.drop lo).take m) := by
  obtain ⟨hl, hb, hr⟩ := h
  refine ⟨by simp; omega, fun x hx => hb x (List.mem_of_mem_drop (List.mem_of_mem_take hx)), fun hn => ?_⟩
  obtain ⟨b', o', e, hbl, hc⟩ := hr Cb
  injection e with e
  injection e with e1 e2
  subst e1; subst e2
  refine ⟨_, _, rfl, hbl, fun i hi => ?_⟩
  rw [Nat.add_assoc, hc (lo + i) Cb]
  congr 2
  simp [List.getD, List.getElem?_take, List.getElem?_drop, hi]
theorem Rd.take (h : Rd w B A n l) (m : Nat) (hm : m ≤ n) : Rd w B A m (l.take m) := by
  obtain ⟨hl, hb, hr⟩ := h
  refine ⟨by simp; omega, fun x hx => hb x (List.mem_of_mem_take hx), fun hn => ?_⟩
  obtain ⟨b', o', e, hbl, hc⟩ := hr Cb
  refine ⟨_, _, e, hbl, fun i hi => ?_⟩
  rw [hc i Cb]
  congr 2
  simp [List.getD, List.getElem?_take, hi]
theorem Rd.of_block {q : Nat} {t : TypeId} (h : w.heap[q]? = some (.cells (bv l).toArray t (0, 0))) (hq : q < B) (hb : By l) : Rd w B (some ⟨q, 0, none⟩) l.length l := by
  refine ⟨rfl, hb, fun hn => ⟨q, 0, rfl, hq, fun i hi => ?_⟩⟩
  rw [Nat.zero_add]
  exact blk_cell h i (by simp [bv, List.getElem?_eq_getElem hi, List.getD])
end
namespace Frm
end Frm
end Go.Proofs.YtdocdgcdldpagaaGreat
namespace Go.Proofs.YtdocdgcdldpagaaGreat
open Go.RowKit
set_option maxHeartbeats 4000000
set_option linter.unusedSimpArgs false
set_option linter.unusedVariables false
def I64 (l : List Int) : Prop := ∀ x ∈ l, -9223372036854775808 ≤ x ∧ x ≤ 9223372036854775807
def iv (l : List Int) : List Value := l.map (Value.int .i64)
def Ri (w : World) (B : Nat) (A : Option Addr) (n : Nat) (l : List Int) : Prop :=
  l.length = n ∧ I64 l ∧ (0 < n → ∃ b o, A = some ⟨b, o, none⟩ ∧ b < B ∧ ∀ i, i < n → w.cell? ⟨b, o + i, none⟩ = some (.int .i64 (l.getD i 0)))
section
variable {w w' : World} {B : Nat} {A : Option Addr} {n : Nat} {l : List Int}
theorem Ri.keep (h : Ri w B A n l) (hk : ∀ b o, b < B → w'.cell? ⟨b, o, none⟩ = w.cell? ⟨b, o, none⟩) : Ri w' B A n l :=
  ⟨h.1, h.2.1, fun hn => by
    obtain ⟨b, o, e, hb, hc⟩ := h.2.2 hn
    exact ⟨b, o, e, hb, fun i hi => (hk b _ hb).trans (hc i hi)⟩⟩
theorem Ri.below {B' : Nat} (h : Ri w B A n l) (k : Below B' w w') (hB : B ≤ B') : Ri w' B A n l := h.keep fun b o hb => k.cell (p := ⟨b, o, none⟩) (Nat.lt_of_lt_of_le hb hB)
theorem Ri.more {B' : Nat} (h : Ri w B A n l) (hB : B ≤ B') : Ri w B' A n l :=
  ⟨h.1, h.2.1, fun hn => by
    obtain ⟨b, o, e, hb, hc⟩ := h.2.2 hn
    exact ⟨b, o, e, by omega, hc⟩⟩
theorem Ri.drewN (h : Ri w B A n l) (k : Nat) : Ri (w.drewN k) B A n l := h
theorem Ri.nil (w : World) (B : Nat) (A : Option Addr) : Ri w B A 0 [] := ⟨rfl, (by intro x hx; cases hx), fun h => absurd h Cb⟩
theorem I64.at_ (h : I64 l) (i : Nat) : -9223372036854775808 ≤ l.getD i 0 ∧ l.getD i 0 ≤ 9223372036854775807 := by
  by_cases hi : i < l.length
  · have : l.getD i 0 ∈ l := by simp [List.getD, List.getElem?_eq_getElem hi]
    exact h _ this
  · simp [List.getD, List.getElem?_eq_none (by omega : l.length ≤ i)]
theorem Ri.of_own {base : Nat} {e : TypeId} {c : Nat} (h : w.ownsRow base e 1 (.slice A n c) n (iv l)) (hb : I64 l) : Ri w w.heap.size A n l := by
  have hlen : l.length = n := by have := h.1; simpa [iv] using this
  refine ⟨hlen, hb, fun hn => ?_⟩
  rcases h.2 with ⟨he, _⟩ | ⟨g, cap, cur, hv, _, hh, h1, h2, h3, h4⟩
  · simp at he; omega
  · injection hv with hv
    subst hv
    have hlt := lt_of_block hh
    refine ⟨g, 0, rfl, hlt, fun i hi => ?_⟩
    have hc := World.ownsRow.cellAt h (g := g) i Cb
    rw [Nat.zero_add, hc, iv]
    simp [List.getElem?_eq_getElem (by omega : i < l.length), List.getD]
end
theorem samei_any (A C : Option Addr) (n m cap caq : Nat) (l k : List Int) (w : World) (hn : n ≤ 140737488355328) (hm : m ≤ 140737488355328) (h : Ri w w.heap.size A n l) (g : Ri w w.heap.size C m k) :
    Calls Tryz.prog 41 #[.slice A n cap, .slice C m caq] w fun e w' => e = .returned (.bool (decide (l = k))) ∧ ∃ q, w' = w.drewN q := by
  obtain ⟨hl, hb, hr⟩ := h
  obtain ⟨gl, gb, gr⟩ := g
  by_cases hnm : n = m
  · subst hnm
    have HL := Lib.hid hl; have GL := Lib.hid gl; have HB := Lib.hid hb; have GB := Lib.hid gb
    clear hl gl hb gb
    go_enter Tryz.func41, Tryz.ntmps41
    go_wp2_with fail
    go_loopw [5] (fun s wr => ∃ (j q : Nat), s = .int .i64 j ∧ j ≤ n ∧ wr = w.drewN q ∧ Hid (∀ i, i < j → l.getD i 0 = k.getD i 0)) (fun s _ => n - (intOf s).toNat)
    case atStart => exact ⟨0, 0, by go_num, by omega, rfl, Lib.hid (fun i hi => absurd hi Cb)⟩
    case round =>
      obtain ⟨j, q, rfl, hj, rfl, HA⟩ := hrel
      by_cases hlt : j < n
      · obtain ⟨b, o, rfl, hbl, hcl⟩ := hr Cb
        obtain ⟨b', o', rfl, hbl', hcl'⟩ := gr Cb
        have c1 := hcl j hlt
        have c2 := hcl' j hlt
        have E := Lib.hid (show ∀ x y : Int, l.getD j 0 = x → k.getD j 0 = y → x ≠ y → decide (l = k) = false from fun x y e1 e2 hxy => by
          rw [decide_eq_false_iff_not]
          rintro rfl
          exact hxy (e1.symm.trans e2))
        have F := Lib.hid (show ∀ x y : Int, l.getD j 0 = x → k.getD j 0 = y → x = y → ∀ i, i < j + 1 → l.getD i 0 = k.getD i 0 from fun x y e1 e2 hxy i hi => by
          rcases Nat.lt_or_ge i j with h | h
          · exact HA.out i h
          · obtain rfl : i = j := by omega
            rw [e1, e2, hxy])
        clear hr gr hcl hcl' HA
        obtain ⟨x, hx⟩ : ∃ x, l.getD j 0 = x := ⟨_, rfl⟩
        obtain ⟨y, hy⟩ : ∃ y, k.getD j 0 = y := ⟨_, rfl⟩
        rw [hx] at c1
        rw [hy] at c2
        have E1 := Lib.hid (E.out x y hx hy)
        have F1 := Lib.hid (F.out x y hx hy)
        clear E F hx hy
        by_cases hxy : x = y
        · have E2 := Lib.hid (F1.out hxy)
          subst hxy
          clear E1 F1
          go_wp2_with fail
          go_quiet (fail)
          go_wp2_with fail
          go_roundw
          case rel => exact ⟨j + 1, _, by go_num, by omega, rfl, E2⟩
          case measure => simp [intOf]; omega
        · have E2 := Lib.hid (E1.out hxy)
          have z : (x != y) = true := by simpa using hxy
          clear E1 F1 hxy
          go_wp2_with fail
          go_quiet (fail)
          go_wp2_with fail
          go_ret
          exact ⟨ret_bool E2.out.symm, _, World.drewN_drewN _ _ _⟩
      · obtain rfl : j = n := by omega
        have E := Lib.hid (show decide (l = k) = true from decide_eq_true (getD_eq (HL.out.trans GL.out.symm) (fun i hi => HA.out i (by rw [HL.out] at hi; exact hi))))
        clear hr gr HA
        go_wp2_with fail
        go_ret
        exact ⟨ret_bool E.out.symm, q, rfl⟩
  · have z : ((n : Int) != (m : Int)) = true := by simp; omega
    have E := Lib.hid (show decide (l = k) = false by rw [decide_eq_false_iff_not]; rintro rfl; omega)
    clear hl gl hr gr hnm hb gb
    go_enter Tryz.func41, Tryz.ntmps41
    go_wp2_with fail
    go_ret
    exact ⟨ret_bool E.out.symm, 0, rfl⟩
end Go.Proofs.YtdocdgcdldpagaaGreat
namespace Go.Proofs.YtdocdgcdldpagaaGreat
open Go.RowKit
set_option maxHeartbeats 4000000
set_option linter.unusedSimpArgs false
set_option linter.unusedVariables false
namespace Frm
def body (k f t s : Int) (d : List Int) : List Int := [k, f, t, s / 256, s % 256, (d.length : Int)] ++ d
def enc (k f t s : Int) (d : List Int) : List Int := [213, 76] ++ body k f t s d ++ [((crcN (body k f t s d) : Nat) : Int) / 256, ((crcN (body k f t s d) : Nat) : Int) % 256]
theorem By.append {l m : List Int} (h : By l) (g : By m) : By (l ++ m) := by
  intro x hx
  rcases List.mem_append.1 hx with h1 | h1
  · exact h x h1
  · exact g x h1
theorem vd_bd {k f t s : Int} {n : Nat} (h : vd k f t s n = true) : (1 ≤ k ∧ k ≤ 9) ∧ (0 ≤ f ∧ f ≤ 64) ∧ (0 ≤ t ∧ t ≤ 64) ∧ (0 ≤ s ∧ s ≤ 65535) ∧ n ≤ 64 := by
  rw [vd_iff] at h; omega
theorem body_by {k f t s : Int} {d : List Int} (h : vd k f t s d.length = true) (hd : By d) : By (body k f t s d) := by
  have := vd_bd h
  refine By.append ?_ hd
  intro x hx
  simp at hx
  omega
end Frm
end Go.Proofs.YtdocdgcdldpagaaGreat

import Derived.WalkKit
import Derived.WalkSpells
import Derived.WalkLawsBesides
import Derived.Deep.QuietTactic
import Derived.BigQuiet
import Derived.BigRegion
import Derived.Lib.Hide
import Derived.IntWalk
import Derived.KernelRfl
import Derived.Deep.RegionHeld3
import Derived.Deep.RegionLaw
import Derived.Deep.DeepCutAuto
import Derived.LoopTactic
import Derived.OwnWalk
import Derived.Laws.OwnMore
import Derived.Below
import Derived.Outline
import Derived.Deep.LoopGhost
import Derived.Laws.BitsAllLaws
import Derived.Laws.BitsLemmas
import Derived.Laws.BytesArg
import Derived.Deep.AppendLies
import Derived.Deep.Draws
import Derived.Maps.AppendAt
import Derived.RegionTactic
import Derived.Laws.CopyOwn
import Derived.StillTailTactics
import Derived.Laws.Cover3
import Derived.Deep.DrawnRows
import Derived.RangeFuncBox
import Derived.RangeFuncLeaves
import Derived.Shelf.Abstract
import Derived.OwnWalkIn
import Derived.TacticsInMore
import Derived.LoopNIn
import Derived.LoopIn
import Derived.ProofKit
import Derived.OpenShut
import Derived.ShutString
import Derived.ChangeOld
import Derived.Lib.SmallJoins
import Derived.Deep.Slices
import Derived.Deep.Fields
import Derived.ChangeSame
import Derived.Carry
import Derived.Deep.AppendSrc
import Derived.Lib.AppendZerosOnto
import Derived.Lib.Overlaps
import Derived.Laws.Externs
import Derived.Lib.ConvBytes
import Derived.Maps.OwnSet
import Derived.WalkArith
import Derived.Lib.SliceRun
import Derived.Laws.EntriesVeiled
import Derived.RangeFuncCalls
import Derived.RangeFuncNested
import Derived.Deep.MidRow
import Derived.StillTail
import Derived.BigFrame
namespace Go.Proofs.YtdocdgcdldpagaaGreat
set_option linter.all false
open Go.RowKit
variable{p q:Prop}
def BG:=@Go.lt_of_block
def AO:=@if_neg
def AW:=@if_pos
def GF:=@Go.IntWalk.i64_in
def Q8:=@List.setIfInBounds_toArray
def GI:=@Go.wpAnyH_take
def IT:=@Go.bodyPost_ret
def NH:=@Go.AllReadyH.cons
def Pd:=@Go.AllReadyH.nil
def PL:=@Nat.zero_add
def IU:=@decide_eq_true
def JS:=@Go.wpList_load_row
def ME:=@decide_eq_false
theorem P3{α:Type}{a v:α}{l:List α}:(a::l).set 0 v=v::l:=rfl
theorem P0{α:Type}{a v:α}{l:List α}{n:Nat}:(a::l).set (n+1) v=a::l.set n v:=rfl
def JO:=@Go.below_setRow
def R8:=@List.take_of_length_le
theorem R7{α:Type}{a:α}{l:List α}{i:Nat}{h:i+1<(a::l).length}:(a::l)[i+1]=l[i]'(Nat.lt_of_succ_lt_succ h):=rfl
theorem R6{α:Type}{a:α}{l:List α}{h:0<(a::l).length}:(a::l)[0]=a:=rfl
def R3:=@List.getElem?_eq_none
def OZ:=@Go.wpList_store_row
theorem R2{α:Type}{xs:List α}{i:Nat}(h:i<xs.toArray.size):xs.toArray[i]=xs[i]'(by simpa using h):=rfl
def Oj:=@Nat.lt_or_ge
def MR:=@Go.setRow_heap
def OI:=@Go.wpAnyH_ready
def Sv:=@Nat.lt_of_lt_of_le
def MQ:=@Go.info_parts
def Pq:=@Go.setRow_other
def TF:=@List.getElem?_drop
def Ta:=@Go.World.ownsRow_nil
def Pe:=@Nat.zero_le
def Um:=@Go.wp_region_held_drew
def TW:=@List.length_append
def a9:=@List.eq_nil_of_length_eq_zero
def TV:=@List.getElem?_map
def T9:=@List.length_set
def eV:=@List.take_succ_eq_append_getElem
def VU:=@List.getElem?_take
def Ul:=@List.length_take
def Q5:=@beq_iff_eq
def OP:=@congrArg
def RJ:=@Go.wpAnyH_done
def TE:=@Nat.add_assoc
def Yb:=@Go.Calls.quiet_of_same
def QZ:=@Go.RowKit.Below.refl
def VT:=@Go.IntKind.wrap_u8
def WW:=@List.length_map
def Xu:=@List.length_drop
def eU:=@decide_eq_false_iff_not
def Z8:=@of_decide_eq_true
def cj:=@List.mem_of_mem_take
def cg:=@Nat.mul_le_mul_right
def a8:=@List.append_assoc
def mj:=@List.getElem?_append_left
def Vs:=@Nat.mul_one
def iP:=@List.length_replicate
def iO:=@Array.getElem?_toList
def cf:=@List.size_toArray
def bZ:=@List.getElem_mem
def bY:=@Bool.and_eq_true
def bX:=@Go.RowKit.Below.heap_alloc
def eT:=@List.ext_getElem?
def eS:=@decide_eq_true_eq
def ZZ:=@Go.DataW.trod_int
def mi:=@Nat.le_of_ble_eq_true
def bW:=@List.map_append
def Xt:=@Go.RowKit.Below.grown
def iN:=@Go.RowKit.Below.heap_setCell
def qa:=@Go.World.putObj_heap_other
def eR:=@List.filter_cons
def vI:=@List.getElem?_append_right
def vH:=@Int.tmod_eq_emod_of_nonneg
def bV:=@List.drop_zero
def iM:=@List.flatMap_cons
def mh:=@List.drop_succ_cons
def mg:=@Nat.eq_zero_or_pos
def ZY:=@Int.lt_or_le
def mf:=@List.pairwise_cons
def pZ:=@List.mem_of_getElem?
def A05:=@Array.getD_eq_getD_getElem?
def bU:=@Go.wp_store_row
def bT:=@Go.results_none
def pY:=@decide_eq_true_iff
def pX:=@List.filter_append
def vG:=@Go.Lib.run_eql_slice_nil
def A04:=@Go.World.cell?_setCell_other
def bS:=@Go.OwnFrom.and
def eQ:=@Go.Sem.run_bind
def vF:=@List.mem_of_mem_drop
def pW:=@Option.some.injEq
def pV:=@List.foldl_append
def WV:=@if_true
def A2y:=@Array.getElem?_setIfInBounds
def A03:=@Array.getElem?_eq_none
def iL:=@Go.bodyPost_end
def me:=@List.map_cons
def A2x:=@Int.tdiv_eq_ediv_of_nonneg
def vE:=@Go.yieldsIf_load_mid
def A02:=@Go.World.cell?_alloc_lt
def A01:=@Array.replicate_succ
def cA:=@Go.run_underlying
def mF:=@Go.World.ownsRow.alloc
def mD:=@List.append_toArray
def mC:=@List.getElem_of_mem
def A0i:=@Array.getElem?_setIfInBounds_ne
def Yc:=@Go.RowKit.Below.drew
def td:=@Go.World.cell?_alloc_past
def ZB:=@Int.le_refl
def tb:=@List.getElem?_set_self
def A0h:=@Int.mul_le_mul_of_nonneg_left
def mB:=@Go.World.ownsRow_lit
def mA:=@List.push_toArray
def fW:=@Go.size_madeCells
def cz:=@List.mem_map
def Xh:=@Eq.trans
def sZ:=@Go.World.ownsRow.cellAt
def mz:=@Nat.shiftLeft_eq
def my:=@Go.IntKind.wrap_u64
def sY:=@List.getElem?_set_ne
def mw:=@Go.World.size_alloc
def sX:=@Go.Region.waitsFor_spec
def fV:=@Go.length_splice
def fU:=@List.mem_cons
def sW:=@Go.run_firstCells_some
def mr:=@Go.grownBy_putObj'
def A0g:=@Array.getElem?_eq_getElem
def A0f:=@Nat.shiftRight_eq_div_pow
def mq:=@Nat.min_eq_left
def sV:=@Go.World.ownsRow.drew
def fT:=@List.map_set
def fS:=@List.map_nil
def sU:=@Int.emod_lt_of_pos
def fR:=@Nat.zero_mul
def A0e:=@Array.size_setIfInBounds
def fQ:=@Go.wp_store_mid
def fP:=@Nat.le_of_eq
def sS:=@List.take_add_one
def sR:=@Go.DataW.trod_struct
def sQ:=@Go.IntKind.wrap_i64
def sP:=@List.all_eq_true
def sO:=@List.take_length
def A0d:=@List.length_filter_le
def A0c:=@Int.ediv_emod_unique
def sN:=@Int.emod_nonneg
def A0b:=@List.mem_cons_of_mem
def A0a:=@List.flatMap_append
def A09:=@Go.callsIn_of_wp_marks
def mm:=@Nat.add_mul
def A08:=@List.mem_cons_self
def A07:=@Bool.false_eq_true
def sM:=@Go.ownFrom_below
def sK:=@Bool.not_true
def A06:=@List.getElem?_set
def fO:=@if_false
theorem Fk(h:p:=by rfl):p:=h
theorem Fu(h:p:=by simp):p:=h
theorem Ft(h:p:=by omega):p:=h
theorem Fj(h:p:=by decide):p:=h
theorem Fi(h:p:=by cases hf):p:=h
theorem Fh(h:p:=by simp[hp]):p:=h
theorem Fs(h:p:=by simp[ht]):p:=h
theorem Ff(h:p:=by kernel_rfl):p:=h
theorem Fg(h:p:=by rw[E.out]):p:=h
theorem Fq(h:p:=by assumption):p:=h
theorem Fd(h:p:=by simp[RV]):p:=h
theorem Fe(h:p:=by rw[HL.out]):p:=h
theorem Fp(h:p:=by simp;omega):p:=h
theorem Fc(h:p:=by rw[hg];rfl):p:=h
theorem F6(h:p:=by rw[DJ];rfl):p:=h
theorem F7(h:p:=by simpa using h):p:=h
theorem F9(h:p:=by simpa using z):p:=h
theorem Fa(h:p:=by rw[kh];rfl):p:=h
theorem Fb(h:p:=by simpa using g):p:=h
theorem F2(h:p:=by decide+kernel):p:=h
theorem F3(h:p:=by simpa using hi):p:=h
theorem F4(h:p:=by simpa using h1):p:=h
theorem F5(h:p:=by simpa using h2):p:=h
theorem Ez(h:p:=by rw[Ot];omega):p:=h
theorem F0(h:p:=by simp;try omega):p:=h
theorem Ew(h:p:=by simp[go_sem, *]):p:=h
theorem Ex(h:p:=by rw[hyl];decide):p:=h
theorem Ey(h:p:=by simp[bv];omega):p:=h
theorem Es(h:p:=by unfold NT;decide):p:=h
theorem Et(h:p:=by rw[HGP.out];rfl):p:=h
theorem Eu(h:p:=by rw[oF.out];rfl):p:=h
theorem Eo(h:p:=by rw[kh];exact hd):p:=h
theorem Ep(h:p:=by rw[HL.out];omega):p:=h
theorem Er(h:p:=by rw[rP.out];simp):p:=h
theorem Em(h:p:=by have:=hs.n;omega):p:=h
theorem En(h:p:=by rw[kh];exact MB):p:=h
theorem Ee(h:p:=by unfold maxLen;omega):p:=h
theorem Ef(h:p:=by as_aux_lemma=>simp):p:=h
theorem Eg(h:p:=by rw[<-h5];exact e):p:=h
theorem Eh(h:p:=by intro y hy;cases hy):p:=h
theorem Ei(h:p:=by have:=hc.id;omega):p:=h
theorem Ej(h:p:=by rw[LA];simp[Ou]):p:=h
theorem Ek(h:p:=by intro x hx;cases hx):p:=h
theorem El(h:p:=by have:=h2.le;omega):p:=h
theorem E9(h:p:=by simp[Value.oneCell']):p:=h
theorem Ea(h:p:=by simp[Value.ownBlock]):p:=h
theorem Eb(h:p:=by have:=HL.out;omega):p:=h
theorem Ec(h:p:=by rw[<-hn];exact hi):p:=h
theorem Ed(h:p:=by rw[<-hp];exact ha):p:=h
theorem Dv(h:p:=by as_aux_lemma=>decide):p:=h
theorem Dw(h:p:=by rw[<-Oe];exact h0):p:=h
theorem Dx(h:p:=by have:=im.out;omega):p:=h
theorem Dy(h:p:=by have:=HIN.out;omega):p:=h
theorem Dz(h:p:=by have:=pf.out;omega):p:=h
theorem E6(h:p:=by have:=HCL.out;omega):p:=h
theorem Ds(h:p:=by show T10≠eK;omega):p:=h
theorem Dt(h:p:=by show _=min _ _;omega):p:=h
theorem Du(h:p:=by rw[HAL.out];exact EK):p:=h
theorem Dm(h:p:=by have:=rZ.out.2;omega):p:=h
theorem Dn(h:p:=by simp[Act.eval,Act.put]):p:=h
theorem Do(h:p:=by have:=HH.out.lt;omega):p:=h
theorem Dp(h:p:=by rw[<-h.len];exact hj):p:=h
theorem Dq(h:p:=by rw[HLL.out];kernel_rfl):p:=h
theorem Dr(h:p:=by cases hg;exact A9U.out):p:=h
theorem Dk(h:p:=by simp only[maxLen];omega):p:=h
theorem Dl(h:p:=by rw[fW];simp):p:=h
theorem Fo(h:p:=by with_reducible assumption):p:=h
theorem Di(h:p:=by as_aux_lemma=>kernel_rfl):p:=h
theorem Dj(h:p:=by rw[AN.JU];omega):p:=h
theorem Dh(h:p:=by clear k1 k2 k3 k4 k5;omega):p:=h
theorem De(h:p:=by simp[AQ.Rj,h];try omega):p:=h
theorem Df(h:p:=by rw[<-oY.out];exact Lr _):p:=h
theorem Dg(h:p:=by rw[Ul];omega):p:=h
theorem Da(h:p:=by rw[E.out];try(simp;omega)):p:=h
theorem Db(h:p:=by intro x hx;simp at hx;omega):p:=h
theorem Dc(h:p:=by rw[hm3];have:=hs.n;omega):p:=h
theorem Dd(h:p:=by rw[<-hu,<-hy];exact hA):p:=h
theorem D8(h:p:=by rw[DE.out,<-Oe];exact h0):p:=h
theorem D9(h:p:=by rw[WW];exact hi):p:=h
theorem D7(h:p:=by rw[<-hV];exact AM _ _):p:=h
theorem D6(h:p:=by first|exact eB|(simp;omega)):p:=h
theorem D5(h:p:=by have:=HX.out.size;simp at*;omega):p:=h
theorem D4(h:p:=by simp[results,results77,go_sem]):p:=h
theorem D0(h:p:=by simp[results,results127,go_sem]):p:=h
theorem D1(h:p:=by unfold AJ.VX;rw[AW Ft]):p:=h
theorem D2(h:p:=by unfold Nt.lu;rw[AO hu];decide):p:=h
theorem Cy(h:p:=by rcases he with rfl|rfl|rfl<;>decide):p:=h
theorem Cz(h:p:=by rw[gN s hs k now x VG];exact he):p:=h
theorem Ct(h:p:=by first|exact jS.out|exact jS.out.drew):p:=h
theorem Cu(h:p:=by first|exact oG.out|exact oG.out.drew):p:=h
theorem Cv(h:p:=by first|exact rQ.out|exact rQ.out.drew):p:=h
theorem Cw(h:p:=by first|exact HL3.out|exact HL3.out.drew):p:=h
theorem Cx(h:p:=by first|exact HL1.out|exact HL1.out.drew):p:=h
theorem Cs(h:p:=by show(AJ.EC s).length<=1000000;omega):p:=h
theorem Cm(h:p:=by first|omega|(simp;done)|(simp;omega)):p:=h
theorem Cn(h:p:=by simp[results,results80,go_sem,IK]):p:=h
theorem Co(h:p:=by simp[results,results86,go_sem,IK]):p:=h
theorem Cp(h:p:=by rw[<-hV];exact BK _ _ _ Fu):p:=h
theorem Cq(h:p:=by simp[results,results83,go_sem,IK]):p:=h
theorem Cc(h:p:=by rw[<-hV];exact AI (AM _ _) _):p:=h
theorem Cd(h:p:=by have h1:=hDp.out;have h2:=VF.out;omega):p:=h
theorem Ce(h:p:=by first|exact ZR.out|exact ZR.out.drewN _):p:=h
theorem Cg(h:p:=by show r.up.seed+((i:Int)+1)<=_;omega):p:=h
theorem Ch(h:p:=by show r.dn.seed+((i:Int)+1)<=_;omega):p:=h
theorem Ci(h:p:=by rw[<-hW];exact MR _ _ _ _ _ _ k0):p:=h
theorem Cj(h:p:=by have h1:=HGE.out;have h2:=HSB.out;omega):p:=h
theorem Cl(h:p:=by have h1:=H56.out;have h2:=uu.out;omega):p:=h
theorem Ca(h:p:=by rw[TU _ _ _ Ft Ft];rfl):p:=h
theorem C4(h:p:=by first|exact HV.out|exact below_drewN HV.out _):p:=h
theorem C6(h:p:=by simp[World.setCell];have:=XH.out.size;omega):p:=h
theorem C7(h:p:=by intro h;injection h with _ h;exact e Ft):p:=h
theorem C8(h:p:=by have:=XH.out.size;simp[World.setCell];omega):p:=h
theorem C9(h:p:=by have:=(Array.getElem?_eq_some_iff.1 h).1;omega):p:=h
theorem Bv(h:p:=by rw[<-hY];exact BK _ _ _ Fp):p:=h
theorem Bw(h:p:=by have:=BG k2;simp[World.setCell];omega):p:=h
theorem Bz(h:p:=by have:=BG k1;simp[World.setCell];omega):p:=h
theorem C0(h:p:=by have:=BG k0;simp[World.setCell];omega):p:=h
theorem C3(h:p:=by first|exact DF.out|exact below_drewN DF.out _):p:=h
theorem Bt(h:p:=by have:=HX.out.size;simp[World.setRow] at*;omega):p:=h
theorem Bu(h:p:=by unfold mT jV;rw[AW rfl,AW rfl];exact v):p:=h
theorem Bq(h:p:=by rw[TW,hlen,hl,mm];omega):p:=h
theorem Br(h:p:=by rw[ED'.out];exact ME (λh=>h6 h.2)):p:=h
theorem Bs(h:p:=by rw[ED'.out];exact ME (λh=>h5 h.1)):p:=h
theorem Bp(h:p:=by first|exact HE.out.symm|(rw[HE.out];simp;omega)):p:=h
theorem Bm(h:p:=by first|exact below_drewN bB _|exact bB.drew|exact bB):p:=h
theorem Bn(h:p:=by rw[<-fJ];exact(HOQ.out.take Ft).reads):p:=h
theorem Bo(h:p:=by first|exact below_drewN bA _|exact bA.drew|exact bA):p:=h
theorem Bi(h:p:=by first|exact AM _ _|exact FX (AM _ _)):p:=h
theorem Bj(h:p:=by have:=BG x2;first|omega|(simp at*;omega)):p:=h
theorem Bk(h:p:=by rw[<-hV];exact AI (BK _ _ _ Fu) _):p:=h
theorem Bl(h:p:=by first|exact below_drewN (IH _) _|exact QZ _ _):p:=h
theorem Be(h:p:=by rw[<-hY];exact AI (BK _ _ _ Ft) _):p:=h
theorem Bg(h:p:=by rw[<-hV];exact AI (AI (AM _ _) _) _):p:=h
theorem Bh(h:p:=by have:=X8.out.ne (g:=b);intro e;exact this e.symm rfl):p:=h
theorem Bd(h:p:=by first|exact below_drewN (IH wr) _|exact QZ _ wr):p:=h
theorem Bb(h:p:=by simp only[AV.jv,AV.vp,Int.zero_add,Int.one_mul];omega):p:=h
theorem Bc(h:p:=by rw[<-hW];exact(Pq _ _ _ _ Ft).trans k2):p:=h
theorem Ba(h:p:=by rw[TU _ _ _ (by rw[HSL.out];exact U3) Ft];rfl):p:=h
theorem B8(h:p:=by first|exact CK.out|exact Ck.U9 CK.out _|exact CK.out):p:=h
theorem B9(h:p:=by rw[<-hW];exact(Pq _ _ _ _ Ft).trans KF.out):p:=h
theorem B7(h:p:=by have e:m.msg.1=m.t:=rfl;simp only[pY];omega):p:=h
theorem B6(h:p:=by unfold AL.VX;rw[AW ⟨by simp[Ck.AV.Rj];omega,h2,g4⟩]):p:=h
theorem B5(h:p:=by rw[bV,cW,R8 (by simp[GY])]):p:=h
theorem B4(h:p:=by rw[X2.out,X3.out,X4.out,AQ.dS,X5.out,X6.out,<-HM.out];exact WY):p:=h
theorem Az(h:p:=by rw[Tg,Tg];first|exact(a8 _ _ _)|rfl):p:=h
theorem Ay(h:p:=by first|exact BX|exact(below_drewN (QZ V.heap.size V) _).trans BX):p:=h
theorem Aw(h:p:=by first|exact below_drewN (IH w) _|exact(IH w).drew|exact QZ _ w):p:=h
theorem Av(h:p:=by first|exact ER.out.drew.alloc _|exact(ER.out.alloc _).drew|exact ER.out.alloc _):p:=h
theorem At(h:p:=by first|rfl|(simp;done)|(simp[World.setRow];done)|(simp[World.setRow];omega)):p:=h
theorem Au(h:p:=by rw[bV,cW,R8 (by simp[GY,AJ.new])];rfl):p:=h
theorem As(h:p:=by unfold AJ.BZ;rw[AO r1,AO Fs,AO r3,AO (by simp[hmm])]):p:=h
theorem Ar(h:p:=by rw[bV,gj,R8 (by rw[Sb,iP];exact Lr _)];rfl):p:=h
theorem Aq(h:p:=by repeat(first|(with_reducible assumption)|(with_reducible refine WR ?_ _)|(with_reducible refine o8 ?_))):p:=h
theorem Ao(h:p:=by first|exact below_drewN (IH V) _|exact(IH V).drew|exact QZ _ V|exact(below_drewN (below_drewN (IH V) _) _)):p:=h
theorem Ap(h:p:=by first|exact AM _ _|exact BK _ _ _ Fu|exact QN (AM _ _) _|exact FX (AM _ _)):p:=h
theorem Am(h:p:=by repeat(first|(with_reducible assumption)|(with_reducible apply Row.drew)|(with_reducible apply Row.drewN)|(with_reducible apply Row.alloc))):p:=h
theorem Al(h:p:=by repeat(first|exact AG.refl _ _|(with_reducible refine AG.drew ?_)|(with_reducible refine AG.drewN ?_ _)|(with_reducible refine AG.alloc ?_ _))):p:=h
theorem Ak(h:p:=by repeat(first|with_reducible exact AG.refl _ _|(with_reducible refine AG.setCell ?_ (.inl (.inr rfl)) _)|(with_reducible refine AG.setCell ?_ (.inl (.inl rfl)) _))):p:=h
theorem Aj(h:p:=by(repeat(first|with_reducible exact AG.refl _ _|(with_reducible refine AG.Ui ?_ _ _)|(with_reducible refine AG.drew ?_)|(with_reducible refine AG.drewN ?_ _)|(with_reducible refine AG.alloc ?_ _)))):p:=h
theorem Ai(h:p:=by rw[<-hW];(repeat(first|with_reducible exact AG.refl _ _|(with_reducible refine AG.Ui ?_ _ _)|(with_reducible refine AG.drew ?_)|(with_reducible refine AG.drewN ?_ _)|(with_reducible refine AG.alloc ?_ _)))):p:=h
theorem Ah(h:p:=by refine⟨?_,?_,?_,?_⟩<;>(repeat(first|(with_reducible assumption)|(with_reducible refine SQ ?_)|(with_reducible refine AX ?_)|((with_reducible refine Xm ?_ ?_);rotate_left;(simp;omega))))):p:=h
theorem Ag(h:p:=by repeat(first|(with_reducible assumption)|(with_reducible refine WR ?_ _)|(with_reducible refine o8 ?_)|(with_reducible refine U9 ?_ _)|((with_reducible refine jG ?_ ?_ _);rotate_left;(first|omega|(simp<;>omega));rotate_right))):p:=h
theorem Af(h:p:=by repeat(first|(with_reducible assumption)|((with_reducible apply CV);rotate_left;(first|omega|(simp<;>omega));rotate_right)|(with_reducible apply FX)|(with_reducible apply QN)|(with_reducible exact AM _ _)|((with_reducible apply BK);(first|rfl|(simp<;>fail)))|(with_reducible apply AI))):p:=h
theorem Ae(h:p:=by repeat(first|(with_reducible exact AG.refl _ _)|(with_reducible assumption)|(with_reducible refine AG.drew ?_)|(with_reducible refine AG.drewN ?_ _)|(with_reducible refine AG.alloc ?_ _)|((with_reducible refine AG.setCell ?_ ?_ _);rotate_left;(first|(left;exact Or.inl rfl)|(right;(first|omega|(simp<;>omega))));rotate_right))):p:=h
theorem Ac(h:p:=by unfold DV;apply Xh;(repeat(first|(with_reducible apply AP)|(with_reducible apply FX)|(with_reducible apply QN)|(with_reducible apply AI)|(exact A3B Fo)|((with_reducible apply CV);rotate_left;(first|omega|(simp<;>omega));rotate_right)));(first|with_reducible rfl|(simp<;>fail)|rfl)):p:=h
theorem Ab(h:p:=by repeat(first|(with_reducible refine Z9 ?_)|(with_reducible refine qe ?_ _)|((with_reducible refine iT ?_ ?_ _);rotate_left;(first|(left;rfl)|(right;simp;omega));rotate_right)|(with_reducible assumption)|(refine Pu ?_ _;with_reducible assumption)|(with_reducible refine cL ?_ _)|(with_reducible exact Pu (IH _) _))):p:=h
theorem Fl(h:p:=by apply Xh;(repeat(first|(with_reducible assumption)|(with_reducible apply AP)|((with_reducible apply CV);rotate_left;(first|omega|(simp<;>omega));rotate_right)|(with_reducible apply FX)|(with_reducible apply QN)|((with_reducible apply BK);(first|rfl|(simp<;>fail)))|(with_reducible apply AI)));(first|with_reducible rfl|(simp<;>fail)|rfl)):p:=h
theorem Aa(h:p:=by rw[<-MH];exact Fl):p:=h
theorem A9(h:p:=by repeat(first|(with_reducible exact QZ _ _)|(with_reducible refine Yc ?_)|(with_reducible refine below_drewN ?_ _)|((with_reducible refine Below.alloc ?_ ?_ _);rotate_left;(first|omega|(simp<;>omega));rotate_right)|((with_reducible refine Below.setCell ?_ ?_ _);rotate_left;(first|omega|(simp<;>omega));rotate_right)|(with_reducible assumption)|(refine Below.trans ?_ (Below.mono Fq ?_);rotate_left;(first|omega|(simp<;>omega));rotate_right))):p:=h
@[reducible] def Iv(x:Int):Value:= .int .i64 x
@[reducible] def Ad(b o:Nat):Addr:=⟨b,o,none⟩
@[reducible] def Pt(b:Nat):Value:= .pointer (some ⟨b,0,none⟩)
@[reducible] def IL(v:Value)(w:World)(e:Ending)(w1:World):Prop:=e= .returned v/\Below w.heap.size w w1
@[reducible] def LP(v:Value)(w:World)(e:Ending)(w1:World):Prop:=e= .returned v/\w=w1
@[reducible] def aS:Array Value:= #[.int .i64 0,.int .i64 0,.int .i64 0,.int .i64 0,.bool false,.int .i64 0,.int .i64 0,.slice none 0 0,.int .i64 0,.slice none 0 0,.slice none 0 0]
@[reducible] def aw:Array Value:= #[.int .i64 0,.int .i64 0,.int .i64 0,.int .i64 0,.slice none 0 0]
@[reducible] def ei:Array Value:= #[.int .i64 0,.int .i64 0,.int .i64 0,.int .i64 0,.int .i64 0,.int .u64 0,.int .i64 0,.slice none 0 0,.int .i64 0,.int .i64 0,.int .i64 0]
@[reducible] def yg:Array Value:= #[.int .i64 0,.int .i64 0,.int .i64 0,.int .i64 0,.int .i64 0,.int .i64 0,.int .i64 0,.int .i64 0,.bool false,.int .i64 0,.int .i64 0,.int .i64 0,.bool false,.bool false,.bool false,.bool false,.int .i64 0,.int .i64 0,.int .i64 0,.int .i64 0,.int .i64 0,.int .i64 0,.int .i64 0,.int .i64 0]
@[reducible] def Z4z:Array Value:= #[.int .i64 0,.int .i64 0,.int .i64 0,.int .i64 0,.int .i64 0,.int .i64 0,.int .i64 0,.int .i64 0,.int .i64 0,.int .i64 0,.int .i64 0,.int .i64 0,.int .i64 0,.int .i64 0,.int .i64 0,.int .i64 0,.int .i64 0,.int .i64 0,.int .i64 0,.slice none 0 0,.slice none 0 0]
theorem JI{a w W:World}(h:Hid (Below a.heap.size a w))(g:Below w.heap.size w W):Hid (Below a.heap.size a W):=Lib.hid (h.out.trans (g.mono h.out.size))
theorem BN{α:Type}(x:α):∃y,y=x:=⟨x,rfl⟩
theorem JJ{α:Type}[BEq α][LawfulBEq α]{a b:α}(h:a≠b):(a==b)=false:=beq_eq_false_iff_ne.2 h
theorem IH{B:Nat}(w:World):Below B w w:=QZ B w
theorem Hd{a:Prop}(h:a):Hid a:=Lib.hid h
theorem Lr(n:Nat):n<=n:=Nat.le_refl n
theorem Lt{n m k:Nat}(h:n<=m)(g:m<=k):n<=k:=Nat.le_trans h g
theorem Gg{α:Type}{l:List α}{i:Nat}(h:i<l.length):l[i]?=some l[i]:=List.getElem?_eq_getElem h
theorem Bf{α:Type}[BEq α][LawfulBEq α]{a b:α}:(a==b)=false↔a≠b:=beq_eq_false_iff_ne
theorem Cb{w w':World}{a:Addr}(h:w'.heap[a.block]?=w.heap[a.block]?):w'.cell? a=w.cell? a:=World.cell?_of_block h
theorem PU{p q:Prop}(h:q)(f:q->p:=by intro zz;(try simp only[R2,R7,R6,Act.put,Q8,P3,P0]);exact zz):p:=f h
theorem JB{P:Program}{md:Region.Mode}{ops:Array Oper}{Q:Exit->Act->World->Prop}{S:World->Prop}(i:Nat){oi:Oper}{v:Value}{fuel:Nat}{listed:Array Bool}{a:Act}{w:World}{q:Prop}(hS:S w)(h:q)(hi:ops[i]?=some oi:=by rfl)(hs:Region.noSelect ops=true:=by as_aux_lemma=>kernel_rfl)(hf:Region.free md ops listed i=true:=by as_aux_lemma=>kernel_rfl)(hr:(Region.ready md ops listed).contains i=true:=by as_aux_lemma=>kernel_rfl)(hQ:∀c a w,Q (.panic c) (a.put oi.dst v) w->Q (.panic c) a w:=by exact λ_ _ _ h=>h)(hy:YieldsIf P ops S oi v a:=by refine Or.inl ⟨by rfl,?_⟩;intro w' b;repeat(have a:=And.left b;replace b:=And.right b);go_simp;(try with_reducible rfl))(f:q->wpAnyH P md ops Q S fuel (listed.setIfInBounds i true) (a.put oi.dst v) w:=by intro zz;(try simp only[R2,R7,R6,Act.put,Q8,P3,P0]);exact zz):wpAnyH P md ops Q S (fuel+1) listed a w:=GI hi hs hf hr hQ hy hS (f h)
structure Hz(p:Prop):Prop where
 out:p
variable{p q:Prop}
theorem Ka(h:q)(f:Hz q->p:=by intro zK;generalize hV:World.alloc _ _=V;have k0:RB V w.heap.size s:=Bg;have kf:V.heap[w.heap.size+1]?=some (.cells #[Iv k,Iv f,Iv t,Iv q,.slice A n cap] 147 (0,0)):=Bk;have k2:RB V (w.heap.size+2) FQ:=Cp;refine K4j ?_;intro HB;clear hV;have CX:=OH kf;have lf:=BG kf;have KF:=Hd kf;clear kf;revert V k0 k2 HB CX lf KF;exact zK.1):p:=f ⟨h⟩
theorem Kb(h:q)(f:Hz q->p:=by intro zK;refine K4j ?_;intro HB;revert HB;exact zK.1):p:=f ⟨h⟩
theorem Kc(h:q)(f:Hz q->p:=by intro zK;generalize hV:World.alloc _ _=V;have k0:V.heap[w.heap.size]?=some (.cells #[Iv k,Iv f,Iv t,Iv q,.slice A n cap] 147 (0,0)):=D7;have HV:=Hd (show Below w.heap.size w V by rw[<-hV];exact(IH _).alloc (Lr _) _);have Oq:w.heap.size<V.heap.size:=BG k0;clear hV;have CX:=OH k0;have lf:=BG k0;have K0:=Hd k0;clear k0;revert V HV Oq CX lf K0;exact zK.1):p:=f ⟨h⟩
theorem Kd(h:q)(f:Hz q->p:=by intro zK;generalize MH:World.setCell _ _ _=Wf;refine K4h ?_;intro hf;refine K4f ?_;clear MH;intro eu;have IK:=GN hf;have lm:=BG hf;revert Wf hf eu IK lm;exact zK.1):p:=f ⟨h⟩
theorem Ke(h:q)(f:Hz q->p:=by intro zK;refine K4n ?_;intro V hV k0 k1;(have hB0:Below w.heap.size w V:=by rw[<-hV];exact A9);have Oq:w.heap.size<=V.heap.size:=hB0.size;clear hV;refine(TM.out _).mono ?_;rintro e w1 ⟨rfl,Q6⟩;have j0:=GH k0 Q6;have j1:=GH k1 Q6;have eI:Below w.heap.size w w1:=hB0.trans (Q6.mono Oq);clear k0 k1 Q6 hB0;have BH:=GN j0;have la:=BG j0;have CI:=GN j1;have lb:=BG j1;revert V Oq w1 j0 j1 eI BH la CI lb;exact zK.1):p:=f ⟨h⟩
theorem Kf(h:q)(f:Hz q->p:=by intro zK;refine K4g ?_;intro w1 j0 j1 j2 eI;refine K4u ?_;intro BH la CI lb LZ lc;revert w1 j0 j1 j2 eI BH la CI lb LZ lc;exact zK.1):p:=f ⟨h⟩
theorem Kg(h:q)(f:Hz q->p:=by intro zK;have hle:=H5.out.w3.le;refine FF rfl (.tmp 111) (.tmp 113) 53 rfl U.heap.size 136 l0 _ 11 104 underlying53 hl0 lza lzb lzc rfl VA j vc (IS r.dn (·.dn) 0 (Nt.FJ r j) (List.replicate j (none,0))) rfl H5.out.w3 (Ad β3 0) 1 1 [Iv r.dn.BY,Iv r.dn.AY,Iv r.dn.least,Iv r.dn.BU,Iv (r.dn.seed+((j:Int)+1)),.int .u64 (r.dn.seed+((j:Int)+1)),Iv 0,.slice none 0 0,Iv 0,Iv 0,Iv 0] rfl rfl (λk u hu=>by rw[CP,PL];exact AB (H5.out.f3 β3 rfl).1 k hu) E9 Ft Dk Ft H5.out.up ?_;intro VB vd V6 CF hg JV;have h1:=H5.out.a3 CF hg JV;revert hle VB vd V6 CF hg JV h1;exact zK.1):p:=f ⟨h⟩
theorem Kh(h:q)(f:Hz q->p:=by intro zK;have d0:=hc 0 Ft;simp only[Nat.add_zero] at d0;rw[<-HM.out] at d0;have i0:RB W1 w.heap.size s:=GH k0 BX;have i2:RB W1 (w.heap.size+2) FQ:=GH k2 BX;have jf:=GH KF.out BX;have DF:=JI HB BX;have k0:=i0;have k2:=i2;have KF:=Hd jf;have HB:=DF;have CX:=OH jf;have lf:=BG jf;clear i0 i2 jf DF;revert lf;revert CX;revert HB;revert KF;revert k2;revert k0;revert d0;exact zK.1):p:=f ⟨h⟩
theorem Ki(h:q)(f:Hz q->p:=by intro zK;refine K4n ?_;intro V hV k0 k1;revert V hV k0 k1;exact zK.1):p:=f ⟨h⟩
theorem Kj(h:q)(f:Hz q->p:=by intro zK;have hle:=H4.out.w2.le;refine FF rfl (.tmp 104) (.tmp 106) 53 rfl U.heap.size 136 l0 _ 11 104 underlying53 hl0 lza lzb lzc rfl UA j uc (IS r.up (·.up) 0 (Nt.FJ r j) (List.replicate j (none,0))) rfl H4.out.w2 (Ad β2 0) 1 1 [Iv r.up.BY,Iv r.up.AY,Iv r.up.least,Iv r.up.BU,Iv (r.up.seed+((j:Int)+1)),.int .u64 (r.up.seed+((j:Int)+1)),Iv 0,.slice none 0 0,Iv 0,Iv 0,Iv 0] rfl rfl (λk u hu=>by rw[CP,PL];exact AB (H4.out.f2 β2 rfl).1 k hu) E9 Ft Dk Ft H4.out.up ?_;intro UB ud V5 CF hg JV;have h1:=H4.out.a2 CF hg JV;revert hle UB ud V5 CF hg JV h1;exact zK.1):p:=f ⟨h⟩
theorem Kk(h:q)(f:Hz q->p:=by intro zK;generalize hV:World.alloc _ _=V;have k0:V.heap[w.heap.size]?=some (.cells #[Iv r.n,Iv r.again,Iv r.step,Iv r.CY,Iv r.lost,Iv r.ret,Iv r.desc,Iv r.late,Iv r.every,Iv r.up.BY,Iv r.up.AY,Iv r.up.least,Iv r.up.BU,Iv r.up.seed,Iv r.dn.BY,Iv r.dn.AY,Iv r.dn.least,Iv r.dn.BU,Iv r.dn.seed,.slice OA n oc,.slice TA m tc] 28 (0,0)):=D7;refine K4H ?_;intro HB;refine K4q ?_;clear hV k0;intro Oq K0 q0 q1 q2 q3 q4 q5 q6 q7 q8;revert V HB Oq K0 q0 q1 q2 q3 q4 q5 q6 q7 q8;exact zK.1):p:=f ⟨h⟩
theorem Kl(h:q)(f:Hz q->p:=by intro zK;have hk:=HP.out.BM;simp only[cI] at hk;refine A8h hk ?_;intro BH OB OD Oz Od O8 MZ O7 Oc O6 Ob NZ IB NY MX NQ ML NP Oa NL GX GU FW On IQ Qx QC Qw QB Qv Qz Qu Qy Qt IP Qs IN Qr;have la:=BG hk;clear hk;revert la;revert Qr;revert IN;revert Qs;revert IP;revert Qt;revert Qy;revert Qu;revert Qz;revert Qv;revert QB;revert Qw;revert QC;revert Qx;revert IQ;revert On;revert FW;revert GU;revert GX;revert NL;revert Oa;revert NP;revert ML;revert NQ;revert MX;revert NY;revert IB;revert NZ;revert Ob;revert O6;revert Oc;revert O7;revert MZ;revert O8;revert Od;revert Oz;revert OD;revert OB;revert BH;exact zK.1):p:=f ⟨h⟩
theorem Km(h:q)(f:Hz q->p:=by intro zK;generalize MH:World.setCell _ _ _=Wf;have hf:Wf.heap[w.heap.size+2]?=some (.cells #[Iv s.again,Iv s.st,Iv now,Iv s.seq,.bool s.some,Iv s.prog,Iv s.cmd,.slice D dl dc,Iv s.BB,.slice A s.n ac,.slice S s.n sc] 51 (0,0)):=Aa;refine K4f ?_;clear MH;intro eu;have IK:=GN hf;have lm:=BG hf;revert Wf hf eu IK lm;exact zK.1):p:=f ⟨h⟩
theorem Kn(h:q)(f:Hz q->p:=by intro zK;refine K4f ?_;intro eu;have IK:=GN hf;have lm:=BG hf;revert eu IK lm;exact zK.1):p:=f ⟨h⟩
theorem Ko(h:q)(f:Hz q->p:=by intro zK;generalize hV:World.alloc _ _=V;revert V hV;exact zK.1):p:=f ⟨h⟩
theorem Kq(h:q)(f:Hz q->p:=by intro zK;refine(CH.out _).mono ?_;rintro e W2 ⟨rfl,CB⟩;have i0:RB W2 w.heap.size s:=GH k0 CB;have i2:RB W2 (w.heap.size+2) FQ:=GH k2 CB;have NB:=JI HB CB;have KF2:=Hd (GH KF.out CB);clear CB;have k0:=i0;have k2:=i2;have HB:=NB;have KF:=KF2;clear i0 i2 NB KF2;revert W2 k0 k2 HB KF;exact zK.1):p:=f ⟨h⟩
theorem Kr(h:q)(f:Hz q->p:=by intro zK;have PR:=AB k0 11 rfl;have c1:=AB k0 1 rfl;have c2:=AB k0 2 rfl;have c3:=AB k0 3 rfl;have c4:=AB k0 4 rfl;have YG:=AB k0 17 rfl;have YF:=AB k0 18 rfl;have Ua:=AB k0 20 rfl;revert PR c1 c2 c3 c4 YG YF Ua;exact zK.1):p:=f ⟨h⟩
theorem Ks(h:q)(f:Hz q->p:=by intro zK;refine K4p ?_;intro PH Rp PF Ro;refine K4o ?_;intro PD Rn Pz Rm;revert PH Rp PF Ro PD Rn Pz Rm;exact zK.1):p:=f ⟨h⟩
theorem Ku(h:q)(f:Hz q->p:=by intro zK;have QK:n<=64:=(AQ.Xc hv).2.2.2.2;have HL:=Hd h;have HD:=Hd hd;have HDN:=Hd hD;refine K4v ?_;intro N CH VA;have RD:=Hd (λ(W:World)(hW:Rd W W.heap.size D n d)=>zN k f t q D n cap d W hW QK);rw[hr] at RD;rw[hv] at VA;rw[YN] at CH;have c0:w.cell? (Ad b 0)=some (Iv s.n):=AB h.BM 0 rfl;have hb:=h.lt;have ZJ:=hs.n;(have z:(t !=0)=false:=by simpa using ht);refine K4t ?_;intro X0;have kx:(w.alloc (.cells #[Iv k,Iv f,Iv t,Iv q,.slice D n cap] 147)).heap[w.heap.size]?=_:=AM _ _;revert kx;revert X0;revert z;revert ZJ;revert hb;revert c0;revert CH;revert VA;revert RD;revert N;revert HDN;revert HD;revert HL;revert QK;exact zK.1):p:=f ⟨h⟩
theorem Kv(h:q)(f:Hz q->p:=by intro zK;refine PU ?_;have dp:=AP dp 34 (.slice PB (j+1) pd);rw[Q8] at dp;have d35:=AB dp 35 rfl;have f35:=AE dp 35;refine CQ (rs:=[29]) Di Ef ?_;revert f35;revert d35;revert dp;exact zK.1):p:=f ⟨h⟩
theorem Kw(h:q)(f:Hz q->p:=by intro zK;refine PU ?_;have dp:=AP dp 35 (.slice UB (j+1) ud);rw[Q8] at dp;have d36:=AB dp 36 rfl;have f36:=AE dp 36;refine CQ (rs:=[32]) Di Ef ?_;revert f36;revert d36;revert dp;exact zK.1):p:=f ⟨h⟩
theorem Kx(h:q)(f:Hz q->p:=by intro zK;have k0:V.heap[w.heap.size]?=some (.cells #[Iv r.n,Iv r.again,Iv r.step,Iv r.CY,Iv r.lost,Iv r.ret,Iv r.desc,Iv r.late,Iv r.every,Iv r.up.BY,Iv r.up.AY,Iv r.up.least,Iv r.up.BU,Iv r.up.seed,Iv r.dn.BY,Iv r.dn.AY,Iv r.dn.least,Iv r.dn.BU,Iv r.dn.seed,.slice OA r.CJ.length oc,.slice TA r.BL.length tc] 28 (0,0)):=D7;refine K4H ?_;intro HB;refine K4J ?_;intro q0 q1 q2 q3;have jU:=AB k0 19 rfl;have iQ:=AB k0 20 rfl;clear k0;revert HB q0 q1 q2 q3 jU iQ;exact zK.1):p:=f ⟨h⟩
theorem Ky(h:q)(f:Hz q->p:=by intro zK;have hle:=H3.out.w1.le;refine FF rfl (.tmp 97) (.tmp 99) 52 rfl U.heap.size 101 k0 _ 24 168 underlying52 NJ kza kzb kzc rfl PA j pc (PZ (Nt.FJ r j)) rfl H3.out.w1 (Ad β1 0) 1 1 [Iv ((j:Int)+1),Iv r.lost,Iv r.ret,Iv r.desc,Iv r.late,Iv r.every,Iv r.CY,Iv 0,.bool false,Iv 0,Iv 0,Iv 0,.bool false,.bool false,.bool false,.bool false,Iv 0,Iv 0,Iv 0,Iv 0,Iv 0,Iv 0,Iv 0,Iv 0] rfl rfl (λk u hu=>by rw[CP,PL];exact AB (H3.out.f1 β1 rfl).1 k hu) E9 Ft Dk Ft H3.out.up ?_;intro PB pd V4 CF hg JV;have h1:=H3.out.a1 CF hg JV;revert hle PB pd V4 CF hg JV h1;exact zK.1):p:=f ⟨h⟩
theorem Kz(h:q)(f:Hz q->p:=by intro zK;(have hK:AG (λi=>i=w.heap.size+1) w5 Wf:=by rw[<-MH];(repeat(first|with_reducible exact AG.refl _ _|(with_reducible refine AG.Ui ?_ _ _)|(with_reducible refine AG.drew ?_)|(with_reducible refine AG.drewN ?_ _)|(with_reducible refine AG.alloc ?_ _))));have IK:=GN hf;have lm:=BG hf;(have aL:∀i:Nat,i=w.heap.size+1->i<w5.heap.size->Ty w5 i 51:=λi hi _=>by rw[hi];exact⟨_,p1⟩);revert hK IK lm aL;exact zK.1):p:=f ⟨h⟩
theorem KD(h:q)(f:Hz q->p:=by intro zK;generalize hV:World.setCell _ _ _=V1;have k0:V1.heap[w.heap.size]?=some (.cells #[Iv s.again,Iv s.st,Iv now,Iv s.seq,.bool s.some,Iv s.prog,Iv s.cmd,.slice D dl dc,Iv s.BB,.slice A s.n ac,.slice S s.n sc] 51 (0,0)):=(by rw[<-hV];exact Fl);have k1:V1.heap[w.heap.size+1]?=some (.cells aS 51 (0,0)):=(by rw[<-hV];exact Af);have HV:=Hd (show Below w.heap.size w V1 from by rw[<-hV];exact DF.out.setCell (Lr _) _);clear hV;refine(NX.out _ (H.out.ar.below HV.out (Lr _))).mono ?_;rintro e w2 ⟨rfl,YU⟩;have j0:=GH k0 YU;have j1:=GH k1 YU;have NB:=Hd (HV.out.trans (YU.mono (by have:=HV.out.size;omega)));clear k0 k1 YU;have BH:=GN j0;have la:=BG j0;have CI:=GN j1;have lb:=BG j1;revert V1 HV w2 j0 j1 NB BH la CI lb;exact zK.1):p:=f ⟨h⟩
theorem KH(h:q)(f:Hz q->p:=by intro zK;have j2:RB V7 (w.heap.size+2) FQ:=(by rw[<-qU];have h0:=k2;unfold RB at*;exact Af);have T3:=Hd (show Below w.heap.size w V7 by rw[<-qU];have:=HB.out;exact A9);revert j2 T3;exact zK.1):p:=f ⟨h⟩
theorem KI(h:q)(f:Hz q->p:=by intro zK;have aU:=Hd ((HS4.out.set 3 (Iv now) {s with now:=now} rfl rfl rfl rfl).below Se (Lr _));have k6:=AH (q:=w.heap.size) (CV k4 (by show w.heap.size≠b;omega) _) Se (by simp[World.setCell];omega);have il:=Hd (show AG (λi=>i=b) w w6 from(((AG.AS (S:=λi=>i=b) Qo).Ui 3 _).trans (AG.AS (S:=λi=>i=b) Se) (λ_ _ h=>h)));have ni:w4.heap.size<=w6.heap.size:=Xi;have dQ:=OH k6;have ly:=BG k6;revert aU k6 il ni dQ ly;exact zK.1):p:=f ⟨h⟩
theorem KJ(h:q)(f:Hz q->p:=by intro zK;have PR:V.cell? (Ad w.heap.size 11)=some (Iv s.st):=AB k0 11 rfl;revert PR;exact zK.1):p:=f ⟨h⟩
theorem KL(h:q)(f:Hz q->p:=by intro zK;refine K4m ?_;intro p1;(have Wh:V3.heap.size=w3.heap.size:=by rw[<-Oy];simp[World.setCell]);have JZ:=P6.out;refine K4k ?_;intro Uy;(have Wn:AG (λi=>i=w.heap.size) w3 V3:=by rw[<-Oy];(repeat(first|with_reducible exact AG.refl _ _|(with_reducible refine AG.Ui ?_ _ _)|(with_reducible refine AG.drew ?_)|(with_reducible refine AG.drewN ?_ _)|(with_reducible refine AG.alloc ?_ _))));clear JZ;generalize hV:World.alloc _ _=V4;revert p1 Wh Uy Wn V4 hV;exact zK.1):p:=f ⟨h⟩
theorem KM(h:q)(f:Hz q->p:=by intro zK;refine K4m ?_;intro p1;(have Wh:V3.heap.size=w1.heap.size:=by rw[<-Oy];simp[World.setCell]);have JZ:=DF.out;refine K4k ?_;intro Uy;(have Wn:AG (λi=>i=w.heap.size) w1 V3:=by rw[<-Oy];(repeat(first|with_reducible exact AG.refl _ _|(with_reducible refine AG.Ui ?_ _ _)|(with_reducible refine AG.drew ?_)|(with_reducible refine AG.drewN ?_ _)|(with_reducible refine AG.alloc ?_ _))));clear JZ;generalize hV:World.alloc _ _=V4;revert p1 Wh Uy Wn V4 hV;exact zK.1):p:=f ⟨h⟩
theorem KO(h:q)(f:Hz q->p:=by intro zK;obtain⟨m,hm⟩:=BN (AQ.OX l 0);have IY:(AL.MK ⟨k,f,t,q,l⟩).k=k:=rfl;(have GK:(AL.MK ⟨k,f,t,q,l⟩).n=if l.length=4 then m else-1:=by rw[hm];rfl);(have LA:(AL.MK ⟨k,f,t,q,l⟩).plain=decide (n=0):=by rw[hn];rfl);have MV:=hs.giv;have GJ:=hs.load;have ID:=hs.prog;have EL:=hs.start;obtain⟨x,hx⟩:=BN (AL.MK ⟨k,f,t,q,l⟩);revert m hm IY GK LA MV GJ ID EL x hx;exact zK.1):p:=f ⟨h⟩
theorem KQ(h:q)(f:Hz q->p:=by intro zK;refine K4z ?_;intro tx w2 YU k0 k1 k2 tL;clear YU tx;have BH:=GN k0;have la:=BG k0;have CI:=OH k1;have lb:=BG k1;have LZ:=GN k2;have lc:=BG k2;revert w2 k0 k1 k2 tL BH la CI lb LZ lc;exact zK.1):p:=f ⟨h⟩
theorem KS(h:q)(f:Hz q->p:=by intro zK;generalize hW:World.setCell _ _ _=W8;(have g0:RB W8 w.heap.size {t with now:=l}:=by rw[<-hW];exact AP k0 16 _);(have g1:RB W8 (w.heap.size+1) FQ:=by rw[<-hW];exact CV k1 Fu _);have ZU:=Hd (show Below w.heap.size w W8 from by rw[<-hW];have:=HTB.out;exact A9);clear hW;revert W8 g0 g1 ZU;exact zK.1):p:=f ⟨h⟩
theorem KT(h:q)(f:Hz q->p:=by intro zK;have k0:V.heap[w.heap.size]?=some (.cells #[Iv s.again,Iv s.st,Iv s.now,Iv s.seq,.bool s.some,Iv s.prog,Iv s.cmd,.slice D dl dc,Iv s.BB,.slice A s.n ac,.slice S s.n sc] 51 (0,0)):=Bg;revert k0;exact zK.1):p:=f ⟨h⟩
theorem KX(h:q)(f:Hz q->p:=by intro zK;refine K4H ?_;intro HB;revert HB;exact zK.1):p:=f ⟨h⟩
theorem K00(h:q)(f:Hz q->p:=by intro zK;refine PU ?_;have dp:=H6.out.hp;have d34:=AB dp 34 rfl;have f34:=AE dp 34;refine CQ (rs:=[26]) Di Ef ?_;revert dp d34 f34;exact zK.1):p:=f ⟨h⟩
theorem K01(h:q)(f:Hz q->p:=by intro zK;generalize hW:World.setCell _ _ _=W;have kW:Of W base b c {s2 with Pf:=true,prog:=m}:=⟨by simp only[cI];rw[<-hW];have hk:=SZ.out.BM;simp only[cI] at hk;exact Fl,SZ.out.U8 Ai,SZ.out.ge⟩;refine K4s ?_;clear hW kW;intro KW xL;revert xL;revert KW;revert W;exact zK.1):p:=f ⟨h⟩
theorem yh(h:q)(f:Hz q->p:=by intro zK;have BH:=GN j0;have la:=BG j0;have CI:=GN j1;have lb:=BG j1;revert BH la CI lb;exact zK.1):p:=f ⟨h⟩
theorem K03(h:q)(f:Hz q->p:=by intro zK;(have p1:V1.heap[w.heap.size+1]?=some (.cells aS 51 (0,0)):=by rw[<-Oy];exact Af);(have fe:V1.heap.size=w1.heap.size:=by rw[<-Oy];simp[World.setCell]);have BX:=DF.out;(have jq:Below w.heap.size w V1:=by rw[<-Oy];exact A9);generalize hV:World.alloc _ _=V2;revert p1 fe BX jq V2 hV;exact zK.1):p:=f ⟨h⟩
theorem K04(h:q)(f:Hz q->p:=by intro zK;refine(Zp HP.out _ _).mono ?_;rintro e w2 ⟨rfl,Pp,MU⟩;have SZ:=Hd Pp;have T0:=Hd MU;clear Pp MU;revert w2 SZ T0;exact zK.1):p:=f ⟨h⟩
theorem K05(h:q)(f:Hz q->p:=by intro zK;have DF:=(show Below w.heap.size w w1 from A9);revert DF;exact zK.1):p:=f ⟨h⟩
theorem K06(h:q)(f:Hz q->p:=by intro zK;generalize oR:World.setCell _ _ _=V6;(have kc:V6.heap[W1.heap.size]?=some (.cells #[Iv s.d,Iv xr,.bool xs,Iv xl,Iv xh] 99 (0,0)):=by rw[<-oR];exact Fl);(have k0:RB V6 w.heap.size s:=by rw[<-oR];have h0:=J0.out;unfold RB at*;exact Af);(have k2:RB V6 (w.heap.size+2) FQ:=by rw[<-oR];have h0:=J2.out;unfold RB at*;exact Af);refine K4i ?_;intro HB;clear oR;have i0:=k0;revert V6 kc k0 k2 HB i0;exact zK.1):p:=f ⟨h⟩
theorem K07(h:q)(f:Hz q->p:=by intro zK;refine(TM.out _).mono ?_;rintro e w1 ⟨rfl,Q6⟩;have j0:=GH k0 Q6;have j1:=GH k1 Q6;revert w1 Q6 j0 j1;exact zK.1):p:=f ⟨h⟩
theorem K08(h:q)(f:Hz q->p:=by intro zK;have k0:RB V w.heap.size s:=Cc;have k1:RB V (w.heap.size+1) FQ:=Cp;revert k0 k1;exact zK.1):p:=f ⟨h⟩
theorem K09(h:q)(f:Hz q->p:=by intro zK;(have k2:RB W4 (w.heap.size+2) FQ:=by rw[<-hW];exact CV (CV g2 Fu _) Fu _);have HB:=Hd (show Below w.heap.size w W4 from by rw[<-hW];have:=P6.out;exact A9);revert k2 HB;exact zK.1):p:=f ⟨h⟩
theorem K0a(h:q)(f:Hz q->p:=by intro zK;have hk:=HP.out.BM;simp only[cI] at hk;have BH:=xw hk;have la:=BG hk;clear hk;revert la;revert BH;exact zK.1):p:=f ⟨h⟩
theorem K0b(h:q)(f:Hz q->p:=by intro zK;generalize MH:World.setCell _ _ _=Wf;have hf:Wf.heap[w.heap.size+2]?=some (.cells #[Iv s.again,Iv s.st,Iv s.now,Iv s.seq,.bool s.some,Iv s.prog,Iv s.cmd,.slice D dl dc,Iv s.BB,.slice A s.n ac,.slice S s.n sc] 51 (0,0)):=Aa;revert Wf MH hf;exact zK.1):p:=f ⟨h⟩
theorem K0c(h:q)(f:Hz q->p:=by intro zK;refine K4B ?_;intro q1 YX;have HKV:=Hd (show AG (λi=>i=w.heap.size) w1 V4 from by rw[<-hV];exact Wn.alloc _);(have q2:V4.heap[w1.heap.size]?=some (.cells (madeCells #[.bool false] s.n) 4 (0,0)):=by rw[<-hV];exact BK _ _ _ Wh.symm);have J0:=Hd j0;have hAr:Row V4 0 4 1 (some (Ad w1.heap.size 0)) s.n s.n (GY (List.replicate s.n false)):=Row.FK q2 (Pe _) (Lr _) Ee Dl B5;have oG:=Hd hAr;have jS:=Hd (show Row V4 0 5 1 none 0 0 (bv []) from Row.nil _ _ _ _);have HQ2:=Hd q2;clear hAr q2;have BH:=GN q0;have la:=BG q0;have CI:=GN q1;have lb:=BG q1;revert q1 YX HKV J0 oG jS HQ2 BH la CI lb;exact zK.1):p:=f ⟨h⟩
theorem K0d(h:q)(f:Hz q->p:=by intro zK;have hle:=H2.out.w1.le;refine FF rfl (.tmp 97) (.tmp 99) 52 rfl U.heap.size 101 k0 _ 24 168 underlying52 NJ kza kzb kzc rfl PA j pc (PZ (Nt.FJ r j)) rfl H2.out.w1 (Ad β1 0) 1 1 [Iv ((j:Int)+1),Iv r.lost,Iv r.ret,Iv r.desc,Iv r.late,Iv r.every,Iv r.CY,Iv 0,.bool false,Iv 0,Iv 0,Iv 0,.bool false,.bool false,.bool false,.bool false,Iv 0,Iv 0,Iv 0,Iv 0,Iv 0,Iv 0,Iv 0,Iv 0] rfl rfl (λk u hu=>by rw[CP,PL];exact AB (H2.out.f1 β1 rfl).1 k hu) E9 Ft Dk Ft H2.out.up ?_;intro PB pd V3 CF hg JV;have h1:=H2.out.a1 CF hg JV;revert hle PB pd V3 CF hg JV h1;exact zK.1):p:=f ⟨h⟩
theorem K0e(h:q)(f:Hz q->p:=by intro zK;have hS4:=HL.out.below Qo (Lr _);have f3:=AE hS4.BM 3;have c3:w4.cell? (Ad b 3)=some (Iv s.now):=AB hS4.BM 3 rfl;have HS4:=Hd hS4;have nj:=Qo.size;have LX:w.heap.size≠b:=Ft;have aA:=Hd Qo;clear hS4;refine(CH.out _ Qo).mono ?_;rintro e w5 ⟨rfl,rfl⟩;revert f3 c3 HS4 nj LX aA;exact zK.1):p:=f ⟨h⟩
theorem K0f(h:q)(f:Hz q->p:=by intro zK;have XK:=(show Below w.heap.size w w9 from A9);have A1E:=OH xg;have lF:=BG xg;revert XK A1E lF;exact zK.1):p:=f ⟨h⟩
theorem K0g(h:q)(f:Hz q->p:=by intro zK;have GK:(AL.MK ⟨k,f,t,q,l⟩).n=m:=hm.symm;have IY:(AL.MK ⟨k,f,t,q,l⟩).k=k:=rfl;(have LA:(AL.MK ⟨k,f,t,q,l⟩).plain=decide (n=0):=by rw[hn];rfl);obtain⟨x,hx⟩:=BN (AL.MK ⟨k,f,t,q,l⟩);revert GK IY LA x hx;exact zK.1):p:=f ⟨h⟩
theorem K0h(h:q)(f:Hz q->p:=by intro zK;refine PU ?_;have H5:=Hd h1;refine CQ (rs:=[23]) Di Ef ?_;revert H5;exact zK.1):p:=f ⟨h⟩
theorem K0i(h:q)(f:Hz q->p:=by intro zK;refine K4B ?_;intro q1 YX;have HKV:=Hd (show AG (λi=>i=w.heap.size) w3 V4 from by rw[<-hV];exact Wn.alloc _);(have q2:V4.heap[w3.heap.size]?=some (.cells (madeCells #[.bool false] s.n) 4 (0,0)):=by rw[<-hV];exact BK _ _ _ Wh.symm);have J0:=Hd j0;have hAr:Row V4 0 4 1 (some (Ad w3.heap.size 0)) s.n s.n (GY (List.replicate s.n false)):=Row.FK q2 (Pe _) (Lr _) Ee Dl B5;have oG:=Hd hAr;revert q1 YX HKV q2 J0 hAr oG;exact zK.1):p:=f ⟨h⟩
theorem uq(h:q)(f:Hz q->p:=by intro zK;obtain⟨q0,q1,q2,q3,q4,q5⟩:=Ov hk;obtain⟨z0,z1,z2,z3,z4,z5⟩:=Py hk;have EK:=QM hk;revert EK;revert z5;revert z4;revert z3;revert z2;revert z1;revert z0;revert q5;revert q4;revert q3;revert q2;revert q1;revert q0;exact zK.1):p:=f ⟨h⟩
theorem K0k(h:q)(f:Hz q->p:=by intro zK;have VD:=Hd (HP.out.below JZ (Lr _));have P6:=JI DF JZ;have j3:=AH HJ.out (JZ.mono (Lr _)) (BG HJ.out);have JH:=OH j3;have lg:=BG j3;clear j3;have HP:=VD;have DF:=P6;clear VD P6;have IB:=AB HP.out.BM 6 rfl;have FW:=AB HP.out.BM 11 rfl;have On:=AE HP.out.BM 11;have IQ:=AB HP.out.BM 12 rfl;have IP:=AB HP.out.BM 17 rfl;have IN:=AB HP.out.BM 18 rfl;revert JH lg HP DF IB FW On IQ IP IN;exact zK.1):p:=f ⟨h⟩
theorem K0l(h:q)(f:Hz q->p:=by intro zK;have i0:=GH k0 BX;have jf:=GH KF.out BX;have i2:=GH k2 BX;have DF:=JI HB BX;have k0:=i0;have k2:=i2;have KF:=Hd jf;have HB:=DF;clear i0 i2 jf DF;revert k0 k2 KF HB;exact zK.1):p:=f ⟨h⟩
theorem K0m(h:q)(f:Hz q->p:=by intro zK;have HT5:=Hd Zk;(have k0:(ak==0)=false:=by simp[NJ]);(have k1:(ak==1)=false:=by simp[VG]);(have k2:(ak==2)=false:=by simp[MU]);have Pb:V.cell? (Ad p 21)=some (Iv s.now):=AB aW.out.ref.n.BM 21 rfl;have c2':V.cell? (Ad p 2)=some (Iv s.r.step):=AB aW.out.ref.n.BM 2 rfl;obtain⟨er,Oe⟩:=BN ((Nt.run s u).2);have ym:=Hd Oe;have DO:=Hd (show ∀W,Below V.heap.size V W->Calls prog 40 #[Pt p,Iv u] W λe w'=>e= .returned (Iv er)/\∃m3,Pr w' B C b k p m m3 s (Nt.run s u).1/\AG (RF p m2) V w' from λW hW=>aW.out.A1D (λW h1 h2=>by rw[ym.out];exact vj h1 HI.out h2 Eb u) hW);have HU:=Hd gC;rw[gC] at DO;revert DO;revert HU;revert ym;revert Oe;revert er;revert c2';revert Pb;revert k2;revert k1;revert k0;revert HT5;exact zK.1):p:=f ⟨h⟩
theorem uo(h:q)(f:Hz q->p:=by intro zK;have IK:=GN hf;have lm:=BG hf;revert IK lm;exact zK.1):p:=f ⟨h⟩
theorem K0o(h:q)(f:Hz q->p:=by intro zK;refine(Zp HP.out _ _).mono ?_;rintro e w2 ⟨rfl,Pp,MU⟩;have SZ:=Hd Pp;have T0:=Hd MU;clear Pp MU;revert w2 SZ T0;exact zK.1):p:=f ⟨h⟩
theorem K0p(h:q)(f:Hz q->p:=by intro zK;generalize hV:World.alloc _ _=V2;have i0:RB V2 w.heap.size s:=(by rw[<-hV];exact AI (GH k0 CB) _);have i1:RB V2 (w.heap.size+1) FQ:=(by rw[<-hV];exact AI (GH k1 CB) _);have kb:V2.heap[w2.heap.size]?=some (.cells #[Iv (Ck.aLo s.d s.r s.cs s.lo s.hi y),Iv g] 65 (0,0)):=D7;have q1:V2.cell? (Ad w2.heap.size 1)=some (Iv g):=AB kb 1 rfl;have DF:=Hd (show Below w.heap.size w V2 by rw[<-hV];exact(HB.out.trans (CB.mono HB.out.size)).alloc Ft _);clear hV kb;have k0:=i0;have k1:=i1;have HB:=DF;clear i0 i1 DF;revert V2 q1 k0 k1 HB;exact zK.1):p:=f ⟨h⟩
theorem K0q(h:q)(f:Hz q->p:=by intro zK;have hle:=H3.out.w2.le;refine FF rfl (.tmp 104) (.tmp 106) 53 rfl U.heap.size 136 l0 _ 11 104 underlying53 hl0 lza lzb lzc rfl UA j uc (IS r.up (·.up) 0 (Nt.FJ r j) (List.replicate j (none,0))) rfl H3.out.w2 (Ad β2 0) 1 1 [Iv r.up.BY,Iv r.up.AY,Iv r.up.least,Iv r.up.BU,Iv (r.up.seed+((j:Int)+1)),.int .u64 (r.up.seed+((j:Int)+1)),Iv 0,.slice none 0 0,Iv 0,Iv 0,Iv 0] rfl rfl (λk u hu=>by rw[CP,PL];exact AB (H3.out.f2 β2 rfl).1 k hu) E9 Ft Dk Ft H3.out.up ?_;intro UB ud V4 CF hg JV;have h1:=H3.out.a2 CF hg JV;revert hle UB ud V4 CF hg JV h1;exact zK.1):p:=f ⟨h⟩
theorem K0r(h:q)(f:Hz q->p:=by intro zK;have k1:=AH K0.out BX Oq;have K1:=Hd k1;have DF:=JI HB BX;have Om:=BG k1;have u9:=AB k1 9 rfl;have u10:=AB k1 10 rfl;have u11:=AB k1 11 rfl;have u12:=AB k1 12 rfl;have u13:=AB k1 13 rfl;clear k1;revert K1 DF Om u9 u10 u11 u12 u13;exact zK.1):p:=f ⟨h⟩
theorem xH(h:q)(f:Hz q->p:=by intro zK;have z4:(s.st==4)=false:=JJ Ft;have z5:(s.st==5)=false:=JJ Ft;revert z4 z5;exact zK.1):p:=f ⟨h⟩
theorem K0t(h:q)(f:Hz q->p:=by intro zK;have c6:=AB k0 6 rfl;have c7:=AB k0 7 rfl;have c8:=AB k0 8 rfl;have c9:=AB k0 9 rfl;have Zt:=AB k0 10 rfl;revert c6 c7 c8 c9 Zt;exact zK.1):p:=f ⟨h⟩
theorem K0u(h:q)(f:Hz q->p:=by intro zK;have Od:=AB j0' 2 rfl;have O8:=AE j0' 2;have MZ:=AB j0' 3 rfl;have O7:=AE j0' 3;have Oc:=AB j0' 4 rfl;have O6:=AE j0' 4;have Ob:=AB j0' 5 rfl;have NZ:=AE j0' 5;have IB:=AB j0' 6 rfl;have NY:=AE j0' 6;have MX:=AB j0' 7 rfl;have NQ:=AE j0' 7;have ML:=AB j0' 8 rfl;have NP:=AE j0' 8;have Oa:=AB j0' 9 rfl;have NL:=AE j0' 9;have GX:=AB j0' 10 rfl;have GU:=AE j0' 10;have la:=BG j0';have CI:=AB j1' 0 rfl;have UO:=AE j1' 0;have Vb:=AB j1' 1 rfl;have UM:=AE j1' 1;have Va:=AB j1' 2 rfl;have UL:=AE j1' 2;have UZ:=AB j1' 3 rfl;have UK:=AE j1' 3;have UY:=AB j1' 4 rfl;have UJ:=AE j1' 4;have UX:=AB j1' 5 rfl;have UI:=AE j1' 5;have UU:=AB j1' 6 rfl;have UH:=AE j1' 6;have UT:=AB j1' 7 rfl;have UE:=AE j1' 7;have US:=AB j1' 8 rfl;have UD:=AE j1' 8;have UR:=AB j1' 9 rfl;have UC:=AE j1' 9;have Qk:=AB j1' 10 rfl;revert Od O8 MZ O7 Oc O6 Ob NZ IB NY MX NQ ML NP Oa NL GX GU la CI UO Vb UM Va UL UZ UK UY UJ UX UI UU UH UT UE US UD UR UC Qk;exact zK.1):p:=f ⟨h⟩
theorem K0v(h:q)(f:Hz q->p:=by intro zK;have e7:=FW;have e8:=IQ;have e13:=IP;have e14:=IN;have e6:=IB;have FW:=e7;have IQ:=e8;have IP:=e13;have IN:=e14;have IB:=e6;clear e7 e8 e13 e14 e6;revert FW IQ IP IN IB;exact zK.1):p:=f ⟨h⟩
theorem K0w(h:q)(f:Hz q->p:=by intro zK;have KV:=Hd kv;have c0:=AB kv 0 rfl;have c1:=AB kv 1 rfl;have c2:=AB kv 2 rfl;have c3:=AB kv 3 rfl;have aW:=Hd (HP.out.below HB.out);obtain⟨T5,Zk⟩:=BN w.heap.size;revert KV c0 c1 c2 c3 aW T5 Zk;exact zK.1):p:=f ⟨h⟩
theorem jO(h:q)(f:Hz q->p:=by intro zK;generalize MH:World.setCell _ _ _=Wf;revert Wf MH;exact zK.1):p:=f ⟨h⟩
theorem jN(h:q)(f:Hz q->p:=by intro zK;have TM:=Hd (λW:World=>Zw s D dl dc A s.n ac S s.n sc now W);revert TM;exact zK.1):p:=f ⟨h⟩
theorem K0z(h:q)(f:Hz q->p:=by intro zK;have Rx:=Hd (show Below w.heap.size w W from by rw[<-hW];have:=HB.out;exact A9);revert Rx;exact zK.1):p:=f ⟨h⟩
theorem K0A(h:q)(f:Hz q->p:=by intro zK;refine(SU.out _).mono ?_;rintro e w1 ⟨rfl,BX⟩;have i0:RB w1 w.heap.size s:=GH k0 BX;have i1:RB w1 (w.heap.size+1) FQ:=GH k1 BX;have DF:=JI HB BX;clear BX;have k0:=i0;have k1:=i1;have HB:=DF;clear i0 i1 DF;revert w1 k0 k1 HB;exact zK.1):p:=f ⟨h⟩
theorem K0B(h:q)(f:Hz q->p:=by intro zK;have om:=(BO CB).1 (w.heap.size) 0 Cm;have nX:=(BO CB).2 (w.heap.size) 0 Cm;have oh:=(BO CB).1 (w.heap.size) 1 Cm;have nW:=(BO CB).2 (w.heap.size) 1 Cm;have og:=(BO CB).1 (w.heap.size+1) 0 Cm;have nV:=(BO CB).2 (w.heap.size+1) 0 Cm;have oe:=(BO CB).1 (w.heap.size+1) 1 Cm;have nU:=(BO CB).2 (w.heap.size+1) 1 Cm;have od:=(BO CB).1 (w.heap.size+2) 0 Cm;have nT:=(BO CB).2 (w.heap.size+2) 0 Cm;have oa:=(BO CB).1 (w.heap.size+2) 1 Cm;have nS:=(BO CB).2 (w.heap.size+2) 1 Cm;revert om nX oh nW og nV oe nU od nT oa nS;exact zK.1):p:=f ⟨h⟩
theorem K0C(h:q)(f:Hz q->p:=by intro zK;refine K4x ?_;intro y0 y1 y2 y3;have y4:ys[4]?=some (ys[4]'Ex):=Gg _;have f0:DataW.trod enc prog w 0 (λ_=>true) true n' 3 (([a,b,c,d,e].drop 0).take (prog.cellsOf 3))=ys[0]?:=Uc 0 _ rfl;have f1:DataW.trod enc prog w 0 (λ_=>true) true n' 3 (([a,b,c,d,e].drop 1).take (prog.cellsOf 3))=ys[1]?:=Uc 1 _ rfl;have f2:DataW.trod enc prog w 0 (λ_=>true) true n' 3 (([a,b,c,d,e].drop 2).take (prog.cellsOf 3))=ys[2]?:=Uc 2 _ rfl;have f3:DataW.trod enc prog w 0 (λ_=>true) true n' 3 (([a,b,c,d,e].drop 3).take (prog.cellsOf 3))=ys[3]?:=Uc 3 _ rfl;have f4:DataW.trod enc prog w 0 (λ_=>true) true n' 3 (([a,b,c,d,e].drop 4).take (prog.cellsOf 3))=ys[4]?:=Uc 4 _ rfl;rw[MJ,y0] at f0;rw[MJ,y1] at f1;rw[MJ,y2] at f2;rw[MJ,y3] at f3;rw[MJ,y4] at f4;revert f4;revert f3;revert f2;revert f1;revert f0;revert y4;revert y3;revert y2;revert y1;revert y0;exact zK.1):p:=f ⟨h⟩
theorem K0D(h:q)(f:Hz q->p:=by intro zK;have G:=Hd (λ(W:World)(hW:Below w.heap.size w W)=>fK A n cap 1 l W Ft hn Ft Ft ((hr.below hW (Lr _)).more hW.size));have HM:=Hd hm;revert G HM;exact zK.1):p:=f ⟨h⟩
theorem K0E(h:q)(f:Hz q->p:=by intro zK;refine CQ (rs:=[23]) Di Ef ?_;exact zK.1):p:=f ⟨h⟩
theorem K0F(h:q)(f:Hz q->p:=by intro zK;have ZI:=EX.size;obtain⟨q30,q31,q32,q33,q34,q35⟩:=Ov af;obtain⟨z30,z31,z32,z33,z34,z35⟩:=Py af;have A2Y:=QM af;have RZ:=AB hx 0 rfl;have A3g:=AE hx 0;have A3w:=AB hx 1 rfl;have A3f:=AE hx 1;have A3v:=AB hx 2 rfl;have A3e:=AE hx 2;have A3u:=AB hx 3 rfl;have A3d:=AE hx 3;have lx:=BG hx;have A3A:=AB hq 0 rfl;have A3k:=AE hq 0;have A3z:=AB hq 1 rfl;have A3j:=AE hq 1;have lq:=BG hq;revert lq;revert A3j;revert A3z;revert A3k;revert A3A;revert lx;revert A3d;revert A3u;revert A3e;revert A3v;revert A3f;revert A3w;revert A3g;revert RZ;revert A2Y;revert z35;revert z34;revert z33;revert z32;revert z31;revert z30;revert q35;revert q34;revert q33;revert q32;revert q31;revert q30;revert ZI;exact zK.1):p:=f ⟨h⟩
theorem K0G(h:q)(f:Hz q->p:=by intro zK;refine K4r ?_;intro W3 g0 g2 P6;have yf:W3.cell? (Ad w.heap.size 13)=some (.bool r.Pf):=AB g0 13 rfl;have f13:=AE g0 13;have ye:W3.cell? (Ad w.heap.size 19)=some (Iv r.prog):=AB g0 19 rfl;have f19:=AE g0 19;revert W3 g0 g2 P6 yf f13 ye f19;exact zK.1):p:=f ⟨h⟩
theorem K0H(h:q)(f:Hz q->p:=by intro zK;have XK:=Hd (show Below w.heap.size w W1.drew from HB.out.drew);have j2:RB W1.drew (w.heap.size+2) FQ:=k2;have k2:=j2;have HB:=XK;revert XK j2 k2 HB;exact zK.1):p:=f ⟨h⟩
theorem K0I(h:q)(f:Hz q->p:=by intro zK;have kV:V.heap[w5.heap.size]?=some (.cells #[Iv (Ck.aLo s.d s.r s.cs s.lo s.hi y),Iv g] 65 (0,0)):=D7;have HV:=(show Of V base b c s by rw[<-hV];exact H5.out.alloc _);have q1:V.cell? (Ad w5.heap.size 1)=some (Iv g):=AB kV 1 rfl;have ey:V.cell? (Ad b 16)=some (Iv s.start):=AB HV.BM 16 rfl;have v4:V.cell? (Ad b 4)=some (Iv s.late):=AB HV.BM 4 rfl;have XH:Below w.heap.size w V:=(by rw[<-hV];exact JD.out.alloc (by have:=JD.out.size;omega) _);clear HV kV;revert q1 ey v4 XH;exact zK.1):p:=f ⟨h⟩
theorem K0J(h:q)(f:Hz q->p:=by intro zK;refine(EN.out _).mono ?_;rintro e w1 ⟨rfl,BX⟩;have j1:=GH k1 BX;have Rx:=JI HB BX;clear BX;revert w1 j1 Rx;exact zK.1):p:=f ⟨h⟩
theorem K0K(h:q)(f:Hz q->p:=by intro zK;have q0:V.cell? (Ad w.heap.size 0)=some (Iv r.n):=AB k0 0 rfl;have jU:V.cell? (Ad w.heap.size 19)=some (.slice OA n oc):=AB k0 19 rfl;have iQ:V.cell? (Ad w.heap.size 20)=some (.slice TA m tc):=AB k0 20 rfl;revert q0 jU iQ;exact zK.1):p:=f ⟨h⟩
theorem K0L(h:q)(f:Hz q->p:=by intro zK;generalize oR:World.alloc _ _=V6;(have kc:V6.heap[W5.heap.size]?=some (.cells #[Iv s.d,Iv xr,.bool xs,Iv xl,Iv xh] 99 (0,0)):=by rw[<-oR];exact AM _ _);(have k0:RB V6 w.heap.size s:=by rw[<-oR];exact AI J0.out _);(have k2:RB V6 (w.heap.size+2) FQ:=by rw[<-oR];exact AI J2.out _);refine K4i ?_;intro HB;clear oR;have i0:=k0;revert V6 kc k0 k2 HB i0;exact zK.1):p:=f ⟨h⟩
theorem K0M(h:q)(f:Hz q->p:=by intro zK;have hf:Wf.heap[w.heap.size+1]?=some (.cells #[Iv s.again,Iv s.st,Iv now,Iv s.seq,.bool s.some,Iv s.prog,Iv s.cmd,.slice D dl dc,Iv s.BB,.slice A s.n ac,.slice S s.n sc] 51 (0,0)):=Aa;have hK:AG (λi=>i=w.heap.size+1) w2 Wf:=(by rw[<-MH];(repeat(first|with_reducible exact AG.refl _ _|(with_reducible refine AG.Ui ?_ _ _)|(with_reducible refine AG.drew ?_)|(with_reducible refine AG.drewN ?_ _)|(with_reducible refine AG.alloc ?_ _))));revert hf hK;exact zK.1):p:=f ⟨h⟩
theorem K0N(h:q)(f:Hz q->p:=by intro zK;refine(RD.out _ (((HD.out.below Qo (Lr _)).FY (p:=(Ad b 3)) HDN.out _).more (by simp[World.setCell];omega))).mono ?_;rintro e w6 ⟨rfl,Se⟩;have Xi:=Se.size;revert w6 Se Xi;exact zK.1):p:=f ⟨h⟩
theorem K0O(h:q)(f:Hz q->p:=by intro zK;have d0:=hc 0 Ft;have d1:=hc 1 Ft;simp only[Nat.add_zero] at d0;rw[<-HN.out.1] at d0;rw[<-HN.out.2] at d1;have i0:RB W1 w.heap.size s:=GH k0 BX;have i2:RB W1 (w.heap.size+2) FQ:=GH k2 BX;have jf:=GH KF.out BX;have DF:=JI HB BX;have hgW:=aP d0;have I0:=Hd i0;have I2:=Hd i2;have c6:W1.cell? (Ad w.heap.size 6)=some (Iv s.d):=AB i0 6 rfl;have c7:W1.cell? (Ad w.heap.size 7)=some (Iv s.r):=AB i0 7 rfl;have c8:W1.cell? (Ad w.heap.size 8)=some (.bool s.cs):=AB i0 8 rfl;have c9:W1.cell? (Ad w.heap.size 9)=some (Iv s.lo):=AB i0 9 rfl;have Zt:W1.cell? (Ad w.heap.size 10)=some (Iv s.hi):=AB i0 10 rfl;have aQ:W1.cell? (Ad w.heap.size 22)=some (Iv s.MO):=AB i0 22 rfl;have ie:W1.cell? (Ad w.heap.size 16)=some (Iv s.now):=AB i0 16 rfl;clear i0 i2 jf;revert ie;revert aQ;revert Zt;revert c9;revert c8;revert c7;revert c6;revert I2;revert I0;revert hgW;revert DF;revert d1;revert d0;exact zK.1):p:=f ⟨h⟩
theorem K0P(h:q)(f:Hz q->p:=by intro zK;refine SD.out.mono ?_;rintro e w5 ⟨rfl,aI⟩;obtain⟨m5,h5⟩:=H4.out.to aI;have LK:=Hd (gg h5.1 IV.out (Lt BJ h5.2.1.size) Ft);have H5:=Hd h5;clear aI h5;revert H5;revert LK;revert m5;revert w5;exact zK.1):p:=f ⟨h⟩
theorem K0Q(h:q)(f:Hz q->p:=by intro zK;have h0:=AH (q:=w.heap.size) Af BX Cm;have h1:=AH (q:=w.heap.size+1) Af BX Cm;revert h0 h1;exact zK.1):p:=f ⟨h⟩
theorem K0R(h:q)(f:Hz q->p:=by intro zK;refine K4l ?_;intro k0;have k1:=AH (q:=w.heap.size+2) Af BX Cm;revert k0 k1;exact zK.1):p:=f ⟨h⟩
theorem K0S(h:q)(f:Hz q->p:=by intro zK;refine CQ (rs:=[16]) Di Ef ?_;exact zK.1):p:=f ⟨h⟩
theorem K0T(h:q)(f:Hz q->p:=by intro zK;have Tz:=Hd hRi;refine(PN.out _ _ Tz.out).mono ?_;rintro e w3 ⟨A3,c3,rfl,hO3,hB3⟩;have j0:=GH k0 hB3;have j1:=GH k1 hB3;have P6:=Hd (HV.out.trans (hB3.mono (by have:=HV.out.size;omega)));have rY:=Hd (hO3.more (base':=w.heap.size) HV.out.size);(have ZI:w.heap.size+2<=w3.heap.size:=by have:=BG j1;omega);clear hB3 hO3;revert Tz w3 A3 c3 j0 j1 P6 rY ZI;exact zK.1):p:=f ⟨h⟩
theorem K0U(h:q)(f:Hz q->p:=by intro zK;have H:=Hd h;have X9:=Hd GZ;have ZJ:=hs.n;(have z:(t !=0)=false:=by simpa using ht);refine K4t ?_;intro X0;have hx:Rd w w.heap.size (some (Ad bb oo)) 1 d:=hd;obtain⟨b',o',e',aK,Xl⟩:=hd.2.2 Ft;revert Xl;revert aK;revert e';revert o';revert b';revert hx;revert X0;revert z;revert ZJ;revert X9;revert H;exact zK.1):p:=f ⟨h⟩
theorem K0V(h:q)(f:Hz q->p:=by intro zK;refine(AT.out _ H4.out.Tc).mono ?_;rintro e w5 ⟨rfl,LM⟩;have H5:=Hd (H4.out.below LM (Lr _));have g16:w5.cell? (Ad b 16)=some (Iv s.start):=AB H5.out.BM 16 rfl;have g4:w5.cell? (Ad b 4)=some (Iv s.late):=AB H5.out.BM 4 rfl;have A7z:b≠w5.heap.size:=(by have:=LM.size;omega);have JD:=Hd (show Below w.heap.size w w5 from Qo.out.trans (LM.mono QP));clear LM;revert w5 H5 g16 g4 A7z JD;exact zK.1):p:=f ⟨h⟩
theorem K0W(h:q)(f:Hz q->p:=by intro zK;have NO:=Hd (P4 h hs.n.1);refine K4y ?_;intro Pb;refine K4D ?_;intro ao;revert NO Pb ao;exact zK.1):p:=f ⟨h⟩
theorem K0X(h:q)(f:Hz q->p:=by intro zK;refine PU ?_;have H6:=Hd h1;revert H6;exact zK.1):p:=f ⟨h⟩
theorem K0Y(h:q)(f:Hz q->p:=by intro zK;have k0:V.heap[w.heap.size]?=some (.cells (aC r OA n oc TA m tc).toArray 28 (0,0)):=D7;revert k0;exact zK.1):p:=f ⟨h⟩
theorem K0Z(h:q)(f:Hz q->p:=by intro zK;refine JB 0 hHeld ?_;refine JB 1 hHeld ?_;refine JB 2 hHeld ?_;refine JB 3 hHeld ?_;refine JB 4 hHeld ?_;exact zK.1):p:=f ⟨h⟩
theorem K13(h:q)(f:Hz q->p:=by intro zK;have DF:=Hd (HB.out.trans (Q6.mono (by have:=HB.out.size;omega)));(have IJ:w.heap.size+2<=w1.heap.size:=by have:=BG j1;omega);revert DF IJ;exact zK.1):p:=f ⟨h⟩
theorem K14(h:q)(f:Hz q->p:=by intro zK;refine(FG.out _).mono ?_;rintro e w2 ⟨rfl,CB⟩;have i1:=GH j1 CB;have kt:=JI Rx CB;clear CB;have j1:=i1;have Rx:=kt;clear i1 kt;revert w2 j1 Rx;exact zK.1):p:=f ⟨h⟩
theorem K15(h:q)(f:Hz q->p:=by intro zK;have NO:=Hd (P4 h hs.n.1);refine K4y ?_;intro Pb;revert NO Pb;exact zK.1):p:=f ⟨h⟩
theorem K16(h:q)(f:Hz q->p:=by intro zK;have dX:=(BO hb).1 (w.heap.size+2) 0 Cm;have dN:=(BO hb).2 (w.heap.size+2) 0 Cm;have dW:=(BO hb).1 (w.heap.size+2) 1 Cm;have dM:=(BO hb).2 (w.heap.size+2) 1 Cm;revert dX dN dW dM;exact zK.1):p:=f ⟨h⟩
theorem K17(h:q)(f:Hz q->p:=by intro zK;have ar:=A8G b o;(have kq:∀W:World,(Op.equalIn 10000 248 (.agg #[.int .u8 213,.int .u8 76]) (.agg #[.int .u8 213,.int .u8 76])).run prog W= .ok true W:=λW=>by rw[A4z];rfl);revert ar kq;exact zK.1):p:=f ⟨h⟩
theorem K18(h:q)(f:Hz q->p:=by intro zK;have E:=Hd (show Nt.Sj s a=(Nt.run s u).1 from by unfold Nt.Sj;rw[AO NJ,AO VG,AO MU,hu]);have HC:=Hd (hi.run hc u).succ;have hnw:=hi.now;have DJ:=(show Nt.Inv _ s from hi).step;have wm:=GF (40*s.r.step) Ft;have wa:=GF (s.now+40*s.r.step) Ft;have HI:=Hd hi;have HL:=Hd hi.le;have HP:=Hd h;revert E HC hnw DJ wm wa HI HL HP;exact zK.1):p:=f ⟨h⟩
theorem K19(h:q)(f:Hz q->p:=by intro zK;generalize hVq:World.drewN _ _=Vq;(have nH:Below wo.heap.size wo Vq:=by rw[<-hVq];first|exact below_drewN XH.out _|exact below_drewN (below_drewN XH.out _) _);(have hzq:wo.heap.size+1<=Vq.heap.size:=by rw[<-hVq];exact hzv);(have hmq:Vq.heap[wo.heap.size]?=some (.cells #[Iv m.t,.slice m.A m.d.length m.c] 203 (0,0)):=by rw[<-hVq];exact HMV.out);have d0:=AB (l:=[Iv m.t,.slice m.A m.d.length m.c]) hmq 0 rfl;have d1:=AB (l:=[Iv m.t,.slice m.A m.d.length m.c]) hmq 1 rfl;have HOQ:=Hd (((TG.cM az.out).below nH (Lr _)).more (show wo.heap.size<=Vq.heap.size by omega));have HLQ:=Hd (rU.out.below nH (Lr _));have HBQ:=Hd nH;have HMQ:=Hd hmq;have ZT:=Hd HI.out;revert Vq hVq nH hzq hmq d0 d1 HOQ HLQ HBQ HMQ ZT;exact zK.1):p:=f ⟨h⟩
theorem K1a(h:q)(f:Hz q->p:=by intro zK;have BV:=Hd (show Below w.heap.size w V from NB.out.trans oS);have HD:=Hd (show w.heap.size<=D/\D<V.heap.size/\w.heap.size+1+1≠D from⟨Lt NB.out.size hD,BG hDf,by omega⟩);have HB:=Hd hb;have HDF:=Hd hDf;have p39:=P39.out V BV.out;have ck:=AB (l:=[_]) hk 0 rfl;have cr:=AB (l:=[_]) hr 0 rfl;have cst:=AB (l:=[_]) DJ 0 rfl;have cb:=AB (l:=[_]) hb 0 rfl;have fb:=AE hb 0;(have A5u:¬(w.heap.size+1=w.heap.size+1+1):=by omega);(have A0W:¬(w.heap.size=w.heap.size+1+1):=by omega);(have A5t:¬(K=w.heap.size+1+1):=by omega);(have A5s:¬(p=w.heap.size+1+1):=by omega);revert BV HD HB HDF p39 ck cr cst cb fb A5u A0W A5t A5s;exact zK.1):p:=f ⟨h⟩
theorem K1b(h:q)(f:Hz q->p:=by intro zK;refine K4x ?_;intro y0 y1 y2 y3;revert y0 y1 y2 y3;exact zK.1):p:=f ⟨h⟩
theorem K1c(h:q)(f:Hz q->p:=by intro zK;have k0:V.heap[w.heap.size]?=some (.cells #[Iv s.again,Iv s.st,Iv s.now,Iv s.seq,.bool s.some,Iv s.prog,Iv s.cmd,.slice D dl dc,Iv s.BB,.slice A s.n ac,.slice S s.n sc] 51 (0,0)):=Cc;have k1:V.heap[w.heap.size+1]?=some (.cells aS 51 (0,0)):=Cp;revert k0 k1;exact zK.1):p:=f ⟨h⟩
theorem K1d(h:q)(f:Hz q->p:=by intro zK;have e8:(k==8)=false:=JJ Ft;have e9:(k==9)=false:=JJ Ft;revert e8 e9;exact zK.1):p:=f ⟨h⟩
theorem K1e(h:q)(f:Hz q->p:=by intro zK;have yf:W1.cell? (Ad w.heap.size 13)=some (.bool s.Pf):=AB k0 13 rfl;have ye:W1.cell? (Ad w.heap.size 19)=some (Iv s.prog):=AB k0 19 rfl;rw[HL.out] at yf;revert yf;revert ye;exact zK.1):p:=f ⟨h⟩
theorem K1f(h:q)(f:Hz q->p:=by intro zK;refine K4E ?_;intro ta1;have HI:=Hd hs;obtain⟨T,cv,fk,fm,fs,fd,OW,C⟩:=rA s hs dB;have en:=C.en;have E8:=Hd OW;have CK:=Hd C.ck;have CS:=Hd C.cs;have m1:=C.ak.m;have n1:=C.ak.n;have q1:=C.ak.c;have m2:=C.as_.m;have n2:=C.as_.n;have q2:=C.as_.c;have A34:=hs.cmd;(have wk:IntKind.u8.wrap s.cmd=s.cmd:=by rw[VT];omega);(have zq:(q !=s.seq)=false:=by simpa using hq);(have zx:(x !=s.cmd)=false:=by simpa using hx);have YQ:=(Up s hs).1;have HF:=Hd Rv;revert HF;revert YQ;revert zx;revert zq;revert wk;revert A34;revert q2;revert n2;revert m2;revert q1;revert n1;revert m1;revert CS;revert CK;revert E8;revert en;revert C;revert OW;revert fd;revert fs;revert fm;revert fk;revert cv;revert T;revert HI;revert ta1;exact zK.1):p:=f ⟨h⟩
theorem K1g(h:q)(f:Hz q->p:=by intro zK;(have wi:IntKind.i64.wrap ((i:Int)+1-1)=(i:Int):=by rw[GF _ Ft];omega);have wi2:IntKind.i64.wrap (i:Int)=(i:Int):=GF _ Ft;revert wi wi2;exact zK.1):p:=f ⟨h⟩
theorem K1h(h:q)(f:Hz q->p:=by intro zK;generalize Oy:World.setCell _ _ _=V1;(have p0:V1.heap[w.heap.size]?=some (.cells #[Iv s.again,Iv s.st,Iv s.now,Iv s.seq,.bool s.some,Iv s.prog,Iv s.cmd,.slice none 0 0,Iv s.BB,.slice A s.n ac,.slice S s.n sc] 51 (0,0)):=by rw[<-Oy];exact Fl);revert V1 Oy p0;exact zK.1):p:=f ⟨h⟩
theorem K1i(h:q)(f:Hz q->p:=by intro zK;have y1:(k==1)=false:=JJ Ft;have y2:(k==2)=false:=JJ Ft;have y3:(k==3)=false:=JJ Ft;have y4:(k==4)=false:=JJ Ft;revert y1 y2 y3 y4;exact zK.1):p:=f ⟨h⟩
theorem K1j(h:q)(f:Hz q->p:=by intro zK;(have hf:Wf.heap[w.heap.size+2]?=some (.cells #[Iv s.again,Iv s.st,Iv now,Iv s.seq,.bool s.some,Iv s.prog,Iv s.cmd,.slice D dl dc,Iv s.BB,.slice (some (Ad g5 0)) s.n c5,.slice S s.n sc] 51 (0,0)):=by rw[<-MH];exact Fl);revert hf;exact zK.1):p:=f ⟨h⟩
theorem K1k(h:q)(f:Hz q->p:=by intro zK;have HH:=Hd h;have HS:=Hd hs;obtain⟨m,hm⟩:=BN (if l.length=4 then AQ.OX l 0 else-1);revert HH HS m hm;exact zK.1):p:=f ⟨h⟩
theorem K1l(h:q)(f:Hz q->p:=by intro zK;have k1:V.heap[w.heap.size+1]?=some (.cells #[Iv k,Iv f,Iv t,Iv q,.slice FD n cap] 147 (0,0)):=Bk;revert k1;exact zK.1):p:=f ⟨h⟩
theorem K1m(h:q)(f:Hz q->p:=by intro zK;generalize ZL:World.alloc w9 _=wa;obtain⟨T11,qV⟩:=BN w9.heap.size;(have n11:wa.heap[T11]?=some (.cells #[Iv (AQ.uk msg 2),Iv (AQ.uk msg 3),Iv (AQ.uk msg 4),Iv (AQ.us msg),.slice A4 (AQ.ud msg).length c4] 147 (0,0)):=by rw[<-ZL,qV];exact AM _ _);(have nI:Below w9.heap.size w9 wa:=by rw[<-ZL];exact(IH w9).alloc (Lr _) _);have XJ:=Hd (show Below wr.heap.size wr wa from Uv.trans (nI.mono Uv.size));have Xo:=Hd (show Rd wa wa.heap.size A4 (AQ.ud msg).length (AQ.ud msg) from((Xj.rd).below nI (Lr _)).more nI.size);rw[<-qV];have et:=Hd (xJ.out.below XJ.out);revert wa ZL T11 qV n11 nI XJ Xo et;exact zK.1):p:=f ⟨h⟩
theorem K1n(h:q)(f:Hz q->p:=by intro zK;(have w1:IntKind.i64.wrap (10+(m:Int)-2)=(m:Int)+8:=by rw[GF _ Ft];omega);(have w2:IntKind.i64.wrap (10+(m:Int)-1)=(m:Int)+9:=by rw[GF _ Ft];omega);revert w1 w2;exact zK.1):p:=f ⟨h⟩
theorem K1o(h:q)(f:Hz q->p:=by intro zK;have y5:(k==5)=false:=JJ Ft;have y6:(k==6)=false:=JJ Ft;have y7:(k==7)=false:=JJ Ft;revert y5 y6 y7;exact zK.1):p:=f ⟨h⟩
theorem K1p(h:q)(f:Hz q->p:=by intro zK;refine bU 101 _ _ rfl _ _ rfl rfl 101 _ k2 Ff rfl (DI _) ?_;exact zK.1):p:=f ⟨h⟩
theorem K1q(h:q)(f:Hz q->p:=by intro zK;refine JB 0 hHeld ?_;refine JB 1 hHeld ?_;refine JB 2 hHeld ?_;exact zK.1):p:=f ⟨h⟩
theorem K1r(h:q)(f:Hz q->p:=by intro zK;have CH:=Hd (NC s 1);have HE:=Hd (o0 s 1 (λ_ _=>MV Ft));have E:=Hd (show AL.take s x=({Qh s 1 with Pf:=true,prog:=m},true) by unfold AL.take;rw[AW Ft,AW Ft,AW Ft,HE.out,Tb]);obtain⟨r,T8⟩:=BN (Qh s 1);revert CH HE E r T8;exact zK.1):p:=f ⟨h⟩
theorem K1s(h:q)(f:Hz q->p:=by intro zK;(have c8:w6.cell? (Ad b 8)=some (.iface T cv):=by rw[<-E8.out];exact AB aU.out.BM 8 rfl);have c4:w6.cell? (Ad b 4)=some (Iv s.seq):=AB aU.out.BM 4 rfl;have Se:=aU.out.lt;revert c8 c4 Se;exact zK.1):p:=f ⟨h⟩
theorem K1t(h:q)(f:Hz q->p:=by intro zK;have HB:=(show Below w.heap.size w (w.alloc (.cells aw 147)) from A9);revert HB;exact zK.1):p:=f ⟨h⟩
theorem K1u(h:q)(f:Hz q->p:=by intro zK;have H3:=Hd h1;refine K4G ?_;revert H3;exact zK.1):p:=f ⟨h⟩
theorem K1v(h:q)(f:Hz q->p:=by intro zK;refine PU ?_;refine OI (rs:=[12]) Ff Fu ?_;exact zK.1):p:=f ⟨h⟩
theorem K1w(h:q)(f:Hz q->p:=by intro zK;have XJ:=Hd (show Below V3.heap.size V3 wA from A9);revert XJ;exact zK.1):p:=f ⟨h⟩
theorem K1x(h:q)(f:Hz q->p:=by intro zK;have HB:=Hd (show Below w.heap.size w w1 from A9);revert HB;exact zK.1):p:=f ⟨h⟩
theorem K1y(h:q)(f:Hz q->p:=by intro zK;have ZR:=Hd hp1;have eL:=Hd VG;have ND:=Hd (ZR.out.ot (R:= .returned (Iv er)) (k':=k) (s':=(Nt.run s u).1) (λW h1 h2=>by rw[ym.out];exact mI h1 HI.out h2 Eb u) (IH w1));rw[HU.out] at ND;revert ND;revert eL;revert ZR;exact zK.1):p:=f ⟨h⟩
theorem K1z(h:q)(f:Hz q->p:=by intro zK;have hB:Below w.heap.size w w1:=A9;revert hB;exact zK.1):p:=f ⟨h⟩
theorem K1A(h:q)(f:Hz q->p:=by intro zK;have DF:=Hd (HB.out.trans (Q6.mono (by have:=HB.out.size;omega)));revert DF;exact zK.1):p:=f ⟨h⟩
theorem K1B(h:q)(f:Hz q->p:=by intro zK;refine K4A ?_;intro Wa ZL bA;(have yF:Wa.heap[wr.heap.size]?=some (.cells #[Iv f.k,Iv f.f,Iv f.t,Iv f.s,.slice D f.d.length dc] 147 (0,0)):=by rw[<-ZL];exact AM _ _);revert Wa ZL bA yF;exact zK.1):p:=f ⟨h⟩
theorem K1C(h:q)(f:Hz q->p:=by intro zK;have gG:∀q off,q<w.heap.size+3->q<W.heap.size->w2.cell? (Ad q off)=W.cell? (Ad q off):=(λq off hq ny=>(Cb (GQ.block q Fp (λe=>by have:=(CF.lt _ e.symm).1;omega))).trans (A02 W _ (Ad q off) ny));have de:Boxed w2 w.heap.size 26 (.slice A1 pre.length OC):=(show w2.heap[w.heap.size]?=_ from(GQ.block w.heap.size Fp (λe=>by have:=(CF.lt _ e.symm).1;omega)).trans (FX (AI hv _)));have XC:=de.cell;have hf2:=de.frozen;revert gG de XC hf2;exact zK.1):p:=f ⟨h⟩
theorem K1D(h:q)(f:Hz q->p:=by intro zK;have k1:V.heap[w.heap.size+1]?=some (.cells #[Iv 8,Iv f,Iv t,Iv q,.slice (some (Ad bb oo)) 1 cap] 147 (0,0)):=Bk;revert k1;exact zK.1):p:=f ⟨h⟩
theorem K1E(h:q)(f:Hz q->p:=by intro zK;have c12:V.cell? (Ad w.heap.size 12)=some (.bool s.begun):=AB k0 12 rfl;have ie:V.cell? (Ad w.heap.size 16)=some (Iv s.now):=AB k0 16 rfl;revert c12 ie;exact zK.1):p:=f ⟨h⟩
theorem K1F(h:q)(f:Hz q->p:=by intro zK;have BH:=GN q0;have la:=BG q0;have CI:=GN q1;have lb:=BG q1;revert BH la CI lb;exact zK.1):p:=f ⟨h⟩
theorem K1G(h:q)(f:Hz q->p:=by intro zK;generalize oR:World.setRow _ _ _=V6;(have q0:RB V6 w.heap.size u:=by rw[<-oR];exact(Pq _ _ _ _ Ft).trans i0);(have q1:RB V6 (w.heap.size+1) FQ:=by rw[<-oR];exact(Pq _ _ _ _ Ft).trans i1);(have q2:RB V6 w1.heap.size (rnx u):=by rw[<-oR];exact MR _ _ _ _ _ _ i2);have T3:=Hd (show Below w.heap.size w V6 from by rw[<-oR];exact JO Vh.out Ft _);clear oR;obtain⟨m,hm⟩:=BN w1.heap.size;revert V6 q0 q1 q2 T3 m hm;exact zK.1):p:=f ⟨h⟩
theorem K1H(h:q)(f:Hz q->p:=by intro zK;obtain⟨x,hx⟩:∃x,s.Rr[i]?=some x:=⟨_,Gg Du⟩;have k1:=DD i (.bool x) (by rw[GY,TV,hx];rfl);have d1:=((BO eM.out).1 g (o+i) hg).trans k1;(have U3:(i:Int)<(s.n:Int):=by omega);have ji:=eX s.Rr i Du;rw[show s.Rr[i]'Du=x by have:=hx;rw[Gg Du] at this;injection this] at ji;have HMT:=Hd ji;clear k1 hx ji;revert HMT;revert U3;revert d1;revert x;exact zK.1):p:=f ⟨h⟩
theorem K1I(h:q)(f:Hz q->p:=by intro zK;refine(TM.out _).mono ?_;rintro e W1 ⟨rfl,BX⟩;have i0:=GH k0 BX;have i2:=GH k2 BX;have DF:=JI HB BX;clear BX;have k0:RB W1 w.heap.size s:=i0;have k2:RB W1 (w.heap.size+1) FQ:=i2;have HB:=DF;clear i0 i2 DF;revert W1 k0 k2 HB;exact zK.1):p:=f ⟨h⟩
theorem K1J(h:q)(f:Hz q->p:=by intro zK;obtain⟨i,hi⟩:∃i:Nat,f=(i:Int)+1:=⟨(f-1).toNat,by omega⟩;(have e2:AJ.LB s now ⟨k,f,t,q,d⟩=[⟨7,0,f,q,AQ.IZ now++AQ.IZ now⟩]:=by unfold AJ.LB;rw[AW ⟨he,h1,RV⟩]);(have e3:AJ.Qg s now ⟨k,f,t,q,d⟩=AJ.reported {s with now:=now} (i+1) (d.getD 0 0) now:=by unfold AJ.Qg;rw[AW h1,AO (by simp[fj]),AW RV];simp only[hi];rw[show((i:Int)+1).toNat=i+1 by omega]);rw[e2,e3];revert e3;revert e2;revert hi;revert i;exact zK.1):p:=f ⟨h⟩
theorem K1K(h:q)(f:Hz q->p:=by intro zK;have n7:=N7.out;refine bU 51 _ _ rfl T7 _ rfl rfl 51 _ n7 Ff rfl Ff ?_;revert n7;exact zK.1):p:=f ⟨h⟩
theorem K1L(h:q)(f:Hz q->p:=by intro zK;have E:=Hd (show AL.take s x=(s,false) by unfold AL.take;rw[AO Ft,AO Ft,AW Ft,AO Ft,ME Ft]);revert E;exact zK.1):p:=f ⟨h⟩
theorem K1M(h:q)(f:Hz q->p:=by intro zK;have Ua:W1.cell? (Ad w.heap.size 20)=some (Iv s.start):=AB k0 20 rfl;revert Ua;exact zK.1):p:=f ⟨h⟩
theorem K1N(h:q)(f:Hz q->p:=by intro zK;have E:=Hd (show AL.take s x=(s,false) by unfold AL.take;rw[AO Ft,AO Ft,AO Ft,AO Ft,AO Ft,AO Ft,AW Ft,AO (λhh=>by rw[oP] at hh;cases hh.1)]);revert E;exact zK.1):p:=f ⟨h⟩
theorem K1O(h:q)(f:Hz q->p:=by intro zK;have wx:IntKind.i64.wrap x=x:=GF _ Ft;have CD:=Hd cd;(have LX:w.heap.size≠bb:=by omega);(have YO:w.heap.size+1≠bb:=by omega);revert wx CD LX YO;exact zK.1):p:=f ⟨h⟩
theorem K1P(h:q)(f:Hz q->p:=by intro zK;refine(G.out _ HB.out).mono ?_;exact zK.1):p:=f ⟨h⟩
theorem K1Q(h:q)(f:Hz q->p:=by intro zK;have Ud:w.cell? (Ad b 25)=some (.slice m.CA s.cr.length m.cc):=AB h.BM 25 rfl;revert Ud;exact zK.1):p:=f ⟨h⟩
theorem K1R(h:q)(f:Hz q->p:=by intro zK;obtain⟨t,dj,ht,hti,htr,htk⟩:=hrel.out;have HT:=Hd ht;have HTI:=Hd hti;have HTR:=Hd htr;have HTK:=Hd htk;have EV:=Hd (xo ht hti);obtain⟨a,ha⟩:=BN ((AL.MC t).1);obtain⟨x,hx⟩:=BN ((AL.MC t).2.1);rw[<-ha,<-hx] at EV;have EN:=Hd (λ(W:World)(hW:Below wr.heap.size wr W)=>Zp (ht.below hW (Lr _)) x a);have HA:=Hd (show AL.XQ t=AL.QR t x a by rw[ha,hx];rfl);clear ht hti htr htk;revert HA;revert EN;revert EV;revert hx;revert x;revert ha;revert a;revert HTK;revert HTR;revert HTI;revert HT;revert dj;revert t;exact zK.1):p:=f ⟨h⟩
theorem K1S(h:q)(f:Hz q->p:=by intro zK;refine(EV.out _).mono ?_;rintro e w1 ⟨rfl,BX⟩;have i0:=AI (GH j0 BX) (.cells (LJ FQ).toArray 101 (0,0));have i1:=AI (GH j1 BX) (.cells (LJ FQ).toArray 101 (0,0));have i2:=AM w1 (.cells (LJ FQ).toArray 101 (0,0));have IJ:w.heap.size+1<w1.heap.size:=BG (GH j1 BX);have Vh:=Hd ((Rx.out.trans (BX.mono Rx.out.size)).alloc Ft (.cells (LJ FQ).toArray 101 (0,0)));clear BX;revert w1 i0 i1 i2 IJ Vh;exact zK.1):p:=f ⟨h⟩
theorem K1T(h:q)(f:Hz q->p:=by intro zK;have NS:=Hd (show Nt.WX r (j+1)=Nt.one r j by rw[Nt.WX,xY,Bool.true_and]);have NO:=Hd (λ(e:Nt.one r j=false)=>Nt.A2C EK e);have ED:=Hd (show Nt.one r j=decide ((-3600000<=r.CJ.getD j 0/\r.CJ.getD j 0<=3600000)/\(-r.CY<=r.BL.getD j 0/\r.BL.getD j 0<=r.CY)) from rfl);obtain⟨x,hx⟩:∃x,r.CJ.getD j 0=x:=⟨_,rfl⟩;obtain⟨y,hy⟩:∃y,r.BL.getD j 0=y:=⟨_,rfl⟩;revert hy;revert y;revert hx;revert x;revert ED;revert NO;revert NS;exact zK.1):p:=f ⟨h⟩
theorem K1U(h:q)(f:Hz q->p:=by intro zK;have E:=Hd (show AL.take s x=(s,false) by unfold AL.take;rw[AO Ft,AW Ft,AO Ft]);revert E;exact zK.1):p:=f ⟨h⟩
theorem K1V(h:q)(f:Hz q->p:=by intro zK;refine JB 5 hHeld ?_;refine GI (i:=6) (v:= .agg LL.toArray) rfl Ff Ff Ff (λ_ _ _ h=>h) (vE Fk 136 _ rfl gl (ol+i*11) rfl LL _ (λw' hS=>hS.2.2) underlying136 rfl Dq) hHeld ?_;refine PU ?_;refine JB 7 hHeld ?_;refine JB 8 hHeld ?_;refine JB 9 hHeld ?_;refine JB 10 hHeld ?_;refine OI (rs:=[11,16]) Ff Fu ?_;exact zK.1):p:=f ⟨h⟩
theorem K1W(h:q)(f:Hz q->p:=by intro zK;refine(MY.out _).mono ?_;rintro e w' ⟨rfl,rfl⟩;exact zK.1):p:=f ⟨h⟩
theorem K1X(h:q)(f:Hz q->p:=by intro zK;have hS7:=aU.out.below T3.out (Lr _);have rQ:=Hd hS7;have hk7:=AH (q:=w.heap.size) k6 T3.out (BG k6);have f1:w7.cell? (Ad w.heap.size 1)=some (Iv f):=AB hk7 1 rfl;have HK7:=Hd (il.out.trans (AG.AS (S:=λi=>i=b) T3.out) (λ_ _ h=>h));clear hk7;(have d9:w7.cell? (Ad b 9)=some (.slice MA n9 mc):=by rw[HN9.out];exact AB hS7.BM 9 rfl);clear hS7;revert rQ f1 HK7 d9;exact zK.1):p:=f ⟨h⟩
theorem K1Y(h:q)(f:Hz q->p:=by intro zK;have y0:((n:Int)==4)=false:=JJ Ft;revert y0;exact zK.1):p:=f ⟨h⟩
theorem K1Z(h:q)(f:Hz q->p:=by intro zK;generalize hW:World.setRow _ _ _=W5;(have g0:RB W5 w.heap.size t':=by rw[<-hW];exact MR _ _ _ _ _ _ k0);(have g1:RB W5 (w.heap.size+1) FQ:=by rw[<-hW];exact(Pq _ _ _ _ Ft).trans k1);(have g2:RB W5 m t':=by rw[<-hW];exact(Pq _ _ _ _ Ft).trans k2);have JD:=Hd (show Below w.heap.size w W5 from by rw[<-hW];exact JO HTB.out (Lr _) _);clear hW;revert W5 g0 g1 g2 JD;exact zK.1):p:=f ⟨h⟩
theorem K20(h:q)(f:Hz q->p:=by intro zK;refine LH _ rfl (.tmp 26) (.tmp 49) 26 rfl (w.heap.size+3) 3 i0 _ 1 8 underlying26 OU RR IJ Ot rfl Ft (.slice A1 pre.length OC) pre.length _ rfl (sV (mF CF _)) (W.heap.size+1) (some (Ad W.heap.size 0)) 1 1 [Iv y] rfl (Reads.drew (Reads.new W #[Iv y] 3)) E9 Dk Ft Fp ?_;intro v1 w2 CE GQ LY;revert v1 w2 CE GQ LY;exact zK.1):p:=f ⟨h⟩
theorem K21(h:q)(f:Hz q->p:=by intro zK;(have k0:V2.heap[w.heap.size]?=some (.cells #[Iv s.again,Iv s.st,Iv s.now,Iv s.seq,.bool s.some,Iv s.prog,Iv s.cmd,.slice none 0 0,Iv s.BB,.slice A s.n ac,.slice S s.n sc] 51 (0,0)):=by rw[<-hV];exact AI p0 _);refine K4C ?_;intro k1 HV;revert k0 k1 HV;exact zK.1):p:=f ⟨h⟩
theorem K22(h:q)(f:Hz q->p:=by intro zK;generalize hW:World.setRow _ _ _=W3;have k0:RB W3 w.heap.size p:=(by rw[<-hW];exact MR _ _ _ _ _ _ i0);have k2:RB W3 (w.heap.size+1) FQ:=(by rw[<-hW];exact(Pq _ _ _ _ Ft).trans i2);have HB:=Hd (show Below w.heap.size w W3 by rw[<-hW];exact JO NB.out (Lr _) _);clear hW;have Pb:W3.cell? (Ad w.heap.size 21)=some (Iv p.AZ):=AB k0 21 rfl;revert W3 k0 k2 HB Pb;exact zK.1):p:=f ⟨h⟩
theorem K23(h:q)(f:Hz q->p:=by intro zK;have ax:=Hd Qn.1;have Ws:=Hd Qn.2.1;have gD:=Qn.2.2;revert ax Ws gD;exact zK.1):p:=f ⟨h⟩
theorem K24(h:q)(f:Hz q->p:=by intro zK;have k9:(w6.alloc (.cells #[.int .u8 x] 226)).heap[w6.heap.size]?=_:=AM _ _;have c9:(w6.alloc (.cells #[.int .u8 x] 226)).cell? (Ad w6.heap.size 0)=some (.int .u8 x):=AB (l:=[.int .u8 x]) k9 0 rfl;revert k9 c9;exact zK.1):p:=f ⟨h⟩
theorem K25(h:q)(f:Hz q->p:=by intro zK;have CH:=Hd (NC s 1);have HE:=Hd (A1o s 1 rfl Ft);have FG:=Hd (OO (Qh s 1));have E:=Hd (show AL.take s x=({Qh s 1 with given:=false,start:=0},true) by unfold AL.take;rw[AO Ft,AO Ft,AO Ft,AO Ft,AO Ft,AW Ft,AW Ou,AW Ft,HE.out]);obtain⟨r,T8⟩:=BN (Qh s 1);revert CH HE FG E r T8;exact zK.1):p:=f ⟨h⟩
theorem K26(h:q)(f:Hz q->p:=by intro zK;have HD:=Hd (show AL.due t l=true by unfold AL.due;rw[hf,<-ha,IU hle];rfl);have HX:=Hd (show rnx t=AL.XQ t by unfold rnx;rw[hf];rfl);have EVA:=Hd (bK (AL.XQ t) (AL.aR HTI.out hl.2 HD.out));have xJ:=Hd (AL.U7 HD.out);have Xo:=Hd (show AL.run 4 (AL.XQ t) l=AL.run 4 t l from AL.sB HD.out);have HIA:=Hd (AL.aR HTI.out hl.2 HD.out);revert HD HX EVA xJ Xo HIA;exact zK.1):p:=f ⟨h⟩
theorem K29(h:q)(f:Hz q->p:=by intro zK;refine N.out.mono ?_;rintro e w' ⟨rfl,rfl⟩;exact zK.1):p:=f ⟨h⟩
theorem K2a(h:q)(f:Hz q->p:=by intro zK;have ie:=AB k0 16 rfl;have f16:=AE k0 16;have HE:=Hd (show AL.run 4 t l=t from AL.lj HD.out);revert ie f16 HE;exact zK.1):p:=f ⟨h⟩
theorem K2b(h:q)(f:Hz q->p:=by intro zK;have k0:(w.alloc (.cells #[Iv s.again,Iv s.st,Iv s.now,Iv s.seq,.bool s.some,Iv s.prog,Iv s.cmd,.slice D dl dc,Iv s.BB,.slice A s.n ac,.slice S sl sc] 51)).heap[w.heap.size]?=_:=AM _ _;revert k0;exact zK.1):p:=f ⟨h⟩
theorem K2c(h:q)(f:Hz q->p:=by intro zK;have h1:=hs.heard;have h2:=hs.since;have h3:=hs.lost;have h4:=hs.ret;have h5:=hs.desc;have h6:=hs.start;have h7:=hs.late;have wl:=GF (s.heard+s.lost) Ft;have wr:=GF (s.heard+s.ret) Ft;have wd:=GF (s.since+s.desc) Ft;have wt:=GF (s.start+s.late) Ft;have HW:=Hd (AL.yp hs);revert h1 h2 h3 h4 h5 h6 h7 wl wr wd wt HW;exact zK.1):p:=f ⟨h⟩
theorem K2d(h:q)(f:Hz q->p:=by intro zK;have Ws:=Hd (show ∀g∈fr,Nt.aB s1.cr.length g from by rw[Om];exact Ws.out);revert Ws;exact zK.1):p:=f ⟨h⟩
theorem K2e(h:q)(f:Hz q->p:=by intro zK;(have y1:(k==1)=false:=by rw[hk];rfl);(have y2:(k==2)=false:=by rw[hk];rfl);(have y3:(k==3)=false:=by rw[hk];rfl);revert y1 y2 y3;exact zK.1):p:=f ⟨h⟩
theorem K2f(h:q)(f:Hz q->p:=by intro zK;have E:=Hd (show AL.take s x=(s,false) by unfold AL.take;rw[AO Ft,AO Ft,AO Ft,AO Ft,AO Ft,AO Ft,AO Ft]);revert E;exact zK.1):p:=f ⟨h⟩
theorem K2g(h:q)(f:Hz q->p:=by intro zK;have e6:=AB k0 6 rfl;have p6:=AE k0 6;have e7:=AB k0 7 rfl;have p7:=AE k0 7;have e8:=AB k0 8 rfl;have p8:=AE k0 8;have e9:=AB k0 9 rfl;have p9:=AE k0 9;have e10:=AB k0 10 rfl;have p10:=AE k0 10;have e15:=AB k0 15 rfl;have p15:=AE k0 15;have IK:=OH kc;have lm:=BG kc;revert e6 p6 e7 p7 e8 p8 e9 p9 e10 p10 e15 p15 IK lm;exact zK.1):p:=f ⟨h⟩
theorem K2h(h:q)(f:Hz q->p:=by intro zK;(have i0:(0:Int)<(n:Int):=by omega);(have i2:(2:Int)<=(cap:Int):=by omega);(have i7:(7:Int)<(n:Int):=by omega);revert i0 i2 i7;exact zK.1):p:=f ⟨h⟩
theorem K2i(h:q)(f:Hz q->p:=by intro zK;refine(FG.out _).mono ?_;rintro e W5 ⟨rfl,LM⟩;have i2:RB W5 (w.heap.size+2) FQ:=GH k2 LM;have JD:=JI HB LM;clear LM;have k2:=i2;have HB:=JD;clear i2 JD;revert W5 k2 HB;exact zK.1):p:=f ⟨h⟩
theorem K2j(h:q)(f:Hz q->p:=by intro zK;have k0:V.heap[w.heap.size]?=some (.cells (aC Zx OA0 n oc0 TA0 m tc0).toArray 28 (0,0)):=D7;revert k0;exact zK.1):p:=f ⟨h⟩
theorem K2k(h:q)(f:Hz q->p:=by intro zK;refine JB 13 hHeld ?_;refine JB 14 hHeld ?_;refine JB 15 hHeld ?_;refine OI (rs:=[17]) Ff Fu ?_;exact zK.1):p:=f ⟨h⟩
theorem K2l(h:q)(f:Hz q->p:=by intro zK;have k0:V.heap[w.heap.size]?=some (.cells #[Iv r.n,Iv r.again,Iv r.step,Iv r.CY,Iv r.lost,Iv r.ret,Iv r.desc,Iv r.late,Iv r.every,Iv r.up.BY,Iv r.up.AY,Iv r.up.least,Iv r.up.BU,Iv r.up.seed,Iv r.dn.BY,Iv r.dn.AY,Iv r.dn.least,Iv r.dn.BU,Iv r.dn.seed,.slice OA n oc,.slice TA n tc] 28 (0,0)):=D7;revert k0;exact zK.1):p:=f ⟨h⟩
theorem K2m(h:q)(f:Hz q->p:=by intro zK;have Ze:Ty V2 T7 51:=⟨_,N7.out⟩;have kr:AG (λq=>q=T7) V2 (V2.setRow T7 (Sl st' D' Tv A' Tx S' Tf).toArray):=(AG.refl (λq=>q=T7) V2).Wx (.inl rfl) _;revert Ze kr;exact zK.1):p:=f ⟨h⟩
theorem K2n(h:q)(f:Hz q->p:=by intro zK;have Ze:Ty V4 T7 51:=⟨_,N7.out⟩;have kr:AG (λq=>q=T7) V4 (V4.setRow T7 (Sl st' D' Tv A' Tx S' Tf).toArray):=(AG.refl (λq=>q=T7) V4).Wx (.inl rfl) _;revert Ze kr;exact zK.1):p:=f ⟨h⟩
theorem K2o(h:q)(f:Hz q->p:=by intro zK;(have OU:(0:Int)<=(i:Int):=by omega);have wi:=GF ((i:Int)+1) Ft;revert OU wi;exact zK.1):p:=f ⟨h⟩
theorem K2p(h:q)(f:Hz q->p:=by intro zK;(have eD:0<=m:=by rw[hm];have:=AQ.aN hr.2.1 0;omega);refine K4w ?_;intro y0;(have Tb:x.n=m:=by rw[GK,AW Ft]);revert eD y0 Tb;exact zK.1):p:=f ⟨h⟩
theorem K2q(h:q)(f:Hz q->p:=by intro zK;refine GI (i:=3) (v:= .agg RS.toArray) rfl Ff Ff Ff (λ_ _ _ h=>h) (vE Fk 51 _ rfl p 23 rfl RS _ (λw' hS=>hS.2) underlying51 rfl (by rw[HRS.out];kernel_rfl)) hHeld ?_;refine PU ?_;refine JB 4 hHeld ?_;refine K4F ?_;exact zK.1):p:=f ⟨h⟩
theorem K2r(h:q)(f:Hz q->p:=by intro zK;refine JB 13 hHeld ?_;refine JB 14 hHeld ?_;refine JB 15 hHeld ?_;exact zK.1):p:=f ⟨h⟩
theorem K2s(h:q)(f:Hz q->p:=by intro zK;have RZ:=OH kx;have lx:=BG kx;revert RZ lx;exact zK.1):p:=f ⟨h⟩
theorem K2t(h:q)(f:Hz q->p:=by intro zK;have CH:=Hd (NC s 6);have HE:=Hd (jA s 6 rfl);have E:=Hd (show AL.take s x=(Qh s 6,true) by unfold AL.take;rw[AO Ft,AO Ft,AO Ft,AO Ft,AO Ft,AW Ft,AW Ou,AO Ft,AW Ft,HE.out]);obtain⟨r,T8⟩:=BN (Qh s 6);revert CH HE E r T8;exact zK.1):p:=f ⟨h⟩
theorem K2u(h:q)(f:Hz q->p:=by intro zK;have c15:V.cell? (Ad w.heap.size 15)=some (.bool s.asked):=AB k0 15 rfl;rw[HA.out] at c15;have ao:V.cell? (Ad w.heap.size 23)=some (Iv s.q):=AB k0 23 rfl;revert ao;revert c15;exact zK.1):p:=f ⟨h⟩
theorem K2v(h:q)(f:Hz q->p:=by intro zK;have k0:RB V w.heap.size s:=Cc;have k2:RB V (w.heap.size+1) FQ:=Cp;revert k0 k2;exact zK.1):p:=f ⟨h⟩
theorem K2w(h:q)(f:Hz q->p:=by intro zK;refine PU ?_;refine JB 10 hHeld ?_;refine K4I ?_;refine JB 13 hHeld ?_;exact zK.1):p:=f ⟨h⟩
theorem K2x(h:q)(f:Hz q->p:=by intro zK;(have alm:∀k ob,((wc.drewN k).alloc ob).cell? (Ad w.heap.size 0)=some (Iv t):=λk ob=>(td ob w.heap.size 0 A5l).trans cm);(have aln:∀k ob,((wc.drewN k).alloc ob).cell? (Ad w.heap.size 1)=some (.string (strOfNums d)):=λk ob=>(td ob w.heap.size 1 A5l).trans cn);revert alm aln;exact zK.1):p:=f ⟨h⟩
theorem K2y(h:q)(f:Hz q->p:=by intro zK;have z3:(s.st==3)=false:=JJ Ft;revert z3;exact zK.1):p:=f ⟨h⟩
theorem K2z(h:q)(f:Hz q->p:=by intro zK;have EY:=Hd (DY.out he);have IV:=Hd (ax.out.FP Ws.out Ft);revert EY IV;exact zK.1):p:=f ⟨h⟩
theorem K2A(h:q)(f:Hz q->p:=by intro zK;have CH:=Hd (λ(W:World)(hW:Of W base b c s)=>by have:=xy hW now;rw[he] at this;exact this);revert CH;exact zK.1):p:=f ⟨h⟩
theorem K2B(h:q)(f:Hz q->p:=by intro zK;have T1:=JI Rs EX;have X7:=Hd (X7.out.below EX (Lr _));have Vp:=Hd (IF.kept Vp.out (AG.AS (S:=λ_=>False) EX) (λ_ h=>h.elim));revert T1 X7 Vp;exact zK.1):p:=f ⟨h⟩
theorem K2C(h:q)(f:Hz q->p:=by intro zK;refine PU ?_;have H4:=Hd h1;refine CQ (rs:=[22]) Di Ef ?_;revert H4;exact zK.1):p:=f ⟨h⟩
theorem K2D(h:q)(f:Hz q->p:=by intro zK;have k2:=GF ((l-1)*1000000) Ft;have k4:=GF ((l-1)*1000000/(1000000+d)) Ft;have k5:=GF (lo+(l-1)*1000000/(1000000+d)) Ft;have G:=Hd (show AV.YW lo d l=lo+(l-1)*1000000/(1000000+d) by rw[AV.YW,AW hl];rfl);revert k2 k4 k5 G;exact zK.1):p:=f ⟨h⟩
theorem K2E(h:q)(f:Hz q->p:=by intro zK;refine G.out.mono ?_;rintro e w' ⟨v,km,wh,rfl,hP⟩;have HP:=Hd hP;clear hP;revert w' v km wh HP;exact zK.1):p:=f ⟨h⟩
theorem K2F(h:q)(f:Hz q->p:=by intro zK;have E:=Hd (show AL.take s x=(AL.QR s 6 s.now,true) by unfold AL.take;rw[AO Ft,AO Ft,AO Ft,AO Ft,AO Ft,AW Ft,AW Pp,AO Ft,AW Ft]);revert E;exact zK.1):p:=f ⟨h⟩
theorem K2G(h:q)(f:Hz q->p:=by intro zK;generalize hW:World.setCell _ _ _=W4;(have k0:RB W4 w.heap.size {r with Pf:=true,prog:=m}:=by rw[<-hW];exact AP (AP g0 13 _) 19 _);revert W4 hW k0;exact zK.1):p:=f ⟨h⟩
theorem K2H(h:q)(f:Hz q->p:=by intro zK;refine PU ?_;refine OI (rs:=[11]) Ff Fu ?_;exact zK.1):p:=f ⟨h⟩
theorem K2I(h:q)(f:Hz q->p:=by intro zK;have CH:=Hd (NC s 4);have HE:=Hd (jA s 4 rfl);have E:=Hd (show AL.take s x=(Qh s 4,true) by unfold AL.take;rw[AO Ft,AO Ft,AO Ft,AO Ft,AW Ft,AW ⟨Ou,by omega⟩,HE.out]);obtain⟨r,T8⟩:=BN (Qh s 4);revert CH HE E r T8;exact zK.1):p:=f ⟨h⟩
theorem K2J(h:q)(f:Hz q->p:=by intro zK;have n7:=N7.out;refine bU 136 _ _ rfl T7 _ rfl rfl 136 _ n7 Ff rfl Ff ?_;revert n7;exact zK.1):p:=f ⟨h⟩
theorem K2K(h:q)(f:Hz q->p:=by intro zK;refine CH.out.mono ?_;rintro e w' ⟨rfl,rfl⟩;exact zK.1):p:=f ⟨h⟩
theorem K2L(h:q)(f:Hz q->p:=by intro zK;have H:=Hd h;have xV:=hs.seq;have hn:=hs.n;have ux:=Hd kh;revert H xV hn ux;exact zK.1):p:=f ⟨h⟩
theorem K2M(h:q)(f:Hz q->p:=by intro zK;have N:=Hd (II b _ w h.BM rfl);have c7:w.cell? (Ad b 7)=some (Iv s.now):=AB h.BM 7 rfl;revert N c7;exact zK.1):p:=f ⟨h⟩
theorem K2N(h:q)(f:Hz q->p:=by intro zK;(have e3:AJ.Qg s now ⟨k,f,t,q,d⟩={s with now:=now}:=by unfold AJ.Qg;rw[AW h1,AO (by simp[fj]),AO Fd]);revert e3;exact zK.1):p:=f ⟨h⟩
theorem K2O(h:q)(f:Hz q->p:=by intro zK;have hk:=SZ.out.BM;simp only[cI] at hk;have CI:=xw hk;have lb:=BG hk;clear hk;revert lb;revert CI;exact zK.1):p:=f ⟨h⟩
theorem K2P(h:q)(f:Hz q->p:=by intro zK;have hm:max (Ck.AV.iB s.d s.r s.cs s.lo s.start) s.since=AL.oI s:=rfl;obtain⟨u,hu⟩:=BN (Ck.AV.fA s.d s.r s.cs s.lo s.start);obtain⟨x,hx⟩:=BN (Ck.AV.iB s.d s.r s.cs s.lo s.start);obtain⟨y,hy⟩:=BN (AL.oI s);rw[<-hx,<-hy] at hm;revert hm;revert hy;revert y;revert hx;revert x;revert hu;revert u;exact zK.1):p:=f ⟨h⟩
theorem K2Q(h:q)(f:Hz q->p:=by intro zK;have E:=Hd (show AL.take s x=(s,true) by unfold AL.take;rw[AO Ft,AO Ft,AO Ft,AW Ft,AW Ou,AO Ft,AO Ft,IU Ft]);revert E;exact zK.1):p:=f ⟨h⟩
theorem K2R(h:q)(f:Hz q->p:=by intro zK;have W1:=Hd (λW=>QW r.n 1 64 W g1);have W2:=Hd (λW=>QW r.again 1 60000 W g2);have W3:=Hd (λW=>QW r.step 1 1000 W g3);have W4:=Hd (λW=>QW r.CY 0 100000 W g4);have W5:=Hd (λW=>g5▸VO r.lost r.ret r.desc r.late r.every W);revert W1 W2 W3 W4 W5;exact zK.1):p:=f ⟨h⟩
theorem K2S(h:q)(f:Hz q->p:=by intro zK;(have z4:(s.st==4)=true:=by rw[Q5];omega);have z5:(s.st==5)=false:=JJ Ft;revert z4 z5;exact zK.1):p:=f ⟨h⟩
theorem K2T(h:q)(f:Hz q->p:=by intro zK;have z4:(s.st==4)=false:=JJ Ft;(have z5:(s.st==5)=true:=by rw[Q5];omega);revert z4 z5;exact zK.1):p:=f ⟨h⟩
theorem K2U(h:q)(f:Hz q->p:=by intro zK;have E:=Hd (show AL.take s x=(AL.QR s 1 s.now,true) by unfold AL.take;rw[AO Ft,AO Ft,AO Ft,AO Ft,AO Ft,AW Ft,AW Pp,AW Ft]);revert E;exact zK.1):p:=f ⟨h⟩
theorem K2V(h:q)(f:Hz q->p:=by intro zK;have jf:=KF.out;have CX:=OH jf;have lf:=BG jf;clear jf;have c0:W1.cell? (Ad w.heap.size 0)=some (Iv s.id):=AB k0 0 rfl;revert CX lf c0;exact zK.1):p:=f ⟨h⟩
theorem K2W(h:q)(f:Hz q->p:=by intro zK;have hD:=HD.out;have rT:=AP HB.out 0 (.bool true);have kT:=CV HDF.out (a:=(Ad (w.heap.size+1+1) 0)) (λe=>hD.2.2 e.symm) (.bool true);have hB7:=BV.out.setCell (p:=(Ad (w.heap.size+1+1) 0)) (by show w.heap.size<=w.heap.size+1+1;omega) (.bool true);revert hD rT kT hB7;exact zK.1):p:=f ⟨h⟩
theorem K2X(h:q)(f:Hz q->p:=by intro zK;have j2:=((BO HQ).1 b (o+2) QQ).trans k2;have j3:=((BO HQ).1 b (o+3) QQ).trans k3;have j4:=((BO HQ).1 b (o+4) QQ).trans k4;have j5:=((BO HQ).1 b (o+5) QQ).trans k5;have j6:=((BO HQ).1 b (o+6) QQ).trans k6;(have nH:b<wq.heap.size:=by omega);revert j2 j3 j4 j5 j6 nH;exact zK.1):p:=f ⟨h⟩
theorem K2Y(h:q)(f:Hz q->p:=by intro zK;obtain⟨c1,eF⟩:=BN (decide (1<=r.n/\r.n<=64));obtain⟨c2,XC⟩:=BN (decide (1<=r.again/\r.again<=60000));obtain⟨c3,hc3⟩:=BN (decide (1<=r.step/\r.step<=1000));obtain⟨c4,ZK⟩:=BN (decide (0<=r.CY/\r.CY<=100000));revert c1 eF c2 XC c3 hc3 c4 ZK;exact zK.1):p:=f ⟨h⟩
theorem K2Z(h:q)(f:Hz q->p:=by intro zK;have ku:=Hd (show AL.MC s=if Ck.aE s.d s.r s.cs s.hi (AL.oI s)≠0\/s.start+s.late<Ck.ue s.d s.r s.cs s.hi (AL.oI s) then(AL.oI s,1,true) else(AL.oI s,4,true) by rw[EW.out];unfold AL.wev;rw[AO Dd]);rw[<-hy] at ku;revert ku;exact zK.1):p:=f ⟨h⟩
theorem K30(h:q)(f:Hz q->p:=by intro zK;have i2:RB W9 (w.heap.size+2) FQ:=Bc;have jf:W9.heap[w.heap.size+1]?=some (.cells #[Iv k,Iv f,Iv t,Iv q,.slice A n cap] 147 (0,0)):=B9;revert i2 jf;exact zK.1):p:=f ⟨h⟩
theorem K31(h:q)(f:Hz q->p:=by intro zK;have k1:=GF (l+1) Ft;have k2:=GF (-(l+1)) Ft;have k3:=GF (-(l+1)*1000000) Ft;have k4:=GF (1000000-d) Ft;have k5:=GF (hi-(-(l+1)*1000000)/(1000000-d)) Ft;revert k1 k2 k3 k4 k5;exact zK.1):p:=f ⟨h⟩
theorem K32(h:q)(f:Hz q->p:=by intro zK;have E:=Hd (show AL.take s x=(s,true) by unfold AL.take;rw[AO Ft,AO Ft,AO Ft,AW Ft,AW Pp,AO Ft,AO Ft,IU Ft]);revert E;exact zK.1):p:=f ⟨h⟩
theorem K33(h:q)(f:Hz q->p:=by intro zK;have Pb:w.cell? (Ad p 21)=some (Iv s.now):=AB h.n.BM 21 rfl;have aQ:w.cell? (Ad p 22)=some (Iv s.steps):=AB h.n.BM 22 rfl;have c2:w.cell? (Ad p 2)=some (Iv s.r.step):=AB h.n.BM 2 rfl;have h1:=hs.now;have h2:=hs.step;have h3:=hs.steps;revert Pb aQ c2 h1 h2 h3;exact zK.1):p:=f ⟨h⟩
theorem K34(h:q)(f:Hz q->p:=by intro zK;have rG:=AB rN.out 0 rfl;have rF:=AB rN.out 1 rfl;have rk:=AE rN.out 0;have rj:=AE rN.out 1;go_simp;revert rG rF rk rj;exact zK.1):p:=f ⟨h⟩
theorem K35(h:q)(f:Hz q->p:=by intro zK;have ES:=Hd (show AL.LQ s now={p with q:=p.AZ%65536,asked:=true,AZ:=p.AZ+1,MO:=now}/\AL.DK s now=[⟨9,s.id,0,p.AZ%65536,[p.st]⟩] by have:=uE he Ed;rw[<-hp] at this;exact this);revert ES;exact zK.1):p:=f ⟨h⟩
theorem K36(h:q)(f:Hz q->p:=by intro zK;have E:=Hd (show AL.take s x=(AL.QR s 4 s.now,true) by unfold AL.take;rw[AO Ft,AO Ft,AO Ft,AO Ft,AW Ft,AW ⟨Pp,by omega⟩]);revert E;exact zK.1):p:=f ⟨h⟩
theorem K37(h:q)(f:Hz q->p:=by intro zK;have CH:=Hd (NC s 2);have HE:=Hd (o0 s 2 (λ_ _=>MV Ft));have E:=Hd (show AL.take s x=(Qh s 2,true) by unfold AL.take;rw[AO Ft,AW Ft,AW Ft,HE.out]);obtain⟨r,T8⟩:=BN (Qh s 2);revert CH HE E r T8;exact zK.1):p:=f ⟨h⟩
theorem K38(h:q)(f:Hz q->p:=by intro zK;have jS:=Hd (show Row V4 0 5 1 A3 4 c3 (bv (AQ.IZ x)) from((Row.GR rY.out.1).more (Pe _)).kept HKV.out (λg hg e=>((Row.GR rY.out.1).ty hg).ne (f:=51) (by rw[e];exact⟨_,J0.out⟩) Fj rfl));have HQ2:=Hd q2;revert jS HQ2;exact zK.1):p:=f ⟨h⟩
theorem K39(h:q)(f:Hz q->p:=by intro zK;refine PU ?_;refine JB 6 hHeld ?_;refine OI (rs:=[7]) Ff Fu ?_;exact zK.1):p:=f ⟨h⟩
theorem K3a(h:q)(f:Hz q->p:=by intro zK;have v0:IntKind.i64.wrap x0=x0:=GF _ Ft;have v1:IntKind.i64.wrap x1=x1:=GF _ Ft;have v2:IntKind.i64.wrap x2=x2:=GF _ Ft;have v3:IntKind.i64.wrap x3=x3:=GF _ Ft;revert v0 v1 v2 v3;exact zK.1):p:=f ⟨h⟩
theorem K3b(h:q)(f:Hz q->p:=by intro zK;have PN:=Hd (λ(W:World)(A:Option Addr)(hW:Ri W W.heap.size A 1 [x])=>A42 x A W hW hq);have HQ:=Hd (show-9223372036854775808<=x/\x<=9223372036854775807 by omega);have ko:=Hd (show By (AQ.IZ x) from AQ.WH (AQ.PM.2 hq));revert PN HQ ko;exact zK.1):p:=f ⟨h⟩
theorem K3c(h:q)(f:Hz q->p:=by intro zK;refine PU ?_;refine OI (rs:=[10]) Ff Fu ?_;exact zK.1):p:=f ⟨h⟩
theorem K3d(h:q)(f:Hz q->p:=by intro zK;have IV1:=Hd tD;have e1:=XN.1;have e2:=XN.2.1;have SM:=Hd (show M+200000+200000*(100001-t1.steps).toNat<=1000000000000/\t1.now<=u/\u-t1.now<(kg:Int)/\(4000000-t1.now).toNat<(4000000-t.now).toNat from by omega);revert IV1 e1 e2 SM;exact zK.1):p:=f ⟨h⟩
theorem K3e(h:q)(f:Hz q->p:=by intro zK;go_simp;have EX:Below V1.heap.size V1 (V1.alloc (.cells aS 51)):=(IH V1).alloc (Lr _) _;have n7:=AM V1 (.cells aS 51);revert EX n7;exact zK.1):p:=f ⟨h⟩
theorem K3f(h:q)(f:Hz q->p:=by intro zK;refine(AF.out _).mono ?_;rintro e w' ⟨rfl,rfl⟩;exact zK.1):p:=f ⟨h⟩
theorem K3g(h:q)(f:Hz q->p:=by intro zK;obtain⟨x,hx⟩:=BN (AL.MK ⟨k,f,t,q,l⟩);(have hxn: -1<=x.n/\x.n<=4294967295:=by rw[hx];exact AL.A1e hr.2.1);obtain⟨r,T8⟩:=BN (AL.take u x);(have hri:AL.Inv r.1:=by rw[T8];exact AL.kI hui hxn);revert x hx hxn r T8 hri;exact zK.1):p:=f ⟨h⟩
theorem K3h(h:q)(f:Hz q->p:=by intro zK;generalize qU:World.setCell _ _ _=V7;have j0:RB V7 w.heap.size {s with r:=xr,cs:=xs,lo:=xl,hi:=xh,asked:=false}:=(by rw[<-qU];exact AP (AP (AP (AP (AP (AP i0 6 _) 7 _) 8 _) 9 _) 10 _) 15 _);revert V7 qU j0;exact zK.1):p:=f ⟨h⟩
theorem K3i(h:q)(f:Hz q->p:=by intro zK;(have ag:∀f∈Nt.Qq (G.take k),By f.d:=λf hf=>(Nt.bP (l:=G.take k) (λm hm=>HMK.out.1 m (cj hm)) f hf).1);have XA:(Nt.Qq (G.take k)).length<=k:=Lt (Nt.bQ _) Dg;revert ag XA;exact zK.1):p:=f ⟨h⟩
theorem K3j(h:q)(f:Hz q->p:=by intro zK;have wX:g5≠w.heap.size:=(yk.out.ty rfl).ne ⟨_,e0⟩ Fj;have A32:g5≠w.heap.size+1:=(yk.out.ty rfl).ne ⟨_,e1⟩ Fj;have A31:g5≠w.heap.size+2:=(yk.out.ty rfl).ne ⟨_,e2⟩ Fj;revert wX A32 A31;exact zK.1):p:=f ⟨h⟩
theorem K3k(h:q)(f:Hz q->p:=by intro zK;have E:=Hd (show AL.VS s now ⟨k,f,t,q,l⟩=2 by rw[hE,AO (λhh=>ht hh.2)]);have ES:=Hd (hS 2 E.out Ft);(have z1:(t==s.id)=false:=by rw[Bf];exact ht);(have z2:(t !=s.id)=true:=by simpa using ht);revert E ES z1 z2;exact zK.1):p:=f ⟨h⟩
theorem K3l(h:q)(f:Hz q->p:=by intro zK;(have kv:V.heap[w.heap.size]?=some (.cells #[Iv ak,Iv aj,Iv an,.bool ac] 39 (0,0)):=by rw[<-hV];exact AM _ _);revert kv;exact zK.1):p:=f ⟨h⟩
theorem K3m(h:q)(f:Hz q->p:=by intro zK;have EX:Below V0.heap.size V0 (V0.alloc (.cells aS 51)):=(IH V0).alloc (Lr _) _;have n7:=AM V0 (.cells aS 51);revert EX n7;exact zK.1):p:=f ⟨h⟩
theorem K3n(h:q)(f:Hz q->p:=by intro zK;have SD:=Hd (Xr HR8.out.1 yi.out rZ.out.1 Vp.out JZ Dm Dm);revert SD;exact zK.1):p:=f ⟨h⟩
theorem K3o(h:q)(f:Hz q->p:=by intro zK;have zt:(t==0)=false:=JJ Ft;revert zt;exact zK.1):p:=f ⟨h⟩
theorem K3p(h:q)(f:Hz q->p:=by intro zK;(have yz:((n:Int)==0)=true:=by rw[Q5];omega);(have Ou:x.plain=true:=by rw[LA,IU h0]);revert yz Ou;exact zK.1):p:=f ⟨h⟩
theorem K3q(h:q)(f:Hz q->p:=by intro zK;have ci:wr.cell? (Ad g (o+i))=some (Iv (l'.getD i 0)):=DD i _ (by rw[Rt,TV,Gg (by rw[HLI.out];exact EK)];simp[List.getD,Gg (show i<l'.length by rw[HLI.out];exact EK)]);have fi:=Yr (o+i);revert ci fi;exact zK.1):p:=f ⟨h⟩
theorem K3r(h:q)(f:Hz q->p:=by intro zK;have cd:=Xl 0 Ft;simp only[Nat.add_zero] at cd;have oM:=hd.2.1.at_ 0;revert oM;revert cd;exact zK.1):p:=f ⟨h⟩
theorem K3s(h:q)(f:Hz q->p:=by intro zK;have E1:=Hd (λ(m:Nat)(q1:m<=AV.YM r)(q2:∀t,t<m->AV.oJ d lo x t=false)(q3:∀t,m<=t->t<AV.YM r->AV.oJ d lo x t=true)=>show AV.yI d r lo x=m from AV.jF _ m _ q1 q2 q3);revert E1;exact zK.1):p:=f ⟨h⟩
theorem K3t(h:q)(f:Hz q->p:=by intro zK;generalize qU:World.setCell _ _ _=V7;have j0:RB V7 w.heap.size {s with r:=xr,cs:=xs,lo:=xl,hi:=xh,asked:=false}:=(by rw[<-qU,EN.out.1,EN.out.2.1,EN.out.2.2.1,EN.out.2.2.2];exact AP i0 15 _);revert V7 qU j0;exact zK.1):p:=f ⟨h⟩
theorem K3u(h:q)(f:Hz q->p:=by intro zK;(have ik:¬((j:Int)<(j:Int)):=by omega);revert ik;exact zK.1):p:=f ⟨h⟩
theorem K3v(h:q)(f:Hz q->p:=by intro zK;obtain⟨p,hp⟩:=BN (AL.T6 s now);obtain⟨u,hu⟩:=BN ({p with heard:=now}:AL.St);(have eC:AL.Inv p:=by rw[hp];exact AL.WE hs hl);(have hui:AL.Inv u:=by rw[hu];exact AL.gH eC hl);revert p hp u hu eC hui;exact zK.1):p:=f ⟨h⟩
theorem K3w(h:q)(f:Hz q->p:=by intro zK;refine PU ?_;refine JB 18 hHeld ?_;exact zK.1):p:=f ⟨h⟩
theorem K3x(h:q)(f:Hz q->p:=by intro zK;obtain⟨p,hp⟩:=BN (AL.T6 s now);(have eC:AL.Inv p:=by rw[hp];exact AL.WE hs hl);(have jg:p.AZ=s.AZ/\p.id=s.id:=by rw[hp];exact⟨(AL.TX s now).2.2.1,AL.VV s now⟩);revert p hp eC jg;exact zK.1):p:=f ⟨h⟩
theorem K3y(h:q)(f:Hz q->p:=by intro zK;have yz:((n:Int)==0)=false:=JJ Ft;(have Ou:x.plain=false:=by rw[LA,ME h0]);revert yz Ou;exact zK.1):p:=f ⟨h⟩
theorem K3z(h:q)(f:Hz q->p:=by intro zK;obtain⟨u,hu⟩:=BN (if a.n<=3600000/\s.now+40*s.r.step<a.n then s.now+40*s.r.step else a.n);revert u hu;exact zK.1):p:=f ⟨h⟩
theorem K3A(h:q)(f:Hz q->p:=by intro zK;(have hlj:(L.take j).length=j:=by rw[Ul];omega);obtain⟨f,hf⟩:=BN (L.getD j jw);(have hfm:f∈L:=by rw[hf,List.getD,Gg Wl];exact bZ _);have hfb:=HLB.out f hfm;revert hlj f hf hfm hfb;exact zK.1):p:=f ⟨h⟩
theorem K3B(h:q)(f:Hz q->p:=by intro zK;(have h2:msg=(G[k]'hkG).2:=by rw[A6B.out,HG.out];simp[List.getD,hkG]);revert h2;exact zK.1):p:=f ⟨h⟩
theorem K3C(h:q)(f:Hz q->p:=by intro zK;have tJ:=GG k EK;have MB:=HB.out.at_ k;have E:=Hd (show AQ.S2 (l.take (k+1))=AQ.ZP (AQ.S2 (l.take k)) (l.getD k 0).toNat by rw[Ww l k (by rw[HL.out];exact EK),AQ.xu]);revert tJ MB E;exact zK.1):p:=f ⟨h⟩
theorem K3D(h:q)(f:Hz q->p:=by intro zK;refine OI (rs:=[15]) Ff Fu ?_;exact zK.1):p:=f ⟨h⟩
theorem K3E(h:q)(f:Hz q->p:=by intro zK;refine OI (rs:=[16]) Ff Fu ?_;exact zK.1):p:=f ⟨h⟩
theorem K3F(h:q)(f:Hz q->p:=by intro zK;have h1:=AH (q:=w.heap.size) (AM _ _) BX Cm;revert h1;exact zK.1):p:=f ⟨h⟩
theorem K3G(h:q)(f:Hz q->p:=by intro zK;refine(NO.out _ HP.out).mono ?_;rintro e w' ⟨rfl,rfl⟩;exact zK.1):p:=f ⟨h⟩
theorem K3H(h:q)(f:Hz q->p:=by intro zK;have Ze:Ty V2 T7 136:=⟨_,N7.out⟩;have kr:AG (λq=>q=T7) V2 (V2.setRow T7 (OY JQ (AN.recv lk now) A' WK c').toArray):=(AG.refl (λq=>q=T7) V2).Wx (.inl rfl) _;revert Ze kr;exact zK.1):p:=f ⟨h⟩
theorem K3I(h:q)(f:Hz q->p:=by intro zK;have Ze:Ty V4 T7 136:=⟨_,N7.out⟩;have kr:AG (λq=>q=T7) V4 (V4.setRow T7 (OY JQ (AN.recv lk now) A' WK c').toArray):=(AG.refl (λq=>q=T7) V4).Wx (.inl rfl) _;revert Ze kr;exact zK.1):p:=f ⟨h⟩
theorem K3J(h:q)(f:Hz q->p:=by intro zK;(have Pp:x.plain=true:=by rw[LA,Ou];rfl);(have y0:((n:Int)==0)=true:=by rw[Ou];rfl);revert Pp y0;exact zK.1):p:=f ⟨h⟩
theorem K3K(h:q)(f:Hz q->p:=by intro zK;(have z1:(t==s.id)=true:=by rw[ht];simp);(have z2:(t !=s.id)=false:=by rw[ht];simp);(have E0:AL.VS s now ⟨k,f,t,q,l⟩=AL.OK s now:=by rw[hE,AW ⟨hv,ht⟩]);revert z1 z2 E0;exact zK.1):p:=f ⟨h⟩
theorem K3L(h:q)(f:Hz q->p:=by intro zK;have c2:=((BO tL).1 bb oo aK).trans CD.out;revert c2;exact zK.1):p:=f ⟨h⟩
theorem K3M(h:q)(f:Hz q->p:=by intro zK;(have e2:AJ.LB s now ⟨k,f,t,q,d⟩=[]:=by unfold AJ.LB;rw[AO Fd]);revert e2;exact zK.1):p:=f ⟨h⟩
theorem K3N(h:q)(f:Hz q->p:=by intro zK;refine PU ?_;refine JB 16 hHeld ?_;refine JB 17 hHeld ?_;exact zK.1):p:=f ⟨h⟩
theorem K3O(h:q)(f:Hz q->p:=by intro zK;have EB:=Hd (show AQ.enc k f t s d=[213,76]++AQ.body k f t s d++[((AQ.S2 (AQ.body k f t s d):Nat):Int)/256,((AQ.S2 (AQ.body k f t s d):Nat):Int)%256] from rfl);revert EB;exact zK.1):p:=f ⟨h⟩
theorem K3P(h:q)(f:Hz q->p:=by intro zK;(have hw:Region.wanted o (yielded ops a.tmps)=true:=by simp[Region.wanted,hgd]);rw[AW hw];revert hw;exact zK.1):p:=f ⟨h⟩
theorem K3Q(h:q)(f:Hz q->p:=by intro zK;have Zv:=Hd (show Below wc.heap.size wc wc.drew from(IH wc).drew);revert Zv;exact zK.1):p:=f ⟨h⟩
theorem K3R(h:q)(f:Hz q->p:=by intro zK;(have ic:(i:Int)<(s.cr.length:Int):=by omega);(have i0:(0:Int)<=(i:Int):=by omega);revert ic i0;exact zK.1):p:=f ⟨h⟩
theorem K3S(h:q)(f:Hz q->p:=by intro zK;have h0:=(A3U.out.below uz.out (Lr _)).more uz.out.size;have hk:=CZ V0 gl (OY JQ (AN.recv lk now) A' WK c') (ol+i*11) (S:=λq=>q=gl) rfl (AG.refl _ V0);revert h0 hk;exact zK.1):p:=f ⟨h⟩
theorem K3T(h:q)(f:Hz q->p:=by intro zK;have k1:V.heap[w.heap.size+1]?=some (.cells #[Iv k,Iv f,Iv t,Iv q,.slice (some (Ad bb oo)) 1 cap] 147 (0,0)):=Bk;revert k1;exact zK.1):p:=f ⟨h⟩
theorem K3U(h:q)(f:Hz q->p:=by intro zK;have d2:=AB kw 2 rfl;(have e0:w2.cell? (Ad p 0)=some (Iv s.cr.length):=by rw[<-HRN.out];exact AB SZ.out.ref.n.BM 0 rfl);obtain⟨nn,jZ⟩:=BN s.cr.length;revert d2 e0 nn jZ;exact zK.1):p:=f ⟨h⟩
theorem K3V(h:q)(f:Hz q->p:=by intro zK;have X:=AV.Wu.2 ⟨x1,x2,x3,x4,x5,x6⟩;have k1:=GF (h-a) Ft;revert X k1;exact zK.1):p:=f ⟨h⟩
theorem K3W(h:q)(f:Hz q->p:=by intro zK;have E:=Hd (show AL.take s x=(s,false) by unfold AL.take;rw[AO Ft,AO Ft,AW Ft,AO (λhh=>DJ hh.1),ME Ft]);revert E;exact zK.1):p:=f ⟨h⟩
theorem K3X(h:q)(f:Hz q->p:=by intro zK;have E:=Hd (show AL.take s x=(s,false) by unfold AL.take;rw[AO Ft,AO Ft,AO Ft,AO Ft,AW Ft,AO Ft]);revert E;exact zK.1):p:=f ⟨h⟩
theorem K3Y(h:q)(f:Hz q->p:=by intro zK;refine CQ (rs:=[16,22]) Di Ef ?_;exact zK.1):p:=f ⟨h⟩
theorem K3Z(h:q)(f:Hz q->p:=by intro zK;have E2:=Hd (show AJ.tick s now={s with now:=now} by unfold AJ.tick;rw[AW ht,E1];rfl);have E3:=Hd (show AJ.DK s now=[] by unfold AJ.DK;rw[E1];simp);revert E2 E3;exact zK.1):p:=f ⟨h⟩
theorem K40(h:q)(f:Hz q->p:=by intro zK;have k0:RB V w.heap.size s:=D7;revert k0;exact zK.1):p:=f ⟨h⟩
theorem K41(h:q)(f:Hz q->p:=by intro zK;have ES:=Hd (show AL.LQ s now=s/\AL.DK s now=[] by unfold AL.LQ AL.DK;rw[AO (by rw[he];omega),AO (by rw[he];simp)];exact⟨rfl,rfl⟩);revert ES;exact zK.1):p:=f ⟨h⟩
theorem K42(h:q)(f:Hz q->p:=by intro zK;have DE:=Hd (zO A3 ml c3 msg wr A5v nB (by unfold maxLen at A35;omega) (WZ));have HML:=Hd (show msg.length<=140737488355328 from by rw[<-YQ];exact A5v);revert DE HML;exact zK.1):p:=f ⟨h⟩
theorem K43(h:q)(f:Hz q->p:=by intro zK;(have hLl:L.length<=1000:=by rw[hL];exact Lt (Nt.bQ _) hgm.2);have HLB:=Hd (show ∀f∈L,By f.d/\f.d.length<=64 from by rw[hL];exact Nt.bP hgm.1);revert hLl HLB;exact zK.1):p:=f ⟨h⟩
theorem K44(h:q)(f:Hz q->p:=by intro zK;refine(WS.out _).mono ?_;rintro e w' ⟨rfl,rfl⟩;exact zK.1):p:=f ⟨h⟩
theorem K45(h:q)(f:Hz q->p:=by intro zK;(have hit:i<t.cr.length:=by rw[XN.1];exact hi1);(have TP:Nt.Sc t i=l:=by rw[oZ.out];exact Nt.A5j (XN.2.1.trans SL.out.2.1) (XN.2.2.2.trans SL.out.2.2) i);revert hit TP;exact zK.1):p:=f ⟨h⟩
theorem K46(h:q)(f:Hz q->p:=by intro zK;refine CQ (rs:=[15]) Di Ef ?_;exact zK.1):p:=f ⟨h⟩
theorem K47(h:q)(f:Hz q->p:=by intro zK;have c9:w.cell? (Ad b 9)=some (.slice MA (AJ.EC s).length mc):=AB h.BM 9 rfl;revert c9;exact zK.1):p:=f ⟨h⟩
theorem K48(h:q)(f:Hz q->p:=by intro zK;rw[BitVec.toNat_and,Oo 64 a Ft,Oo 64 65535 Ft,show(65535:Nat)=2^16-1 by rfl,Nat.and_two_pow_sub_one_eq_mod,sQ];exact zK.1):p:=f ⟨h⟩
theorem K49(h:q)(f:Hz q->p:=by intro zK;refine PU ?_;refine OI (rs:=[17]) Ff Fu ?_;exact zK.1):p:=f ⟨h⟩
theorem K4a(h:q)(f:Hz q->p:=by intro zK;refine PU ?_;refine OI (rs:=[8]) Ff Fu ?_;exact zK.1):p:=f ⟨h⟩
theorem K4b(h:q)(f:Hz q->p:=by intro zK;refine OI (rs:=[14]) Ff Fu ?_;exact zK.1):p:=f ⟨h⟩
theorem K4c(h:q)(f:Hz q->p:=by intro zK;have E2:=Hd (show AV.yI d r lo x=AV.YM r->AV.iB d r true lo x=0/\AV.fA d r true lo x=3 from λe=>by simp[AV.iB,AV.fA,k1,e]);revert E2;exact zK.1):p:=f ⟨h⟩
theorem K4d(h:q)(f:Hz q->p:=by intro zK;refine L.out.mono ?_;rintro e w' ⟨rfl,rfl⟩;exact zK.1):p:=f ⟨h⟩
theorem K4e(h:q)(f:Hz q->p:=by intro zK;refine(W.out _).mono ?_;rintro e w' ⟨rfl,rfl⟩;exact zK.1):p:=f ⟨h⟩
theorem K4f(h:q)(f:Hz q->p:=by intro zK;have eu:=Hd (show Below w.heap.size w Wf from by rw[<-MH];exact A9);revert eu;exact zK.1):p:=f ⟨h⟩
theorem K4g(h:q)(f:Hz q->p:=by intro zK;have k2:V.heap[w.heap.size+2]?=some (.cells aS 51 (0,0)):=Cp;have hB0:Below w.heap.size w V:=(by rw[<-hV];exact A9);have Oq:w.heap.size<=V.heap.size:=hB0.size;refine(VA.out _).mono ?_;rintro e w1 ⟨rfl,Q6⟩;have j0:=GH k0 Q6;have j1:=GH k1 Q6;have j2:=GH k2 Q6;have eI:Below w.heap.size w w1:=hB0.trans (Q6.mono Oq);clear k2 Q6 hB0 Oq;revert w1 j0 j1 j2 eI;exact zK.1):p:=f ⟨h⟩
theorem K4h(h:q)(f:Hz q->p:=by intro zK;(have hf:Wf.heap[w.heap.size+1]?=some (.cells #[Iv s.again,Iv s.st,Iv s.now,Iv s.seq,.bool s.some,Iv s.prog,Iv s.cmd,.slice D dl dc,Iv s.BB,.slice A s.n ac,.slice S s.n sc] 51 (0,0)):=by rw[<-MH];exact Fl);revert hf;exact zK.1):p:=f ⟨h⟩
theorem K4i(h:q)(f:Hz q->p:=by intro zK;have HB:=Hd (show Below w.heap.size w V6 by rw[<-oR];have:=DF.out.trans (JD.out.mono DF.out.size);exact A9);revert HB;exact zK.1):p:=f ⟨h⟩
theorem K4j(h:q)(f:Hz q->p:=by intro zK;have HB:=Hd (show Below w.heap.size w V from by rw[<-hV];exact A9);revert HB;exact zK.1):p:=f ⟨h⟩
theorem K4k(h:q)(f:Hz q->p:=by intro zK;(have Uy:Below w.heap.size w V3:=by rw[<-Oy];exact A9);revert Uy;exact zK.1):p:=f ⟨h⟩
theorem K4l(h:q)(f:Hz q->p:=by intro zK;have k0:=AH (q:=w.heap.size) Af BX Cm;revert k0;exact zK.1):p:=f ⟨h⟩
theorem K4m(h:q)(f:Hz q->p:=by intro zK;(have p1:V3.heap[w.heap.size+1]?=some (.cells aS 51 (0,0)):=by rw[<-Oy];exact Af);revert p1;exact zK.1):p:=f ⟨h⟩
theorem K4n(h:q)(f:Hz q->p:=by intro zK;generalize hV:World.alloc _ _=V;(have k0:V.heap[w.heap.size]?=some (.cells #[Iv s.again,Iv s.st,Iv s.now,Iv s.seq,.bool s.some,Iv s.prog,Iv s.cmd,.slice D dl dc,Iv s.BB,.slice A s.n ac,.slice S s.n sc] 51 (0,0)):=by rw[<-hV];exact AI (AM _ _) _);(have k1:V.heap[w.heap.size+1]?=some (.cells aS 51 (0,0)):=by rw[<-hV];exact BK _ _ _ Fu);revert V hV k0 k1;exact zK.1):p:=f ⟨h⟩
theorem K4o(h:q)(f:Hz q->p:=by intro zK;have PD:=(BO hb).1 (w.heap.size+1) 0 Cm;have Rn:=(BO hb).2 (w.heap.size+1) 0 Cm;have Pz:=(BO hb).1 (w.heap.size+1) 1 Cm;have Rm:=(BO hb).2 (w.heap.size+1) 1 Cm;revert PD Rn Pz Rm;exact zK.1):p:=f ⟨h⟩
theorem K4p(h:q)(f:Hz q->p:=by intro zK;have PH:=(BO hb).1 (w.heap.size) 0 Cm;have Rp:=(BO hb).2 (w.heap.size) 0 Cm;have PF:=(BO hb).1 (w.heap.size) 1 Cm;have Ro:=(BO hb).2 (w.heap.size) 1 Cm;revert PH Rp PF Ro;exact zK.1):p:=f ⟨h⟩
theorem K4q(h:q)(f:Hz q->p:=by intro zK;have Oq:w.heap.size<V.heap.size:=BG k0;have K0:=Hd k0;refine K4J ?_;intro q0 q1 q2 q3;have q4:=AB k0 4 rfl;have q5:=AB k0 5 rfl;have q6:=AB k0 6 rfl;have q7:=AB k0 7 rfl;have q8:=AB k0 8 rfl;revert Oq K0 q0 q1 q2 q3 q4 q5 q6 q7 q8;exact zK.1):p:=f ⟨h⟩
theorem K4r(h:q)(f:Hz q->p:=by intro zK;generalize hW:World.setRow _ _ _=W3;(have g0:RB W3 w.heap.size r:=by rw[<-hW];exact MR _ _ _ _ _ _ k0);(have g2:RB W3 (w.heap.size+2) FQ:=by rw[<-hW];exact(Pq _ _ _ _ Ft).trans k2);have P6:=Hd (show Below w.heap.size w W3 from by rw[<-hW];exact JO HB.out (Lr _) _);clear hW;revert W3 g0 g2 P6;exact zK.1):p:=f ⟨h⟩
theorem K4s(h:q)(f:Hz q->p:=by intro zK;have hK:AG (λi=>i=b) w2 W:=Ai;have KW:=Hd kW;have xL:=Hd hK;clear hK;revert KW xL;exact zK.1):p:=f ⟨h⟩
theorem K4t(h:q)(f:Hz q->p:=by intro zK;(have X0:decide ((s.n:Int)<f)=false:=by rw[eU];omega);revert X0;exact zK.1):p:=f ⟨h⟩
theorem K4u(h:q)(f:Hz q->p:=by intro zK;have BH:=GN j0;have la:=BG j0;have CI:=OH j1;have lb:=BG j1;have LZ:=GN j2;have lc:=BG j2;revert BH la CI lb LZ lc;exact zK.1):p:=f ⟨h⟩
theorem K4v(h:q)(f:Hz q->p:=by intro zK;have N:=Hd (λ(W:World)(hW:Below w.heap.size w W)=>(h.below hW (Lr _)).none hs);have CH:=Hd (λ(W:World)(hW:Below w.heap.size w W)=>QT (h.below hW (Lr _)) now);have VA:=Hd (λ(W:World)=>QE k f t q D n cap W Ft);revert N CH VA;exact zK.1):p:=f ⟨h⟩
theorem K4w(h:q)(f:Hz q->p:=by intro zK;(have y0:((n:Int)==4)=true:=by rw[Q5];omega);revert y0;exact zK.1):p:=f ⟨h⟩
theorem K4x(h:q)(f:Hz q->p:=by intro zK;have y0:ys[0]?=some (ys[0]'Ex):=Gg _;have y1:ys[1]?=some (ys[1]'Ex):=Gg _;have y2:ys[2]?=some (ys[2]'Ex):=Gg _;have y3:ys[3]?=some (ys[3]'Ex):=Gg _;revert y0 y1 y2 y3;exact zK.1):p:=f ⟨h⟩
theorem K4y(h:q)(f:Hz q->p:=by intro zK;have Pb:w.cell? (Ad b 21)=some (Iv s.now):=AB h.BM 21 rfl;revert Pb;exact zK.1):p:=f ⟨h⟩
theorem K4z(h:q)(f:Hz q->p:=by intro zK;have tx:w.heap.size<=w1.heap.size:=eI.size;refine(TM.out _).mono ?_;rintro e w2 ⟨rfl,YU⟩;have k0:=GH j0 YU;have k1:=GH j1 YU;have k2:=GH j2 YU;have tL:Below w.heap.size w w2:=eI.trans (YU.mono tx);revert tx w2 YU k0 k1 k2 tL;exact zK.1):p:=f ⟨h⟩
theorem K4A(h:q)(f:Hz q->p:=by intro zK;generalize ZL:World.alloc _ _=Wa;(have bA:Below wr.heap.size wr Wa:=by rw[<-ZL];exact(IH wr).alloc (Lr _) _);revert Wa ZL bA;exact zK.1):p:=f ⟨h⟩
theorem K4B(h:q)(f:Hz q->p:=by intro zK;(have q1:V4.heap[w.heap.size+1]?=some (.cells aS 51 (0,0)):=by rw[<-hV];exact AI p1 _);have YX:=Hd (show Below w.heap.size w V4 from by rw[<-hV];exact Uy.alloc Uy.size _);revert q1 YX;exact zK.1):p:=f ⟨h⟩
theorem K4C(h:q)(f:Hz q->p:=by intro zK;(have k1:V2.heap[w.heap.size+1]?=some (.cells aS 51 (0,0)):=by rw[<-hV];exact AI p1 _);have HV:=Hd (show Below w.heap.size w V2 from by rw[<-hV];exact jq.alloc jq.size _);revert k1 HV;exact zK.1):p:=f ⟨h⟩
theorem K4D(h:q)(f:Hz q->p:=by intro zK;have ao:w.cell? (Ad b 23)=some (Pt m.sb):=AB h.BM 23 rfl;revert ao;exact zK.1):p:=f ⟨h⟩
theorem K4E(h:q)(f:Hz q->p:=by intro zK;(have ta1:∀W:World,(Instr.typeAssert (.iface 226 (.agg #[.int .u8 x])) 20 226 true).run prog W= .ok (.tuple #[.agg #[.int .u8 x],.bool true]) W:=λW=>by kernel_rfl);revert ta1;exact zK.1):p:=f ⟨h⟩
theorem K4F(h:q)(f:Hz q->p:=by intro zK;refine JB 5 hHeld ?_;refine JB 6 hHeld ?_;refine JB 7 hHeld ?_;exact zK.1):p:=f ⟨h⟩
theorem K4G(h:q)(f:Hz q->p:=by intro zK;refine CQ (rs:=[9]) Di Ef ?_;exact zK.1):p:=f ⟨h⟩
theorem K4H(h:q)(f:Hz q->p:=by intro zK;have HB:=Hd (show Below w.heap.size w V from by rw[<-hV];exact(IH w).alloc (Lr _) _);revert HB;exact zK.1):p:=f ⟨h⟩
theorem K4I(h:q)(f:Hz q->p:=by intro zK;refine JB 11 hHeld ?_;refine JB 12 hHeld ?_;exact zK.1):p:=f ⟨h⟩
theorem K4J(h:q)(f:Hz q->p:=by intro zK;have q0:=AB k0 0 rfl;have q1:=AB k0 1 rfl;have q2:=AB k0 2 rfl;have q3:=AB k0 3 rfl;revert q0 q1 q2 q3;exact zK.1):p:=f ⟨h⟩
theorem Fv(h:p:=by
  go_wp2_with (first|(refine JS rfl 101 _ rfl _ rfl 101 _ (0,0) _ k0 underlying101 rfl Ff ?_)|(refine OZ rfl 101 _ _ rfl _ _ rfl rfl 101 _ k2 Ff rfl (DI _) ?_));exact IT (PX rfl _ _ _ _ _ (0,0) _ rfl (MR _ _ _ _ _ _ k2) underlying101 rfl Ff) rfl ⟨by rw[E.out];try(simp;done),JO HB.out Ft _⟩
 ):p:=h
theorem Fw(h:p:=by
  refine DC (i:=31) (v:= ?_) rfl Di Di Di rfl Di (λ_ _ _ h=>h) (Or.inl ⟨by rfl,?_⟩) ?_;rotate_left
  focus(intro w' BS;go_simp;(try with_reducible rfl))
  (refine Kw ?_;intro dp d36 f36);refine AU.cons rfl (λK hK=> ?_) AU.nil;go_simp;refine hK.out _ _ (λh=>absurd h Dv) ?_;clear hK K;refine PU ?_;refine Td Di ?_ _;have HN:=Hd (RLp.next H6.out);clear dp d34 f34 d35 f35 d36 f36;(go_wp2_with fail;go_roundw;(case rel=>exact⟨j+1,PB,pd,UB,ud,VB,vd,by go_num,by omega,HN⟩);(case measure=>(simp[intOf];omega)))
 ):p:=h
theorem Fx(h:p:=by
  go_enter func140,ntmps140;go_upto_region 1 with fail;(refine Kc ?_;intro V HV Oq CX lf K0);go_region_held3 (λw'=>w'.cell? ⟨w.heap.size,0,none⟩=some (Iv k)/\w'.cell? ⟨w.heap.size,1,none⟩=some (Iv f)/\w'.cell? ⟨w.heap.size,2,none⟩=some (Iv t)/\w'.cell? ⟨w.heap.size,3,none⟩=some (Iv q)/\w'.cell? ⟨w.heap.size,4,none⟩=some (.slice A n cap)) (first|(refine⟨?_,?_,?_,?_,?_⟩<;>simp[go_sem, *];done)|go_keep) (first|(go_at_call 162;refine(NU.out _ C4).mono ?_;rintro e w1 ⟨rfl,BX⟩;have CB:Below V.heap.size V w1:=Ay;have DF:=JI HV CB;have j0:=AH K0.out CB Oq;have HJ:=Hd j0;have HP:=Hd (HH.out.below DF.out (Lr _));clear BX CB;clear CX;have JH:=OH j0;have lg:=BG j0;clear j0));(refine Kl ?_;intro BH OB OD Oz Od O8 MZ O7 Oc O6 Ob NZ IB NY MX NQ ML NP Oa NL GX GU FW On IQ Qx QC Qw QB Qv Qz Qu Qy Qt IP Qs IN Qr la);go_wp2_with fail;go_ret;exact⟨CU Da,by rw[E.out];exact HP.out,AG.AS DF.out⟩
 ):p:=h
theorem Fy(h:p:=by
  exact IT (PX rfl _ _ _ _ _ (0,0) _ rfl (MR _ _ _ _ _ _ k2) underlying101 rfl Ff) rfl ⟨by rw[E.out];try(simp;done),JO HB.out Ft _⟩
 ):p:=h
theorem Fz(h:p:=by
  go_enter func140,ntmps140;go_upto_region 1 with fail;(refine Kc ?_;intro V HV Oq CX lf K0);go_region_held3 (λw'=>w'.cell? ⟨w.heap.size,0,none⟩=some (Iv k)/\w'.cell? ⟨w.heap.size,1,none⟩=some (Iv f)/\w'.cell? ⟨w.heap.size,2,none⟩=some (Iv t)/\w'.cell? ⟨w.heap.size,3,none⟩=some (Iv q)/\w'.cell? ⟨w.heap.size,4,none⟩=some (.slice A n cap)) (first|(refine⟨?_,?_,?_,?_,?_⟩<;>simp[go_sem, *];done)|go_keep) (first|(go_at_call 162;refine(NU.out _ C4).mono ?_;rintro e w1 ⟨rfl,BX⟩;have CB:Below V.heap.size V w1:=Ay;have DF:=JI HV CB;have j0:=AH K0.out CB Oq;have HJ:=Hd j0;have HP:=Hd (HH.out.below DF.out (Lr _));clear BX CB;clear CX;have JH:=OH j0;have lg:=BG j0;clear j0));(refine Kl ?_;intro BH OB OD Oz Od O8 MZ O7 Oc O6 Ob NZ IB NY MX NQ ML NP Oa NL GX GU FW On IQ Qx QC Qw QB Qv Qz Qu Qy Qt IP Qs IN Qr la);go_wp2_with fail;(refine K04 ?_;clear BH OB OD Oz Od O8 MZ O7 Oc O6 Ob NZ IB NY MX NQ ML NP Oa NL GX GU FW On IQ Qx QC Qw QB Qv Qz Qu Qy Qt IP Qs IN Qr;intro w2 SZ T0);go_wp2_with fail;go_ret;exact⟨CU Da,by rw[E.out];exact SZ.out,(AG.AS DF.out).trans T0.out (λ_ _ h=> .inl h)⟩
 ):p:=h
theorem G0(h:p:=by
  go_enter func140,ntmps140;go_upto_region 1 with fail;(refine Kc ?_;intro V HV Oq CX lf K0);go_region_held3 (λw'=>w'.cell? ⟨w.heap.size,0,none⟩=some (Iv k)/\w'.cell? ⟨w.heap.size,1,none⟩=some (Iv f)/\w'.cell? ⟨w.heap.size,2,none⟩=some (Iv t)/\w'.cell? ⟨w.heap.size,3,none⟩=some (Iv q)/\w'.cell? ⟨w.heap.size,4,none⟩=some (.slice A n cap)) (first|(refine⟨?_,?_,?_,?_,?_⟩<;>simp[go_sem, *];done)|go_keep) (first|(go_at_call 162;refine(NU.out _ C4).mono ?_;rintro e w1 ⟨rfl,BX⟩;have CB:Below V.heap.size V w1:=Ay;have DF:=JI HV CB;have j0:=AH K0.out CB Oq;have HJ:=Hd j0;have HP:=Hd (HH.out.below DF.out (Lr _));clear BX CB;clear CX;have JH:=OH j0;have lg:=BG j0;clear j0));(refine K0a ?_;intro BH la);go_wp2_with fail;go_ret;exact⟨CU Da,by rw[E.out];exact HP.out,AG.AS DF.out⟩
 ):p:=h
theorem G4(h:p:=by
  go_wp2_with (first|(refine(Tu _ _ _ _ Ft).mono ?_;rintro e w' ⟨rfl,rfl⟩)|(refine(Uz _ _ _ _ Ft).mono ?_;rintro e w' ⟨rfl,rfl⟩));go_quiet (fail);go_wp2_with (first|(refine(Tu _ _ _ _ Ft).mono ?_;rintro e w' ⟨rfl,rfl⟩)|(refine(Uz _ _ _ _ Ft).mono ?_;rintro e w' ⟨rfl,rfl⟩));go_ret;exact⟨CU V.out.symm,A9⟩
 ):p:=h
theorem G6(h:p:=by
  go_enter func140,ntmps140;go_upto_region 1 with fail;(refine Kc ?_;intro V HV Oq CX lf K0);go_region_held3 (λw'=>w'.cell? ⟨w.heap.size,0,none⟩=some (Iv k)/\w'.cell? ⟨w.heap.size,1,none⟩=some (Iv f)/\w'.cell? ⟨w.heap.size,2,none⟩=some (Iv t)/\w'.cell? ⟨w.heap.size,3,none⟩=some (Iv q)/\w'.cell? ⟨w.heap.size,4,none⟩=some (.slice A n cap)) (first|(refine⟨?_,?_,?_,?_,?_⟩<;>simp[go_sem, *];done)|go_keep) (first|(go_at_call 162;refine(NU.out _ C4).mono ?_;rintro e w1 ⟨rfl,BX⟩;have CB:Below V.heap.size V w1:=Ay;have DF:=JI HV CB;have j0:=AH K0.out CB Oq;have HJ:=Hd j0;have HP:=Hd (HH.out.below DF.out (Lr _));clear BX CB;clear CX;have JH:=OH j0;have lg:=BG j0;clear j0));(refine K0a ?_;intro BH la);go_wp2_with fail;(refine(RG.out _ HP.out).mono ?_;rintro e w3 ⟨r3,lo3,hi3,rfl,JZ⟩;have VD:=Hd (HP.out.below JZ (Lr _));have P6:=JI DF JZ;have e3:=AB VD.out.BM 7 rfl;have e12:=AB VD.out.BM 12 rfl;have e16:=AB VD.out.BM 16 rfl;(clear BH);clear JZ;(go_upto_region 18 with fail);generalize hV:World.alloc _ _=V3;have aW:=Hd (show Of V3 base b c s by rw[<-hV];exact VD.out.alloc _);have XH:=Hd (show Below w.heap.size w V3 by rw[<-hV];exact P6.out.alloc P6.out.size _);clear hV HP DF e3 e12 e16;have HP:=aW;have DF:=XH;clear aW XH VD P6);(refine K0a ?_;intro BH la);go_wp2_with fail;refine K44 ?_;go_wp2_with fail;go_ret;exact⟨CU Da,by rw[E.out];exact HP.out,AG.AS DF.out⟩
 ):p:=h
theorem Ga(h:p:=by
  go_enter func80,ntmps80;go_wp2_with fail;(refine Ke ?_;intro V Oq w1 j0 j1 eI BH la CI lb);go_wp2_with fail;(refine Kd ?_;clear BH CI la lb;intro Wf hf eu IK lm);exact IT (v:= .tuple #[.agg #[Iv s.again,Iv s.st,Iv s.now,Iv s.seq,.bool s.some,Iv s.prog,Iv s.cmd,.slice D dl dc,Iv s.BB,.slice A s.n ac,.slice S s.n sc],.slice none 0 0,Iv 3]) Cn rfl ⟨_,D,dc,A,ac,S,sc,by rw[Sl,<-X9.out],H.out.below eu.out (Lr _),IF.nil _ _,eu.out,λg hg=> .inl hg,λg hg=> .inl hg⟩
 ):p:=h
theorem Gb(h:p:=by
  by_cases he:er=0
  ·have SD:=Hd (WJ H4.out.1 ax.out Ws.out R4.out (Lt BJ H4.out.2.1.size) Ft Ft);(refine K2z ?_;intro EY IV);subst he;go_wp2_with fail;(refine K0P ?_;intro w5 m5 LK H5);go_wp2_with (refine LK.out.mono ?_;rintro e w6 ⟨rfl,aI⟩;obtain⟨m6,h6⟩:=H5.out.to aI;have H6:=Hd h6;clear aI h6);go_ret;exact⟨rfl,by rw[EY.out];exact⟨m6,H6.out.1,H6.out.2.1,H6.out.2.2.1⟩⟩
  ·(have zE:(er !=0)=true:=by simp[he]);have EN:=Hd (DN.out he);clear he;go_wp2_with fail;go_ret;exact⟨rfl,by rw[EN.out];exact⟨m4,H4.out.1,H4.out.2.1,H4.out.2.2.1⟩⟩
 ):p:=h
theorem Gc(h:p:=by
  go_enter func118,ntmps118;go_wp2_with (first|(refine(A3i _ _ _ _ Ft).mono ?_;rintro e w' ⟨rfl,rfl⟩)|(refine(A5R _ _ _ _ Ft).mono ?_;rintro e w' ⟨rfl,rfl⟩));go_ret;exact⟨CU V.out.symm,A9⟩
 ):p:=h
theorem Gd(h:p:=by
  rw[E];rw[hm] at MY;clear ht hm E r1 r3;go_enter func80,ntmps80;go_wp2_with fail;(refine Ke ?_;intro V Oq w1 j0 j1 eI BH la CI lb);go_wp2_with fail;refine K1W ?_;go_wp2_with fail;(refine Kd ?_;clear BH CI la lb;intro Wf hf eu IK lm);exact IT (v:= .tuple #[.agg #[Iv s.again,Iv s.st,Iv s.now,Iv s.seq,.bool s.some,Iv s.prog,Iv s.cmd,.slice D dl dc,Iv s.BB,.slice A s.n ac,.slice S s.n sc],.slice none 0 0,Iv 8]) Cn rfl ⟨_,D,dc,A,ac,S,sc,by rw[Sl,<-X9.out],H.out.below eu.out (Lr _),IF.nil _ _,eu.out,λg hg=> .inl hg,λg hg=> .inl hg⟩
 ):p:=h
theorem Ge(h:p:=by
  go_enter func10,ntmps10;go_upto_region 1 with fail;(refine Kk ?_;intro V HB Oq K0 q0 q1 q2 q3 q4 q5 q6 q7 q8);go_upto_region 3 with(first|(go_at_call 34;first|(with_reducible refine(W1.out _).mono ?_;rintro e w' ⟨rfl,rfl⟩)|(with_reducible refine(W2.out _).mono ?_;rintro e w' ⟨rfl,rfl⟩)|(with_reducible refine(W3.out _).mono ?_;rintro e w' ⟨rfl,rfl⟩)|(with_reducible refine(W4.out _).mono ?_;rintro e w' ⟨rfl,rfl⟩))|(go_at_call 35;refine(W5.out _).mono ?_;rintro e w1 ⟨rfl,BX⟩));(refine K0r ?_;clear K0 BX Oq q0 q1 q2 q3 q4 q5 q6 q7 q8 W1 W2 W3 W4 W5 HB;intro K1 DF Om u9 u10 u11 u12 u13);go_wp2_with (first|(go_at_call 36;have _g:=NB;refine(W7.out _).mono ?_;rintro e w3 ⟨rfl,JZ⟩;(have k1:=AH K2.out JZ Wj;have K3:=Hd k1;have e13:=AB k1 13 rfl;have e18:=AB k1 18 rfl;have e0:=AB k1 0 rfl;have e19:=AB k1 19 rfl;have e20:=AB k1 20 rfl;have P6:=JI NB JZ;clear k1 JZ))|(go_at_call 36;refine(W6.out _).mono ?_;rintro e w2 ⟨rfl,CB⟩;(have k1:=AH K1.out CB Om;have K2:=Hd k1;have Wj:=BG k1;have d14:=AB k1 14 rfl;have d15:=AB k1 15 rfl;have d16:=AB k1 16 rfl;have d17:=AB k1 17 rfl;have d18:=AB k1 18 rfl;have NB:=JI DF CB;clear k1 CB)));go_ret;exact⟨rfl,P6.out⟩
 ):p:=h
theorem Gf(h:p:=by
  (go_wp2_with (first|(refine JS rfl 101 _ rfl _ rfl 101 _ (0,0) _ k0 underlying101 rfl Ff ?_)));(refine K0J ?_;clear k0 k1 HB c1 c2 c3 c4 PR YG YF Ua;intro w1 j1 Rx);go_wp2_with fail;(refine K14 ?_;clear j1 Rx;intro w2 j1 Rx);(go_wp2_with (first|(refine OZ rfl 101 _ _ rfl _ _ rfl rfl 101 _ j1 Ff rfl (DI _) ?_)));exact IT (VR rfl _ _ _ _ _ (0,0) _ rfl (MR _ _ _ _ _ _ j1) underlying101 rfl Ff) rfl ⟨by rw[E.out.1,E.out.2.2.1,E.out.2.2.2];rfl,JO Rx.out Ft _⟩
 ):p:=h
theorem Gh(h:p:=by
  go_wp2_with (first|(refine(Tu _ _ _ _ Ft).mono ?_;rintro e w' ⟨rfl,rfl⟩)|(refine(Uz _ _ _ _ Ft).mono ?_;rintro e w' ⟨rfl,rfl⟩));go_ret;exact⟨CU V.out.symm,A9⟩
 ):p:=h
theorem Gi(h:p:=by
  clear fh;go_enter func9,ntmps9;go_upto_region 1 with fail;(refine Ko ?_;intro V hV);(refine Kx ?_;clear hV;intro HB q0 q1 q2 q3 jU iQ);go_wp2_with (first|(with_reducible refine(W1.out _).mono ?_;rintro e w' ⟨rfl,rfl⟩)|(with_reducible refine(W2.out _).mono ?_;rintro e w' ⟨rfl,rfl⟩)|(with_reducible refine(W3.out _).mono ?_;rintro e w' ⟨rfl,rfl⟩)|(with_reducible refine(W4.out _).mono ?_;rintro e w' ⟨rfl,rfl⟩));go_ret;exact⟨rfl,HB.out⟩
 ):p:=h
theorem Gj(h:p:=by
  go_upto_region 1 with fail;(refine Kc ?_;intro V HV Oq CX lf K0);go_region_held3 (λw'=>w'.cell? ⟨w.heap.size,0,none⟩=some (Iv k)/\w'.cell? ⟨w.heap.size,1,none⟩=some (Iv f)/\w'.cell? ⟨w.heap.size,2,none⟩=some (Iv t)/\w'.cell? ⟨w.heap.size,3,none⟩=some (Iv q)/\w'.cell? ⟨w.heap.size,4,none⟩=some (.slice A n cap)) (first|(refine⟨?_,?_,?_,?_,?_⟩<;>simp[go_sem, *];done)|go_keep) (first|(go_at_call 162;refine(NU.out _ C4).mono ?_;rintro e w1 ⟨rfl,BX⟩;have CB:Below V.heap.size V w1:=Ay;have DF:=JI HV CB;have j0:=AH K0.out CB Oq;have HJ:=Hd j0;have HP:=Hd (HH.out.below DF.out (Lr _));clear BX CB;clear CX;have JH:=OH j0;have lg:=BG j0;clear j0));(refine K0a ?_;intro BH la);go_wp2_with fail;(refine K0o ?_;intro w2 SZ T0);clear BH;obtain⟨s2,Wj⟩:=BN (AL.QR s 1 s.now);rw[<-Wj] at SZ E;(refine K2O ?_;clear Wj;intro CI lb);go_wp2_with fail;(refine K01 ?_;clear CI;intro W KW xL);(try(go_wp2_with fail));go_ret;exact⟨CU Da,by rw[E.out];exact KW.out,((AG.AS DF.out).trans T0.out (λ_ _ h=> .inl h)).trans xL.out (λ_ _ h=> .inl h)⟩
 ):p:=h
theorem Gk(h:p:=by
  (go_wp2_with (first|(refine OZ rfl 101 _ _ rfl _ _ rfl rfl 101 _ j1 Ff rfl (DI _) ?_)));exact IT (VR rfl _ _ _ _ _ (0,0) _ rfl (MR _ _ _ _ _ _ j1) underlying101 rfl Ff) rfl ⟨by rw[E.out.1,E.out.2.2.1,E.out.2.2.2];rfl,JO Rx.out Ft _⟩
 ):p:=h
theorem Gl(h:p:=by
  (clear h h7;(go_enter func10,ntmps10;go_upto_region 1 with fail;generalize hV:World.alloc _ _=V;have k0:V.heap[w.heap.size]?=some (.cells #[Iv r.n,Iv r.again,Iv r.step,Iv r.CY,Iv r.lost,Iv r.ret,Iv r.desc,Iv r.late,Iv r.every,Iv r.up.BY,Iv r.up.AY,Iv r.up.least,Iv r.up.BU,Iv r.up.seed,Iv r.dn.BY,Iv r.dn.AY,Iv r.dn.least,Iv r.dn.BU,Iv r.dn.seed,.slice OA n oc,.slice TA m tc] 28 (0,0)):=D7;have HB:=Hd (show Below w.heap.size w V from by rw[<-hV];exact(IH w).alloc (Lr _) _);have Oq:w.heap.size<V.heap.size:=BG k0;have K0:=Hd k0;have q0:=AB k0 0 rfl;have q1:=AB k0 1 rfl;have q2:=AB k0 2 rfl;have q3:=AB k0 3 rfl;have q4:=AB k0 4 rfl;have q5:=AB k0 5 rfl;have q6:=AB k0 6 rfl;have q7:=AB k0 7 rfl;have q8:=AB k0 8 rfl;clear hV k0);(go_upto_region 3 with(first|(go_at_call 34;first|(with_reducible refine(W1.out _).mono ?_;rintro e w' ⟨rfl,rfl⟩)|(with_reducible refine(W2.out _).mono ?_;rintro e w' ⟨rfl,rfl⟩)|(with_reducible refine(W3.out _).mono ?_;rintro e w' ⟨rfl,rfl⟩)|(with_reducible refine(W4.out _).mono ?_;rintro e w' ⟨rfl,rfl⟩))|(go_at_call 35;refine(W5.out _).mono ?_;rintro e w1 ⟨rfl,BX⟩));have k1:=AH K0.out BX Oq;have K1:=Hd k1;have DF:=JI HB BX;have Om:=BG k1;clear K0 BX Oq q0 q1 q2 q3 q4 q5 q6 q7 q8 W1 W2 W3 W4 W5 HB;have u9:=AB k1 9 rfl;have u10:=AB k1 10 rfl;have u11:=AB k1 11 rfl;have u12:=AB k1 12 rfl;have u13:=AB k1 13 rfl;clear k1);go_wp2_with (first|(go_at_call 36;have _g:=NB;refine(W7.out _).mono ?_;rintro e w3 ⟨rfl,JZ⟩;(have k1:=AH K2.out JZ Wj;have K3:=Hd k1;have e13:=AB k1 13 rfl;have e18:=AB k1 18 rfl;have e0:=AB k1 0 rfl;have e19:=AB k1 19 rfl;have e20:=AB k1 20 rfl;have P6:=JI NB JZ;clear k1 JZ))|(go_at_call 36;refine(W6.out _).mono ?_;rintro e w2 ⟨rfl,CB⟩;(have k1:=AH K1.out CB Om;have K2:=Hd k1;have Wj:=BG k1;have d14:=AB k1 14 rfl;have d15:=AB k1 15 rfl;have d16:=AB k1 16 rfl;have d17:=AB k1 17 rfl;have d18:=AB k1 18 rfl;have NB:=JI DF CB;clear k1 CB)));go_ret;exact⟨rfl,P6.out⟩)
 ):p:=h
theorem Gm(h:p:=by
  go_wp2_with fail;(refine Km ?_;clear BH CI LZ la lb lc;intro Wf hf eu IK lm);exact IT (v:= .tuple #[.agg #[Iv s.again,Iv s.st,Iv now,Iv s.seq,.bool s.some,Iv s.prog,Iv s.cmd,.slice D dl dc,Iv s.BB,.slice A s.n ac,.slice S s.n sc],.slice none 0 0,Iv 0]) Co rfl ⟨_,D,dc,A,ac,S,sc,by rw[X9.out];rfl,by have hq:=H.out.below eu.out (Lr _);exact⟨hq.dr,hq.ar,hq.sr⟩,IF.nil _ _,eu.out,λg hg=> .inl hg,λg hg=> .inl hg⟩
 ):p:=h
theorem Gn(h:p:=by
  go_wp2_with fail;go_ret;exact⟨CU Da,by rw[E.out];exact HP.out,AG.AS DF.out⟩
 ):p:=h
theorem Gp(h:p:=by
  clear fh;go_enter func10,ntmps10;go_upto_region 1 with fail;(refine Kk ?_;intro V HB Oq K0 q0 q1 q2 q3 q4 q5 q6 q7 q8);go_wp2_with (first|(go_at_call 34;first|(with_reducible refine(W1.out _).mono ?_;rintro e w' ⟨rfl,rfl⟩)|(with_reducible refine(W2.out _).mono ?_;rintro e w' ⟨rfl,rfl⟩)|(with_reducible refine(W3.out _).mono ?_;rintro e w' ⟨rfl,rfl⟩)|(with_reducible refine(W4.out _).mono ?_;rintro e w' ⟨rfl,rfl⟩))|(go_at_call 35;refine(W5.out _).mono ?_;rintro e w1 ⟨rfl,BX⟩));go_ret;exact⟨rfl,HB.out⟩
 ):p:=h
theorem Gq(h:p:=by
  exact⟨T7,D',Tv,A',Tx,S',Tf,v,_,rfl,rfl,rfl,MR _ _ _ _ _ _ N7.out,Sf,X7.out.Tp kr (λi hi _=>⟨_,by subst hi;exact Ze,by decide,by decide,by decide⟩),Vp.out.kept kr (λi hi=>⟨λt=>by subst hi;exact t.ne Ze Fj rfl,λt=>by subst hi;exact t.ne Ze Fj rfl⟩),RY,xN.out⟩
 ):p:=h
theorem Gr(h:p:=by
  (refine K2a ?_;clear hf ha HTI k2;intro ie f16 HE);go_upto_region 8 with fail;(refine KS ?_;clear k0 k1 ie f16 HTB;intro W8 g0 g1 ZU);go_wp2_with (first|(refine JS rfl 101 _ rfl _ rfl 101 _ (0,0) _ g0 underlying101 rfl Ff ?_)|(refine OZ rfl 101 _ _ rfl _ _ rfl rfl 101 _ g1 Ff rfl (DI _) ?_));exact IT (results_cell_row rfl _ _ _ _ _ (0,0) _ rfl (MR _ _ _ _ _ _ g1) underlying101 rfl Ff) rfl ⟨by rw[<-HTR.out,HE.out],JO ZU.out Ft _⟩
 ):p:=h
theorem Gs(h:p:=by
  go_region_held3 (λw'=>w'.cell? ⟨b,0,none⟩=some (Iv d)/\w'.cell? ⟨w.heap.size,0,none⟩=some (Iv a)/\w'.cell? ⟨w.heap.size,1,none⟩=some (Iv g)/\w'.cell? ⟨w.heap.size,3,none⟩=some (Iv h)) (first|(refine⟨?_,?_,?_,?_⟩<;>simp[go_sem, *])|go_keep) (first|(go_at_call 127;refine(Ys g g d (h-a) _ Ft Ft Ft h0 h1 Ft Ft).mono ?_;rintro e w2 ⟨rfl,CB⟩;have Ot:=CB.size;simp at Ot;have MU:=P5 (show DV _ b d r true true lo hi from Ag) CB Fp;obtain⟨iQ,q21,q22,q23,q24,q25⟩:=Ov MU;obtain⟨z20,z21,z22,z23,z24,z25⟩:=Py MU;have wV:=QM MU;have U2:=AH (q:=w.heap.size) Af CB Cm;have A4D:=AB U2 0 rfl;have A4k:=AE U2 0;have A4C:=AB U2 1 rfl;have A4j:=AE U2 1;have A4B:=AB U2 2 rfl;have A4i:=AE U2 2;have A4A:=AB U2 3 rfl;have A4h:=AE U2 3;have lx2:=BG U2;try(have ny:=AH (q:=w.heap.size+1) Af CB Cm;have A8l:=AB ny 0 rfl;have A7I:=AE ny 0;have A8k:=AB ny 1 rfl;have A7H:=AE ny 1;have lq2:=BG ny)))
  all_goals(go_wp2_with fail;go_meet)
  all_goals refine⟨_,rfl,rfl,Ag,Fl,Fl,?_,A9⟩
  all_goals(first|omega|(simp<;>omega))
 ):p:=h
theorem Gt(h:p:=by
  go_wp2_with (first|(refine JS rfl 101 _ rfl _ rfl 101 _ (0,0) _ k0 underlying101 rfl Ff ?_)|(refine OZ rfl 101 _ _ rfl _ _ rfl rfl 101 _ k2 Ff rfl (DI _) ?_));exact IT (LU rfl _ _ _ _ _ (0,0) _ rfl (MR _ _ _ _ _ _ k2) underlying101 rfl Ff) rfl ⟨_,by rw[ES.out.1,E.out];rfl,by rw[ES.out.2];exact IF.nil _ _,JO HB.out Ft _⟩
 ):p:=h
theorem Gu(h:p:=by
  (have z9:(m==s.prog)=true:=by rw[h0];simp);clear hk IY GK LA hx hm hn hr hs h IM DT GC DJ h0;go_enter func140,ntmps140;go_upto_region 1 with fail;(refine Kc ?_;intro V HV Oq CX lf K0);go_region_held3 (λw'=>w'.cell? ⟨w.heap.size,0,none⟩=some (Iv k)/\w'.cell? ⟨w.heap.size,1,none⟩=some (Iv f)/\w'.cell? ⟨w.heap.size,2,none⟩=some (Iv t)/\w'.cell? ⟨w.heap.size,3,none⟩=some (Iv q)/\w'.cell? ⟨w.heap.size,4,none⟩=some (.slice A n cap)) (first|(refine⟨?_,?_,?_,?_,?_⟩<;>simp[go_sem, *];done)|go_keep) (first|(go_at_call 162;refine(NU.out _ C4).mono ?_;rintro e w1 ⟨rfl,BX⟩;have CB:Below V.heap.size V w1:=Ay;have DF:=JI HV CB;have j0:=AH K0.out CB Oq;have HJ:=Hd j0;have HP:=Hd (HH.out.below DF.out (Lr _));clear BX CB;clear CX;have JH:=OH j0;have lg:=BG j0;clear j0));(refine K0a ?_;intro BH la);go_wp2_with fail;(refine K0o ?_;intro w2 SZ T0);clear BH;go_wp2_with fail;go_ret;exact⟨CU Da,by rw[E.out];exact SZ.out,(AG.AS DF.out).trans T0.out (λ_ _ h=> .inl h)⟩
 ):p:=h
theorem Gv(h:p:=by
  (refine Ko ?_;intro V hV);(refine K1c ?_;intro k0 k1);(refine Kb ?_;intro HB);(refine K07 ?_;clear hV;intro w1 Q6 j0 j1);(refine K1A ?_;intro DF);clear k0 k1 Q6;(refine yh ?_;intro BH la CI lb);go_wp2_with fail;(refine KD ?_;clear BH CI la lb j0 j1;intro V1 HV w2 j0 j1 NB BH la CI lb);go_wp2_with fail;(refine jO ?_;intro Wf MH);(refine K0M ?_;clear MH BH CI la lb;intro hf hK);(refine uo ?_;intro IK lm);rw[E1.out,E2.out];exact IT (v:= .tuple #[.agg #[Iv s.again,Iv s.st,Iv now,Iv s.seq,.bool s.some,Iv s.prog,Iv s.cmd,.slice D dl dc,Iv s.BB,.slice A s.n ac,.slice S s.n sc],.slice none 0 0,Iv 0]) Cq rfl ⟨_,D,dc,A,ac,S,sc,by rw[X9.out];rfl,by have hq:Q9 w2 D dc A ac S sc {s with now:=now}:=⟨(H.out.below NB.out (Lr _)).dr,(H.out.below NB.out (Lr _)).ar,(H.out.below NB.out (Lr _)).sr⟩;exact hq.Tp hK (λi hi _=>⟨51,by rw[hi];exact⟨_,j1⟩,by decide,by decide,by decide⟩),IF.nil _ _,NB.out.trans (hK.below (λi _ hi=>by omega) NB.out.size),λg hg=> .inl hg,λg hg=> .inl hg⟩
 ):p:=h
theorem Gw(h:p:=by
  go_wp2_with fail;go_ret;exact⟨CU Da,by rw[E.out];exact SZ.out,(AG.AS DF.out).trans T0.out (λ_ _ h=> .inl h)⟩
 ):p:=h
theorem Gx(h:p:=by
  obtain⟨i2,eD,oQ,hm2,hm3⟩:=MQ WL;have:=run_make (P:=prog) W 48 4 i2 _ underlying48 eD oQ .i64 .i64 s.n s.n Ft (ZB _) Dc Em;rw[hm2,Int.toNat_natCast,Vs] at this;exact this
 ):p:=h
theorem Gy(h:p:=by
  go_enter func86,ntmps86;go_wp2_with fail;(refine Ko ?_;intro V hV);(refine KT ?_;intro k0);(refine K1l ?_;intro k1);(refine Kf ?_;clear hV k0 k1;intro w1 j0 j1 j2 eI BH la CI lb LZ lc);go_wp2_with fail;(refine K0b ?_;intro Wf MH hf);(refine Kn ?_;clear MH BH CI LZ la lb lc;intro eu IK lm);exact IT (v:= .tuple #[.agg #[Iv s.again,Iv s.st,Iv s.now,Iv s.seq,.bool s.some,Iv s.prog,Iv s.cmd,.slice D dl dc,Iv s.BB,.slice A s.n ac,.slice S s.n sc],.slice none 0 0,Iv 2]) Co rfl (FIN.out _ _ eu.out)
 ):p:=h
theorem Gz(h:p:=by
  clear hf ha HTI HX ht';go_upto_region 6 with(first|(refine JS rfl 101 _ rfl _ rfl 101 _ (0,0) _ k2 underlying101 rfl Ff ?_)|(refine OZ rfl 101 _ _ rfl _ _ rfl rfl 101 _ k0 Ff rfl (DI _) ?_));(refine K1Z ?_;clear k0 k1 k2 HTB;intro W5 g0 g1 g2 JD);go_wp2_with (first|(refine JS rfl 101 _ rfl _ rfl 101 _ (0,0) _ g0 underlying101 rfl Ff ?_));refine(EVA.out _).mono ?_;rintro e w7 ⟨rfl,Tt⟩;have i0:=GH g0 Tt;have i1:=GH g1 Tt;have i2:=GH g2 Tt;have T3:=JI JD Tt;clear g0 g1 g2 Tt JD;go_wp2_with (first|(refine OZ rfl 101 _ _ rfl _ _ rfl rfl 101 _ i2 Ff rfl (DI _) ?_));go_roundg (AL.ZX t'.st)
  case rel=>exact Hd ⟨t',Lr _,rfl,rfl,(Pq _ _ _ _ Ft).trans i0,(Pq _ _ _ _ Ft).trans i1,MR _ _ _ _ _ _ i2,hm,HIA.out,Xo.out.trans HTR.out,JO T3.out Ft _⟩
  case measure=>have:=xJ.out;omega
 ):p:=h
theorem H7(h:p:=by
  go_quiet (fail);go_upto_region 18 with(go_at_call 40;refine(DO.out _ Ao).mono ?_;rintro e w1 ⟨rfl,m3,hp1,VG⟩);(refine K1y ?_;clear hp1 VG c0 c1 c2 c3 DO Pb c2';intro ZR eL ND);go_wp2_with (go_at_call 27;refine ND.out.mono ?_;rintro e w2 ⟨rfl,m4,m5,Pp,MU⟩);have SZ:=Hd Pp;have T0:=Hd MU;clear Pp MU ND;go_ret;refine⟨by simp,HP.out.A75 HB.out eL.out ZR.out T0.out,by rw[E.out];exact HC.out,m4,m5,?_⟩;have h9:=SZ.out;rw[<-HU.out] at h9;rw[E.out];exact h9.mono (Nat.le_succ k)
 ):p:=h
theorem H9(h:p:=by
  go_enter func11,ntmps11;go_upto_region 1 with fail;(refine Ko ?_;intro V hV);(refine K0Y ?_;intro k0);(refine KX ?_;intro HB);(refine K0K ?_;clear hV k0;intro q0 jU iQ);go_wp2_with fail;go_ret;exact⟨CU E.out.symm,HB.out⟩
 ):p:=h
theorem Ha(h:p:=by
  (have i0:(0:Int)<10+(m:Int):=by omega);(have i7:(7:Int)<10+(m:Int):=by omega);have wx:IntKind.i64.wrap (m:Int)=m:=GF _ Ft;go_region_held3 (λw'=>w'.cell? ⟨b,o,none⟩=some (.int .u8 213)/\w'.cell? ⟨b,o+1,none⟩=some (.int .u8 76)/\w'.cell? ⟨b,o+7,none⟩=some (.int .u8 m)) (refine⟨?_,?_,?_⟩<;>(first|(with_reducible assumption)|(simp only[World.cell?_drew];with_reducible assumption)|(with_reducible apply AX;with_reducible assumption)|go_keep)) (first|(go_at_call 150;refine(Sk _).mono ?_;rintro e w1 ⟨rfl,BX⟩;have j0:=((BO BX).1 b o Cm).trans (AX k0);have j1:=((BO BX).1 b (o+1) Cm).trans (AX k1);have j7:=((BO BX).1 b (o+7) Cm).trans (AX k7);have IJ:=BX.size;try simp at IJ;have h1:=AH (q:=w.heap.size) Bi BX Cm;have DF:=(show Below w.heap.size w w1 from A9)))
  all_goals(go_wp2_with fail;go_meet;exact⟨(by first|rfl|(simp;omega)),DF,h1⟩)
 ):p:=h
theorem Hb(h:p:=by
  go_wp2_with (first|(refine JS rfl 101 _ rfl _ rfl 101 _ (0,0) _ j0 underlying101 rfl Ff ?_)|(refine OZ rfl 101 _ _ rfl _ _ rfl rfl 101 _ j1 Ff rfl (DI _) ?_));exact IT (results_cell_row rfl _ _ _ _ _ (0,0) _ rfl (MR _ _ _ _ _ _ j1) underlying101 rfl Ff) rfl ⟨rfl,JO Rx.out Ft _⟩
 ):p:=h
theorem Hc(h:p:=by
  have HE:=Hd E;clear E;simp only[rul] at*;(try dsimp only at h1);(try dsimp only at h2);(try dsimp only at h3);(try dsimp only at h3');(try dsimp only at h4);(try dsimp only at h5);go_enter func36,ntmps36;go_wp2_with (first|(refine(A2L _ _ _ _ Ft).mono ?_;rintro e w' ⟨rfl,rfl⟩)|(refine(A5i _ _ _ _ Ft).mono ?_;rintro e w' ⟨rfl,rfl⟩));go_ret;exact⟨CU Bp,A9⟩
 ):p:=h
theorem He(h:p:=by
  go_wp2_with fail;go_ret;exact⟨rfl,rfl⟩
 ):p:=h
theorem Hf(h:p:=by
  go_wp2_with fail;go_ret;exact⟨CU E.out.symm,A9⟩
 ):p:=h
theorem Hg(h:p:=by
  refine NH rfl (λK hK=> ?_) Pd;(refine K20 ?_;intro v1 w2 CE GQ LY);obtain⟨A2,S3,rfl⟩:=Ps CE;(refine K1C ?_;intro gG de XC hf2);refine hK.out _ _ ⟨(gG _ _ Ft hbW).trans c0,(gG _ _ Ft hbW).trans c1,(gG _ _ Ft hbW).trans c2,(gG _ _ Ft hbW).trans c3⟩ (λhHeld=> ?_);clear hK K;obtain⟨d0,d1,d2,d3⟩:=hHeld;have LX:b≠w.heap.size:=Ft;refine OI (rs:=[25]) Ff Fu ?_;refine NH rfl (λK hK=> ?_) Pd;go_simp;refine hK.out _ _ Ah (λhHeld=> ?_);clear hK K;refine RJ Ff ?_ _;exact A1a hB A77 z0 tx hv CF GQ CE EG.out
 ):p:=h
theorem Hh(h:p:=by
  have z:decide (l<a)=false:=ME Ft;rw[hf] at EV;clear hf ha hx hle;go_wp2_with fail;refine EV.out.mono ?_;rintro e w1 ⟨rfl,BX⟩;have DF:=Hd BX;clear BX;go_wp2_with fail;refine(EN.out _ DF.out).mono ?_;rintro e w2 ⟨rfl,Pp,MU⟩;go_wp2_with fail;go_roundg (AL.ZX (AL.XQ t).st)
  case rel=>exact Hd ⟨AL.XQ t,Lr _,by rw[HA.out];exact Pp,AL.aR HTI.out hl.2 HD.out,by rw[AL.sB HD.out];exact HTR.out,(HTK.out.trans (AG.AS DF.out) (λ_ _ h=>h)).trans MU (λ_ _ h=>h)⟩
  case measure=>have:=AL.U7 HD.out;omega
 ):p:=h
theorem Hi(h:p:=by
  go_ret;exact⟨rfl,rfl⟩
 ):p:=h
theorem Hj(h:p:=by
  go_enter func119,ntmps119;go_upto_region 1 with fail;(refine Ko ?_;intro V hV);(refine K40 ?_;intro k0);(refine Kb ?_;intro HB);(refine K1E ?_;clear hV k0;intro c12 ie);rw[aA.out] at c12;go_wp2_with fail;refine K4e ?_;go_wp2_with fail;go_ret;exact⟨JL E.out.symm,HB.out⟩
 ):p:=h
theorem Hk(h:p:=by
  obtain⟨z,hz⟩:=BN (l'.getD i 0);rw[<-hz] at ci;have xN:=Hd hA;rw[hA] at jU;have HGB:=Hd XO;clear hA hz DD Yr OW hgh gq hgs Xz GC Px XO;go_wp2_with fail;go_roundw
  case rel=>refine⟨i+1,l'.set i (wrap64 (z+1)),by first|rfl|(rw[wi];rfl),by omega,Hd (by rw[T9];exact HLI.out),Hd ?_,Hd (HKE.out.setCell (p:=(Ad g (o+i))) (.inl (by rw[xN.out];rfl)) _)⟩;have hr:=oB.out;rw[xN.out] at hr⊢;rw[<-A2Q];exact hr.yT Ft Ft rfl _
  case measure=>simp[intOf,wi];omega
 ):p:=h
theorem Hl(h:p:=by
  go_enter func103,ntmps103;go_wp2_with fail;refine(N.out _ A9).mono ?_;rintro e w1 ⟨rfl,rfl⟩;go_wp2_with fail;(refine K2s ?_;intro RZ lx);(first|(go_region_with (first|(go_at_call 133;refine(VA.out _).mono ?_;rintro e w4 ⟨rfl,GA⟩;have QP:=GA.size;(try simp at QP);have Qo:=(show Below w.heap.size w w4 from A9);have k4:=AH (q:=w.heap.size) Af GA Cm;(have Vy:=OH k4;have lz:=BG k4);have e0:w4.cell? (Ad b 0)=some (Iv s.n):=((BO GA).1 b _ Cm).trans Ew)))|fail)
  all_goals
   go_wp2_with fail;go_ret2;exact⟨rfl,A9⟩
 ):p:=h
theorem Hm(h:p:=by
  go_enter func62,ntmps62;go_wp2_with (at_builtin;refine BD _ rfl (.tmp 5) (.tmp 6) _ rfl w.heap.size 3 i0 _ 1 8 underlying26 OU RR IJ Ot rfl Ft (.slice (some (Ad w.heap.size 0)) 0 0) 0 [] rfl (mB w #[] 0 (Lr _) Ee rfl) w.heap.size (some a) n c xs rfl (hr.alloc (Lr _) _) h1 Dk Ft Fu ?_;intro v1 w1 CE GQ LY);go_ret;simp only[PL,List.nil_append] at CE;obtain⟨A',IA,rfl⟩:=EZ CE;exact⟨A',IA,rfl,Row.GR CE,((IH _).alloc (Lr _) _).grown GQ Fu (λk hk=>by simp[Value.ownBlock] at hk;omega)⟩
 ):p:=h
theorem Hn(h:p:=by
  go_enter func107,ntmps107;go_wp2_with fail;refine K29 ?_;go_wp2_with fail;refine K2K ?_;go_wp2_with fail;go_region_held3 (λw'=>w'.cell? ⟨b,2,none⟩=some (Iv s.st)) (first|(simp[go_sem, *];done)|go_keep) (first|(refine(CM.out _).mono ?_;rintro e w4 ⟨rfl,GA⟩;have QP:=GA.size;(try simp at QP);have e2:w4.cell? (Ad b 2)=some (Iv s.st):=((BO GA).1 b _ Cm).trans Ew));go_wp2_with fail;go_ret2;rw[E.out];exact⟨rfl,A9⟩
 ):p:=h
theorem Ho(h:p:=by
  go_wp2_with fail;refine K4d ?_;go_wp2_with fail;(refine K2E ?_;intro w' v km wh HP);go_wp2_with fail;go_ret2;exact⟨v,km,wh,rfl,HP.out⟩
 ):p:=h
theorem Hp(h:p:=by
  clear XN;go_wp2_with (refine CL.out.mono ?_;rintro e w8 ⟨rfl,aI⟩;obtain⟨m8,h8⟩:=HI.out.to aI;have H8:=Hd h8;have hz8:=h8.2.1.size;have YA:=Hd (let ⟨_,_,kk,_⟩:=aI;AR Y8.out kk (HI.out.1.au ⟨_,Y8.out⟩ Es));have YB:=Hd (let ⟨_,_,kk,_⟩:=aI;AR Y9.out kk (HI.out.1.au ⟨_,Y9.out⟩ Es));clear h8 aI);go_roundw
  case rel=>exact⟨j+1,m8,by go_num,by omega,hz8,YA,YB,H8⟩
  case measure=>simp[intOf];omega
 ):p:=h
theorem Hq(h:p:=by
  go_enter func4,ntmps4;go_upto_region 1 with fail;(refine Ko ?_;intro V hV);(refine K2j ?_;intro k0);(refine KX ?_;intro HB);clear hV;go_wp2_with (first|(refine JS rfl 28 _ rfl w.heap.size rfl 28 _ (0,0) _ k0 underlying28 rfl Ff ?_)|(go_at_call 11;refine(SM.out _).mono ?_;rintro e w7 ⟨rfl,Tt⟩;have Vh:=JI HB Tt;clear Tt)|(go_at_call 8;refine(KN.out _).mono ?_;rintro _ w9 ⟨rfl,Uv⟩;have XK:=JI Vh Uv;clear Uv));go_ret;exact⟨rfl,XK.out⟩
 ):p:=h
theorem Hr(h:p:=by
  unfold eJ Nt.put;simp only;rw[fT];congr 1;apply eT;intro j;rw[A06];split
  ·rename_i e;subst e
   rw[AW D9,TV,Gg hi];simp[Nt.at_,List.getD,Gg hi]
  ·rfl
 ):p:=h
theorem Hs(h:p:=by
  go_wp2_with fail;(refine K2W ?_;intro hD rT kT hB7);refine⟨by simp,.inl ⟨_,_,rfl,run_takeDeferred kT,?_⟩⟩;refine⟨_,bL rfl _ _ (w.heap.size+1+1) (.bool true) _ rfl (AB (l:=[_]) ((qa (λe=>hD.2.2 e)).trans rT) 0 rfl) underlying4 rfl,rfl,?_⟩;exact hB7.drew.grown (mr _ _ _) (Lt hD.1 (Nat.le_of_lt (Array.getElem?_eq_some_iff.1 kT).1)) (λk e=>by cases e;exact hD.1)
 ):p:=h
theorem Ht(h:p:=by
  exact hq.Tp hK (λi hi hl=>⟨_,aL i hi hl,by decide,by decide,by decide⟩)
 ):p:=h
theorem Hu(h:p:=by
  (refine K0C ?_;intro y0 y1 y2 y3 y4 f0 f1 f2 f3 f4);obtain⟨k0,e0,_,w0⟩:=ZZ underlying3 f0;obtain⟨k1,e1,_,w1⟩:=ZZ underlying3 f1;obtain⟨k2,e2,_,w2⟩:=ZZ underlying3 f2;obtain⟨k3,e3,_,w3⟩:=ZZ underlying3 f3;obtain⟨k4,e4,_,w4⟩:=ZZ underlying3 f4;simp at e0 e1 e2 e3 e4;exact⟨k0,k1,k2,k3,k4,e0,e1,e2,e3,e4⟩
 ):p:=h
theorem Hv(h:p:=by
  go_wp2_with fail;go_ret2;exact⟨rfl,A9⟩
 ):p:=h
theorem Hw(h:p:=by
  (repeat(first|with_reducible exact AG.refl _ _|(with_reducible refine AG.Ui ?_ _ _)|(with_reducible refine AG.drew ?_)|(with_reducible refine AG.drewN ?_ _)|(with_reducible refine AG.alloc ?_ _)))
 ):p:=h
theorem Hx(h:p:=by
  have S5:=Hd (WJ H5.out.1 ax.out Ws.out R5.out (Lt BJ H5.out.2.1.size) Ft Ft);go_wp2_with (refine S5.out.mono ?_;rintro e w6 ⟨rfl,aI⟩;obtain⟨m6,h6⟩:=H5.out.to aI;have H6:=Hd h6;have Xi:=h6.2.1.size;clear h6 aI);go_roundw
  case rel=>exact⟨j+1,m6,by go_num,by omega,Xi,Hd (by rw[SN.out];exact H6.out)⟩
  case measure=>simp[intOf];omega
 ):p:=h
theorem Hy(h:p:=by
  refine hK.out _ _ (SS.out _ RY) (λhHeld=> ?_);(refine K3w ?_;clear hK K);refine JB 19 hHeld ?_;refine RJ Ff ?_ _;go_wp2_with fail;go_meet;(refine K3H ?_;intro Ze kr);exact⟨T7,A',c',oA,nb,oc,er,rfl,rfl,rfl,MR _ _ _ _ _ _ N7.out,Sf,rO.out _ kr,oZ.out,xK.out _ kr,RY⟩
 ):p:=h
theorem I3(h:p:=by
  refine hK.out _ _ (SS.out _ RY) (λhHeld=> ?_);(refine K3w ?_;clear hK K);refine JB 19 hHeld ?_;refine RJ Ff ?_ _;go_wp2_with fail;go_meet;(refine K3I ?_;intro Ze kr);exact⟨T7,A',c',oA,nb,oc,er,rfl,rfl,rfl,MR _ _ _ _ _ _ N7.out,Sf,rO.out _ kr,oZ.out,xK.out _ kr,RY⟩
 ):p:=h
theorem I4(h:p:=by
  exact⟨sG E.out.1.symm E.out.2.1.symm E.out.2.2.symm,A9⟩
 ):p:=h
theorem I6(h:p:=by
  exact⟨rfl,by rw[<-HTR.out,AL.lj HD.out];exact HT.out.below BX (Lr _),HTK.out.trans (AG.AS BX) (λ_ _ h=>h)⟩
 ):p:=h
theorem I7(h:p:=by
  (have hp':tmps[p]?.getD undef=Pt g:=by simpa using hp);simp[results,h,hp',asAddr,run_loadVar_row w g t ty cs fr d hg hu hd hi]
 ):p:=h
theorem I8(h:p:=by
  go_wp2_with fail;obtain⟨m5,g1,g2,g3⟩:=N5.out;have G1:=Hd g1;have G2:=Hd g2;have G3:=Hd g3;clear g1 g2 g3;go_roundw
  case rel=>exact⟨j+1,m5,by go_num,by omega,Hd (by rw[SN.out,HE.out];exact G1.out),G2,G3⟩
  case measure=>simp[intOf];omega
 ):p:=h
theorem I9(h:p:=by
  go_enter func85,ntmps85;go_wp2_with fail;refine IT (v:= .tuple #[.agg aw,Iv 6]) ?_ rfl (LN E.out Fj A9);simp[results,results85,go_sem]
 ):p:=h
theorem Ia(h:p:=by
  refine⟨rfl,?_,by(repeat(first|with_reducible exact AG.refl _ _|(with_reducible refine AG.Ui ?_ _ _)|(with_reducible refine AG.drew ?_)|(with_reducible refine AG.drewN ?_ _)|(with_reducible refine AG.alloc ?_ _)))⟩;rw[E.out,HF.out];exact⟨by simp only[cI];exact Fl,H.out.U8 Aj,H.out.ge⟩
 ):p:=h
theorem Ib(h:p:=by
  go_enter func15,ntmps15;go_upto_region 3 with((go_at_call 46;refine(NO.out _ (IH _)).mono ?_;rintro e w' ⟨rfl,rfl⟩));go_quiet (fail);go_wp2_with ((go_at_call 47;refine(SA.out _ _ _ _).mono ?_;rintro e w' ⟨rfl,rfl⟩));go_ret;exact⟨_,rfl,Lr _,AM _ _,(below_drewN (IH _) _).alloc (Lr _) _⟩
 ):p:=h
theorem Ic(h:p:=by
  go_wp2_with fail;refine(N.out _).mono ?_;rintro e w1 ⟨A,cap,rfl,hO,hB⟩;have IJ:=hB.size;go_wp2_with fail;go_ret;exact⟨A,cap,rfl,hO.more Fu,A9⟩
 ):p:=h
theorem Id(h:p:=by
  go_wp2_with fail;obtain⟨m6,g1,g2,g3⟩:=oU.trans HK.out HF.out.1 HF.out.2 RT.out;go_roundw
  case rel=>refine⟨j+1,m6,by first|rfl|(rw[wj];rfl),by omega,Hd ?_,Hd g2,Hd g3⟩;rw[SN.out,SNE.out];exact g1
  case measure=>simp[intOf];omega
 ):p:=h
theorem Ie(h:p:=by
  go_enter func57,ntmps57;go_wp2_with fail;refine K29 ?_;go_wp2_with fail;refine K2K ?_;go_wp2_with fail;go_quiet (fail);go_wp2_with fail;go_ret2;rw[E2.out,E3.out];exact⟨_,MA,mc,rfl,H3.out.drewN _,pa.out.drewN _,IF.nil _ _,.inl rfl⟩
 ):p:=h
theorem If(h:p:=by
  go_enter func113,ntmps113;go_wp2_with fail;go_ret2;exact⟨rfl,rfl⟩
 ):p:=h
theorem Ig(h:p:=by
  simp[results,results148,go_sem, *]
 ):p:=h
theorem Ih(h:p:=by
  go_enter func134,ntmps134;go_wp2_with fail;go_ret;rw[E.out];exact⟨rfl,A9⟩
 ):p:=h
theorem Ii(h:p:=by
  clear hd HSN;go_wp2_with fail;go_roundw
  case rel=>exact⟨k+1,m7,by first|rfl|(rw[wk1];rfl),by omega,Lt hkz da,Hd (by rw[uu.out];exact et.out),HFK,A1W⟩
  case measure=>simp[intOf];omega
 ):p:=h
theorem Ij(h:p:=by
  unfold AJ.JP at this;rw[AW he] at this;exact this
 ):p:=h
theorem Ik(h:p:=by
  rw[Q8] at this;exact this
 ):p:=h
theorem Il(h:p:=by
  obtain⟨m',g1,g2,g3⟩:=h;refine⟨m',g1,h1.trans g2 (λi hi hs=> ?_),λq hq=> ?_,g3.2.trans h2.2⟩
  ·rcases h2.1 i hs with h|h
   ·exact h
   ·omega
  ·rcases g3.1 q hq with h|h
   ·exact h2.1 q h
   ·exact .inr (Lt h1.size h)
 ):p:=h
theorem Im(h:p:=by
  go_wp2_with fail;go_quiet (fail);go_wp2_with fail;go_ret2;have hs6:=(aU.out.alloc (.cells #[.int .u8 x] 226)).drewN;exact⟨_,MA,mc,rfl,hs6 _,((il.out.alloc _).drewN _).mono (λi _ hi=> .inl hi),IF.nil _ _,.inl rfl⟩
 ):p:=h
theorem In(h:p:=by
  go_wp2_with fail;go_ret;exact⟨CU Fg,by rw[E.out];exact HP.out.drewN _,AG.AS (below_drewN DF.out _)⟩
 ):p:=h
theorem Io(h:p:=by
  exact RO.out.FY (p:=(Ad b 27)) (λg hg e=>by
   rcases AT.out with h1|⟨q,h1,h2⟩
   ·exact HEB.out g (h1▸hg) e
   ·rw[h1] at hg;injection hg with hg;have e:g=b:=e;omega) _
 ):p:=h
theorem Ip(h:p:=by
  go_wp2_with fail;go_ret2;rw[E.out];exact⟨rfl,A9⟩
 ):p:=h
theorem Iq(h:p:=by
  go_wp2_with fail;go_ret;exact⟨CU E.out.symm,below_drewN HR.out.1 _⟩
 ):p:=h
theorem Ir(h:p:=by
  have hBf:=ZU.out.trans (hK.below (B:=w.heap.size) (λj _ hj=>by omega) ZU.out.size);have hq:=H.out.below hBf (Lr _);exact⟨hq.dr,HR8.out.kept hK (λg hg e=>by simp only[AK,pW] at hg;omega),hq.sr⟩
 ):p:=h
theorem Is(h:p:=by
  have EK:=BG h;(have h':w.heap[q]= .cells cs t (0,0):=by simpa[A0g EK] using h);show(w.heap.modify q _)[q]?=_;rw[A0g (by simpa using EK),Array.getElem_modify_self,h'];rfl
 ):p:=h
theorem It(h:p:=by
  go_wp2_with fail;go_roundw
  case rel=>exact⟨k+1,m9,by first|rfl|(rw[wk1];rfl),by omega,A78,HR9,HF9,A8P⟩
  case measure=>simp[intOf];omega
 ):p:=h
theorem Iu(h:p:=by
  go_wp2_with fail;go_ret2;exact⟨Z5 V1.out.symm V2.out.symm,A9⟩
 ):p:=h
theorem Iw(h:p:=by
  go_enter func110,ntmps110;go_wp2_with fail;go_ret;exact⟨JL E.out.symm,A9⟩
 ):p:=h
theorem Iy(h:p:=by
  rintro e w' ⟨rfl,hb⟩;exact⟨by simp[AV.iB,AV.fA,h],hb⟩
 ):p:=h
theorem Iz(h:p:=by
  go_enter func99,ntmps99;go_wp2_with fail;go_ret;exact⟨JL E.out.symm,rfl⟩
 ):p:=h
theorem J1(h:p:=by
  exact⟨T7,v,_,rfl,rfl,rfl,MR _ _ _ _ _ _ N7.out,Sf,Vp.out.kept kr (λi hi=>⟨λt=>by subst hi;exact t.ne Ze Fj rfl,λt=>by subst hi;exact t.ne Ze Fj rfl⟩),RY⟩
 ):p:=h
theorem J3(h:p:=by
  obtain⟨a,rfl⟩:∃a:Nat,u=a:=⟨u.toNat,by omega⟩;show IntKind.i64.wrap ((BitVec.ofInt 64 (a:Int)&&&BitVec.ofInt 64 ((65535:Nat):Int)).toNat:Int)=_;refine K48 ?_;omega
 ):p:=h
theorem J4(h:p:=by
  (repeat(first|rw[AW Ft]|rw[AO Ft]));congr 1;omega
 ):p:=h
theorem J5(h:p:=by
  go_wp2_with fail;go_ret2;exact⟨⟨i,hj,by rw[E.out];rfl,HA.out,HB.out⟩,rfl⟩
 ):p:=h
theorem J6(h:p:=by
  go_roundw
  case rel=>exact⟨t1,m5,M+200000,kg,SM.out.1,SM.out.2.1,SM.out.2.2.1,jW,IV1,RK,H5⟩
  case measure=>rw[jZ,cR d21.out];exact SM.out.2.2.2
 ):p:=h
theorem J7(h:p:=by
  go_wp2_with fail;go_roundw
  case rel=>exact⟨j+1,by go_num,by omega,Hd ⟨below_drewN HR.out.1 _,HR.out.2⟩,E.out⟩
  case measure=>simp[intOf];omega
 ):p:=h
theorem J8(h:p:=by
  rw[Ve _ _ hi];split
  ·rename_i e;subst e;rfl
  ·rfl
 ):p:=h
theorem J9(h:p:=by
  go_ret2;exact⟨rfl,rfl⟩
 ):p:=h
theorem Ja(h:p:=by
  go_wp2_with fail;refine IT (v:= .tuple #[.agg #[Iv 0,Iv 0],Iv 2]) ?_ rfl ⟨Qf E1.out.symm E2.out.symm E3.out.symm,A9⟩;simp[results,results171,go_sem, *]
 ):p:=h
theorem Jb(h:p:=by
  rcases hE with e|⟨g,e,hg⟩
  ·exact .inl (.inr (.inr (.inr (.inr (.inr (.inr (.inl (e▸hq))))))))
  ·rw[e] at hq;injection hq with hq;exact .inr (hq▸hg)
 ):p:=h
theorem Jc(h:p:=by
  unfold AJ.Vm;rw[Bool.eq_false_iff];intro hh;simp only[bY,eS] at hh;exact ha ⟨hh.1.1.2,hh.1.2,hh.2⟩
 ):p:=h
theorem Jd(h:p:=by
  go_wp2_with fail;go_ret;exact⟨rfl,A9⟩
 ):p:=h
theorem Je(h:p:=by
  go_enter func85,ntmps85;go_wp2_with fail;refine IT (v:= .tuple #[.agg aw,Iv 4]) ?_ rfl (LN E.out Fj A9);simp[results,results85,go_sem]
 ):p:=h
theorem Jf(h:p:=by
  (have:(AQ.ud msg).length<=msg.length:=by unfold AQ.ud;rw[AW hd];unfold AQ.dd;rw[Ul,Xu];omega);exact Lt this HML.out
 ):p:=h
theorem Jg(h:p:=by
  clear h hs MU XC Ts GG hi hn TC;go_enter func23,ntmps23;go_wp2_with (refine CH.out.mono ?_;rintro e w' ⟨rfl,rfl⟩);go_ret;exact⟨rfl,T2.out⟩
 ):p:=h
theorem Jh(h:p:=by
  go_wp2_with fail;go_ret;exact⟨none,0,rfl,Ow.nil _ _,A9⟩
 ):p:=h
theorem Ji(h:p:=by
  by_cases hi:i<l.length
  ·(have:l.getD i 0∈l:=by simp[List.getD,Gg hi]);exact h _ this
  ·simp[List.getD,R3 (by omega:l.length<=i)]
 ):p:=h
theorem Jj(h:p:=by
  show(if t.now+t.r.step<=u then(if Nt.FB t=0 then Nt.runK kg (Nt.step t) u else(t,Nt.FB t)) else(t,0))=_;rw[AW hc,AO he,Oe]
 ):p:=h
theorem Jk(h:p:=by
  rw[ux.out];simp[AJ.CG,AQ.IZ]
 ):p:=h
theorem Jl(h:p:=by
  show(if t.now+t.r.step<=u then(if Nt.FB t=0 then Nt.runK kg (Nt.step t) u else(t,Nt.FB t)) else(t,0))=_;rw[AW hc,AW he]
 ):p:=h
theorem Jm(h:p:=by
  have h1:=(HMK.out.1 (G[k]'hkG) (bZ hkG)).2.2.2;(refine K3B ?_;intro h2);rw[YQ,h2];omega
 ):p:=h
theorem Jn(h:p:=by
  go_enter func39,ntmps39;go_upto_region 1 with fail;go_quiet (fail);go_wp2_with fail;go_ret;exact⟨rfl,below_drewN (IH w) _⟩
 ):p:=h
theorem Jo(h:p:=by
  go_ret;exact⟨by simp,HP.out.A75 HB.out eL.out ZR.out T0.out,by rw[E.out];exact HC.out,m4,m5,by rw[E.out];exact SZ.out.mono (Nat.le_succ k)⟩
 ):p:=h
theorem Jp(h:p:=by
  exact⟨(h1.n.uw j hj).1.IE NJ (λq hx e'=>hXg q hx e'),(h1.n.uw j hj).2⟩
 ):p:=h
theorem Jq(h:p:=by
  exact⟨(h1.n.dw j hj).1.IE NJ (λq hx e'=>hXg q hx e'),(h1.n.dw j hj).2⟩
 ):p:=h
theorem Jr(h:p:=by
  rw[ET];have hx:=CE;rw[show 4*(j+1)=4*j+4 by omega];simp only[bv,bW] at hx⊢;exact hx
 ):p:=h
theorem Js(h:p:=by
  go_enter func181,ntmps181;go_wp2_with fail;go_quiet (fail);go_wp2_with fail;go_ret;exact⟨CU (by rw[G.out]),A9⟩
 ):p:=h
theorem Jt(h:p:=by
  go_wp2_with fail;go_ret;exact⟨CU De,rfl⟩
 ):p:=h
theorem Ju(h:p:=by
  rw[hlen] at hi;have e1:Nt.at_ (Nt.Rc r j) i=Nt.VY r i:=Nt.Za _ _ _ hi;rw[e1];exact⟨IW.nil _ _ _,Pe _⟩
 ):p:=h
theorem Jv(h:p:=by
  show(if t.now+t.r.step<=u then(if Nt.FB t=0 then Nt.runK kg (Nt.step t) u else(t,Nt.FB t)) else(t,0))=_;rw[AO hc]
 ):p:=h
theorem Jw(h:p:=by
  go_quiet (fail);go_wp2_with fail;go_ret;exact⟨rfl,(A7p _).1,by rw[E.out];exact HC.out,m4,m5,by rw[E.out];exact(A7p _).2⟩
 ):p:=h
theorem Jy(h:p:=by
  rcases hq with hq|hq
  ·exact hq
  ·exact⟨Lt hb hq,λhf=>by have:=(hf.lt h).2;omega,λhf=>by have:=h.av q hf;omega⟩
 ):p:=h
theorem Jz(h:p:=by
  obtain⟨m',g1,g2,g3⟩:=h;exact⟨m',g1.below g,g2.trans (AG.AS (S:=λ_=>False) g) (λ_ _ h=>h.elim),g3⟩
 ):p:=h
theorem L0(h:p:=by
  go_region
  all_goals go_wp2_with fail
  all_goals go_ret
  all_goals exact A2z E1.out rfl rfl Ac Ab
 ):p:=h
theorem L1(h:p:=by
  unfold AL.QY AL.RI;rw[AO (by rw[hx];exact h0),AO (by rw[hx];exact λhh=>h0 hh.1)];exact⟨rfl,rfl⟩
 ):p:=h
theorem L2(h:p:=by
  clear h hs hu;go_enter func40,ntmps40;go_wp2_with fail;go_ret;exact⟨rfl,Vg.refl HH.out⟩
 ):p:=h
theorem L3(h:p:=by
  rintro e w' ⟨v1,e1,g1,g2,g3⟩;obtain⟨m3,h3⟩:=h1.to (h1.1.toP hi g2 g3);exact⟨v1,_,m3,e1,g1,h3⟩
 ):p:=h
theorem L4(h:p:=by
  go_enter func62,ntmps62;go_wp2_with fail;go_ret;exact⟨none,0,rfl,Row.nil _ _ _ _,A9⟩
 ):p:=h
theorem L5(h:p:=by
  go_ret;exact⟨CU Er,((DF.out.trans (BX.mono Ft)).trans (CB.mono Ft)).trans (JZ.mono Ft)⟩
 ):p:=h
theorem L6(h:p:=by
  exact⟨Ta _ _ _ _,by intro x hx;cases hx⟩
 ):p:=h
theorem L7(h:p:=by
  rw[CP,PL];have h:=AM w (.cells cs t);simp only[World.cell?,h];simpa using hu
 ):p:=h
theorem L8(h:p:=by
  rcases h.2 with⟨rfl,rfl⟩|⟨g,c,cur,rfl,_⟩
  ·exact⟨_,_,rfl⟩
  ·exact⟨_,_,rfl⟩
 ):p:=h
theorem L9(h:p:=by
  repeat(first|rw[AW Ft]|rw[AO Ft])
  symm
  rw[R3];omega
 ):p:=h
theorem La(h:p:=by
  exact .inr (show w.heap.size<=w3.heap.size from by omega)
 ):p:=h
theorem Lb(h:p:=by
  exact .inr (show w.heap.size<=w1.heap.size from by omega)
 ):p:=h
theorem Lc(h:p:=by
  refine IT (v:= .tuple #[.agg #[Iv 0,Iv 0],Iv 3]) D0 rfl ⟨Qf d1.symm d2.symm d3.symm,A9⟩
 ):p:=h
theorem Ld(h:p:=by
  rcases Oj j ops.size with g|g
  ·exact g
  ·rw[A03 g] at hj;cases hj
 ):p:=h
theorem Le(h:p:=by
  simp only[h1,show j<(n+1)*2 by omega,WV];repeat(first|rw[AW Ft]|rw[AO Ft])
 ):p:=h
theorem Lf(h:p:=by
  rw[Nt.Tm,List.replicate_succ',fy _ _ _ _ _ _ _ hl,Nt.NI,PL];rfl
 ):p:=h
theorem Lg(h:p:=by
  go_wp2_with fail;go_ret;exact⟨CU Fu,rfl⟩
 ):p:=h
theorem Lh(h:p:=by
  go_wp2_with fail;go_ret;exact⟨CU (by simp[Ck.AV.Rj,h];try omega),rfl⟩
 ):p:=h
theorem Li(h:p:=by
  rintro e w' ⟨rfl,hb⟩;exact⟨by simp[aLo,ue,aE,aOk,AV.EP.2 h],hb⟩
 ):p:=h
theorem Lj(h:p:=by
  go_wp2_with fail;go_ret;exact⟨CU (by simp[AV.Rj,h];try omega),rfl⟩
 ):p:=h
theorem Lk(h:p:=by
  rintro e w' ⟨rfl,hb⟩;exact⟨by simp[aLo,ue,aE,aOk,AV.SB.2 h],hb⟩
 ):p:=h
theorem Ll(h:p:=by
  go_wp2_with fail;go_ret2;exact⟨.inr (.inr (.inl ⟨h1,h3,h2,rfl⟩)),A9⟩
 ):p:=h
theorem Lm(h:p:=by
  go_ret;exact⟨A',c',rfl,FZ,hg,JV.imp id (λh=>⟨_,h,Lr _⟩)⟩
 ):p:=h
theorem Ln(h:p:=by
  rw[List.foldl_cons,show N+(l.length+1)=N+1+l.length by omega];exact h2
 ):p:=h
theorem Lo(h:p:=by
  refine DC (i:=28) (v:= ?_) rfl Di Di Di rfl Di (λ_ _ _ h=>h) (Or.inl ⟨by rfl,?_⟩) ?_;rotate_left
  focus(intro w' BS;go_simp;(try with_reducible rfl))
  (refine Kv ?_;intro dp d35 f35);refine AU.cons rfl (λK hK=> ?_) AU.nil;go_simp;refine hK.out _ _ (λh=>absurd h Dv) ?_;clear hK K;refine PU ?_;refine DC (i:=30) (v:= ?_) rfl Di Di Di rfl Di (λ_ _ _ h=>h) (Or.inl ⟨by rfl,?_⟩) ?_;rotate_left
  focus(intro w' BS;go_simp;(try with_reducible rfl))
  refine PU ?_;exact Fw
 ):p:=h
theorem Lp(h:p:=by
  refine NH rfl (λK hK=> ?_) Pd;(refine K1p ?_;clear hHeld);refine hK.out _ _ ?_ (λhHeld=> ?_)
  ·(try dsimp only);exact⟨(Pq _ _ _ _ Ft).trans k0,(Cb (Pq _ _ _ _ (show w.heap.size≠w.heap.size+2 by omega))).trans Ua⟩
  clear hK K;refine PU ?_;refine GI (i:=13) (v:= ?_) rfl Ff Ff Ff (λ_ _ _ h=>h) (Or.inl ⟨by rfl,?_⟩) Fq ?_;rotate_left
  focus(intro w' BS;(try dsimp only at BS);go_simp;(try with_reducible rfl))
  refine PU ?_;refine RJ Ff ?_ _;(refine K0H ?_;clear k0 k2 HB hHeld;intro XK j2 k2 HB);go_wp2_with fail;exact Fy
 ):p:=h
theorem Lq(h:p:=by
  rcases z45 s with⟨z4,z5⟩|⟨z4,z5⟩|⟨z4,z5⟩
  all_goals
   go_enter func121,ntmps121;go_upto_region 1 with fail;(refine Ka ?_;intro V k0 k2 HB CX lf KF);(refine KJ ?_;intro PR);go_upto_region 3 with fail;go_wp2_with fail;refine K1P ?_;rintro e W1 ⟨g,o,c,rfl,hc,BX,_⟩;(refine Kh ?_;clear hc BX k0 k2 KF HB PR CX;intro d0 k0 k2 KF HB CX lf);go_upto_region 38 with fail;exact Fv
 ):p:=h
theorem Ls(h:p:=by
  rw[<-T8] at CH E;clear hk IY GK LA hx hn hr hs IM MV GJ ID EL hm h0 Ou DJ HE T8;go_enter func121,ntmps121;go_upto_region 1 with fail;(refine Ka ?_;intro V k0 k2 HB CX lf KF);(refine KJ ?_;intro PR);go_wp2_with (first|(refine JS rfl 101 _ rfl _ rfl 101 _ (0,0) _ k0 underlying101 rfl Ff ?_));(refine Kq ?_;clear k0 k2 HB KF CX;intro W2 k0 k2 HB KF);go_wp2_with (first|(refine OZ rfl 101 _ _ rfl _ _ rfl rfl 101 _ k2 Ff rfl (DI _) ?_));exact Fy
 ):p:=h
theorem Lu(h:p:=by
  rcases z45 s with⟨z4,z5⟩|⟨z4,z5⟩|⟨z4,z5⟩
  all_goals
   go_enter func121,ntmps121;go_upto_region 1 with fail;(refine Ka ?_;intro V k0 k2 HB CX lf KF);(refine KJ ?_;intro PR);go_upto_region 38 with fail;exact Fv
 ):p:=h
theorem Lv(h:p:=by
  go_enter func140,ntmps140;go_upto_region 1 with fail;(refine Kc ?_;intro V HV Oq CX lf K0);go_region_held3 (λw'=>w'.cell? ⟨w.heap.size,0,none⟩=some (Iv k)/\w'.cell? ⟨w.heap.size,1,none⟩=some (Iv f)/\w'.cell? ⟨w.heap.size,2,none⟩=some (Iv t)/\w'.cell? ⟨w.heap.size,3,none⟩=some (Iv q)/\w'.cell? ⟨w.heap.size,4,none⟩=some (.slice A n cap)) (first|(refine⟨?_,?_,?_,?_,?_⟩<;>simp[go_sem, *];done)|go_keep) (first|(go_at_call 162;refine(NU.out _ C4).mono ?_;rintro e w1 ⟨rfl,BX⟩;have CB:Below V.heap.size V w1:=Ay;have DF:=JI HV CB;have j0:=AH K0.out CB Oq;have HJ:=Hd j0;have HP:=Hd (HH.out.below DF.out (Lr _));clear BX CB;clear CX;have JH:=OH j0;have lg:=BG j0;clear j0));(refine K0a ?_;intro BH la);go_wp2_with fail;(refine(RG.out _ HP.out).mono ?_;rintro e w3 ⟨r3,lo3,hi3,rfl,JZ⟩;have VD:=Hd (HP.out.below JZ (Lr _));have P6:=JI DF JZ;have e3:=AB VD.out.BM 7 rfl;have e12:=AB VD.out.BM 12 rfl;have e16:=AB VD.out.BM 16 rfl;(clear BH);clear JZ;(go_upto_region 18 with fail);generalize hV:World.alloc _ _=V3;have aW:=Hd (show Of V3 base b c s by rw[<-hV];exact VD.out.alloc _);have XH:=Hd (show Below w.heap.size w V3 by rw[<-hV];exact P6.out.alloc P6.out.size _);clear hV HP DF e3 e12 e16;have HP:=aW;have DF:=XH;clear aW XH VD P6);(refine K0a ?_;intro BH la);go_wp2_with fail;refine(WT.out _).mono ?_;rintro e w' ⟨rfl,rfl⟩;go_wp2_with fail;refine K44 ?_;exact Gn
 ):p:=h
theorem Lw(h:p:=by
  go_enter func133,ntmps133;go_wp2_with (first|(refine(Tu _ _ _ _ Ft).mono ?_;rintro e w' ⟨rfl,rfl⟩)|(refine(Uz _ _ _ _ Ft).mono ?_;rintro e w' ⟨rfl,rfl⟩));go_quiet (fail);exact G4
 ):p:=h
theorem Lx(h:p:=by
  (refine KJ ?_;intro PR);go_upto_region 3 with fail;go_wp2_with fail;refine K1P ?_;rintro e W1 ⟨g,o,c,rfl,hc,BX,_⟩;(refine Kh ?_;clear hc BX k0 k2 KF HB PR CX;intro d0 k0 k2 KF HB CX lf);go_wp2_with (first|(refine JS rfl 101 _ rfl _ rfl 101 _ (0,0) _ k0 underlying101 rfl Ff ?_));(refine Kq ?_;clear k0 k2 HB KF CX;intro W2 k0 k2 HB KF);go_upto_region 8 with(refine OZ rfl 101 _ _ rfl _ _ rfl rfl 101 _ k0 Ff rfl (DI _) ?_);(refine K0G ?_;clear k0 k2 HB;intro W3 g0 g2 P6 yf f13 ye f19);go_upto_region 9 with fail;(refine K2G ?_;intro W4 hW k0);(refine K09 ?_;intro k2 HB);clear hW g0 g2 P6 yf f13 ye f19;exact Fv
 ):p:=h
theorem Ly(h:p:=by
  rw[<-T8] at CH E FG;clear hk IY GK LA hx hn hr hs IM MV GJ ID EL hm h0 Ou DJ HE T8;go_enter func121,ntmps121;go_upto_region 1 with fail;(refine Ka ?_;intro V k0 k2 HB CX lf KF);(refine KJ ?_;intro PR);go_wp2_with (first|(refine JS rfl 101 _ rfl _ rfl 101 _ (0,0) _ k0 underlying101 rfl Ff ?_));(refine Kq ?_;clear k0 k2 HB KF CX;intro W2 k0 k2 HB KF);go_wp2_with fail;(refine K2i ?_;clear k0 k2 HB;intro W5 k2 HB);go_wp2_with (first|(refine OZ rfl 101 _ _ rfl _ _ rfl rfl 101 _ k2 Ff rfl (DI _) ?_));exact Fy
 ):p:=h
theorem Lz(h:p:=by
  (refine Kq ?_;clear k0 k2 HB KF CX;intro W2 k0 k2 HB KF);go_wp2_with (first|(refine OZ rfl 101 _ _ rfl _ _ rfl rfl 101 _ k2 Ff rfl (DI _) ?_));exact Fy
 ):p:=h
theorem M0(h:p:=by
  by_cases h0:0<=m
  ·have E:=Hd (show AL.take s x=({AL.QR s 1 s.now with Pf:=true,prog:=m},true) by unfold AL.take;rw[AW Ft,AW Ft,AW Ft,GK]);clear hk IY GK LA hx hm hn hr hs h IM DT GC DJ;go_enter func140,ntmps140;exact Gj
  ·have E:=Hd (show AL.take s x=(s,false) by unfold AL.take;rw[AW Ft,AW Ft,AO Ft]);(have h1:m<0:=by omega);clear hk IY GK LA hx hm hn hr hs h IM DT GC DJ h0;exact G0
 ):p:=h
theorem M3(h:p:=by
  go_enter func86,ntmps86;go_wp2_with fail;(refine Ko ?_;intro V hV);(refine KT ?_;intro k0);(refine K1D ?_;intro k1);(refine Kf ?_;clear hV k0 k1;intro w1 j0 j1 j2 eI BH la CI lb LZ lc);go_wp2_with fail;(refine KQ ?_;clear BH CI LZ la lb lc j0 j1 j2 eI;intro w2 k0 k1 k2 tL BH la CI lb LZ lc);(refine K3L ?_;intro c2);go_wp2_with fail;go_quiet (fail);exact Gm
 ):p:=h
theorem M4(h:p:=by
  go_enter func121,ntmps121;go_upto_region 1 with fail;(refine Ka ?_;intro V k0 k2 HB CX lf KF);(refine KJ ?_;intro PR);go_upto_region 3 with fail;go_wp2_with fail;refine K1P ?_;rintro e W1 ⟨g,o,c,rfl,hc,BX,_⟩;(refine Kh ?_;clear hc BX k0 k2 KF HB PR CX;intro d0 k0 k2 KF HB CX lf);(refine K1e ?_;intro ye yf);go_upto_region 38 with fail;exact Fv
 ):p:=h
theorem M5(h:p:=by
  go_enter func144,ntmps144;go_upto_region 1 with fail;(refine Ko ?_;intro V hV);(refine K08 ?_;intro k0 k1);(refine Kb ?_;intro HB);clear hV;(refine Kr ?_;intro PR c1 c2 c3 c4 YG YF Ua);(refine K0t ?_;intro c6 c7 c8 c9 Zt);go_wp2_with fail;(refine K0A ?_;clear k0 k1 HB c1 c2 c3 c4 PR YG YF Ua c6 c7 c8 c9 Zt;intro w1 k0 k1 HB);(refine Kr ?_;intro PR c1 c2 c3 c4 YG YF Ua);(refine K0t ?_;intro c6 c7 c8 c9 Zt);exact Gf
 ):p:=h
theorem M6(h:p:=by
  (refine Kr ?_;intro PR c1 c2 c3 c4 YG YF Ua);(go_wp2_with (first|(refine JS rfl 101 _ rfl _ rfl 101 _ (0,0) _ k0 underlying101 rfl Ff ?_)));(refine K0J ?_;clear k0 k1 HB c1 c2 c3 c4 PR YG YF Ua;intro w1 j1 Rx);exact Gk
 ):p:=h
theorem M7(h:p:=by
  by_cases hle:a<=l
  case neg=>have HD:=Hd (show AL.due t l=false by unfold AL.due;rw[hf,<-ha,ME hle];rfl);(have hle':l<a:=by omega);clear hle;exact Gr
  case pos=>(refine K26 ?_;intro HD HX EVA xJ Xo HIA);rw[HX.out] at k2;obtain⟨t',ht'⟩:=BN (AL.XQ t);rw[<-ht'] at k2 EVA xJ Xo HIA;(have zz:(a<=l)=True:=by simp only[hle]);clear zz;exact Gz
 ):p:=h
theorem M8(h:p:=by
  by_cases h0:m=s.prog
  ·have E:=Hd (show AL.take s x=(AL.QR s 2 s.now,true) by unfold AL.take;rw[AO Ft,AW Ft,AW Ft]);exact Gu
  ·have E:=Hd (show AL.take s x=(s,false) by unfold AL.take;rw[AO Ft,AW Ft,AO Ft]);(have z9:(m==s.prog)=false:=by rw[Bf];exact h0);clear hk IY GK LA hx hm hn hr hs h IM DT GC DJ h0;exact G0
 ):p:=h
theorem M9(h:p:=by
  go_enter func121,ntmps121;go_upto_region 1 with fail;(refine Ka ?_;intro V k0 k2 HB CX lf KF);(refine KJ ?_;intro PR);go_upto_region 23 with fail;exact Fv
 ):p:=h
theorem Ma(h:p:=by
  go_wp2_with (go_at_call 46;refine NO.out.mono ?_;rintro e w' ⟨rfl,rfl⟩);exact Hi
 ):p:=h
theorem Mb(h:p:=by
  refine RJ Ff ?_ _;go_wp2_with fail;go_meet;(refine K2m ?_;intro Ze kr);exact Gq
 ):p:=h
theorem Mc(h:p:=by
  refine RJ Ff ?_ _;go_wp2_with fail;go_meet;(refine K2n ?_;intro Ze kr);exact Gq
 ):p:=h
theorem Md(h:p:=by
  rw[E];rw[nl] at TM;clear ht nl E r1;exact Ga
 ):p:=h
theorem Me(h:p:=by
  go_enter func144,ntmps144;go_upto_region 1 with fail;(refine Ko ?_;intro V hV);(refine K08 ?_;intro k0 k1);(refine Kb ?_;intro HB);clear hV;(refine Kr ?_;intro PR c1 c2 c3 c4 YG YF Ua);exact Gf
 ):p:=h
theorem Mf(h:p:=by
  (refine K1d ?_;intro e8 e9);go_enter func133,ntmps133;exact G4
 ):p:=h
theorem Mg(h:p:=by
  refine NH rfl (λK hK=> ?_) Pd;go_simp;refine hK.out _ _ Ah (λhHeld=> ?_);clear hK K;refine OI (rs:=[24]) Ff Fu ?_;exact Hg
 ):p:=h
theorem Mh(h:p:=by
  clear h hs ha;go_enter func53,ntmps53;go_wp2_with (first|(refine NO.out.mono ?_;rintro e w' ⟨rfl,rfl⟩)|(refine WI.out.mono ?_;rintro e w' ⟨rfl,rfl⟩));exact Hi
 ):p:=h
theorem Mi(h:p:=by
  go_enter func107,ntmps107;go_wp2_with fail;refine K29 ?_;go_wp2_with fail;refine K2K ?_;exact Ip
 ):p:=h
theorem Mj(h:p:=by
  clear hk IY GK LA hx hm hn hr hs h IM DT GC Ou Pp DJ;exact Fx
 ):p:=h
theorem Mk(h:p:=by
  go_wp2_with (refine NO.out.mono ?_;rintro e w' ⟨rfl,rfl⟩);exact Hi
 ):p:=h
theorem Ml(h:p:=by
  go_enter func206,ntmps206;exact Hf
 ):p:=h
theorem Mm(h:p:=by
  go_wp2_with fail;refine(V.out _).mono ?_;rintro e w1 ⟨rfl,BX⟩;have IJ:=BX.size;(try simp at IJ);exact Hv
 ):p:=h
theorem Mn(h:p:=by
  clear hk IY GK LA hx hm hn hr hs h IM DT GC Ou;exact Fx
 ):p:=h
theorem Mo(h:p:=by
  clear h hs ht GZ hy hm e1 e2;go_enter func83,ntmps83;go_wp2_with fail;exact Gv
 ):p:=h
theorem Mp(h:p:=by
  rw[<-Wj] at SZ E;have ek:=AB SZ.out.BM 7 rfl;rw[e2] at ek;clear Wj e2;exact Gw
 ):p:=h
theorem Mq(h:p:=by
  (refine uq ?_;intro q0 q1 q2 q3 q4 q5 z0 z1 z2 z3 z4 z5 EK);go_enter func125,ntmps125;exact He
 ):p:=h
theorem Mr(h:p:=by
  (refine K32 ?_;clear hk IY GK LA hx hm hn hr hs h IM DT GC Ou Pp DJ;intro E);exact Fx
 ):p:=h
theorem Ms(h:p:=by
  (refine K36 ?_;clear hk IY GK LA hx hm hn hr hs h IM DT GC Ou Pp DJ;intro E);exact Fz
 ):p:=h
theorem Mt(h:p:=by
  (refine K2U ?_;clear hk IY GK LA hx hm hn hr hs h IM DT GC Ou Pp DJ;intro E);exact Fz
 ):p:=h
theorem Mu(h:p:=by
  (refine K2F ?_;clear hk IY GK LA hx hm hn hr hs h IM DT GC Ou Pp DJ;intro E);exact Fz
 ):p:=h
theorem Mv(h:p:=by
  (refine K1d ?_;intro e8 e9);exact Gc
 ):p:=h
theorem Mw(h:p:=by
  go_enter func227,ntmps227;exact Hf
 ):p:=h
theorem Mx(h:p:=by
  have c0:=AB h 0 h0;clear h h0;go_enter func128,ntmps128;exact He
 ):p:=h
theorem My(h:p:=by
  have HD:=Hd (show AL.due t l=false by unfold AL.due;rw[hf];rfl);exact Gr
 ):p:=h
theorem Mz(h:p:=by
  refine DC (i:=25) (v:= ?_) rfl Di Di Di rfl Di (λ_ _ _ h=>h) (Or.inl ⟨by rfl,?_⟩) ?_;rotate_left
  focus(intro w' BS;go_simp;(try with_reducible rfl))
  (refine K00 ?_;intro dp d34 f34);refine AU.cons rfl (λK hK=> ?_) AU.nil;go_simp;refine hK.out _ _ (λh=>absurd h Dv) ?_;clear hK K;refine PU ?_;refine DC (i:=27) (v:= ?_) rfl Di Di Di rfl Di (λ_ _ _ h=>h) (Or.inl ⟨by rfl,?_⟩) ?_;rotate_left
  focus(intro w' BS;go_simp;(try with_reducible rfl))
  refine PU ?_;exact Lo
 ):p:=h
theorem N0(h:p:=by
  refine GI (i:=9) (v:= ?_) rfl Ff Ff Ff (λ_ _ _ h=>h) (Or.inl ⟨by rfl,?_⟩) Fq ?_;rotate_left
  focus(intro w' BS;(try dsimp only at BS);go_simp;(try with_reducible rfl))
  refine PU ?_;refine GI (i:=10) (v:= ?_) rfl Ff Ff Ff (λ_ _ _ h=>h) (Or.inl ⟨by rfl,?_⟩) Fq ?_;rotate_left
  focus(intro w' BS;(try dsimp only at BS);go_simp;(try with_reducible rfl))
  refine PU ?_;refine GI (i:=11) (v:= ?_) rfl Ff Ff Ff (λ_ _ _ h=>h) (Or.inl ⟨by rfl,?_⟩) Fq ?_;rotate_left
  focus(intro w' BS;(try dsimp only at BS);go_simp;(try with_reducible rfl))
  refine K1v ?_;exact Lp
 ):p:=h
theorem N1(h:p:=by
  refine GI (i:=11) (v:= ?_) rfl Ff Ff Ff (λ_ _ _ h=>h) (Or.inl ⟨by rfl,?_⟩) Fq ?_;rotate_left
  focus(intro w' BS;(try dsimp only at BS);go_simp;(try with_reducible rfl))
  refine K1v ?_;exact Lp
 ):p:=h
theorem N2(h:p:=by
  rw[<-T8] at CH E;clear hk IY GK LA hx hn hr hs IM MV GJ ID EL Tb hm h4 DJ eD T8 HE hl hp;go_enter func121,ntmps121;go_upto_region 1 with fail;(refine Ka ?_;intro V k0 k2 HB CX lf KF);(refine KJ ?_;intro PR);go_upto_region 3 with fail;go_wp2_with fail;refine K1P ?_;rintro e W1 ⟨g,o,c,rfl,hc,BX,_⟩;(refine Kh ?_;clear hc BX k0 k2 KF HB PR CX;intro d0 k0 k2 KF HB CX lf);(refine K1e ?_;intro ye yf);go_wp2_with (first|(refine JS rfl 101 _ rfl _ rfl 101 _ (0,0) _ k0 underlying101 rfl Ff ?_));clear yf ye;exact Lz
 ):p:=h
theorem N3(h:p:=by
  by_cases h4:n=4
  case neg=>(refine K1Y ?_;intro y0);clear hk IY GK LA hx hn hr hs IM MV GJ ID EL hm h4 h0 Ou;exact Lu
  case pos=>(refine K4w ?_;intro y0);(refine K0D ?_;intro G HM);clear hk IY GK LA hx hn hr hs IM MV GJ ID EL hm h4 h0 Ou;exact Lq
 ):p:=h
theorem N4(h:p:=by
  (refine xH ?_;intro z4 z5);(refine K1r ?_;intro CH HE E r T8);rw[<-T8] at CH E;clear hk IY GK LA hx hn hr hs IM MV GJ ID EL Tb hm h4 DJ eD T8 HE;go_enter func121,ntmps121;go_upto_region 1 with fail;(refine Ka ?_;intro V k0 k2 HB CX lf KF);exact Lx
 ):p:=h
theorem N6(h:p:=by
  obtain⟨t,dj,rfl,rfl,k0,k1,k2,hm,hti,htr,htb⟩:=hrel.out;have HTI:=Hd hti;have HTR:=Hd htr;have HTB:=Hd htb;obtain⟨a,ha⟩:=BN ((AL.MC t).1);rw[<-ha];have hrz:=htb.size;clear hti htr htb hrel S0
  cases hf:(AL.MC t).2.2
  case false=>exact My
  case true=>exact M7
 ):p:=h
theorem N8(h:p:=by
  go_enter func144,ntmps144;go_upto_region 1 with fail;(refine Ko ?_;intro V hV);(refine K08 ?_;intro k0 k1);(refine Kb ?_;intro HB);clear hV;exact M6
 ):p:=h
theorem N9(h:p:=by
  clear hk IY GK LA hx hn hr hs IM MV GJ ID EL Tb hm h4;exact Lu
 ):p:=h
theorem Na(h:p:=by
  (refine K2Q ?_;clear hk IY GK LA hx hn hr hs IM MV GJ ID EL hm h0 Ou DJ;intro E);exact M9
 ):p:=h
theorem Nb(h:p:=by
  rcases z45 s with⟨z4,z5⟩|⟨z4,z5⟩|⟨z4,z5⟩
  all_goals
   exact M4
 ):p:=h
theorem Nc(h:p:=by
  refine AU.cons rfl (λK hK=> ?_) (AU.nil)
  ·skip
   (refine Kj ?_;intro hle UB ud V5 CF hg JV h1);refine hK.out _ _ (λ_=>h1.s rfl rfl rfl) ?_;(refine K0h ?_;clear hK K h1 CF hg JV hle H4;intro H5);refine AU.cons rfl (λK hK=> ?_) (AU.nil)
   ·skip
    (refine Kg ?_;intro hle VB vd V6 CF hg JV h1);refine hK.out _ _ (λ_=>h1.s rfl rfl rfl) ?_;(refine K0X ?_;clear hK K h1 CF hg JV hle H5;intro H6);refine DC (i:=24) (v:= ?_) rfl Di Di Di rfl Di (λ_ _ _ h=>h) (Or.inl ⟨by rfl,?_⟩) ?_;rotate_left
    focus(intro w' BS;go_simp;(try with_reducible rfl))
    refine PU ?_;exact Mz
 ):p:=h
theorem Nd(h:p:=by
  refine AU.cons rfl (λK hK=> ?_) (AU.nil)
  ·skip
   (refine Kg ?_;intro hle VB vd V6 CF hg JV h1);refine hK.out _ _ (λ_=>h1.s rfl rfl rfl) ?_;(refine K0X ?_;clear hK K h1 CF hg JV hle H5;intro H6);refine DC (i:=24) (v:= ?_) rfl Di Di Di rfl Di (λ_ _ _ h=>h) (Or.inl ⟨by rfl,?_⟩) ?_;rotate_left
   focus(intro w' BS;go_simp;(try with_reducible rfl))
   refine PU ?_;exact Mz
 ):p:=h
theorem Nf(h:p:=by
  refine GI (i:=6) (v:= ?_) rfl Ff Ff Ff (λ_ _ _ h=>h) (Or.inl ⟨by rfl,?_⟩) Fq ?_;rotate_left
  focus(intro w' BS;(try dsimp only at BS);go_simp;(try with_reducible rfl))
  refine PU ?_;refine GI (i:=7) (v:= ?_) rfl Ff Ff Ff (λ_ _ _ h=>h) (Or.inl ⟨by rfl,?_⟩) Fq ?_;rotate_left
  focus(intro w' BS;(try dsimp only at BS);go_simp;(try with_reducible rfl))
  refine PU ?_;refine GI (i:=8) (v:= ?_) rfl Ff Ff Ff (λ_ _ _ h=>h) (Or.inl ⟨by rfl,?_⟩) Fq ?_;rotate_left
  focus(intro w' BS;(try dsimp only at BS);go_simp;(try with_reducible rfl))
  refine PU ?_;exact N0
 ):p:=h
theorem Ng(h:p:=by
  refine GI (i:=6) (v:= ?_) rfl Ff Ff Ff (λ_ _ _ h=>h) (Or.inl ⟨by rfl,?_⟩) Fq ?_;rotate_left
  focus(intro w' BS;(try dsimp only at BS);go_simp;(try with_reducible rfl))
  refine PU ?_;refine GI (i:=7) (v:=undef) rfl Ff Ff Ff (λ_ _ _ h=>h) (Or.inr ⟨by rfl,rfl⟩) Fq ?_;refine PU ?_;refine GI (i:=8) (v:=undef) rfl Ff Ff Ff (λ_ _ _ h=>h) (Or.inr ⟨by rfl,rfl⟩) Fq ?_;refine PU ?_;refine GI (i:=9) (v:=undef) rfl Ff Ff Ff (λ_ _ _ h=>h) (Or.inr ⟨by rfl,rfl⟩) Fq ?_;refine PU ?_;refine GI (i:=10) (v:=undef) rfl Ff Ff Ff (λ_ _ _ h=>h) (Or.inr ⟨by rfl,rfl⟩) Fq ?_;refine PU ?_;exact N1
 ):p:=h
theorem Nh(h:p:=by
  go_wp2_with (first|(refine JS rfl 101 _ rfl _ rfl 101 _ (0,0) _ j0 underlying101 rfl Ff ?_));(refine K1S ?_;clear j0 j1 Rx EV;intro w1 i0 i1 i2 IJ Vh);go_wp2_with (first|(refine OZ rfl 101 _ _ rfl _ _ rfl rfl 101 _ i2 Ff rfl (DI _) ?_));(refine K1G ?_;clear i0 i1 i2 Vh;intro V6 q0 q1 q2 T3 m hm);rw[<-hm] at q2 IJ⊢;have S0:=KEY.out V6 m q0 q1 q2 IJ T3.out;clear q0 q1 q2 T3 KEY hm;go_loopg [5,7] 5 (λkx v5 v7 wr=>Hid (oy w.heap.size m w l R kx v5 v7 wr))
  case atStart=>exact S0
  case round=>exact N6
 ):p:=h
theorem Ni(h:p:=by
  clear hK K;refine PU ?_;rw[<-hβ] at h1⊢;generalize World.alloc V2 _=V3 at h1⊢;(refine K1u ?_;clear h1 hβ H2;intro H3);refine AU.cons rfl (λK hK=> ?_) (AU.nil)
  ·skip
   (refine Ky ?_;intro hle PB pd V4 CF hg JV h1);refine hK.out _ _ (λ_=>h1.s rfl rfl rfl) ?_;clear hK K;refine PU ?_;have H4:=Hd h1;clear h1 CF hg JV hle H3;refine K0S ?_;exact Nc
 ):p:=h
theorem Nj(h:p:=by
  refine GI (i:=3) (v:= ?_) rfl Ff Ff Ff (λ_ _ _ h=>h) (Or.inl ⟨by rfl,?_⟩) Fq ?_;rotate_left
  focus(intro w' BS;(try dsimp only at BS);go_simp;(try with_reducible rfl))
  refine PU ?_;refine GI (i:=4) (v:= ?_) rfl Ff Ff Ff (λ_ _ _ h=>h) (Or.inl ⟨by rfl,?_⟩) Fq ?_;rotate_left
  focus(intro w' BS;(try dsimp only at BS);go_simp;(try with_reducible rfl))
  refine PU ?_;refine GI (i:=5) (v:= ?_) rfl Ff Ff Ff (λ_ _ _ h=>h) (Or.inl ⟨by rfl,?_⟩) Fq ?_;rotate_left
  focus(intro w' BS;(try dsimp only at BS);go_simp;(try with_reducible rfl))
  refine PU ?_;exact Nf
 ):p:=h
theorem Nk(h:p:=by
  refine hK.out _ _ (λ_=>h1.s rfl rfl rfl) ?_;clear hK K;refine PU ?_;rw[<-hβ] at h1⊢;generalize World.alloc V3 _=V4 at h1⊢;have H4:=Hd h1;clear h1 hβ H3;refine K0S ?_;exact Nc
 ):p:=h
theorem Nl(h:p:=by
  (refine K2C ?_;clear hK K h1 CF hg JV hle H3;intro H4);refine AU.cons rfl (λK hK=> ?_) (AU.nil)
  ·skip
   go_simp;have h1:=H4.out.mk3;obtain⟨β3,hβ⟩:=BN V4.heap.size;refine hK.out _ _ (λ_=>h1.s rfl rfl rfl) ?_;clear hK K;refine PU ?_;rw[<-hβ] at h1⊢;generalize World.alloc V4 _=V5 at h1⊢;have H5:=Hd h1;clear h1 hβ H4;refine K0E ?_;exact Nd
 ):p:=h
theorem Nm(h:p:=by
  refine GI (i:=5) (v:= ?_) rfl Ff Ff Ff (λ_ _ _ h=>h) (Or.inl ⟨by rfl,?_⟩) Fq ?_;rotate_left
  focus(intro w' BS;(try dsimp only at BS);go_simp;(try with_reducible rfl))
  refine PU ?_;exact Nf
 ):p:=h
theorem Nn(h:p:=by
  refine GI (i:=3) (v:= ?_) rfl Ff Ff Ff (λ_ _ _ h=>h) (Or.inl ⟨by rfl,?_⟩) Fq ?_;rotate_left
  focus(intro w' BS;(try dsimp only at BS);go_simp;(try with_reducible rfl))
  refine PU ?_;refine GI (i:=4) (v:= ?_) rfl Ff Ff Ff (λ_ _ _ h=>h) (Or.inl ⟨by rfl,?_⟩) Fq ?_;rotate_left
  focus(intro w' BS;(try dsimp only at BS);go_simp;(try with_reducible rfl))
  refine PU ?_;refine GI (i:=5) (v:= ?_) rfl Ff Ff Ff (λ_ _ _ h=>h) (Or.inl ⟨by rfl,?_⟩) Fq ?_;rotate_left
  focus(intro w' BS;(try dsimp only at BS);go_simp;(try with_reducible rfl))
  refine PU ?_;exact Ng
 ):p:=h
theorem Np(h:p:=by
  (refine K1M ?_;intro Ua);go_upto_region 17 with fail;refine Um (S:=(λw'=>w'.heap[w.heap.size]?=some (.cells (LJ s).toArray 101 (0,0))/\w'.cell? (Ad w.heap.size 20)=some (Iv s.start))) Ff ?_ (λhHeld=> ?_)
  ·(try dsimp only);exact⟨k0,Ua⟩
  refine GI (i:=0) (v:= .agg (LJ s).toArray) rfl Ff Ff Ff (λ_ _ _ h=>h) (CW Fk 101 _ rfl w.heap.size rfl 101 _ (0,0) _ (λw' h=>h.1) underlying101 rfl Ff) Fq ?_;refine PU ?_;refine GI (i:=1) (v:= ?_) rfl Ff Ff Ff (λ_ _ _ h=>h) (Or.inl ⟨by rfl,?_⟩) Fq ?_;rotate_left
  focus(intro w' BS;(try dsimp only at BS);go_simp;(try with_reducible rfl))
  refine PU ?_;refine GI (i:=2) (v:= ?_) rfl Ff Ff Ff (λ_ _ _ h=>h) (Or.inl ⟨by rfl,?_⟩) Fq ?_;rotate_left
  focus(intro w' BS;(try dsimp only at BS);go_simp;(try with_reducible rfl))
  refine PU ?_;exact Nj
 ):p:=h
theorem Nq(h:p:=by
  (refine K1M ?_;intro Ua);go_upto_region 17 with fail;refine Um (S:=(λw'=>w'.heap[w.heap.size]?=some (.cells (LJ s).toArray 101 (0,0))/\w'.cell? (Ad w.heap.size 20)=some (Iv s.start))) Ff ?_ (λhHeld=> ?_)
  ·(try dsimp only);exact⟨k0,Ua⟩
  refine GI (i:=0) (v:= .agg (LJ s).toArray) rfl Ff Ff Ff (λ_ _ _ h=>h) (CW Fk 101 _ rfl w.heap.size rfl 101 _ (0,0) _ (λw' h=>h.1) underlying101 rfl Ff) Fq ?_;refine PU ?_;refine GI (i:=1) (v:= ?_) rfl Ff Ff Ff (λ_ _ _ h=>h) (Or.inl ⟨by rfl,?_⟩) Fq ?_;rotate_left
  focus(intro w' BS;(try dsimp only at BS);go_simp;(try with_reducible rfl))
  refine PU ?_;refine GI (i:=2) (v:= ?_) rfl Ff Ff Ff (λ_ _ _ h=>h) (Or.inl ⟨by rfl,?_⟩) Fq ?_;rotate_left
  focus(intro w' BS;(try dsimp only at BS);go_simp;(try with_reducible rfl))
  refine PU ?_;exact Nn
 ):p:=h
theorem Nr(h:p:=by
  refine K3Y ?_;refine AU.cons rfl (λK hK=> ?_) (AU.cons rfl (λK hK=> ?_) (AU.nil))
  ·skip
   (refine K0q ?_;intro hle UB ud V4 CF hg JV h1);refine hK.out _ _ (λ_=>h1.s rfl rfl rfl) ?_;exact Nl
  ·skip
   go_simp;have h1:=H3.out.mk3;obtain⟨β3,hβ⟩:=BN V3.heap.size;exact Nk
 ):p:=h
theorem Ns(h:p:=by
  refine GI (i:=1) (v:= ?_) rfl Ff Ff Ff (λ_ _ _ h=>h) (Or.inl ⟨by rfl,?_⟩) Fq ?_;rotate_left
  focus(intro w' BS;(try dsimp only at BS);go_simp;(try with_reducible rfl))
  refine PU ?_;refine GI (i:=2) (v:= ?_) rfl Ff Ff Ff (λ_ _ _ h=>h) (Or.inl ⟨by rfl,?_⟩) Fq ?_;rotate_left
  focus(intro w' BS;(try dsimp only at BS);go_simp;(try with_reducible rfl))
  refine PU ?_;refine GI (i:=3) (v:= ?_) rfl Ff Ff Ff (λ_ _ _ h=>h) (Or.inl ⟨by rfl,?_⟩) Fq ?_;rotate_left
  focus(intro w' BS;(try dsimp only at BS);go_simp;(try with_reducible rfl))
  refine PU ?_;refine GI (i:=4) (v:=undef) rfl Ff Ff Ff (λ_ _ _ h=>h) (Or.inr ⟨by rfl,rfl⟩) Fq ?_;refine PU ?_;exact Nm
 ):p:=h
theorem Nu(h:p:=by
  refine hK.out _ _ (λ_=>h1.s rfl rfl rfl) ?_;clear hK K;refine PU ?_;rw[<-hβ] at h1⊢;generalize World.alloc V1 _=V2 at h1⊢;have H2:=Hd h1;clear h1 hβ H1;refine CQ (rs:=[8]) Di Ef ?_;refine AU.cons rfl (λK hK=> ?_) (AU.nil)
  ·skip
   go_simp;have h1:=H2.out.mk1;obtain⟨β1,hβ⟩:=BN V2.heap.size;refine hK.out _ _ (λ_=>h1.s rfl rfl rfl) ?_;exact Ni
 ):p:=h
theorem Nv(h:p:=by
  (refine K0d ?_;intro hle PB pd V3 CF hg JV h1);refine hK.out _ _ (λ_=>h1.s rfl rfl rfl) ?_;clear hK K;refine PU ?_;have H3:=Hd h1;clear h1 CF hg JV hle H2;refine K46 ?_;refine AU.cons rfl (λK hK=> ?_) (AU.nil)
  ·skip
   go_simp;have h1:=H3.out.mk2;obtain⟨β2,hβ⟩:=BN V3.heap.size;exact Nk
 ):p:=h
theorem Nw(h:p:=by
  refine hK.out _ _ (λ_=>h1.s rfl rfl rfl) ?_;exact Ni
 ):p:=h
end Go.Proofs.YtdocdgcdldpagaaGreat

/- The law of a net's calls holds: 'skylanternlaw38.AirnetActs' returns true at every input. No conditions. -/
import Derived.Test.YtdocdgcdldpagaaGreatAw28
open Go.Proofs.Tryz
namespace Go.Proofs.YtdocdgcdldpagaaGreat.lawAirnetActs
open Go.ChangeShapes Go.WideShapes Go.ChangeAt Go.RowKit Go.Joins
set_option linter.unusedVariables false
set_option linter.unusedSimpArgs false
attribute [local go_sem↓] Go.wp_at_zero Go.wp_at_succ
set_option maxHeartbeats 8000000
set_option maxRecDepth 100000
def LR(B C b p i:Nat)(st:Nt.St)(w wr:World):Prop:=Below w.heap.size w wr/\Nt.LG i st/\∃m m2,Pr wr B C b i p m m2 st st
theorem uO{r:Nt.Ru}{n m:Nat}(h:Nt.Qc r n m=true):n<=70/\m<=70:=by
 unfold Nt.Qc at h;simp at h;omega
theorem walk(Zx:Nt.Ru)(OA0:Option Addr)(oc0:Nat)(TA0:Option Addr)(tc0:Nat)(a1:Option Addr)(Yn OC:Nat)(l1:List Nt.Act)(w:World)(wo0:Ri w w.heap.size OA0 Zx.CJ.length Zx.CJ)(wt0:Ri w w.heap.size TA0 Zx.BL.length Zx.BL)(ro0:jJ OA0 Zx.CJ.length oc0)(rt0:jJ TA0 Zx.BL.length tc0)(w1:Nra w w.heap.size a1 Yn l1)(r1:jJ a1 Yn OC):
  Calls prog 4 #[Rz Zx OA0 Zx.CJ.length oc0 TA0 Zx.BL.length tc0,.slice a1 Yn OC] w (IL (.bool true) w):=by
 obtain⟨n,hn⟩:=BN Zx.CJ.length;obtain⟨m,hm⟩:=BN Zx.BL.length;rw[<-hn] at wo0;rw[<-hm] at wt0;obtain⟨sm,XN⟩:=BN (Nt.Qc Zx n m);have HRU:=Hd (And.intro hn hm);have SM:=Hd (λ(W:World)=>uN Zx n m OA0 oc0 TA0 tc0 W);have MD:=Hd (show ∀W:World,Below w.heap.size w W->n<=70->m<=70->Calls prog 12 #[Rz Zx OA0 n oc0 TA0 m tc0] W (oz Zx W) from λW hW h7 h8=>A0C Zx n m OA0 oc0 TA0 tc0 W hn.symm hm.symm h7 h8 ((wo0.below hW (Lr _)).more hW.size) ((wt0.below hW (Lr _)).more hW.size));have SH:=Hd (show ∀(W:World)(B C b i p:Nat)(m1:NM)(m2:RN)(st:Nt.St),Pr W B C b i p m1 m2 st st->Nt.LG i st->i<=100->Calls prog 14 #[Pt b,Pt p] W (IL (.bool true) W) from λW B C b i p m1 m2 st h1 h2 h3=>fD h1.net h2 h1.ref.n El);rw[<-hn,<-hm];rw[<-XN] at SM;rw[QV] at SM MD⊢;have HSM:=Hd XN;have W1:=Hd w1;have HL1:=Hd w1.1;clear hn hm XN wo0 wt0 ro0 rt0 w1 r1;unfold aC;have KN:=Hd (λ(W:World)=>qA W)
 cases sm
 ·clear MD SH;exact Hq
 by_cases h20:20<Yn
 ·(have i20:(20:Int)<(Yn:Int):=by omega);clear h20;clear MD SH;exact Hq
 (have i20:¬(20:Int)<(Yn:Int):=by omega);have h7:=uO HSM.out.symm;have MD:=Hd (λ(W:World)(hW:Below w.heap.size w W)=>MD.out W hW h7.1 h7.2);clear h7
 cases hv:Nt.MP Zx
 ·have MD:=Hd (show ∀W:World,Below w.heap.size w W->Calls prog 12 #[.agg (aC Zx OA0 n oc0 TA0 m tc0).toArray] W (IL (.tuple #[.pointer none,.pointer none,.bool true]) W) from λW hW=>(MD.out W hW).mono λe w' ⟨hb,hp⟩=>by
   rcases hp with⟨_,h1⟩|⟨h1,_⟩
   ·exact⟨h1,hb⟩
   ·rw[hv] at h1;cases h1)
  unfold aC at MD;clear hv;go_enter func4,ntmps4;go_upto_region 1 with fail;(refine Ko ?_;intro V hV);(refine K2j ?_;intro k0);(refine KX ?_;intro HB);clear hV;go_upto_region 3 with(first
   |(refine JS rfl 28 _ rfl w.heap.size rfl 28 _ (0,0) _ k0 underlying28 rfl Ff ?_)
   |(go_at_call 11;refine(SM.out _).mono ?_;rintro e w7 ⟨rfl,Tt⟩;have Vh:=JI HB Tt;have k2:=GH k0 Tt;clear Tt))
  go_upto_region 4 with(first
   |(refine JS rfl 28 _ rfl w.heap.size rfl 28 _ (0,0) _ k2 underlying28 rfl Ff ?_)
   |(go_at_call 12;refine(MD.out _ Vh.out).mono ?_;rintro _ w8 ⟨rfl,nJ⟩))
  have ZU:=JI Vh nJ;have HZ7:=Hd Vh.out.size;clear k2 k0 nJ MD SM Vh HB;clear SH;go_wp2_with (go_at_call 8;refine(KN.out _).mono ?_;rintro _ w9 ⟨rfl,Uv⟩;have XK:=JI ZU Uv;clear Uv);go_ret;exact⟨rfl,XK.out⟩
 ·have MD:=Hd (show ∀W:World,Below w.heap.size w W->Calls prog 12 #[.agg (aC Zx OA0 n oc0 TA0 m tc0).toArray] W λe w'=>∃b m p m2 B C,e= .returned (.tuple #[Pt b,Pt p,.bool true])/\Below W.heap.size W w'/\W.heap.size<=B/\B<=C/\C<=w'.heap.size/\BQ w' B b m 0 (Nt.new Zx)/\(∀i,NF b m i->i<C)/\IX w' C p m2 (Nt.new Zx) from λW hW=>(MD.out W hW).mono λe w' ⟨hb,hp⟩=>by
   rcases hp with⟨h1,_⟩|⟨_,b,m,p,m2,B,C,h1,h2⟩
   ·rw[hv] at h1;cases h1
   ·exact⟨b,m,p,m2,B,C,h1,hb,h2⟩)
  unfold aC at MD;have HV:=Hd hv;clear hv;go_enter func4,ntmps4;go_upto_region 1 with fail;(refine Ko ?_;intro V hV);(refine K2j ?_;intro k0);(refine KX ?_;intro HB);clear hV;go_upto_region 3 with(first
   |(refine JS rfl 28 _ rfl w.heap.size rfl 28 _ (0,0) _ k0 underlying28 rfl Ff ?_)
   |(go_at_call 11;refine(SM.out _).mono ?_;rintro e w7 ⟨rfl,Tt⟩;have Vh:=JI HB Tt;have k2:=GH k0 Tt;clear Tt))
  go_upto_region 4 with(first
   |(refine JS rfl 28 _ rfl w.heap.size rfl 28 _ (0,0) _ k2 underlying28 rfl Ff ?_)
   |(go_at_call 12;refine(MD.out _ Vh.out).mono ?_;rintro _ w8 ⟨b,m1,p,m2,B,C,rfl,nJ,hB,hBC,hC,ae,hnf,A0T⟩))
  have ZU:=JI Vh nJ;have HZ7:=Hd Vh.out.size;clear k2 k0 nJ MD SM Vh HB;have HP:=Hd (Pr.made ae hnf A0T hBC hC);have HI:=Hd (show Nt.LG 0 (Nt.new Zx) from Nt.LG.new HV.out);obtain⟨s0,tB⟩:=BN (Nt.new Zx);rw[<-tB] at HP HI;have HR:=Hd (show LR B C b p 0 s0 w w8 from⟨ZU.out,HI.out,_,_,HP.out⟩);have HBL:=Hd (show w.heap.size<=B from Lt HZ7.out hB);clear ae hnf A0T hBC hC tB HP HI hB;go_upto_region 9 with fail;go_loopw[8] (λs8 wr=>∃(i:Nat)(st:Nt.St),s8=Iv i/\i<=Yn/\Hid (LR B C b p i st w wr)) (λs8 _=>Yn-(intOf s8).toNat)
  case atStart=>exact⟨0,s0,by go_num,Pe _,HR⟩
  case round=>
   obtain⟨i,st,rfl,hi,Tz⟩:=hrel
   by_cases EK:i<Yn
   ·(have U3:(i:Int)<(Yn:Int):=by omega);(refine K2o ?_;intro OU wi);obtain⟨g,o,hA1,hg,hc⟩:=W1.out.2.1 Ft;obtain⟨y,hy⟩:=BN (l1.getD i Nt.A3K);have eF:=hc i EK;rw[<-hy] at eF;have HCC:=Hd (show wr.rangeAt g (o+i*4) y.cells from λj u hu=>(Tz.out.1.cell (p:=(Ad g (o+i*4+j))) hg).trans (eF j u hu));have HYL:=Hd (show y.cells.length=4 from rfl);obtain⟨_,h2,m3,m4,h3⟩:=Tz.out;have AC:=Hd (A3J h3 h2 Ft Ee y);clear hc eF hy hg h2 h3;subst hA1;go_upto_region 12 with(first
     |(refine wpList_load_mid rfl 39 _ rfl g (o+i*4) rfl y.cells _ HCC.out underlying39 rfl Ff ?_)
     |(go_at_call 13;refine AC.out.mono ?_;rintro e w9 ⟨rfl,Uv,hi9,m5,m6,hp9⟩;have XK:=Hd Uv;have HI9:=Hd hi9;have HP9:=Hd hp9;have SH9:=Hd (SH.out _ _ _ _ _ _ _ _ _ hp9 hi9 Ft);clear Uv hi9 hp9)
     |(go_at_call 14;refine SH9.out.mono ?_;rintro e si ⟨rfl,A5D⟩))
    have HRN:=Hd (show LR B C b p (i+1) (Nt.Sj st y) w si from⟨(Tz.out.1.trans (XK.out.mono HBL.out)).trans (A5D.mono (Lt Tz.out.1.size XK.out.size)),HI9.out,_,_,HP9.out.below A5D⟩);clear A5D HP9 SH9 XK HI9 AC HCC Tz;go_wp2_with fail;go_roundw
    case rel=>exact⟨i+1,Nt.Sj st y,by first|rfl|(rw[wi];rfl),by omega,HRN⟩
    case measure=>simp[intOf];omega
   ·(obtain rfl:i=Yn:=by omega);(have U3:¬((i:Int)<(i:Int)):=by omega);clear EK hi;go_wp2_with (go_at_call 8;refine(KN.out _).mono ?_;rintro _ w11 ⟨rfl,A7B⟩;have A9X:=Hd (Tz.out.1.trans (A7B.mono Tz.out.1.size));clear A7B);go_ret;exact⟨rfl,A9X.out⟩
theorem own:ownKnob prog.godebug=none:=by kernel_rfl
theorem laidOut:laidOutB prog=true:=by kernel_rfl
set_option maxRecDepth 100000 in
theorem lifted(os:Os)(started:os.Started)(H:Type)(enc:TypeId×Value->H):
  ReturnsInHanded {} checked os 4 .any (Rows.airnetActsSpec.pre6 enc prog f4 Rows.airnetActsRow.domain false) (Rows.airnetActsSpec.post enc prog f4 false true false false):=by
 refine returnsInHanded_of_change (C:=checked) own started Ff func4
  (ChangeSpec.witness6 (enc:=enc) (C:=checked) false ⟨#[],#[.agg Z4z,.slice none 0 0],[]⟩ 8 Ff Ff Ff Ff) ?_
 intro W base args ds gs before A48 hW hcnd _;have A5m:∀(j:Nat) t v,f4.params[j]?=some t->args[j]?=some v->Value.okWide prog W .any base t v:=A48;have hW':=hW;obtain⟨p,q,hA0,hV,rfl,hfz,hnd⟩:=hW;have hA:DataW.TrodAll enc prog W 0 (λ_=>true) true f4.params.toList args.toList ds p:=hA0;rw[params4] at hA A5m;obtain⟨v0,vs0,d0,ds0,p0,q0,A9Y,rfl,rfl,h0,r0⟩:=trodAll_cons hA;obtain⟨v1,vs1,d1,ds1,p1,q1,rfl,rfl,rfl,h1,r1⟩:=trodAll_cons r0;obtain⟨rfl,rfl,rfl⟩:=trodAll_nil r1;(obtain rfl:args= #[v0,v1]:=by cases args;simp_all);obtain⟨rfl,rfl⟩:=trodVars_none hV;have k0:=h0;(have lt0:∀x∈p0,x.block<W.heap.size:=by obtain⟨m,hm⟩:=k0;exact DataW.trod_lt m _ _ _ hm);obtain⟨Zx,OA0,oc0,TA0,tc0,rfl,wo0,wt0,ro0,rt0⟩:=yY (A5m 0 28 v0 rfl rfl) h0;have k1:=h1;(have lt1:∀x∈p1,x.block<W.heap.size:=by obtain⟨m,hm⟩:=k1;exact DataW.trod_lt m _ _ _ hm);obtain⟨a1,Yn,OC,rfl⟩:=okWide_slice underlying35 (A5m 1 35 v1 rfl rfl);obtain⟨Aab,hf1⟩:=h1;obtain⟨xa1,A6G,A6H,l1,xe1,ro1,wo1⟩:=A0z hf1;(obtain⟨rfl,rfl,rfl⟩:a1=xa1/\Yn=A6G/\OC=A6H:=by injection xe1 with e1 e2 e3;exact⟨e1,e2,e3⟩);clear hA0 A48;(refine(walk Zx OA0 oc0 TA0 tc0 a1 Yn OC l1 W wo0 wt0 ro0 rt0 wo1 ro1).mono λe W' ⟨he,bel⟩=> ?_);subst he;exact⟨_,rfl,_,_,_,[],_,[],hW',trodAll_mk1 (shut_bool underlying4 _),(trodAll_cons_mk (Below.trod laidOut Ff (Z8 Ff) k0 bel lt0) (trodAll_cons_mk (Below.trod laidOut Ff (Z8 Ff) k1 bel lt1) trodAll_mk0)),rfl,bel.frame _,λh=>by cases h⟩
theorem over:Rows.airnetActsRow.holds Tryz.pinned (OpenSpec.ofChange Rows.airnetActsSpec):=
 OpenClaim.holds_of_wide 4 f4 rfl rfl rfl rfl rfl rfl rfl ⟨rfl,rfl,rfl,rfl,rfl⟩ rfl rfl rfl rfl rfl Ff func4 Ff
  (Z8 Ff) (by unfold Func.isWrapper;first|(rw[AW F2];kernel_rfl)|(rw[AO F2];exact⟨rfl,rfl⟩))
  (λos started H enc _=>lifted os started H enc)
theorem proved:Rows.AirnetActsSaid:=over
end Go.Proofs.YtdocdgcdldpagaaGreat.lawAirnetActs

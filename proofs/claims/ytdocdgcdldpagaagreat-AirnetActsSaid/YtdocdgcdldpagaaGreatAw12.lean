import Derived.Test.YtdocdgcdldpagaaGreatAw11
open Go.Proofs.Tryz
namespace Go.Proofs.YtdocdgcdldpagaaGreat
set_option maxHeartbeats 64000000
set_option maxRecDepth 100000
set_option linter.all false
section
open RowKit
attribute [local go_sem ↓] wp_at_zero wp_at_succ
theorem gB:(prog.info? 207).map (λi=>(i.zero,i.size,i.bytes))=some (some (.agg #[.bool false,Iv 0,Iv 0]),3,24):=by kernel_rfl
theorem A6P(x:Int)(A:Option Addr)(W:World)(h:Ri W W.heap.size A 2 [x,x])(hx:0<=x/\x<=4294967295):
  Calls prog 112 #[.slice A 2 2] W λe w'=>∃A' IA,e= .returned (.tuple #[.slice A' 8 IA,Iv 0])/\Ow w' W.heap.size A' 8 IA (AQ.IZ x++AQ.IZ x)/\Below W.heap.size W w':=by
 (have Qn:AQ.MI [x,x]=true:=by simp[AQ.MI,AQ.PM.2 hx]);refine(lI A 2 2 [x,x] W Ft h).mono ?_;rintro e w' (⟨h1,_⟩|⟨_,A',IA,rfl,hO,hB⟩)
 ·rcases h1 with h1|h1
  ·omega
  ·rw[Qn] at h1;cases h1
 ·exact⟨A',IA,rfl,hO,hB⟩
theorem va(s:AJ.St)(hs:AJ.Inv s)(D:Option Addr)(dl dc:Nat)(A:Option Addr)(ac:Nat)(S:Option Addr)(sc:Nat)(now k f t q:Int)(bb oo cap:Nat)(d:List Int)(x:Int)(w:World)(hd:Rd w w.heap.size (some (Ad bb oo)) 1 d)(wQ:d.getD 0 0=x)(GZ:dl=(AJ.data s).length)(h:Q9 w D dc A ac S sc s)(he:AJ.FU s now ⟨k,f,t,q,d⟩=0)
  (hk:k≠8)(hq:x<=7)(i:Nat)(hfi:f=(i:Int)+1):
  Calls prog 86 #[.agg #[Iv s.again,Iv s.st,Iv s.now,Iv s.seq,.bool s.some,Iv s.prog,Iv s.cmd,.slice D dl dc,Iv s.BB,.slice A s.n ac,.slice S s.n sc],Iv now,.agg #[Iv k,Iv f,Iv t,Iv q,.slice (some (Ad bb oo)) 1 cap]] w (JA D A (AJ.reported {s with now:=now} (i+1) x now) [⟨7,0,f,q,AQ.IZ now++AQ.IZ now⟩] 0 w):=by
 obtain⟨hv,ht,hf,YN⟩:=Oh he;simp only[hd.1] at hv ht hf;(refine jN ?_;intro TM);have VA:=Hd (λ(W:World)=>EJ k f t q (some (Ad bb oo)) 1 cap W Ft);rw[YN] at TM;rw[hv] at VA;(refine K0U ?_;intro H X9 ZJ z X0 hx b' o' e' aK Xl);(injection e' with e';injection e' with e1 e2);(subst e1;subst e2);(refine K3r ?_;intro cd oM);rw[wQ] at cd oM;(refine K1O ?_;intro wx CD LX YO);obtain⟨i0,OU,RR,IJ,Ot⟩:=MQ gB;(have z8:(k==8)=false:=by rw[Bf];exact hk);(have zx:decide (7<x)=false:=by rw[eU];omega);(have U3:i<s.n:=by omega);have Pj:=AJ.QS YN;have nz:=hs.now;have HNW:=Hd (show 0<=now/\now<=3600000 by omega);have PN:=Hd (λ(W:World)(A:Option Addr)(hW:Ri W W.heap.size A 2 [now,now])=>A6P now A W hW Ft);have HFI:=Hd hfi;(have wf:IntKind.i64.wrap (f-1)=(i:Int):=by rw[hfi,GF _ Ft];omega);have HSL:=Hd hs.seen;clear Xl cd h GZ he hv ht hf YN hs hd hx wQ hk hfi Pj nz;go_enter func86,ntmps86;go_wp2_with fail;(refine Ko ?_;intro V hV);(refine KT ?_;intro k0);(refine K3T ?_;intro k1);(refine K4g ?_;clear hV k0 k1;intro w1 j0 j1 j2 eI);(have BH:=GN j0;have la:=BG j0);(have CI:=OH j1;have lb:=BG j1);(have LZ:=GN j2;have lc:=BG j2);go_wp2_with fail;(refine K4z ?_;intro tx w2 YU k0 k1 k2 tL);(clear BH);(clear CI);(clear LZ);clear la lb lc j0 j1 j2 YU eI tx;(have BH:=GN k0;have la:=BG k0);(have CI:=OH k1;have lb:=BG k1);(have LZ:=GN k2;have lc:=BG k2);(refine K3L ?_;intro c2);have XH:=Hd tL;go_wp2_with (at_builtin;refine BD _ rfl (.const (.slice none 0 0)) (.tmp 104) _ rfl w.heap.size 207 i0 _ 3 24 underlying49 OU RR IJ Ot rfl Ft (.slice none 0 0) 0 [] rfl (Ta _ _ _ _) _ S s.n sc (S6 s.seen) rfl ((H.out.sr.below (B:=w.heap.size) A9 (Lr _)).reads) (vv _) Dk Ft C6 ?_;intro v5 w5 Tq YR nL;simp only[PL,List.nil_append] at Tq;obtain⟨g5,c5,rfl,A30,A5w⟩:=Tq.form Ft;have hBP:Below w.heap.size w w5:=Xt (show Below w.heap.size w _ from A9) YR C8 (λg hg=>by simp[Value.ownBlock] at hg);have e0:w5.heap[w.heap.size]?=some (.cells #[Iv s.again,Iv s.st,Iv now,Iv s.seq,.bool s.some,Iv s.prog,Iv s.cmd,.slice D dl dc,Iv s.BB,.slice A s.n ac,.slice S s.n sc] 51 (0,0)):=(YR.block w.heap.size C0 Ea).trans Fl;have e1:w5.heap[w.heap.size+1]?=some (.cells #[Iv k,Iv f,Iv t,Iv q,.slice (some (Ad bb oo)) 1 cap] 147 (0,0)):=(YR.block (w.heap.size+1) Bz Ea).trans Af;have e2:w5.heap[w.heap.size+2]?=some (.cells aS 51 (0,0)):=(YR.block (w.heap.size+2) Bw Ea).trans Af;have yk:=Hd ((Row.GR Tq).more (Pe _));have HBP:=Hd hBP;have HG5:=Hd (show w.heap.size<=g5 from A30);(have rC:=GN e0;have ld:=BG e0);clear Tq YR nL hBP);have AbT:=((BO HBP.out).1 bb oo aK).trans CD.out;(refine K3j ?_;intro wX A32 A31);have CF:=yk.out;obtain⟨g',o',cur,he',_,_,hcg,A7j,A7t,A4d,A4g,jk,_⟩:=CF.some_ Ft;(injection he' with he';injection he' with e1' e2');(subst e1';subst e2');obtain⟨v0,kk0⟩:∃v,w5.cell? (Ad g5 (0+(i*3+0)))=some v:=⟨_,jk (i*3+0) _ Ba⟩;obtain⟨v1,kk1⟩:∃v,w5.cell? (Ad g5 (0+(i*3+1)))=some v:=⟨_,jk (i*3+1) _ Ba⟩;obtain⟨v2,kk2⟩:∃v,w5.cell? (Ad g5 (0+(i*3+2)))=some v:=⟨_,jk (i*3+2) _ Ba⟩;simp only[PL,Nat.add_zero] at kk0 kk1 kk2;have zf0:=AE hcg (i*3);have zf1:=AE hcg (i*3+1);have zf2:=AE hcg (i*3+2);have HCG:=Hd hcg;have HF5:=Hd (show s.n<=c5/\c5<=maxLen/\0+c5*3<=cur.size/\(cur.toList.drop 0).take (s.n*3)=S6 s.seen from⟨A7j,A7t,A4d,A4g⟩);(have hwi:(i:Int)<(s.n:Int):=by omega);clear BH;clear CI;clear LZ;clear la lb lc k0 k1 k2 hcg A7j A7t A4d A4g jk CF c2 tL;have CI:=OH e1;have lb:=BG e1;go_upto_region 21 with fail;go_region;go_wp2_with fail;obtain⟨V2,hV2⟩:=BN (w5.setCell (Ad w.heap.size 10) (.slice (some (Ad g5 0)) s.n c5));obtain⟨V3,hV3⟩:=BN (((V2.setCell (Ad g5 (i*3)) (.bool true)).setCell (Ad g5 (i*3+1)) (Iv x)).setCell (Ad g5 (i*3+2)) (Iv now));rw[<-hV2,<-hV3];(have a0:V2.heap[w.heap.size]?=some (.cells #[Iv s.again,Iv s.st,Iv now,Iv s.seq,.bool s.some,Iv s.prog,Iv s.cmd,.slice D dl dc,Iv s.BB,.slice A s.n ac,.slice (some (Ad g5 0)) s.n c5] 51 (0,0)):=by rw[hV2];exact AP e0 10 _);(have a1:V2.heap[w.heap.size+1]?=some (.cells #[Iv k,Iv f,Iv t,Iv q,.slice (some (Ad bb oo)) 1 cap] 147 (0,0)):=by rw[hV2];exact Af);(have a2:V2.heap[w.heap.size+2]?=some (.cells aS 51 (0,0)):=by rw[hV2];exact Af);(have a5:V2.heap[g5]?=some (.cells cur 207 (0,0)):=by rw[hV2];exact CV HCG.out wX _);(have YU:Below w.heap.size w V2:=by rw[hV2];exact HBP.out.setCell (Lr _) _);have hV3':V3=V2.setCells g5 (i*3) (Xs (true,x,now)):=hV3;(have hvk:AG (λj=>j=g5) V2 V3:=by rw[hV3'];exact OL g5 _ _ _ _ (AG.refl _ _));(have b5:V3.heap[g5]?=some (.cells (XW cur (i*3) (Xs (true,x,now))) 207 (0,0)):=by rw[hV3'];exact Qd g5 _ _ _ _ _ a5);have b0:=AR a0 hvk (λe=>wX e.symm);have b1:=AR a1 hvk (λe=>A32 e.symm);have b2:=AR a2 hvk (λe=>A31 e.symm);(have VF:V3.heap.size=w5.heap.size:=by rw[hV3,hV2];simp[World.setCell]);have hB3:Below w.heap.size w V3:=YU.trans (hvk.below (λj _ hj=>by have:=HG5.out;omega) YU.size);have HSR:=Hd (show Row V3 0 207 3 (some (Ad g5 0)) s.n c5 (S6 (s.seen.set i (true,x,now))) from by
  obtain⟨q1,q2,q3,q4⟩:=HF5.out;have hm3:s.n*3<=c5*3:=cg _ q1;refine Row.FK b5 (Pe _) q1 q2 (by rw[QJ];exact q3) ?_;have:=lS cur 0 s.n i s.seen (true,x,now) q4 HSL.out U3 Ft;rw[PL] at this;exact this)
 have P6:=Hd hB3;have oW:=Hd VF;(have hRi:Ri (V3.alloc (.cells #[Iv now,Iv now] 3)) (V3.alloc (.cells #[Iv now,Iv now] 3)).heap.size (some (Ad w5.heap.size 0)) 2 [now,now]:=by have h0:=HNW.out;have:=Ri.A6W V3 [now,now] (by intro y hy;simp at hy;omega);rw[VF] at this;exact this.more Fp);have Tz:=Hd (show Ri (V3.alloc (.cells #[Iv now,Iv now] 3)).drew (V3.alloc (.cells #[Iv now,Iv now] 3)).drew.heap.size (some (Ad w5.heap.size 0)) 2 [now,now] from hRi);clear rC;clear CI;clear ld lb hV2 hV3 hV3' a0 a1 a2 a5 YU hvk b5 hB3 VF hRi e0 e1 e2 kk0 kk1 kk2 zf0 zf1 zf2;refine(PN.out _ _ Tz.out).mono ?_;rintro e wA ⟨A8,c8,rfl,hO8,x9⟩;have j0:=AH (q:=w.heap.size) (FX (AI b0 _)) x9 (by have:=BG b0;simp;omega);have j1:=AH (q:=w.heap.size+1) (FX (AI b1 _)) x9 (by have:=BG b1;simp;omega);have j2:=AH (q:=w.heap.size+2) (FX (AI b2 _)) x9 (by have:=BG b2;simp;omega);(refine K1w ?_;intro XJ);have HO8:=Hd (show Ow wA w.heap.size A8 8 c8 (AQ.IZ now++AQ.IZ now) from hO8.more (by have:=P6.out.size;simp;omega));(have hwA:w.heap.size<=wA.heap.size:=by have:=P6.out.size;have:=XJ.out.size;omega);(refine K4u ?_;intro BH la CI lb LZ lc);clear b0 b1 b2 x9 hO8;go_wp2_with fail;go_region;go_wp2_with fail;generalize hVf:World.setCell _ _ _=Vf;(have hf:Vf.heap[w.heap.size+2]?=some (.cells #[Iv s.again,Iv s.st,Iv now,Iv s.seq,.bool s.some,Iv s.prog,Iv s.cmd,.slice D dl dc,Iv s.BB,.slice A s.n ac,.slice (some (Ad g5 0)) s.n c5] 51 (0,0)):=by rw[<-hVf];exact Fl);(have hK:AG (λj=>j=w.heap.size+2) wA Vf:=by rw[<-hVf];(repeat(first|with_reducible exact AG.refl _ _|(with_reducible refine AG.Ui ?_ _ _)|(with_reducible refine AG.drew ?_)|(with_reducible refine AG.drewN ?_ _)|(with_reducible refine AG.alloc ?_ _))));(have hzf:Vf.heap.size=wA.heap.size:=by rw[<-hVf];simp[World.setCell]);clear hVf;clear BH;clear CI;clear LZ;clear la lb lc;(have aL:∀j:Nat,j=w.heap.size+2->j<wA.heap.size->Ty wA j 51:=λj hj _=>by rw[hj];exact⟨_,j2⟩);have hBf:Below w.heap.size w Vf:=(P6.out.trans (XJ.out.mono P6.out.size)).trans (hK.below (λj _ hj=>by omega) hwA);(have hqA:Q9 wA D dc A ac (some (Ad g5 0)) c5 (AJ.reported {s with now:=now} (i+1) x now):=by have h1:=H.out.below (P6.out.trans (XJ.out.mono P6.out.size)) (Lr _);exact⟨h1.dr,h1.ar,HSR.out.below XJ.out (Lr _)⟩);have hqF:=Hd ((hqA.Tp hK (λj hj hl=>⟨_,aL j hj hl,by decide,by decide,by decide⟩)).alloc (.cells #[Iv 7,Iv 0,Iv f,Iv q,.slice A8 8 c8] 147));have FZ:=mB (base:=w.heap.size) (e:=147) (size:=5) Vf #[Iv 7,Iv 0,Iv f,Iv q,.slice A8 8 c8] 1 Ft Ee rfl;rw[hzf] at FZ;have hO9:Ow Vf w.heap.size A8 8 c8 (AQ.IZ now++AQ.IZ now):=⟨HO8.out.1.kept (row:=some (w.heap.size+2)) ⟨hK.os,hK.tape,hK.output,hK.size,λj hj LX=>hK.block j hj (λe=>LX (by rw[e]))⟩ (by
  rcases HO8.out.form with⟨h1,_⟩|⟨g,h1,_,hg,_⟩
  ·left;rw[h1];rfl
  ·right;rw[h1];intro e;simp only[Value.ownBlock,pW] at e;obtain⟨cur,hc,_⟩:=(show Ow wA w.heap.size (some (Ad g 0)) 8 c8 (AQ.IZ now++AQ.IZ now) by rw[<-h1];exact HO8.out).block;exact(aL g e hg).ne ⟨_,hc⟩ Fj rfl),HO8.out.2⟩
 have HO9:=Hd hO9;have A8S:=Hd FZ;have HBF:=Hd hBf;have eZ:w.heap.size+2<Vf.heap.size:=BG hf;(refine uo ?_;intro IK lm);clear hqA hO9 FZ hBf hK aL hf j0 j1 j2;refine IT (v:= .tuple #[.agg #[Iv s.again,Iv s.st,Iv now,Iv s.seq,.bool s.some,Iv s.prog,Iv s.cmd,.slice D dl dc,Iv s.BB,.slice A s.n ac,.slice (some (Ad g5 0)) s.n c5],.slice (some (Ad wA.heap.size 0)) 1 1,Iv 0]) (by simp[results,results86,go_sem,IK,eZ]) rfl ⟨_,D,dc,A,ac,some (Ad g5 0),c5,by rw[X9.out];rfl,?_,⟨[⟨⟨7,0,f,q,AQ.IZ now++AQ.IZ now⟩,A8,c8⟩],rfl,?_,λy hy=> ?_⟩,?_,λg hg=> .inl hg,λg hg=> .inl hg⟩
 ·first|exact hqF.out|exact hqF.out.drew
 ·first|exact A8S.out|exact A8S.out.drew
 ·rw[List.mem_singleton.1 hy];first|exact HO9.out.alloc _|exact(HO9.out.alloc _).drew
 ·first|exact HBF.out.alloc HBF.out.size _|exact(HBF.out.alloc HBF.out.size _).drew
theorem kK(s:AJ.St)(hs:AJ.Inv s)(D:Option Addr)(dl dc:Nat)(A:Option Addr)(ac:Nat)(S:Option Addr)(sc:Nat)(now:Int)(y:Fr)(FD:Option Addr)(cap:Nat)(w:World)(hn:y.d.length<=140737488355328)(hd:Rd w w.heap.size FD y.d.length y.d)(GZ:dl=(AJ.data s).length)(h:Q9 w D dc A ac S sc s):
  Calls prog 86 #[.agg #[Iv s.again,Iv s.st,Iv s.now,Iv s.seq,.bool s.some,Iv s.prog,Iv s.cmd,.slice D dl dc,Iv s.BB,.slice A s.n ac,.slice S s.n sc],Iv now,.agg #[Iv y.k,Iv y.f,Iv y.t,Iv y.s,.slice FD y.d.length cap]] w (JA D A (AJ.recv s now y) (AJ.LB s now y) (AJ.FU s now y) w):=by
 obtain⟨k,f,t,q,d⟩:=y;simp only at hn hd⊢
 by_cases he:AJ.FU s now ⟨k,f,t,q,d⟩=0
 ·(have e1:AJ.recv s now ⟨k,f,t,q,d⟩=AJ.Qg s now ⟨k,f,t,q,d⟩:=by unfold AJ.recv;rw[AW he]);have Qn:=Oh he;rw[he,e1];have WY:=AQ.OJ.1 Qn.1;have ht:=Qn.2.1;have wY:=Qn.2.2.1;simp only at WY ht wY
  by_cases h1:d.length=1
  ·rw[h1] at hd⊢;obtain⟨bb,oo,rfl,aK,Xl⟩:=hd.2.2 Ft
   by_cases h8:k=8
   ·subst h8;(have RV:AJ.Sz ⟨8,f,t,q,d⟩=false:=by unfold AJ.Sz;simp);(have e2:AJ.LB s now ⟨8,f,t,q,d⟩=[]:=by unfold AJ.LB;rw[AO Fd]);rw[e2];obtain⟨i,hi⟩:∃i:Nat,f=(i:Int)+1:=⟨(f-1).toNat,by omega⟩
    by_cases ha:s.cmd≠0/\q=s.seq/\d.getD 0 0=s.cmd
    ·(have fj:AJ.Vm s ⟨8,f,t,q,d⟩=true:=by unfold AJ.Vm;simp only[IU ha.1,IU ha.2.1,IU ha.2.2];rfl);(have e3:AJ.Qg s now ⟨8,f,t,q,d⟩=AJ.MN {s with now:=now} (i+1):=by unfold AJ.Qg;rw[AW h1,AW fj];simp only[hi];rw[show((i:Int)+1).toNat=i+1 by omega]);rw[e3];exact vf s hs D dl dc A ac S sc now f t q bb oo cap d _ w hd rfl GZ h he ha.1 ha.2.1 ha.2.2 i hi
    ·have fj:AJ.Vm s ⟨8,f,t,q,d⟩=false:=by
      exact Jc
     (have e3:AJ.Qg s now ⟨8,f,t,q,d⟩={s with now:=now}:=by unfold AJ.Qg;rw[AW h1,AO (by simp[fj]),AO Fd]);rw[e3];exact pI s hs D dl dc A ac S sc now f t q bb oo cap d _ w hd rfl GZ h he (by
      by_cases g1:s.cmd=0
      ·exact .inl g1
      ·by_cases g2:q=s.seq
       ·exact .inr (.inr (λg3=>ha ⟨g1,g2,g3⟩))
       ·exact .inr (.inl g2))
   ·have fj:AJ.Vm s ⟨k,f,t,q,d⟩=false:=by unfold AJ.Vm;simp[h8]
    by_cases h7:d.getD 0 0<=7
    ·(have RV:AJ.Sz ⟨k,f,t,q,d⟩=true:=by unfold AJ.Sz;rw[IU h8,IU h7];rfl);(refine K1J ?_;intro i hi e2 e3);exact va s hs D dl dc A ac S sc now k f t q bb oo cap d _ w hd rfl GZ h he h8 h7 i hi
    ·(have RV:AJ.Sz ⟨k,f,t,q,d⟩=false:=by unfold AJ.Sz;rw[ME h7];simp);(refine K3M ?_;intro e2);(refine K2N ?_;intro e3);rw[e2,e3];exact pH s hs D dl dc A ac S sc now k f t q bb oo cap d _ w hd rfl GZ h he h8 Ft
  ·(have e2:AJ.LB s now ⟨k,f,t,q,d⟩=[]:=by unfold AJ.LB;rw[AO (λhh=>h1 hh.2.1)]);(have e3:AJ.Qg s now ⟨k,f,t,q,d⟩={s with now:=now}:=by unfold AJ.Qg;rw[AO h1]);rw[e2,e3];exact pJ s hs D dl dc A ac S sc now k f t q FD d.length cap d w hd GZ h he h1
 ·(have e1:AJ.recv s now ⟨k,f,t,q,d⟩=s:=by unfold AJ.recv;rw[AO he]);(have e2:AJ.LB s now ⟨k,f,t,q,d⟩=[]:=by unfold AJ.LB;rw[AO (λhh=>he hh.1)]);rw[e1,e2];exact pw s D dl dc A ac S sc now k f t q FD d.length cap d w hn Em rfl GZ h he
theorem ze(n:Nat)(again:Int)(w:World)(h:AJ.VX n again=0):Calls prog 77 #[Iv n,Iv again] w λe w'=>∃NA NS,e= .returned (.tuple #[.agg #[Iv again,Iv 0,Iv 0,Iv 0,.bool false,Iv 0,Iv 0,.slice none 0 0,Iv 0,.slice (some (Ad NA 0)) n n,.slice (some (Ad NS 0)) n n],Iv 0])/\Q9 w' none 0 (some (Ad NA 0)) n (some (Ad NS 0)) n (AJ.new n again)/\Below w.heap.size w w'/\w.heap.size<=NA:=by
 obtain⟨i0,OU,RR,IJ,Ot⟩:=MQ gB;obtain⟨i1,eD,oQ,hm2,hm3⟩:=MQ WL;have hh:1<=(n:Int)/\(n:Int)<=64/\1<=again/\again<=60000:=by
  unfold AJ.VX at h;split at h
  ·assumption
  ·omega
 obtain⟨h1,h2,h3,h4⟩:=hh;(have IY:∀W:World,(Instr.makeSlice 49 (Iv (n:Int)) (Iv (n:Int))).run prog W= .ok (.slice (some (Ad W.heap.size 0)) n n) (W.alloc (.cells (madeCells #[.bool false,Iv 0,Iv 0] (n*3)) 207)):=λW=>by have:=run_make (P:=prog) W 49 207 i0 _ underlying49 OU RR .i64 .i64 n n Ft (ZB _) Ez Ft;rw[IJ,Int.toNat_natCast] at this;exact this);(have hmb:∀W:World,(Instr.makeSlice 48 (Iv (n:Int)) (Iv (n:Int))).run prog W= .ok (.slice (some (Ad W.heap.size 0)) n n) (W.alloc (.cells (madeCells #[.bool false] n) 4)):=λW=>by have:=run_make (P:=prog) W 48 4 i1 _ underlying48 eD oQ .i64 .i64 n n Ft (ZB _) (by rw[hm3];omega) Ft;rw[hm2,Int.toNat_natCast,Vs] at this;exact this);clear h;go_enter func77,ntmps77;go_wp2_with fail;go_region
 all_goals go_wp2_with fail
 ·exact IT (v:= .tuple #[.agg #[Iv again,Iv 0,Iv 0,Iv 0,.bool false,Iv 0,Iv 0,.slice none 0 0,Iv 0,.slice (some (Ad (w.heap.size+1) 0)) n n,.slice (some (Ad (w.heap.size+2) 0)) n n],Iv 0]) D4 rfl ⟨w.heap.size+1,w.heap.size+2,rfl,⟨Row.nil _ _ _ _,Row.FK (cur:=madeCells #[.bool false] n) (FX (AI (BK _ _ _ Fu) _)) (Pe _) (Lr _) Ee Dl Au,Row.FK (cur:=madeCells #[.bool false,Iv 0,Iv 0] (n*3)) (FX (BK _ _ _ Fu)) (Pe _) (Lr _) Ee Dl Ar⟩,A9,by omega⟩
 ·exact IT (v:= .tuple #[.agg #[Iv again,Iv 0,Iv 0,Iv 0,.bool false,Iv 0,Iv 0,.slice none 0 0,Iv 0,.slice (some (Ad (w.heap.size+2) 0)) n n,.slice (some (Ad (w.heap.size+1) 0)) n n],Iv 0]) D4 rfl ⟨w.heap.size+2,w.heap.size+1,rfl,⟨Row.nil _ _ _ _,Row.FK (cur:=madeCells #[.bool false] n) (FX (BK _ _ _ Fu)) (Pe _) (Lr _) Ee Dl Au,Row.FK (cur:=madeCells #[.bool false,Iv 0,Iv 0] (n*3)) (FX (AI (BK _ _ _ Fu) _)) (Pe _) (Lr _) Ee Dl Ar⟩,A9,by omega⟩
end
section
open ChangeAt ChangeShapes Deep Joins RowKit WideShapes
structure xG where
 now:Int
 f:Fr
def la0:xG:=⟨0,jw⟩
def A3Q(w:World)(B b p:Nat)(x:xG):Prop:=
 ∃(E:Option Addr)(ce:Nat),w.cell? (Ad b p)=some (Iv x.now)/\
  w.cell? (Ad b (p+1))=some (Iv x.f.k)/\w.cell? (Ad b (p+2))=some (Iv x.f.f)/\w.cell? (Ad b (p+3))=some (Iv x.f.t)/\w.cell? (Ad b (p+4))=some (Iv x.f.s)/\w.cell? (Ad b (p+5))=some (.slice E x.f.d.length ce)/\
  Rd w B E x.f.d.length x.f.d/\jJ E x.f.d.length ce
def LRf(w:World)(B:Nat)(A:Option Addr)(n:Nat)(l:List xG):Prop:=
 l.length=n/\(0<n->∃b o,A=some (Ad b o)/\b<B/\∀i,i<n->A3Q w B b (o+i*6) (l.getD i la0))
theorem A3Q.IE{w w':World}{B b p:Nat}{x:xG}(h:A3Q w B b p x)(hb:b<B)(hk:∀b o,b<B->w'.cell? (Ad b o)=w.cell? (Ad b o)):A3Q w' B b p x:=by
 obtain⟨E,ce,h0,h1,h2,h3,h4,h5,h6,h7⟩:=h;exact⟨E,ce,(hk _ _ hb).trans h0,(hk _ _ hb).trans h1,(hk _ _ hb).trans h2,(hk _ _ hb).trans h3,(hk _ _ hb).trans h4,(hk _ _ hb).trans h5,h6.IE hk,h7⟩
theorem LRf.below{w w':World}{B B' n:Nat}{A:Option Addr}{l:List xG}(h:LRf w B A n l)(k:Below B' w w')(hB:B<=B'):LRf w' B A n l:=
 ⟨h.1,λhn=>by
  obtain⟨b,o,e,hb,hc⟩:=h.2 hn;exact⟨b,o,e,hb,λi hi=>(hc i hi).IE hb (λb o hb'=>k.cell (p:=(Ad b o)) (Sv hb' hB))⟩⟩
section
variable{H:Type}{enc:TypeId×Value->H}{w:World}{fuel:Nat}{c:Value}{x:DataW H×List MemPlace}
end
end
section
set_option maxRecDepth 512
namespace AL
open Ck
structure St where
 (id lost ret desc late every d r:Int)
 cs:Bool
 (lo hi st:Int)
 (begun Pf given asked:Bool)
 (now heard since prog start AZ MO q:Int)
def oI(s:St):Int:=max (AV.iB s.d s.r s.cs s.lo s.start) s.since
def wev(s:St):Int×Int×Bool:=
 if AV.fA s.d s.r s.cs s.lo s.start≠0\/s.heard+s.lost<=oI s then(s.heard+s.lost,1,true)
 else if aE s.d s.r s.cs s.hi (oI s)≠0\/s.start+s.late<ue s.d s.r s.cs s.hi (oI s) then(oI s,1,true) else(oI s,4,true)
def MC(s:St):Int×Int×Bool:=
 if s.st=2 then(s.heard+s.lost,1,true) else if s.st=4 then(s.heard+s.lost,5,true) else if s.st=5 then(max (s.heard+s.ret) s.since,6,true)
 else if s.st=6 then(s.since+s.desc,7,true) else if s.st=3 then wev s else(0,0,false)
def rh(x:Int):Bool:=decide (x=1)||decide (x=2)||decide (x=7)
def QR(s:St)(x t:Int):St:=if s.st=x then s else{s with st:=x,since:=t,given:=if rh x then false else s.given,start:=if rh x then 0 else s.start}
def XQ(s:St):St:=QR s (MC s).2.1 (MC s).1
def due(s:St)(l:Int):Bool:=(MC s).2.2&&decide ((MC s).1<=l)
def run:Nat->St->Int->St
 |0,s,_=>s
 |k+1,s,l=>if due s l then run k (XQ s) l else s
def u7(s:St)(l:Int):St:=if s.begun then s else{s with begun:=true,heard:=l,since:=l}
def T6(s:St)(l:Int):St:=run 4 {u7 s l with now:=l} l
def OK(s:St)(l:Int):Int:=if AV.Rj l (-1073741824) 1073741824=true/\(s.begun=true->s.now<=l) then 0 else 3
structure Fm where
 (k seq n:Int)
 plain:Bool
 two:Bool
 (g b:Int)
def take(s:St)(x:Fm):St×Bool:=
 if x.k=1 then(if s.st=0\/s.st=1\/s.st=7 then(if 0<=x.n then({QR s 1 s.now with Pf:=true,prog:=x.n},true) else(s,false)) else(s,false))
 else if x.k=2 then(if(s.st=1\/s.st=2)/\x.n=s.prog then(QR s 2 s.now,true) else(s,false))
 else if x.k=3 then(if s.st=2/\(0<=x.n/\x.n<=3600000)/\s.cs=true then({QR s 3 s.now with given:=true,start:=x.n},true) else(s,decide (3<=s.st/\s.st<=5/\x.n=s.start)))
 else if x.k=4 then(if x.plain=true then(if s.st=3 then(QR s 2 s.now,true) else if s.st=4 then(QR s 5 s.now,true) else(s,decide (s.st=2\/s.st=5))) else(s,false))
 else if x.k=5 then(if x.plain=true/\(s.st=4\/s.st=5) then(QR s 4 s.now,true) else(s,false))
 else if x.k=6 then(if x.plain=true then(if s.st=2\/s.st=3 then(QR s 1 s.now,true) else if s.st=4\/s.st=5 then(QR s 6 s.now,true) else(s,true)) else(s,false))
 else if x.k=7 then(if x.two=true/\s.asked=true/\x.seq=(s.AZ-1)%65536 then
  ({s with r:=AV.YI s.d s.r s.cs s.lo s.hi s.MO x.g x.b s.now,cs:=AV.YH s.d s.r s.cs s.lo s.hi s.MO x.g x.b s.now,lo:=AV.S7 s.d s.r s.cs s.lo s.hi s.MO x.g x.b s.now,hi:=AV.Tw s.d s.r s.cs s.lo s.hi s.MO x.g x.b s.now,asked:=false},false) else(s,false))
 else(s,false)
def recv(s:St)(l:Int)(x:Fm):St:=T6 (take {T6 s l with heard:=l} x).1 l
def lW(s:St)(l:Int)(x:Fm):Bool:=(take {T6 s l with heard:=l} x).2
def asks(s:St)(l:Int):Bool:=decide (0<s.AZ/\l-s.MO<s.every)
def tick(s:St)(l:Int):St:=if asks (T6 s l) l then T6 s l else{T6 s l with q:=(T6 s l).AZ%65536,asked:=true,AZ:=(T6 s l).AZ+1,MO:=l}
def next(s:St):Int:=max (if(MC s).2.2 then min (if 0<s.AZ then s.MO+s.every else s.now) (MC s).1 else if 0<s.AZ then s.MO+s.every else s.now) s.now
structure Inv(s:St):Prop where
 id:1<=s.id/\s.id<=64
 lost:1<=s.lost/\s.lost<=600000
 ret:s.lost<=s.ret/\s.ret<=600000
 desc:1<=s.desc/\s.desc<=600000
 late:0<=s.late/\s.late<=600000
 every:1<=s.every/\s.every<=600000
 Tc:AV.Po s.d s.r s.lo s.hi
 l0:s.cs=true->0<=s.lo
 st:0<=s.st/\s.st<=7
 now: -1073741824<=s.now/\s.now<=1073741824
 heard: -1073741824<=s.heard/\s.heard<=1073741824
 since: -1073741824<=s.since/\s.since<=1073741824
 MO: -1073741824<=s.MO/\s.MO<=1073741824
 prog:0<=s.prog/\s.prog<=4294967295
 start:0<=s.start/\s.start<=3600000
 load:s.st≠0->s.Pf=true
 giv:(s.st<=2\/s.st=7)->s.given=false/\s.start=0
 ask:s.asked=true->1<=s.AZ/\s.q=(s.AZ-1)%65536
 rp:0<=s.AZ
theorem A55{s:St}(h:Inv s): -1073741824<=AV.iB s.d s.r s.cs s.lo s.start/\AV.iB s.d s.r s.cs s.lo s.start<=1073741824:=by
 have hr:=h.Tc;unfold AV.Po at hr;unfold AV.iB
 by_cases e:AV.fA s.d s.r s.cs s.lo s.start=0
 ·rw[AW e];have h1:=AV.A1B (AV.oJ s.d s.lo s.start) (AV.YM s.r);have h2:AV.yI s.d s.r s.lo s.start≠AV.YM s.r:=by
   intro hh;unfold AV.fA at e;split at e
   ·omega
   ·split at e
    ·omega
    ·first|omega|(rw[AW hh] at e;omega)
  unfold AV.yI AV.YM at*;omega
 ·rw[AO e];omega
theorem yp{s:St}(h:Inv s): -1073741824<=oI s/\oI s<=1073741824/\s.since<=oI s:=by
 have h1:=A55 h;have h2:=h.since;unfold oI;omega
theorem A67{s:St}(h:Inv s): -1073741824<=(MC s).1/\(MC s).1<=1074341824/\0<=(MC s).2.1/\(MC s).2.1<=7:=by
 have h1:=yp h;have h2:=h.heard;have h3:=h.since;have h4:=h.lost;have h5:=h.ret;have h6:=h.desc;unfold MC wev;split
 ·simp only;omega
 split
 ·simp only;omega
 split
 ·simp only;omega
 split
 ·simp only;omega
 split
 ·split
  ·simp only;omega
  split
  ·simp only;omega
  ·simp only;omega
 ·simp only;omega
def ZX(x:Int):Nat:=if x=3 then 4 else if x=4 then 3 else if x=5 then 2 else if x=6 then 1 else if x=2 then 1 else 0
theorem Yw{s:St}(h:(MC s).2.2=true):(MC s).2.1≠s.st/\ZX (MC s).2.1<ZX s.st/\2<=s.st/\s.st<=6/\((MC s).2.1=1\/4<=(MC s).2.1):=by
 unfold MC wev at*;split
 ·rename_i e;rw[e];simp only;decide
 split
 ·rename_i e;rw[e];simp only;decide
 split
 ·rename_i e;rw[e];simp only;decide
 split
 ·rename_i e;rw[e];simp only;decide
 split
 ·rename_i e;rw[e]
  split
  ·simp only;decide
  split
  ·simp only;decide
  ·simp only;decide
 ·rename_i a b c d e
  rw[AO a,AO b,AO c,AO d,AO e] at h
  cases h
theorem A6t{s:St}(h:(MC s).2.2=true):(XQ s).st=(MC s).2.1/\(XQ s).since=(MC s).1:=by
 unfold XQ QR;rw[AO (λe=>(Yw h).1 e.symm)];exact⟨rfl,rfl⟩
theorem Si{s:St}(h:Inv s){x t:Int}(hx:1<=x/\x<=7)(ht: -1073741824<=t/\t<=1073741824)(hl:s.Pf=true):Inv (QR s x t):=by
 unfold QR;split
 ·exact h
 ·have DJ:=h.start;refine⟨h.id,h.lost,h.ret,h.desc,h.late,h.every,h.Tc,h.l0,⟨by simp only;omega,hx.2⟩,h.now,h.heard,ht,h.MO,h.prog,?_,λ_=>hl,λhh=> ?_,h.ask,h.rp⟩
  ·simp only;split<;>omega
  ·have hf:rh x=true:=by
    simp only at hh;unfold rh;have:x=1\/x=2\/x=7:=by omega
    rcases this with e|e|e<;>rw[e]<;>rfl
   simp only[hf,WV,and_self]
theorem aR{s:St}(h:Inv s){l:Int}(hl:l<=1073741824)(hd:due s l=true):Inv (XQ s):=by
 unfold due at hd;simp only[bY,eS] at hd;have h1:=A67 h;have h2:=Yw hd.1;exact Si h Ft Ft (h.load Ft)
theorem A3F(s:St):(XQ s).now=s.now/\(XQ s).begun=s.begun/\(XQ s).heard=s.heard/\(XQ s).AZ=s.AZ/\(XQ s).MO=s.MO/\(XQ s).every=s.every:=by
 unfold XQ QR;split<;>exact⟨rfl,rfl,rfl,rfl,rfl,rfl⟩
theorem sy:∀(k:Nat){s:St}{l:Int}(h:Inv s)(hl:l<=1073741824),Inv (run k s l)
 |0,s,l,h,_=>h
 |k+1,s,l,h,hl=>by
  unfold run;split
  ·rename_i hd;exact sy k (aR h hl hd) hl
  ·exact h
theorem iJ(x:Int):ZX x<=4:=by
 unfold ZX;repeat' split
 all_goals omega
theorem U7{s:St}{l:Int}(h:due s l=true):ZX (XQ s).st<ZX s.st:=by
 unfold due at h;simp only[bY,eS] at h;rw[(A6t h.1).1];exact(Yw h.1).2.1
theorem lp:∀(k j:Nat)(s:St)(l:Int)(hk:ZX s.st<=k)(hj:ZX s.st<=j),run k s l=run j s l
 |0,j,s,l,hk,hj=>by
  cases j with
  |zero=>rfl
  |succ j=>show s=run (j+1) s l;unfold run;rw[AO (λh=>by have:=U7 h;omega)]
 |k+1,0,s,l,hk,hj=>by show run (k+1) s l=s;unfold run;rw[AO (λh=>by have:=U7 h;omega)]
 |k+1,j+1,s,l,hk,hj=>by
  unfold run;split
  ·rename_i h
   have:=U7 h;exact lp k j _ _ Ft Ft
  ·rfl
theorem sB{s:St}{l:Int}(h:due s l=true):run 4 (XQ s) l=run 4 s l:=by
 have h1:=U7 h;have h2:=iJ s.st;(have e:run 4 s l=run 3 (XQ s) l:=by show(if due s l then run 3 (XQ s) l else s)=_;rw[AW h]);rw[e];exact lp 4 3 _ _ Ft Ft
theorem lj{s:St}{l:Int}(h:due s l=false):run 4 s l=s:=by
 show(if due s l then run 3 (XQ s) l else s)=_;rw[AO (by rw[h];simp)]
theorem A3m(s:St)(n:Int):MC {s with now:=n}=MC s:=rfl
theorem rI(s:St)(n:Int):XQ {s with now:=n}={XQ s with now:=n}:=by
 unfold XQ QR;rw[A3m];simp only;split<;>rfl
theorem Xq:∀(k:Nat)(s:St)(n l:Int),run k {s with now:=n} l={run k s l with now:=n}
 |0,s,n,l=>rfl
 |k+1,s,n,l=>by
  have hd:due {s with now:=n} l=due s l:=rfl;unfold run;rw[hd];split
  ·rw[rI,Xq]
  ·rfl
theorem jH{s:St}(h:Inv s){l:Int}(hl: -1073741824<=l/\l<=1073741824):Inv {u7 s l with now:=l}:=by
 unfold u7;split
 ·exact⟨h.id,h.lost,h.ret,h.desc,h.late,h.every,h.Tc,h.l0,h.st,hl,h.heard,h.since,h.MO,h.prog,h.start,h.load,h.giv,h.ask,h.rp⟩
 ·exact⟨h.id,h.lost,h.ret,h.desc,h.late,h.every,h.Tc,h.l0,h.st,hl,hl,hl,h.MO,h.prog,h.start,h.load,h.giv,h.ask,h.rp⟩
theorem WE{s:St}(h:Inv s){l:Int}(hl: -1073741824<=l/\l<=1073741824):Inv (T6 s l):=sy 4 (jH h hl) hl.2
theorem ll:∀(k:Nat)(s:St)(l:Int),(run k s l).now=s.now/\(run k s l).begun=s.begun/\(run k s l).heard=s.heard/\(run k s l).AZ=s.AZ/\(run k s l).MO=s.MO/\(run k s l).every=s.every
 |0,s,l=>⟨rfl,rfl,rfl,rfl,rfl,rfl⟩
 |k+1,s,l=>by
  have h:=A3F s;unfold run;split
  ·have h2:=ll k (XQ s) l;rw[h.1,h.2.1,h.2.2.1,h.2.2.2.1,h.2.2.2.2.1,h.2.2.2.2.2] at h2;exact h2
  ·exact⟨rfl,rfl,rfl,rfl,rfl,rfl⟩
theorem TX(s:St)(l:Int):(T6 s l).now=l/\(T6 s l).begun=true/\(T6 s l).AZ=s.AZ/\(T6 s l).MO=s.MO:=by
 have h:=ll 4 {u7 s l with now:=l} l;refine⟨h.1,h.2.1.trans ?_,h.2.2.2.1.trans ?_,h.2.2.2.2.1.trans ?_⟩
 all_goals
  unfold u7;split
 ·assumption
 all_goals rfl
theorem gH{s:St}(h:Inv s){l:Int}(hl: -1073741824<=l/\l<=1073741824):Inv {s with heard:=l}:=
 ⟨h.id,h.lost,h.ret,h.desc,h.late,h.every,h.Tc,h.l0,h.st,h.now,hl,h.since,h.MO,h.prog,h.start,h.load,h.giv,h.ask,h.rp⟩
theorem A6u{d r:Int}{s:Bool}{lo hi a g k h:Int}(l0:s=true->0<=lo)(e:AV.YH d r s lo hi a g k h=true):0<=AV.S7 d r s lo hi a g k h:=by
 unfold AV.YH at e;unfold AV.S7
 by_cases hE:AV.MF d r s lo hi a g k h=0
 ·rw[AW hE];have x:AV.XL a g k h=true:=by
   cases hx:AV.XL a g k h with
   |true=>rfl
   |false=>rw[AV.MF,AW hx] at hE;omega
  rw[AV.Wu] at x;unfold AV.jV;split<;>omega
 ·rw[AO hE] at e⊢;exact l0 e
theorem kI{s:St}(h:Inv s){x:Fm}(hx: -1<=x.n/\x.n<=4294967295):Inv (take s x).1:=by
 have hn:=h.now;unfold take;split
 ·split
  ·rename_i hs
   split
   ·have h1:Inv {s with Pf:=true}:=⟨h.id,h.lost,h.ret,h.desc,h.late,h.every,h.Tc,h.l0,h.st,h.now,h.heard,h.since,h.MO,h.prog,h.start,λ_=>rfl,h.giv,h.ask,h.rp⟩;have h2:=Si h1 (x:=1) (t:=s.now) Ft hn rfl;(have e:({QR s 1 s.now with Pf:=true,prog:=x.n}:St)={QR {s with Pf:=true} 1 s.now with prog:=x.n}:=by unfold QR;simp only;split<;>rfl);simp only;rw[e];exact⟨h2.id,h2.lost,h2.ret,h2.desc,h2.late,h2.every,h2.Tc,h2.l0,h2.st,h2.now,h2.heard,h2.since,h2.MO,⟨by assumption,hx.2⟩,h2.start,h2.load,h2.giv,h2.ask,h2.rp⟩
   ·exact h
  ·exact h
 split
 ·split
  ·exact Si h Ft hn (h.load Ft)
  ·exact h
 split
 ·split
  ·rename_i hc
   have h2:=Si h (x:=3) (t:=s.now) Ft hn (h.load Ft);(have e3:(QR s 3 s.now).st=3:=by unfold QR;split<;>simp_all);exact⟨h2.id,h2.lost,h2.ret,h2.desc,h2.late,h2.every,h2.Tc,h2.l0,h2.st,h2.now,h2.heard,h2.since,h2.MO,h2.prog,hc.2.1,h2.load,λhh=>by simp only[e3] at hh;omega,h2.ask,h2.rp⟩
  ·exact h
 split
 ·split
  ·split
   ·exact Si h Ft hn (h.load Ft)
   split
   ·exact Si h Ft hn (h.load Ft)
   ·exact h
  ·exact h
 split
 ·split
  ·exact Si h Ft hn (h.load Ft)
  ·exact h
 split
 ·split
  ·split
   ·exact Si h Ft hn (h.load Ft)
   split
   ·exact Si h Ft hn (h.load Ft)
   ·exact h
  ·exact h
 split
 ·split
  ·exact⟨h.id,h.lost,h.ret,h.desc,h.late,h.every,AV.A3G h.Tc,λe=>A6u h.l0 e,h.st,h.now,h.heard,h.since,h.MO,h.prog,h.start,h.load,h.giv,λe=>(by cases e),h.rp⟩
  ·exact h
 ·exact h
theorem zH{s:St}(h:Inv s){l:Int}(hl: -1073741824<=l/\l<=1073741824){x:Fm}(hx: -1<=x.n/\x.n<=4294967295):Inv (recv s l x):=
 WE (kI (gH (WE h hl) hl) hx) hl
theorem yy{s:St}(h:Inv s){l:Int}(hl: -1073741824<=l/\l<=1073741824):Inv (tick s l):=by
 have h1:=WE h hl;unfold tick;split
 ·exact h1
 ·have hr:=h1.rp;exact⟨h1.id,h1.lost,h1.ret,h1.desc,h1.late,h1.every,h1.Tc,h1.l0,h1.st,h1.now,h1.heard,h1.since,hl,h1.prog,h1.start,h1.load,h1.giv,λ_=>⟨by simp only;omega,by simp only;rw[show(T6 s l).AZ+1-1=(T6 s l).AZ by omega]⟩,by simp only;omega⟩
def new(id lost ret desc late every d:Int):St:=⟨id,lost,ret,desc,late,every,d,0,false,0,0,0,false,false,false,false,0,0,0,0,0,0,0,0⟩
def S9(lost ret desc late every:Int):Bool:=AV.Rj lost 1 600000&&AV.Rj ret lost 600000&&AV.Rj desc 1 600000&&AV.Rj late 0 600000&&AV.Rj every 1 600000
def VX(id lost ret desc late every d:Int):Int:=if AV.Rj id 1 64=true/\S9 lost ret desc late every=true/\(0<=d/\d<=100000) then 0 else 2
theorem bD{lost ret desc late every:Int}:S9 lost ret desc late every=true↔(1<=lost/\lost<=600000)/\(lost<=ret/\ret<=600000)/\(1<=desc/\desc<=600000)/\(0<=late/\late<=600000)/\(1<=every/\every<=600000):=by
 unfold S9;simp only[bY,AV.EP,and_assoc]
theorem aF{id lost ret desc late every d:Int}(h:VX id lost ret desc late every d=0):Inv (new id lost ret desc late every d):=by
 unfold VX at h;split at h
 ·rename_i hh
  obtain⟨h1,h2,h3⟩:=hh;rw[AV.EP] at h1;rw[bD] at h2;obtain⟨a,b,c,e,f⟩:=h2;exact⟨h1,a,b,c,e,f,⟨h3.1,h3.2,by simp[new],by simp[new],by simp[new],by simp[new],by simp[new]⟩,λe=>(by cases e),by simp[new],by simp[new],by simp[new],by simp[new],by simp[new],by simp[new],by simp[new],λe=>absurd rfl e,λ_=>⟨rfl,rfl⟩,λe=>(by cases e),by simp[new]⟩
 ·omega
end AL
namespace AL
def MK(x:Fr):Fm:=⟨x.k,x.s,if x.d.length=4 then AQ.OX x.d 0 else-1,decide (x.d.length=0),decide (x.d.length=8),AQ.OX x.d 0,AQ.OX x.d 1⟩
def DK(s:St)(l:Int):List Fr:=if OK s l=0/\asks (T6 s l) l=false then [⟨9,s.id,0,s.AZ%65536,[(T6 s l).st]⟩] else []
def LQ(s:St)(l:Int):St:=if OK s l=0 then tick s l else s
def VS(s:St)(l:Int)(x:Fr):Int:=if AQ.vd x.k x.f x.t x.s x.d.length=true/\x.t=s.id then OK s l else 2
def QY(s:St)(l:Int)(x:Fr):St:=if VS s l x=0 then recv s l (MK x) else s
def RI(s:St)(l:Int)(x:Fr):List Fr:=if VS s l x=0/\lW s l (MK x)=true then [⟨8,s.id,0,x.s,[x.k]⟩] else []
def Sj(s:St)(a:xG):St:=if a.f.k=0 then LQ s a.now else QY s a.now a.f
theorem Uf{s:St}{l:Int}(h:OK s l=0):(-1073741824<=l/\l<=1073741824)/\(s.begun=true->s.now<=l):=by
 unfold OK at h;split at h
 ·rename_i hh;rw[Ck.AV.EP] at hh;exact hh
 ·omega
theorem Ug(s:St)(l:Int):OK s l=0\/OK s l=3:=by
 unfold OK;split<;>simp
theorem A1e{x:Fr}(hd:∀z∈x.d,0<=z/\z<256): -1<=(MK x).n/\(MK x).n<=4294967295:=by
 unfold MK;simp only;split
 ·have:=AQ.aN hd 0;omega
 ·omega
theorem uF{s:St}(h:Inv s)(l:Int):Inv (LQ s l):=by
 unfold LQ;split
 ·rename_i e;exact yy h (Uf e).1
 ·exact h
theorem sI{s:St}{l:Int}{x:Fr}(h:VS s l x=0):OK s l=0/\AQ.vd x.k x.f x.t x.s x.d.length=true/\x.t=s.id:=by
 unfold VS at h;split at h
 ·rename_i e;exact⟨h,e⟩
 ·omega
theorem zQ{s:St}(h:Inv s)(l:Int){x:Fr}(hd:∀z∈x.d,0<=z/\z<256):Inv (QY s l x):=by
 unfold QY;split
 ·rename_i e;exact zH h (Uf (sI e).1).1 (A1e hd)
 ·exact h
theorem nZ(s:St)(x t:Int):(QR s x t).now=s.now/\(QR s x t).begun=s.begun/\(QR s x t).heard=s.heard/\(QR s x t).AZ=s.AZ/\(QR s x t).MO=s.MO/\(QR s x t).id=s.id:=by
 unfold QR;split<;>exact⟨rfl,rfl,rfl,rfl,rfl,rfl⟩
theorem Z0(s:St)(x:Fm):(take s x).1.now=s.now/\(take s x).1.begun=s.begun/\(take s x).1.heard=s.heard/\(take s x).1.AZ=s.AZ/\(take s x).1.MO=s.MO/\(take s x).1.id=s.id:=by
 unfold take;have h:=nZ s;repeat' split
 all_goals first|exact⟨rfl,rfl,rfl,rfl,rfl,rfl⟩|exact h _ _
theorem VV(s:St)(l:Int):(T6 s l).id=s.id:=by
 have key:∀(k:Nat)(t:St),(run k t l).id=t.id:=by
  intro k
  induction k with
  |zero=>intro t;rfl
  |succ k ih=>
   intro t;unfold run;split
   ·rw[ih];exact(nZ t _ _).2.2.2.2.2
   ·rfl
 unfold T6;rw[key];unfold u7;split<;>rfl
end AL
end
end Go.Proofs.YtdocdgcdldpagaaGreat

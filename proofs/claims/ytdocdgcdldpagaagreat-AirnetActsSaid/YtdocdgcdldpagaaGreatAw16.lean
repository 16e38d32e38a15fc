import Derived.Test.YtdocdgcdldpagaaGreatAw15
open Go.Proofs.Tryz
namespace Go.Proofs.YtdocdgcdldpagaaGreat
set_option maxHeartbeats 64000000
set_option maxRecDepth 100000
set_option linter.all false
section
open RowKit
attribute [local go_sem ↓] wp_at_zero wp_at_succ
theorem A0j{S:Nat->Prop}{w w':World}{B:Nat}{A:Option Addr}{n:Nat}{l:List Int}(h:Rd w B A n l)(k:AG S w w')(hB:B<=w.heap.size)(hS:∀a,A=some a->¬S a.block):Rd w' B A n l:=
 ⟨h.1,h.2.1,λhn=>by
  obtain⟨b,o,e,hb,hc⟩:=h.2.2 hn;exact⟨b,o,e,hb,λi hi=>(Cb (k.block b Ft (hS _ e))).trans (hc i hi)⟩⟩
theorem Qe{w:World}{base g1 g2:Nat}{k f t s z:Int}(h1:w.heap[g1]?=some (.cells #[.int .u8 z] 5 (0,0)))(h2:w.heap[g2]?=some (.cells #[Iv k,Iv f,Iv t,Iv s,.slice (some (Ad g1 0)) 1 1] 147 (0,0)))
  (hz:0<=z/\z<256)(b1:base<=g1)(b2:base<=g2):IF w base (.slice (some (Ad g2 0)) 1 1) [⟨k,f,t,s,[z]⟩]:=by
 refine⟨[⟨⟨k,f,t,s,[z]⟩,some (Ad g1 0),1⟩],rfl,⟨rfl,.inr ⟨g2,1,_,rfl,b2,h2,Lr _,by unfold maxLen;omega,rfl,rfl⟩⟩,λy hy=> ?_⟩;(obtain rfl:y=⟨⟨k,f,t,s,[z]⟩,some (Ad g1 0),1⟩:=by simpa using hy);exact⟨⟨rfl,.inr ⟨g1,1,_,rfl,b1,h1,Lr _,by unfold maxLen;omega,rfl,rfl⟩⟩,λx hx=>by
  (obtain rfl:x=z:=by simpa using hx);exact hz⟩
def Wr(base b c:Nat)(s':AL.St)(fr:List Fr)(er:Int)(w:World)(e:Ending)(w':World):Prop:=
 ∃v,e= .returned (.tuple #[v,Iv er])/\IF w' w.heap.size v fr/\Of w' base b c s'/\AG (λi=>i=b\/i=c) w w'
section
variable{w w':World}{base b c:Nat}{s:AL.St}
theorem Wr.same{er:Int}(h:Of w' base b c s)(k:Below w.heap.size w w'){s':AL.St}{fr:List Fr}{er':Int}(hs:s'=s)(hf:fr=[])(he:er'=er):Wr base b c s' fr er' w (.returned (.tuple #[.slice none 0 0,Iv er])) w':=by
 subst hs hf he;exact⟨_,rfl,IF.nil _ _,h,AG.AS k⟩
theorem Of.drew(h:Of w base b c s):Of w.drew base b c s:=⟨h.BM,h.Tc,h.ge⟩
theorem Of.two(h:Of w base b c s){B:Nat}(hB:w.heap.size<=B):b<B/\c<B:=by have:=h.lt;omega
theorem vL(h:Of w base b c s)(hs:AL.Inv s)(k f t q:Int)(A:Option Addr)(n cap:Nat)(l:List Int)(hn:n=l.length)(IM:n<=9223372036854775807)(DT:n<=cap)(GC:cap<=9223372036854775807)(hr:Rd w w.heap.size A n l)(hA:∀a,A=some a->a.block≠b/\a.block≠c)(RV:s.AZ<1000000000000000)(now:Int):
  Calls prog 104 #[Pt b,Iv now,.agg #[Iv k,Iv f,Iv t,Iv q,.slice A n cap]] w (Wr base b c (AL.QY s now ⟨k,f,t,q,l⟩) (AL.RI s now ⟨k,f,t,q,l⟩) (AL.VS s now ⟨k,f,t,q,l⟩) w):=by
 have HH:=Hd h;have NO:=Hd (λ(W:World)(hW:Of W base b c s)=>WB hW hs);(have hE:AL.VS s now ⟨k,f,t,q,l⟩=if AQ.vd k f t q n=true/\t=s.id then AL.OK s now else 2:=by rw[hn];rfl);have hS:∀x,AL.VS s now ⟨k,f,t,q,l⟩=x->x≠0->AL.QY s now ⟨k,f,t,q,l⟩=s/\AL.RI s now ⟨k,f,t,q,l⟩=[]:=λx hx h0=>by exact L1
 cases hv:AQ.vd k f t q n
 ·have VA:=Hd (λW:World=>by have:=QE k f t q A n cap W IM;rw[hv] at this;exact this);have E:=Hd (show AL.VS s now ⟨k,f,t,q,l⟩=2 by rw[hE,hv,AO Fu]);have ES:=Hd (hS 2 E.out Ft);clear hv hE hS h hs hn IM DT GC hr hA RV;go_enter func104,ntmps104;go_upto_region 1 with fail;(refine Kc ?_;intro V HV Oq CX lf K0);have HP:=Hd (HH.out.below HV.out (Lr _));go_wp2_with fail;refine K3G ?_;go_wp2_with fail;have c0:=AB HP.out.BM 0 rfl;(first|(go_region_with (first|(go_at_call 133;refine(VA.out _).mono ?_;rintro e w1 ⟨rfl,BX⟩;have CB:Below V.heap.size V w1:=Ay;have DF:=JI HV CB;have j0:=AH K0.out CB Oq;have HJ:=Hd j0;have ZR:=Hd (HP.out.below CB (Lr _));clear BX CB c0;(clear CX);(have JH:=OH j0;have lg:=BG j0);clear j0;(have c0:=AB ZR.out.BM 0 rfl))))|fail)
  all_goals
   go_wp2_with fail;go_ret2;exact Wr.same (by first|exact ZR.out|exact ZR.out.drew) (by first|exact DF.out|exact DF.out.drew) ES.out.1 ES.out.2 E.out
 have VA:=Hd (λW:World=>by have:=QE k f t q A n cap W IM;rw[hv] at this;exact this)
 by_cases ht:t=s.id
 case neg=>(refine K3k ?_;intro E ES z1 z2);clear hv hE hS h hs hn IM DT GC hr hA RV ht;go_enter func104,ntmps104;go_upto_region 1 with fail;(refine Kc ?_;intro V HV Oq CX lf K0);have HP:=Hd (HH.out.below HV.out (Lr _));go_wp2_with fail;refine K3G ?_;go_wp2_with fail;have c0:=AB HP.out.BM 0 rfl;(first|(go_region_held3 (λw'=>(w'.cell? ⟨w.heap.size,0,none⟩=some (Iv k)/\w'.cell? ⟨w.heap.size,1,none⟩=some (Iv f)/\w'.cell? ⟨w.heap.size,2,none⟩=some (Iv t)/\w'.cell? ⟨w.heap.size,3,none⟩=some (Iv q)/\w'.cell? ⟨w.heap.size,4,none⟩=some (.slice A n cap))/\w'.cell? ⟨b,0,none⟩=some (Iv s.id)) (first|(refine⟨⟨?_,?_,?_,?_,?_⟩,?_⟩<;>simp[go_sem, *];done)|go_keep) (first|(go_at_call 133;refine(VA.out _).mono ?_;rintro e w1 ⟨rfl,BX⟩;have CB:Below V.heap.size V w1:=Ay;have DF:=JI HV CB;have j0:=AH K0.out CB Oq;have HJ:=Hd j0;have ZR:=Hd (HP.out.below CB (Lr _));clear BX CB c0;(clear CX);(have JH:=OH j0;have lg:=BG j0);clear j0;(have c0:=AB ZR.out.BM 0 rfl)))));go_wp2_with fail;go_ret2;exact Wr.same ZR.out DF.out ES.out.1 ES.out.2 E.out
 case pos=>
 refine K3K ?_;intro z1 z2 E0
 rcases AL.Ug s now with he|he
 case inr=>have E:=Hd (E0.trans he);have ES:=Hd (hS 3 E.out Ft);(refine K2A ?_;intro CH);clear hv hE hS h hs hn IM DT GC hr hA RV ht E0 he;go_enter func104,ntmps104;go_upto_region 1 with fail;(refine Kc ?_;intro V HV Oq CX lf K0);have HP:=Hd (HH.out.below HV.out (Lr _));go_wp2_with fail;refine K3G ?_;go_wp2_with fail;have c0:=AB HP.out.BM 0 rfl;(first|(go_region_held3 (λw'=>(w'.cell? ⟨w.heap.size,0,none⟩=some (Iv k)/\w'.cell? ⟨w.heap.size,1,none⟩=some (Iv f)/\w'.cell? ⟨w.heap.size,2,none⟩=some (Iv t)/\w'.cell? ⟨w.heap.size,3,none⟩=some (Iv q)/\w'.cell? ⟨w.heap.size,4,none⟩=some (.slice A n cap))/\w'.cell? ⟨b,0,none⟩=some (Iv s.id)) (first|(refine⟨⟨?_,?_,?_,?_,?_⟩,?_⟩<;>simp[go_sem, *];done)|go_keep) (first|(go_at_call 133;refine(VA.out _).mono ?_;rintro e w1 ⟨rfl,BX⟩;have CB:Below V.heap.size V w1:=Ay;have DF:=JI HV CB;have j0:=AH K0.out CB Oq;have HJ:=Hd j0;have ZR:=Hd (HP.out.below CB (Lr _));clear BX CB c0;(clear CX);(have JH:=OH j0;have lg:=BG j0);clear j0;(have c0:=AB ZR.out.BM 0 rfl)))));go_wp2_with fail;refine(CH.out _ Ce).mono ?_;rintro e w' ⟨rfl,rfl⟩;go_wp2_with fail;go_ret2;exact Wr.same Ce C3 ES.out.1 ES.out.2 E.out
 case inl=>
 have E:=Hd (E0.trans he);(refine K2A ?_;intro CH);have hl:=(AL.Uf he).1;have hvv:=AQ.OJ.1 hv;(refine K3v ?_;intro p hp u hu eC hui);(have hur:u.AZ<1000000000000000:=by rw[hu];show p.AZ<_;rw[hp,(AL.TX s now).2.2.1];exact RV);(refine K3g ?_;intro x hx hxn r T8 hri);(have hss:AL.QY s now ⟨k,f,t,q,l⟩=AL.T6 r.1 now:=by unfold AL.QY;rw[AW E.out,T8,hu,hp,hx];rfl);have Uc:AL.RI s now ⟨k,f,t,q,l⟩=if r.2=true then [⟨8,s.id,0,q,[k]⟩] else []:=by
  unfold AL.RI;(have e1:AL.lW s now (AL.MK ⟨k,f,t,q,l⟩)=r.2:=by rw[T8,hu,hp,hx];rfl);rw[e1]
  cases hr2:r.2
  ·rw[AO Fu,AO Fu]
  ·rw[AW ⟨E.out,rfl⟩,AW rfl]
 (have hid:(AL.T6 r.1 now).id=s.id:=by rw[AL.VV,T8,(AL.Z0 u x).2.2.2.2.2,hu];show p.id=_;rw[hp,AL.VV]);obtain⟨v,WY⟩:=BN (AL.T6 r.1 now);have PA:=Hd (λ(W:World)(hW:Of W base b c s)=>by have:=cJ hW hs hl;rw[<-hp] at this;exact this);have TK:=Hd (λ(W:World)(hW:Of W base b c u)(hR:Rd W W.heap.size A n l)=>by have:=yE hW hui k f t q A n cap l hn hvv.2.2.1 DT GC hR hur;rw[<-hx,<-T8] at this;exact this);have PB:=Hd (λ(W:World)(hW:Of W base b c r.1)=>by have:=cJ hW hri hl;rw[<-WY] at this;exact this);rw[hss,Uc,E.out,<-WY];rw[<-WY] at hid;have HR:=Hd hr;have HU:=Hd hu;(have A7l:0<=k/\k<256:=by omega);have HA:=Hd hA;have HID:=Hd hid;obtain⟨r1,r2⟩:=r;simp only at*;clear hv hE hS h hs hn IM DT GC hr hA RV ht E0 he hl hvv hp hu eC hui hur hx hxn T8 hri hss Uc WY hid;have wk:IntKind.u8.wrap k=k:=by rw[VT];omega
 cases r2
 all_goals
  go_enter func104,ntmps104;go_upto_region 1 with fail;(refine Kc ?_;intro V HV Oq CX lf K0);have HP:=Hd (HH.out.below HV.out (Lr _));go_wp2_with fail;refine K3G ?_;go_wp2_with fail;have c0:=AB HP.out.BM 0 rfl;(first|(go_region_held3 (λw'=>(w'.cell? ⟨w.heap.size,0,none⟩=some (Iv k)/\w'.cell? ⟨w.heap.size,1,none⟩=some (Iv f)/\w'.cell? ⟨w.heap.size,2,none⟩=some (Iv t)/\w'.cell? ⟨w.heap.size,3,none⟩=some (Iv q)/\w'.cell? ⟨w.heap.size,4,none⟩=some (.slice A n cap))/\w'.cell? ⟨b,0,none⟩=some (Iv s.id)) (first|(refine⟨⟨?_,?_,?_,?_,?_⟩,?_⟩<;>simp[go_sem, *];done)|go_keep) (first|(go_at_call 133;refine(VA.out _).mono ?_;rintro e w1 ⟨rfl,BX⟩;have CB:Below V.heap.size V w1:=Ay;have DF:=JI HV CB;have j0:=AH K0.out CB Oq;have HJ:=Hd j0;have ZR:=Hd (HP.out.below CB (Lr _));clear BX CB c0;(clear CX);(have JH:=OH j0;have lg:=BG j0);clear j0;(have c0:=AB ZR.out.BM 0 rfl)))));go_wp2_with fail;refine(CH.out _ Ce).mono ?_;rintro e w' ⟨rfl,rfl⟩;go_wp2_with fail;refine(PA.out _ Ce).mono ?_;rintro e w2 ⟨rfl,Pp,MU⟩;have T0:=Hd (show AG (λi=>i=b\/i=c) w w2 from(AG.AS C3).trans MU (λ_ _ h=> .inl h));have j2:=AR (show _ from HJ.out) (show AG (λi=>i=b) w1 w2 from by first|exact MU|exact⟨MU.os,MU.tape,MU.output,MU.size,MU.block⟩) Do;have SZ:=Hd Pp;have HJ2:=Hd j2;clear MU Pp HP ZR DF HV Oq K0 c0;clear JH;have hk:=SZ.out.BM;simp only[cI] at hk;have yf:=AB hk 13 rfl;have f13:=AE hk 13;clear hk j2;go_upto_region 10 with fail;generalize hW:World.setCell _ _ _=W3;have hp3:Of W3 base b c u:=⟨by rw[HU.out];simp only[cI];rw[<-hW];have hk:=SZ.out.BM;simp only[cI] at hk;exact Fl,by rw[HU.out,<-hW];exact Ck.jG SZ.out.Tc (λe=>SZ.out.ne e.symm) _,SZ.out.ge⟩;(have af:AG (λi=>i=b) w2 W3:=by rw[<-hW];(repeat(first|with_reducible exact AG.refl _ _|(with_reducible refine AG.Ui ?_ _ _)|(with_reducible refine AG.drew ?_)|(with_reducible refine AG.drewN ?_ _)|(with_reducible refine AG.alloc ?_ _))));have pa:=Hd (T0.out.trans af (λ_ _ h=> .inl h));have j3:=AR HJ2.out af Do;have VD:=Hd hp3;have HJ3:=Hd j3;have hr3:=(A0j HR.out pa.out (Lr _) (λa ha hh=>by have:=HA.out a ha;omega)).more pa.out.size;have HR3:=Hd hr3;clear hW hp3 af T0 SZ HJ2 yf f13 hr3;have JH:=OH j3;have lg:=BG j3;clear j3;go_wp2_with fail;refine(TK.out _ VD.out HR3.out).mono ?_;rintro e w4 ⟨rfl,qK,eE⟩;have HK4:=Hd (pa.out.trans eE (λ_ _ h=>h));have HP4:=Hd qK;have j4:=AR HJ3.out eE Do;have HJ4:=Hd j4;clear qK eE j4 pa VD HR3 HJ3;clear JH;go_wp2_with fail;refine(PB.out _ HP4.out).mono ?_;rintro e w5 ⟨rfl,hp5,nC⟩;have HK5:=Hd (HK4.out.trans nC (λ_ _ h=> .inl h));have HP5:=Hd hp5;have j5:=AR HJ4.out nC Do;clear hp5 nC HK4 HP4 HJ4;have c0:=AB HP5.out.BM 0 rfl;have JH:=OH j5;have lg:=BG j5;clear j5;go_wp2_with fail
 ·go_ret2;exact⟨_,rfl,IF.nil _ _,HP5.out,HK5.out⟩
 ·have jW:w.heap.size<=w5.heap.size:=HK5.out.size;rw[HID.out] at c0;go_region_held3 (λw'=>w'.cell? ⟨b,0,none⟩=some (Iv s.id)/\w'.cell? ⟨w.heap.size,3,none⟩=some (Iv q)/\w'.cell? ⟨w.heap.size,0,none⟩=some (Iv k)) (first|(refine⟨?_,?_,?_⟩<;>simp[go_sem, *];done)|go_keep) (fail);go_wp2_with fail;go_ret2;exact⟨_,rfl,Qe (g1:=w5.heap.size) (g2:=w5.heap.size+1) (AI (AM _ _) _) (BK _ _ _ Fu) A7l Ft Ft,by first|exact((HP5.out.alloc _).alloc _).drew|exact(HP5.out.alloc _).alloc _,by first|exact((HK5.out.alloc _).alloc _).drew|exact(HK5.out.alloc _).alloc _⟩
end
end
section
open RowKit
attribute [local go_sem high] A96 A95
attribute [local go_sem ↓] wp_at_zero wp_at_succ
section
variable{w w':World}{base b c:Nat}{s:AL.St}
theorem fz{s:AL.St}{l:Int}(h:AL.OK s l=0)(ha:AL.asks (AL.T6 s l) l=true):AL.LQ s l=AL.T6 s l/\AL.DK s l=[]:=by
 unfold AL.LQ AL.DK AL.tick;rw[AW h,AW ha,AO (by rw[ha];simp)];exact⟨rfl,rfl⟩
theorem uE{s:AL.St}{l:Int}(h:AL.OK s l=0)(ha:AL.asks (AL.T6 s l) l=false):AL.LQ s l={AL.T6 s l with q:=(AL.T6 s l).AZ%65536,asked:=true,AZ:=(AL.T6 s l).AZ+1,MO:=l}/\AL.DK s l=[⟨9,s.id,0,(AL.T6 s l).AZ%65536,[(AL.T6 s l).st]⟩]:=by
 unfold AL.LQ AL.DK AL.tick;rw[AW h,AO (show ¬(AL.asks (AL.T6 s l) l=true) by rw[ha];simp),AW ⟨h,ha⟩,(AL.TX s l).2.2.1];exact⟨rfl,rfl⟩
theorem vJ(h:Of w base b c s)(hs:AL.Inv s)(RV:s.AZ<1000000000000000)(now:Int):
  Calls prog 105 #[Pt b,Iv now] w (Wr base b c (AL.LQ s now) (AL.DK s now) (AL.OK s now) w):=by
 have HH:=Hd h;have NO:=Hd (λ(W:World)(hW:Of W base b c s)=>WB hW hs)
 rcases AL.Ug s now with he|he
 case inr=>have E:=Hd he;(refine K41 ?_;intro ES);(refine K2A ?_;intro CH);clear he h hs RV;go_enter func105,ntmps105;go_wp2_with fail;refine(NO.out _ HH.out).mono ?_;rintro e w' ⟨rfl,rfl⟩;go_wp2_with fail;refine(CH.out _ HH.out).mono ?_;rintro e w' ⟨rfl,rfl⟩;go_wp2_with fail;go_ret2;exact Wr.same HH.out (IH _) ES.out.1 ES.out.2 E.out
 case inl=>
 have hl:=(AL.Uf he).1;(refine K2A ?_;intro CH);(refine K3x ?_;intro p hp eC jg);have PA:=Hd (λ(W:World)(hW:Of W base b c s)=>by have:=cJ hW hs hl;rw[<-hp] at this;exact this);have h1:=eC.MO;have h2:=eC.every;have h3:=eC.rp;have h4:=eC.st;have wr:=GF (now-p.MO) Ft;rw[he]
 cases ha:AL.asks p now
 case true=>have ES:=Hd (show AL.LQ s now=p/\AL.DK s now=[] by have:=fz he Ed;rw[<-hp] at this;exact this);unfold AL.asks at ha;rw[eS] at ha;have z1:decide (0<p.AZ)=true:=IU ha.1;have z2:decide (now-p.MO<p.every)=true:=IU ha.2;clear ha he h hs RV hp eC jg hl h1 h2 h3 h4;rw[ES.out.1,ES.out.2];go_enter func105,ntmps105;go_wp2_with fail;refine(NO.out _ HH.out).mono ?_;rintro e w' ⟨rfl,rfl⟩;go_wp2_with fail;refine(CH.out _ HH.out).mono ?_;rintro e w' ⟨rfl,rfl⟩;go_wp2_with fail;refine(PA.out _ HH.out).mono ?_;rintro e w2 ⟨rfl,Pp,MU⟩;have SZ:=Hd Pp;have T0:=Hd MU;have YG:=AB Pp.BM 17 rfl;have YF:=AB Pp.BM 18 rfl;have c5:=AB Pp.BM 5 rfl;clear Pp MU;go_wp2_with fail;go_quiet (fail);go_wp2_with fail;go_ret2;exact⟨_,rfl,IF.nil _ _,SZ.out.drewN _,(T0.out.drewN _).mono (λ_ _ h=> .inl h)⟩
 case false=>
  (refine K35 ?_;intro ES);unfold AL.asks at ha;rw[eU] at ha;obtain⟨u,hu⟩:=BN (p.AZ%65536);(have wa:bits .and .i64 p.AZ 65535=u:=by rw[hu];exact ti _ Ft);have ws:=GF (p.AZ+1) Ft;(have wk:IntKind.u8.wrap p.st=p.st:=by rw[VT];omega);(have RU:0<=p.st/\p.st<256:=by omega);have HID:=Hd jg.2;rw[<-hu] at ES;obtain⟨n,hn⟩:=BN ({p with q:=u,asked:=true,AZ:=p.AZ+1,MO:=now}:AL.St);rw[<-hn] at ES;have HN:=Hd hn;rw[ES.out.1,ES.out.2];have key:(decide (0<p.AZ)=false)\/(decide (0<p.AZ)=true/\decide (now-p.MO<p.every)=false):=by
   by_cases h0:0<p.AZ
   ·exact .inr ⟨IU h0,ME (λhh=>ha ⟨h0,hh⟩)⟩
   ·exact .inl (ME h0)
  clear ha he h hs RV hp eC jg hl h1 h2 h3 h4 hu hn
  rcases key with z1|⟨z1,z2⟩
  all_goals
   go_enter func105,ntmps105;go_wp2_with fail;refine(NO.out _ HH.out).mono ?_;rintro e w' ⟨rfl,rfl⟩;go_wp2_with fail;refine(CH.out _ HH.out).mono ?_;rintro e w' ⟨rfl,rfl⟩;go_wp2_with fail;refine(PA.out _ HH.out).mono ?_;rintro e w2 ⟨rfl,Pp,MU⟩;have SZ:=Hd Pp;have T0:=Hd MU;have hzk:w.heap.size<=w2.heap.size:=MU.size;have hk:=Pp.BM;simp only[cI] at hk;clear Pp MU;have BH:=xw hk;have la:=BG hk;clear hk;go_wp2_with fail;go_quiet (fail);(try clear z1);(try clear z2);clear wr;go_wp2_with fail;generalize hD:World.drewN _ _=w3;have VD:=Hd (show Of w3 base b c p by rw[<-hD];exact SZ.out.drewN _);have pa:=Hd (show AG (λi=>i=b) w w3 by rw[<-hD];exact T0.out.drewN _);(have ZI:w3.heap.size=w2.heap.size:=by rw[<-hD];rfl);(have Abu:w.heap.size<=w3.heap.size:=by omega);clear hD ZI hzk;clear BH;clear la SZ T0;have hk:=VD.out.BM;simp only[cI] at hk;have BH:=xw hk;have la:=BG hk;clear hk;(have hbn:b≠w3.heap.size:=by omega);(have hnb:w3.heap.size≠b:=by omega);go_region_held3 (λw'=>w'.cell? ⟨b,0,none⟩=some (Iv p.id)/\w'.cell? ⟨b,17,none⟩=some (Iv p.AZ)/\w'.cell? ⟨b,7,none⟩=some (Iv p.st)) (first|(refine⟨?_,?_,?_⟩<;>simp[go_sem, *];done)|go_keep) (fail)
   all_goals
    go_upto_region 12 with fail;generalize hX:World.setCell _ _ _=X;(have hK:AG (λi=>i=b) w3 X:=by rw[<-hX];(repeat(first|with_reducible exact AG.refl _ _|(with_reducible refine AG.Ui ?_ _ _)|(with_reducible refine AG.drew ?_)|(with_reducible refine AG.drewN ?_ _)|(with_reducible refine AG.alloc ?_ _))));have kP:Of X base b c n:=⟨by rw[HN.out];simp only[cI];rw[<-hX];have hk:=VD.out.BM;simp only[cI] at hk;exact Fl,by rw[HN.out];exact VD.out.U8 hK,VD.out.ge⟩;(have hzX:X.heap.size=w3.heap.size:=by rw[<-hX];simp);clear hX;generalize hY:World.alloc _ _=Y;have KP:=Hd (show Of Y base b c n by rw[<-hY];exact(kP.alloc _).alloc _);have HKX:=Hd (show AG (λi=>i=b\/i=c) w Y by rw[<-hY];exact(((pa.out.trans hK (λ_ _ h=>h)).mono (λ_ _ h=>Or.inl h)).alloc _).alloc _);have hzY:w.heap.size<=Y.heap.size:=HKX.out.size;clear hK kP;first
    |(have kB:Y.heap[w3.heap.size]?=some (.cells #[.int .u8 p.st] 5 (0,0)):=Be;have kF:Y.heap[w3.heap.size+1]?=some (.cells #[Iv 9,Iv p.id,Iv 0,Iv u,.slice (some (Ad w3.heap.size 0)) 1 1] 147 (0,0)):=Bv;have KB:=Hd kB;clear hY kB hzX;(clear BH);(have A9D:=OH kF;have lr:=BG kF);(go_wp2_with fail);go_ret2;rw[<-HID.out];refine⟨_,rfl,?_,?_,?_⟩;(first|exact Qe (g1:=w3.heap.size) (g2:=Y.heap.size) (AI KB.out _) (AM _ _) RU Ft Ft|exact IF.drew (Qe (g1:=w3.heap.size) (g2:=Y.heap.size) (AI KB.out _) (AM _ _) RU Ft Ft));(first|exact KP.out.alloc _|exact(KP.out.alloc _).drew);(first|exact HKX.out.alloc _|exact(HKX.out.alloc _).drew))
    |(have kB:Y.heap[w3.heap.size+1]?=some (.cells #[.int .u8 p.st] 5 (0,0)):=Bv;have kF:Y.heap[w3.heap.size]?=some (.cells #[Iv 9,Iv p.id,Iv 0,Iv u,.slice (some (Ad (w3.heap.size+1) 0)) 1 1] 147 (0,0)):=Be;have KB:=Hd kB;clear hY kB hzX;(clear BH);(have A9D:=OH kF;have lr:=BG kF);(go_wp2_with fail);go_ret2;rw[<-HID.out];refine⟨_,rfl,?_,?_,?_⟩;(first|exact Qe (g1:=w3.heap.size+1) (g2:=Y.heap.size) (AI KB.out _) (AM _ _) RU Ft Ft|exact IF.drew (Qe (g1:=w3.heap.size+1) (g2:=Y.heap.size) (AI KB.out _) (AM _ _) RU Ft Ft));(first|exact KP.out.alloc _|exact(KP.out.alloc _).drew);(first|exact HKX.out.alloc _|exact(HKX.out.alloc _).drew))
end
section
variable{w w':World}{base b c:Nat}{s:AL.St}
theorem cC(h:Of w base b c s)(hs:AL.Inv s):
  Calls prog 56 #[Pt b] w (LP (Iv s.st) w):=by
 have N:=Hd (WB h hs);have c7:w.cell? (Ad b 7)=some (Iv s.st):=AB h.BM 7 rfl;clear h hs;go_enter func56,ntmps56;go_wp2_with fail;refine K29 ?_;go_wp2_with fail;go_returns;exact⟨rfl,rfl⟩
def A1S(base:Nat)(s:AL.St)(w:World)(e:Ending)(w':World):Prop:=∃b c,e= .returned (.tuple #[Pt b,Iv 0])/\Of w' base b c s/\Below w.heap.size w w'
theorem A0k(id lost ret desc late every d:Int)(w:World)(h:AL.VX id lost ret desc late every d=0):
  Calls prog 64 #[Iv id,.agg #[Iv lost,Iv ret,Iv desc,Iv late,Iv every],Iv d] w (A1S w.heap.size (AL.new id lost ret desc late every d) w):=by
 have hh:Ck.AV.Rj id 1 64=true/\AL.S9 lost ret desc late every=true/\(0<=d/\d<=100000):=by
  unfold AL.VX at h;split at h
  ·assumption
  ·omega
 obtain⟨hi,hr,hd⟩:=hh;have WI:=Hd (λW:World=>Tj id 1 64 W (Ck.AV.EP.1 hi));have VA:=Hd (λW:World=>by have:=cB lost ret desc late every W;rw[hr] at this;exact this);have CN:=Hd (λW:World=>Ck.A2G d W hd);clear h hi hr hd;go_enter func64,ntmps64;go_upto_region 1 with fail;(refine Ko ?_;intro V hV);have k0:V.heap[w.heap.size]?=some (.cells #[Iv lost,Iv ret,Iv desc,Iv late,Iv every] 23 (0,0)):=D7;have HB:=Hd (show Below w.heap.size w V by rw[<-hV];exact(IH _).alloc (Lr _) _);clear hV;have Oq:w.heap.size<V.heap.size:=BG k0;go_wp2_with fail;refine(CN.out _).mono ?_;rintro e w1 ⟨rfl,VG,BX⟩;have eL:=Hd VG;clear VG;have HJ:=Hd (GH k0 BX);have IJ:=BX.size;have j0:=GH k0 BX;have DF:=JI HB BX;clear k0 BX HB;have CX:=OH j0;have lf:=BG j0;clear j0;go_wp2_with fail;refine(WI.out _).mono ?_;rintro e w' ⟨rfl,rfl⟩;go_wp2_with fail;refine(VA.out _).mono ?_;rintro e w2 ⟨rfl,CB⟩;have NB:=JI DF CB;have T0:=Hd (Ck.P5 eL.out CB (Ck.QM eL.out));have j2:=GH HJ.out CB;clear CB DF eL HJ;clear CX;have JH:=OH j2;have lg:=BG j2;clear j2;go_wp2_with fail;go_returns;exact⟨_,V.heap.size,rfl,⟨AM _ _,Ck.WR T0.out _,NB.out.size,by omega⟩,NB.out.alloc NB.out.size _⟩
end
section
variable{w w':World}{base b c:Nat}{s:AL.St}
theorem mH(h:Of w base b c s)(hs:AL.Inv s)(x:Int):
  Calls prog 54 #[Pt b,Iv x] w (IL (.tuple #[.agg #[Iv (Ck.aLo s.d s.r s.cs s.lo s.hi x),Iv (Ck.ue s.d s.r s.cs s.hi x)],Iv (Ck.aE s.d s.r s.cs s.hi x)]) w):=by
 have HH:=Hd h;have NO:=Hd (λ(W:World)(hW:Of W base b c s)=>WB hW hs);have AT:=Hd (λ(W:World)(hW:Ck.DV W c s.d s.r true s.cs s.lo s.hi)=>Ck.A1H c s.d s.r s.cs s.lo s.hi x W hW hs.Tc);obtain⟨e1,h1⟩:=BN (Ck.aLo s.d s.r s.cs s.lo s.hi x);obtain⟨e2,h2⟩:=BN (Ck.ue s.d s.r s.cs s.hi x);obtain⟨e3,h3⟩:=BN (Ck.aE s.d s.r s.cs s.hi x);rw[<-h1,<-h2,<-h3] at AT;rw[<-h1,<-h2,<-h3];clear h hs h1 h2 h3;go_enter func54,ntmps54;go_upto_region 1 with fail;(refine Ko ?_;intro V hV);have HB:=Hd (show Below w.heap.size w V by rw[<-hV];exact(IH _).alloc (Lr _) _);have HP:=Hd (HH.out.below HB.out (Lr _));(have k0:V.heap[w.heap.size]?=some (.cells #[Iv 0,Iv 0] 65 (0,0)):=by rw[<-hV];exact AM _ _);clear hV;have K0:=Hd k0;clear k0;go_wp2_with fail;refine K3G ?_;have c6:V.cell? (Ad b 6)=some (Pt c):=AB HP.out.BM 6 rfl;go_wp2_with fail;refine(AT.out _ HP.out.Tc).mono ?_;rintro e w2 ⟨rfl,CB⟩;have j0:=GH K0.out CB;have NB:=JI HB CB;clear CB c6;have CX:=cj2 j0;have lf:=BG j0;have J0:=Hd j0;clear j0;go_wp2_with fail;generalize hW:World.setCell _ _ _=W;(have kW:W.heap[w.heap.size]?=some (.cells #[Iv e1,Iv e2] 65 (0,0)):=by rw[<-hW];have:=J0.out;exact Fl);have hW2:=Hd (show Below w.heap.size w W by rw[<-hW];have:=NB.out;exact A9);clear hW;clear CX;have JH:=cj2 kW;have lg:=BG kW;clear kW;refine IT (v:= .tuple #[.agg #[Iv e1,Iv e2],Iv e3]) ?_ rfl ⟨rfl,hW2.out⟩;simp[results,results54,go_sem,JH]
end
end
section
open RowKit
attribute [local go_sem ↓] wp_at_zero wp_at_succ
def oy(n m:Nat)(w:World)(l:Int)(R:AL.St)(kx:Nat)(v5 v7:Value)(wr:World):Prop:=
 ∃t,AL.ZX t.st<=kx/\v5=Iv (AL.MC t).1/\v7= .bool (AL.MC t).2.2/\RB wr n t/\RB wr (n+1) FQ/\RB wr m (rnx t)/\n+1<m/\AL.Inv t/\AL.run 4 t l=R/\Below n w wr
theorem Z3(s:AL.St)(hs:AL.Inv s){l:Int}(hl: -1073741824<=l/\l<=1073741824)(w:World):
  Calls prog 120 #[.agg (LJ s).toArray,Iv l] w λe w'=>e= .returned (.agg (LJ (AL.T6 s l)).toArray)/\Below w.heap.size w w':=by
 obtain⟨u,hu⟩:=BN (if s.begun then s else{s with begun:=true,now:=l,heard:=l,since:=l});have hiu:AL.Inv u:=by
  rw[hu];split
  ·exact hs
  ·rename_i hb
   have h:=AL.jH hs hl;unfold AL.u7 at h;rw[AO hb] at h;exact h
 have hpu:AL.T6 s l={AL.run 4 u l with now:=l}:=by
  unfold AL.T6 AL.u7;rw[AL.Xq,hu];split
  ·rfl
  ·have:=AL.Xq 4 {s with begun:=true,heard:=l,since:=l} l l;rw[show({s with begun:=true,now:=l,heard:=l,since:=l}:AL.St)={({s with begun:=true,heard:=l,since:=l}:AL.St) with now:=l} from rfl,this]
 obtain⟨R,hR⟩:=BN (AL.run 4 u l);rw[<-hR] at hpu;have HIU:=Hd hiu;have HR:=Hd hR;have EV:=Hd (bK u hiu);rw[hpu];clear hpu hR hiu;have key:∀(V:World)(m:Nat),RB V w.heap.size u->RB V (w.heap.size+1) FQ->RB V m (rnx u)->w.heap.size+1<m->Below w.heap.size w V->Hid (oy w.heap.size m w l R 5 (Iv (AL.MC u).1) (.bool (AL.MC u).2.2) V):=λV m k0 k1 k2 hm hV=>
  Hd ⟨u,by have:=AL.iJ u.st;omega,rfl,rfl,k0,k1,k2,hm,HIU.out,HR.out.symm,hV⟩
 have KEY:=Hd key;clear key
 cases hb:s.begun
 case' false=>
  rw[AO (by rw[hb];simp)] at hu;have HU:=Hd hu;have aA:=Hd hb;clear hu;go_enter func120,ntmps120;go_upto_region 1 with fail;(refine Ko ?_;intro V hV);(have k0:RB V w.heap.size s:=by rw[<-hV];exact AI (AM _ _) _);(have k1:RB V (w.heap.size+1) FQ:=by rw[<-hV];exact BK _ _ _ Fu);(refine Kb ?_;intro HB);clear hV;(have c12:V.cell? (Ad w.heap.size 12)=some (.bool false):=by rw[<-hb];exact AB k0 12 rfl);have f12:=AE k0 12;have ie:=AB k0 16 rfl;have f16:=AE k0 16;have YG:=AB k0 17 rfl;have f17:=AE k0 17;have YF:=AB k0 18 rfl;have f18:=AE k0 18;clear hb;go_upto_region 3 with fail;generalize hW:World.setCell _ _ _=W;(have j0:RB W w.heap.size u:=by rw[<-hW,HU.out];exact AP (AP (AP (AP k0 12 _) 16 _) 17 _) 18 _);(have j1:RB W (w.heap.size+1) FQ:=by rw[<-hW];exact CV (CV (CV (CV k1 Fu _) Fu _) Fu _) Fu _);(refine K0z ?_;intro Rx);clear hW HB k0 k1 c12 f12 ie f16 YG f17 YF f18 aA HU;exact Nh
 case' true=>
  rw[AW (by rw[hb])] at hu;have HU:=Hd hu;clear hu;go_enter func120,ntmps120;go_upto_region 1 with fail;generalize hV:World.alloc _ _=W;(have k0:RB W w.heap.size s:=by rw[<-hV];exact AI (AM _ _) _);(have j0:RB W w.heap.size u:=by rw[HU.out];exact k0);(have j1:RB W (w.heap.size+1) FQ:=by rw[<-hV];exact BK _ _ _ Fu);have Rx:=Hd (show Below w.heap.size w W from by rw[<-hV];exact A9);clear hV;(have c12:W.cell? (Ad w.heap.size 12)=some (.bool true):=by rw[<-hb];exact AB k0 12 rfl);clear hb k0 HU;go_upto_region 3 with fail;clear c12;exact Nh
end
end Go.Proofs.YtdocdgcdldpagaaGreat

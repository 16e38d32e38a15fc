import Derived.Test.YtdocdgcdldpagaaGreatAw17
open Go.Proofs.Tryz
namespace Go.Proofs.YtdocdgcdldpagaaGreat
set_option maxHeartbeats 64000000
set_option maxRecDepth 100000
set_option linter.all false
section
open RowKit
attribute [local go_sem ↓] wp_at_zero wp_at_succ
theorem A2e(s:AL.St)(hs:AL.Inv s)(k f t q:Int)(A:Option Addr)(n cap:Nat)(l:List Int)(hn:n=l.length)(IM:n<=64)(w:World)(hr:Rd w w.heap.size A n l)(hk:k<1\/7<k):
  Calls prog 121 #[.agg (LJ s).toArray,.agg #[Iv k,Iv f,Iv t,Iv q,.slice A n cap]] w (TI (AL.take s (AL.MK ⟨k,f,t,q,l⟩)) w):=by
 (refine KO ?_;intro m hm IY GK LA MV GJ ID EL x hx);rw[<-hx] at GK IY LA⊢;(refine K1i ?_;intro y1 y2 y3 y4);refine K1o ?_;intro y5 y6 y7
 by_cases h4:n=4
 case neg=>(refine K1Y ?_;intro y0);(refine K2f ?_;intro E);clear hk IY GK LA hx hn hr hs IM MV GJ ID EL hm h4;exact Lu
 case pos=>(refine K4w ?_;intro y0);(refine K0D ?_;intro G HM);(refine K2f ?_;intro E);clear hk IY GK LA hx hn hr hs IM MV GJ ID EL hm h4;exact Lq
theorem A2f(s:AL.St)(hs:AL.Inv s)(k f t q:Int)(A:Option Addr)(n cap:Nat)(l:List Int)(hn:n=l.length)(IM:n<=64)(w:World)(hr:Rd w w.heap.size A n l)(hk:k=7):
  Calls prog 121 #[.agg (LJ s).toArray,.agg #[Iv k,Iv f,Iv t,Iv q,.slice A n cap]] w (TI (AL.take s (AL.MK ⟨k,f,t,q,l⟩)) w):=by
 (refine KO ?_;intro m hm IY GK LA MV GJ ID EL x hx);rw[<-hx] at GK IY LA⊢;(refine K1i ?_;intro y1 y2 y3 y4);have y5:(k==5)=false:=JJ Ft;have y6:(k==6)=false:=JJ Ft;(have y7:(k==7)=true:=by rw[Q5];omega);(have ji:x.two=decide (l.length=8):=by rw[hx];rfl);(have dz:x.seq=q:=by rw[hx];rfl);have Zj:=hs.ask
 by_cases h8:n=8
 case neg=>
  have y8:((n:Int)==8)=false:=JJ Ft;have oP:x.two=false:=by rw[ji,ME Ft]
  by_cases h4:n=4
  case neg=>(refine K1Y ?_;intro y0);(refine K1N ?_;intro E);clear hk IY GK LA hx hn hr hs IM MV GJ ID EL hm h4 h8 ji dz Zj oP;exact Lu
  case pos=>(refine K4w ?_;intro y0);(refine K0D ?_;intro G HM);(refine K1N ?_;intro E);clear hk IY GK LA hx hn hr hs IM MV GJ ID EL hm h4 h8 ji dz Zj oP;exact Lq
 (have y8:((n:Int)==8)=true:=by rw[Q5];omega);(refine K1Y ?_;intro y0);have oP:x.two=true:=by rw[ji,IU Ft]
 cases ha:s.asked
 ·have E:=Hd (show AL.take s x=(s,false) by unfold AL.take;rw[AO Ft,AO Ft,AO Ft,AO Ft,AO Ft,AO Ft,AW Ft,AO (λhh=>by rw[ha] at hh;cases hh.2.1)]);have HA:=Hd ha;clear hk IY GK LA hx hn hr hs IM MV GJ ID EL hm h8 ji dz Zj oP ha
  rcases z45 s with⟨z4,z5⟩|⟨z4,z5⟩|⟨z4,z5⟩
  all_goals
   go_enter func121,ntmps121;go_upto_region 1 with fail;(refine Ka ?_;intro V k0 k2 HB CX lf KF);(refine KJ ?_;intro PR);have c15:V.cell? (Ad w.heap.size 15)=some (.bool s.asked):=AB k0 15 rfl;rw[HA.out] at c15;go_upto_region 38 with fail;exact Fv
 ·have hqq:=(Zj ha).2;have HA:=Hd ha
  by_cases hq:q=s.q
  case neg=>
   (have z9:(q==s.q)=false:=by rw[Bf];exact hq);have E:=Hd (show AL.take s x=(s,false) by unfold AL.take;rw[AO Ft,AO Ft,AO Ft,AO Ft,AO Ft,AO Ft,AW Ft,AO (λhh=>hq (by have:=hh.2.2;rw[dz,<-hqq] at this;exact this))]);clear hk IY GK LA hx hn hr hs IM MV GJ ID EL hm h8 ji dz Zj oP ha hq hqq
   rcases z45 s with⟨z4,z5⟩|⟨z4,z5⟩|⟨z4,z5⟩
   all_goals
    go_enter func121,ntmps121;go_upto_region 1 with fail;(refine Ka ?_;intro V k0 k2 HB CX lf KF);(refine KJ ?_;intro PR);(refine K2u ?_;intro c15 ao);go_upto_region 38 with fail;exact Fv
  (have z9:(q==s.q)=true:=by rw[Q5];exact hq);(have Vw:x.seq=(s.AZ-1)%65536:=by rw[dz,hq,hqq]);have G:=Hd (λ(W:World)(hW:Below w.heap.size w W)=>fK A n cap 2 l W Ft hn Ft Ft ((hr.below hW (Lr _)).more hW.size));(have hxg:x.g=AQ.OX l 0:=by rw[hx];rfl);(have oM:x.b=AQ.OX l 1:=by rw[hx];rfl);obtain⟨n0,dv⟩:=BN (AQ.OX l 0);obtain⟨n1,YO⟩:=BN (AQ.OX l 1);have HN:=Hd (And.intro dv YO);have AD:=Hd (λW:World=>Ck.zZ s.d s.r s.cs s.lo s.hi s.MO n0 n1 s.now W hs.Tc hs.l0);have E:=Hd (show AL.take s x=({s with r:=Ck.AV.YI s.d s.r s.cs s.lo s.hi s.MO n0 n1 s.now,cs:=Ck.AV.YH s.d s.r s.cs s.lo s.hi s.MO n0 n1 s.now,lo:=Ck.AV.S7 s.d s.r s.cs s.lo s.hi s.MO n0 n1 s.now,hi:=Ck.AV.Tw s.d s.r s.cs s.lo s.hi s.MO n0 n1 s.now,asked:=false},false) by unfold AL.take;rw[AO Ft,AO Ft,AO Ft,AO Ft,AO Ft,AO Ft,AW Ft,AW ⟨oP,ha,Vw⟩,hxg,oM,<-dv,<-YO]);obtain⟨xr,hxr⟩:=BN (Ck.AV.YI s.d s.r s.cs s.lo s.hi s.MO n0 n1 s.now);obtain⟨xs,hxs⟩:=BN (Ck.AV.YH s.d s.r s.cs s.lo s.hi s.MO n0 n1 s.now);obtain⟨xl,XM⟩:=BN (Ck.AV.S7 s.d s.r s.cs s.lo s.hi s.MO n0 n1 s.now);obtain⟨xh,hxh⟩:=BN (Ck.AV.Tw s.d s.r s.cs s.lo s.hi s.MO n0 n1 s.now);obtain⟨xe,xU⟩:=BN (Ck.AV.MF s.d s.r s.cs s.lo s.hi s.MO n0 n1 s.now);have AD:=Hd (λW:World=>by have:=AD.out W;unfold Ck.JA at this;rw[<-hxr,<-hxs,<-XM,<-hxh,<-xU] at this;exact this);rw[<-hxr,<-hxs,<-XM,<-hxh] at E
  by_cases h0:xe=0
  ·subst h0;clear hk IY GK LA hx hn hr hs IM MV GJ ID EL hm h8 ji dz Zj oP ha hq hqq Vw hxg oM dv YO hxr hxs XM hxh xU
   rcases z45 s with⟨z4,z5⟩|⟨z4,z5⟩|⟨z4,z5⟩
   all_goals
    go_enter func121,ntmps121;go_upto_region 1 with fail;(refine Ka ?_;intro V k0 k2 HB CX lf KF);(refine KJ ?_;intro PR);(refine K2u ?_;intro c15 ao);go_upto_region 33 with fail;go_wp2_with fail;refine K1P ?_;rintro e W1 ⟨g,o,c,rfl,hc,BX,_⟩;(refine K0O ?_;clear hc BX k0 k2 KF HB PR c15 ao CX lf;intro d0 d1 DF hgW I0 I2 c6 c7 c8 c9 Zt aQ ie);go_upto_region 34 with fail;go_region_held3 (λw'=>w'.cell? ⟨w.heap.size,6,none⟩=some (Iv s.d)/\w'.cell? ⟨w.heap.size,7,none⟩=some (Iv s.r)/\w'.cell? ⟨w.heap.size,8,none⟩=some (.bool s.cs)/\w'.cell? ⟨w.heap.size,9,none⟩=some (Iv s.lo)/\w'.cell? ⟨w.heap.size,10,none⟩=some (Iv s.hi)/\w'.cell? ⟨w.heap.size,22,none⟩=some (Iv s.MO)/\w'.cell? ⟨w.heap.size,16,none⟩=some (Iv s.now)/\w'.cell? ⟨g,o,none⟩=some (Iv n0)/\w'.cell? ⟨g,o+1,none⟩=some (Iv n1)) (first|(refine⟨?_,?_,?_,?_,?_,?_,?_,?_,?_⟩<;>simp[go_sem, *];done)|go_keep) (first|(go_at_call 148;refine(AD.out _).mono ?_;rintro e W5 ⟨rfl,LM⟩;have jW:=LM.size;(try simp at jW);have JD:=Hd (show Below W1.heap.size W1 W5 from A9);(try(have z1:W5.heap[W1.heap.size]?=some (.cells #[Iv 0,Iv 0,.bool false,Iv 0,Iv 0] 99 (0,0)):=AH Ap LM Fu;(have Vy:=OH z1;have lz:=BG z1)));have u0:=((BO JD.out).1 g o hgW).trans d0;have u1:=((BO JD.out).1 g (o+1) hgW).trans d1;have i0:RB W5 w.heap.size s:=GH I0.out JD.out;have i2:RB W5 (w.heap.size+2) FQ:=GH I2.out JD.out;have J0:=Hd i0;have J2:=Hd i2;clear LM c6 c7 c8 c9 Zt aQ ie d0 d1;(have c6:W5.cell? (Ad w.heap.size 6)=some (Iv s.d):=AB i0 6 rfl;have c7:W5.cell? (Ad w.heap.size 7)=some (Iv s.r):=AB i0 7 rfl;have c8:W5.cell? (Ad w.heap.size 8)=some (.bool s.cs):=AB i0 8 rfl;have c9:W5.cell? (Ad w.heap.size 9)=some (Iv s.lo):=AB i0 9 rfl;have Zt:W5.cell? (Ad w.heap.size 10)=some (Iv s.hi):=AB i0 10 rfl;have aQ:W5.cell? (Ad w.heap.size 22)=some (Iv s.MO):=AB i0 22 rfl;have ie:W5.cell? (Ad w.heap.size 16)=some (Iv s.now):=AB i0 16 rfl);clear i0 i2))
    all_goals
     have RR:w.heap.size+2<W1.heap.size:=BG I2.out;have hz9:W1.heap.size<=W5.heap.size:=JD.out.size;(have hzz:w.heap.size<=W5.heap.size:=by omega);first
     |(
      have _g:=z1;go_upto_region 35 with fail;(refine K06 ?_;clear z1;intro V6 kc k0 k2 HB i0);(refine K2g ?_;intro e6 p6 e7 p7 e8 p8 e9 p9 e10 p10 e15 p15 IK lm);have LX:W1.heap.size≠w.heap.size:=Ft;have A0W:w.heap.size≠W1.heap.size:=Ft;go_upto_region 38 with fail;(refine K3h ?_;intro V7 qU j0);(refine KH ?_;intro j2 T3);clear qU k0 k2 HB i0 kc e6 p6 e7 p7 e8 p8 e9 p9 e10 p10 e15 p15;clear IK;have k0:=j0;have k2:=j2;have HB:=T3;(go_wp2_with (first|(refine JS rfl 101 _ rfl _ rfl 101 _ (0,0) _ k0 underlying101 rfl Ff ?_)|(refine OZ rfl 101 _ _ rfl _ _ rfl rfl 101 _ k2 Ff rfl (DI _) ?_));exact IT (PX rfl _ _ _ _ _ (0,0) _ rfl (MR _ _ _ _ _ _ k2) underlying101 rfl Ff) rfl ⟨by rw[E.out];try(simp;done),JO HB.out Ft _⟩))
     |(
      fail_if_success (have _g:=z1)
      go_upto_region 35 with fail;(refine K0L ?_;intro V6 kc k0 k2 HB i0);(refine K2g ?_;intro e6 p6 e7 p7 e8 p8 e9 p9 e10 p10 e15 p15 IK lm);have LX:W5.heap.size≠w.heap.size:=Ft;have A0W:w.heap.size≠W5.heap.size:=Ft;go_upto_region 38 with fail;(refine K3h ?_;intro V7 qU j0);(refine KH ?_;intro j2 T3);clear qU k0 k2 HB i0 kc e6 p6 e7 p7 e8 p8 e9 p9 e10 p10 e15 p15;clear IK;have k0:=j0;have k2:=j2;have HB:=T3;(go_wp2_with (first|(refine JS rfl 101 _ rfl _ rfl 101 _ (0,0) _ k0 underlying101 rfl Ff ?_)|(refine OZ rfl 101 _ _ rfl _ _ rfl rfl 101 _ k2 Ff rfl (DI _) ?_));exact IT (PX rfl _ _ _ _ _ (0,0) _ rfl (MR _ _ _ _ _ _ k2) underlying101 rfl Ff) rfl ⟨by rw[E.out];try(simp;done),JO HB.out Ft _⟩))
  ·(have z8:(xe==0)=false:=by rw[Bf];exact h0);have EN:=Hd (show xr=s.r/\xs=s.cs/\xl=s.lo/\xh=s.hi by
    rw[xU] at h0;exact⟨by rw[hxr];unfold Ck.AV.YI;rw[AO h0],by rw[hxs];unfold Ck.AV.YH;rw[AO h0],by rw[XM];unfold Ck.AV.S7;rw[AO h0],by rw[hxh];unfold Ck.AV.Tw;rw[AO h0]⟩)
   clear hk IY GK LA hx hn hr hs IM MV GJ ID EL hm h8 ji dz Zj oP ha hq hqq Vw hxg oM dv YO hxr hxs XM hxh xU h0
   rcases z45 s with⟨z4,z5⟩|⟨z4,z5⟩|⟨z4,z5⟩
   all_goals
    go_enter func121,ntmps121;go_upto_region 1 with fail;(refine Ka ?_;intro V k0 k2 HB CX lf KF);(refine KJ ?_;intro PR);(refine K2u ?_;intro c15 ao);go_upto_region 33 with fail;go_wp2_with fail;refine K1P ?_;rintro e W1 ⟨g,o,c,rfl,hc,BX,_⟩;(refine K0O ?_;clear hc BX k0 k2 KF HB PR c15 ao CX lf;intro d0 d1 DF hgW I0 I2 c6 c7 c8 c9 Zt aQ ie);go_upto_region 34 with fail;go_region_held3 (λw'=>w'.cell? ⟨w.heap.size,6,none⟩=some (Iv s.d)/\w'.cell? ⟨w.heap.size,7,none⟩=some (Iv s.r)/\w'.cell? ⟨w.heap.size,8,none⟩=some (.bool s.cs)/\w'.cell? ⟨w.heap.size,9,none⟩=some (Iv s.lo)/\w'.cell? ⟨w.heap.size,10,none⟩=some (Iv s.hi)/\w'.cell? ⟨w.heap.size,22,none⟩=some (Iv s.MO)/\w'.cell? ⟨w.heap.size,16,none⟩=some (Iv s.now)/\w'.cell? ⟨g,o,none⟩=some (Iv n0)/\w'.cell? ⟨g,o+1,none⟩=some (Iv n1)) (first|(refine⟨?_,?_,?_,?_,?_,?_,?_,?_,?_⟩<;>simp[go_sem, *];done)|go_keep) (first|(go_at_call 148;refine(AD.out _).mono ?_;rintro e W5 ⟨rfl,LM⟩;have jW:=LM.size;(try simp at jW);have JD:=Hd (show Below W1.heap.size W1 W5 from A9);(try(have z1:W5.heap[W1.heap.size]?=some (.cells #[Iv 0,Iv 0,.bool false,Iv 0,Iv 0] 99 (0,0)):=AH Ap LM Fu;(have Vy:=OH z1;have lz:=BG z1)));have u0:=((BO JD.out).1 g o hgW).trans d0;have u1:=((BO JD.out).1 g (o+1) hgW).trans d1;have i0:RB W5 w.heap.size s:=GH I0.out JD.out;have i2:RB W5 (w.heap.size+2) FQ:=GH I2.out JD.out;have J0:=Hd i0;have J2:=Hd i2;clear LM c6 c7 c8 c9 Zt aQ ie d0 d1;(have c6:W5.cell? (Ad w.heap.size 6)=some (Iv s.d):=AB i0 6 rfl;have c7:W5.cell? (Ad w.heap.size 7)=some (Iv s.r):=AB i0 7 rfl;have c8:W5.cell? (Ad w.heap.size 8)=some (.bool s.cs):=AB i0 8 rfl;have c9:W5.cell? (Ad w.heap.size 9)=some (Iv s.lo):=AB i0 9 rfl;have Zt:W5.cell? (Ad w.heap.size 10)=some (Iv s.hi):=AB i0 10 rfl;have aQ:W5.cell? (Ad w.heap.size 22)=some (Iv s.MO):=AB i0 22 rfl;have ie:W5.cell? (Ad w.heap.size 16)=some (Iv s.now):=AB i0 16 rfl);clear i0 i2))
    all_goals
     have RR:w.heap.size+2<W1.heap.size:=BG I2.out;have hz9:W1.heap.size<=W5.heap.size:=JD.out.size;(have hzz:w.heap.size<=W5.heap.size:=by omega);first
     |(
      have _g:=z1;go_upto_region 35 with fail;(refine K06 ?_;clear z1;intro V6 kc k0 k2 HB i0);have e15:=AB k0 15 rfl;have p15:=AE k0 15;go_upto_region 38 with fail;(refine K3t ?_;intro V7 qU j0);(refine KH ?_;intro j2 T3);clear qU k0 k2 HB i0 e15 p15;have k0:=j0;have k2:=j2;have HB:=T3;(go_wp2_with (first|(refine JS rfl 101 _ rfl _ rfl 101 _ (0,0) _ k0 underlying101 rfl Ff ?_)|(refine OZ rfl 101 _ _ rfl _ _ rfl rfl 101 _ k2 Ff rfl (DI _) ?_));exact IT (PX rfl _ _ _ _ _ (0,0) _ rfl (MR _ _ _ _ _ _ k2) underlying101 rfl Ff) rfl ⟨by rw[E.out];try(simp;done),JO HB.out Ft _⟩))
     |(
      fail_if_success (have _g:=z1)
      go_upto_region 35 with fail;(refine K0L ?_;intro V6 kc k0 k2 HB i0);have e15:=AB k0 15 rfl;have p15:=AE k0 15;go_upto_region 38 with fail;(refine K3t ?_;intro V7 qU j0);(refine KH ?_;intro j2 T3);clear qU k0 k2 HB i0 e15 p15;have k0:=j0;have k2:=j2;have HB:=T3;(go_wp2_with (first|(refine JS rfl 101 _ rfl _ rfl 101 _ (0,0) _ k0 underlying101 rfl Ff ?_)|(refine OZ rfl 101 _ _ rfl _ _ rfl rfl 101 _ k2 Ff rfl (DI _) ?_));exact IT (PX rfl _ _ _ _ _ (0,0) _ rfl (MR _ _ _ _ _ _ k2) underlying101 rfl Ff) rfl ⟨by rw[E.out];try(simp;done),JO HB.out Ft _⟩))
theorem uU(s:AL.St)(hs:AL.Inv s)(k f t q:Int)(A:Option Addr)(n cap:Nat)(l:List Int)(hn:n=l.length)(IM:n<=64)(w:World)(hr:Rd w w.heap.size A n l):
  Calls prog 121 #[.agg (LJ s).toArray,.agg #[Iv k,Iv f,Iv t,Iv q,.slice A n cap]] w (TI (AL.take s (AL.MK ⟨k,f,t,q,l⟩)) w):=by
 by_cases h1:k=1
 ·exact A2l s hs k f t q A n cap l hn IM w hr h1
 by_cases h2:k=2
 ·exact A2k s hs k f t q A n cap l hn IM w hr h2
 by_cases h3:k=3
 ·exact A2j s hs k f t q A n cap l hn IM w hr h3
 by_cases h4:k=4
 ·exact A2i s hs k f t q A n cap l hn IM w hr h4
 by_cases h5:k=5
 ·exact A2h s hs k f t q A n cap l hn IM w hr h5
 by_cases h6:k=6
 ·exact A2g s hs k f t q A n cap l hn IM w hr h6
 by_cases h7:k=7
 ·exact A2f s hs k f t q A n cap l hn IM w hr h7
 exact A2e s hs k f t q A n cap l hn IM w hr Ft
end
end Go.Proofs.YtdocdgcdldpagaaGreat

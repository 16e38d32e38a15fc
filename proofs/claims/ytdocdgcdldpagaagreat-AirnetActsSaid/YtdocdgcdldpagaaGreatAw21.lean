import Derived.Test.YtdocdgcdldpagaaGreatAw20
open Go.Proofs.Tryz
namespace Go.Proofs.YtdocdgcdldpagaaGreat
set_option maxHeartbeats 64000000
set_option maxRecDepth 100000
set_option linter.all false
section
open RowKit
attribute [local go_sem ↓] wp_at_zero wp_at_succ
namespace Nt
theorem jt(s:AJ.St)(k now x:Int)(h1:k≠1)(h3:k≠3):AJ.BZ s k now x=AJ.BZ s k now 0/\AJ.JP s k now x=AJ.JP s k now 0/\AJ.FM s k now x=AJ.FM s k now 0:=by
 (have e1:AJ.BZ s k now x=AJ.BZ s k now 0:=by unfold AJ.BZ;simp only[h1,h3,false_and,fO]);(have e2:AJ.CG s k now x=AJ.CG s k now 0:=by unfold AJ.CG;simp only[h1,h3,fO]);refine⟨e1,?_,?_⟩
 ·unfold AJ.JP;rw[e1,e2]
 ·unfold AJ.FM;rw[e1,e2]
theorem XE{s:St}{k x:Int}(h:Yy s k x≠0):Rq s k x=s:=by unfold Rq;rw[AO h]
theorem WQ{s:St}{k x:Int}(h:Yy s k x=0):Rq s k x=look (FP {s with st:=AJ.JP s.st k s.now x} (AJ.FM s.st k s.now x)):=by unfold Rq;rw[AW h]
theorem Zq{s:St}{k x:Int}(h:1<=k/\k<=6):Yy s k x=AJ.BZ s.st k s.now x:=by unfold Yy;rw[AW h]
theorem Sg{s:AJ.St}{k now x:Int}(h:AJ.BZ s k now x≠0):AJ.JP s k now x=s:=by unfold AJ.JP;rw[AO h]
theorem Sm{N:Nat}{s:St}(h:Inv N s)(k x:Int)(hk:1<=k/\k<=6):Inv N {s with st:=AJ.JP s.st k s.now x}/\(∀g∈AJ.FM s.st k s.now x,aB s.cr.length g)/\(AJ.FM s.st k s.now x).length<=64:=by
 have ok:=dF s.st h.st k s.now x hk;exact⟨h.bp (t:=AJ.JP s.st k s.now x) (AJ.Pw h.st hk) (ju _ _ _ _),λg hg=>by have:=ok.1 g hg;rw[h.sn] at this;exact this,ok.2⟩
end Nt
section
variable{w w' w0:World}{base b k N fb:Nat}{m m1:NM}{s s':Nt.St}{v:Value}{L:List Fr}
def QO(base b k:Nat)(m:NM)(w0:World)(s:Nt.St)(c x:Int)(e:Ending)(w':World):Prop:=
 ∃(v1:Value)(m3:NM),e= .returned (.tuple #[v1,Iv (AJ.BZ s.st c s.now x)])/\IF w' 0 v1 (AJ.FM s.st c s.now x)/\HS base b k m w0 0 (.slice none 0 0) [] {s with st:=AJ.JP s.st c s.now x} w' m3
theorem gM(h:BQ w base b m k s){W w':World}(hW:Below w.heap.size w W){c x:Int}{e:Ending}(g:JX base m.sb m.MA m.RA m.rc (AJ.JP s.st c s.now x) (AJ.FM s.st c s.now x) (AJ.BZ s.st c s.now x) W e w'):QO base b k m w s c x e w':=by
 obtain⟨v1,km,wh,e1,g1,g2,g3,g4⟩:=g;have h1:HS base b k m w 0 (.slice none 0 0) [] s W m:=⟨h.below hW,AG.AS hW,NG.refl,IF.nil _ _⟩;obtain⟨m3,h3⟩:=h1.to (h1.1.pk g1 g2 g4);exact⟨v1,m3,e1,g3.more (Pe _),h3⟩
theorem A74(h:BQ w base b m k s)(hs:Nt.Inv N s)(BJ:base<=w.heap.size)(hN:N+200000<=1000000000000)(x:Int):
  Calls prog 28 #[Pt b,Iv 1,Iv x] w λe w'=>e= .returned (Iv (Nt.Yy s 1 x))/\Q4 base b m k (Nt.Rq s 1 x) w w':=by
 (refine K0W ?_;intro NO Pb ao);have GV:=Hd (show ∀W:World,Below w.heap.size w W->Calls prog 66 #[Pt m.sb,Iv s.now,Iv x] W (QO base b k m w s 1 x) from λW hW=>((uP (h.below hW).st hs.st s.now x (Lt BJ hW.size)).mono (λe w' g=>gM h hW g)));have Qn:=Nt.Sm hs 1 x Fj;(refine K23 ?_;intro ax Ws gD);have DE:=Hd (Nt.Zq (s:=s) (k:=1) (x:=x) Fj);obtain⟨er,Oe⟩:=BN (AJ.BZ s.st 1 s.now x);have HE:=Hd Oe;obtain⟨fr,Rv⟩:=BN (AJ.FM s.st 1 s.now x);obtain⟨s1,Om⟩:∃s1:Nt.St,s1={s with st:=AJ.JP s.st 1 s.now x}:=⟨_,rfl⟩;unfold QO at GV;rw[<-Oe,<-Rv,<-Om] at GV;rw[<-Rv] at Ws gD;rw[<-Om] at ax;(refine K2d ?_;intro Ws);have DN:=Hd (show er≠0->Nt.Rq s 1 x=s1 from λh0=>by rw[Nt.XE D8,Om,Nt.Sg Dw]);have DY:=Hd (show er=0->Nt.Rq s 1 x=Nt.look (Nt.FP s1 fr) from λh0=>by rw[Nt.WQ D8,Om,Rv]);rw[DE.out,<-Oe];clear h hs Qn Oe Rv Om DE HE;go_enter func28,ntmps28;go_wp2_with (refine NO.out.mono ?_;rintro e w' ⟨rfl,rfl⟩);go_upto_region 8 with fail;go_region_with (first|(go_at_call 66;refine(GV.out _ Aw).mono ?_;rintro e w5 ⟨v5,m4,rfl,Vn,h5⟩;have R4:=Hd Vn;have H4:=Hd h5;clear Vn h5))
 all_goals
  exact Gb
theorem A73(h:BQ w base b m k s)(hs:Nt.Inv N s)(BJ:base<=w.heap.size)(hN:N+200000<=1000000000000)(x:Int):
  Calls prog 28 #[Pt b,Iv 2,Iv x] w λe w'=>e= .returned (Iv (Nt.Yy s 2 x))/\Q4 base b m k (Nt.Rq s 2 x) w w':=by
 (refine K0W ?_;intro NO Pb ao);have GV:=Hd (show ∀W:World,Below w.heap.size w W->Calls prog 67 #[Pt m.sb,Iv s.now] W (QO base b k m w s 2 x) from λW hW=>((yW (h.below hW).st hs.st s.now (Lt BJ hW.size)).mono (λe w' g=>gM h hW (c:=2) (x:=x) (by obtain⟨e1,e2,e3⟩:=Nt.jt s.st 2 s.now x Fj Fj;rw[e1,e2,e3];exact g))));have Qn:=Nt.Sm hs 2 x Fj;(refine K23 ?_;intro ax Ws gD);have DE:=Hd (Nt.Zq (s:=s) (k:=2) (x:=x) Fj);obtain⟨er,Oe⟩:=BN (AJ.BZ s.st 2 s.now x);have HE:=Hd Oe;obtain⟨fr,Rv⟩:=BN (AJ.FM s.st 2 s.now x);obtain⟨s1,Om⟩:∃s1:Nt.St,s1={s with st:=AJ.JP s.st 2 s.now x}:=⟨_,rfl⟩;unfold QO at GV;rw[<-Oe,<-Rv,<-Om] at GV;rw[<-Rv] at Ws gD;rw[<-Om] at ax;(refine K2d ?_;intro Ws);have DN:=Hd (show er≠0->Nt.Rq s 2 x=s1 from λh0=>by rw[Nt.XE D8,Om,Nt.Sg Dw]);have DY:=Hd (show er=0->Nt.Rq s 2 x=Nt.look (Nt.FP s1 fr) from λh0=>by rw[Nt.WQ D8,Om,Rv]);rw[DE.out,<-Oe];clear h hs Qn Oe Rv Om DE HE;go_enter func28,ntmps28;go_wp2_with (refine NO.out.mono ?_;rintro e w' ⟨rfl,rfl⟩);go_upto_region 10 with fail;go_region_with (first|(go_at_call 67;refine(GV.out _ Aw).mono ?_;rintro e w5 ⟨v5,m4,rfl,Vn,h5⟩;have R4:=Hd Vn;have H4:=Hd h5;clear Vn h5))
 all_goals
  exact Gb
theorem A72(h:BQ w base b m k s)(hs:Nt.Inv N s)(BJ:base<=w.heap.size)(hN:N+200000<=1000000000000)(x:Int):
  Calls prog 28 #[Pt b,Iv 3,Iv x] w λe w'=>e= .returned (Iv (Nt.Yy s 3 x))/\Q4 base b m k (Nt.Rq s 3 x) w w':=by
 (refine K0W ?_;intro NO Pb ao);have GV:=Hd (show ∀W:World,Below w.heap.size w W->Calls prog 68 #[Pt m.sb,Iv s.now,Iv x] W (QO base b k m w s 3 x) from λW hW=>((pz (h.below hW).st hs.st s.now x (Lt BJ hW.size)).mono (λe w' g=>gM h hW g)));have Qn:=Nt.Sm hs 3 x Fj;(refine K23 ?_;intro ax Ws gD);have DE:=Hd (Nt.Zq (s:=s) (k:=3) (x:=x) Fj);obtain⟨er,Oe⟩:=BN (AJ.BZ s.st 3 s.now x);have HE:=Hd Oe;obtain⟨fr,Rv⟩:=BN (AJ.FM s.st 3 s.now x);obtain⟨s1,Om⟩:∃s1:Nt.St,s1={s with st:=AJ.JP s.st 3 s.now x}:=⟨_,rfl⟩;unfold QO at GV;rw[<-Oe,<-Rv,<-Om] at GV;rw[<-Rv] at Ws gD;rw[<-Om] at ax;(refine K2d ?_;intro Ws);have DN:=Hd (show er≠0->Nt.Rq s 3 x=s1 from λh0=>by rw[Nt.XE D8,Om,Nt.Sg Dw]);have DY:=Hd (show er=0->Nt.Rq s 3 x=Nt.look (Nt.FP s1 fr) from λh0=>by rw[Nt.WQ D8,Om,Rv]);rw[DE.out,<-Oe];clear h hs Qn Oe Rv Om DE HE;go_enter func28,ntmps28;go_wp2_with (refine NO.out.mono ?_;rintro e w' ⟨rfl,rfl⟩);go_upto_region 12 with fail;go_region_with (first|(go_at_call 68;refine(GV.out _ Aw).mono ?_;rintro e w5 ⟨v5,m4,rfl,Vn,h5⟩;have R4:=Hd Vn;have H4:=Hd h5;clear Vn h5))
 all_goals
  exact Gb
theorem A71(h:BQ w base b m k s)(hs:Nt.Inv N s)(BJ:base<=w.heap.size)(hN:N+200000<=1000000000000)(x:Int):
  Calls prog 28 #[Pt b,Iv 4,Iv x] w λe w'=>e= .returned (Iv (Nt.Yy s 4 x))/\Q4 base b m k (Nt.Rq s 4 x) w w':=by
 (refine K0W ?_;intro NO Pb ao);have GV:=Hd (show ∀W:World,Below w.heap.size w W->Calls prog 69 #[Pt m.sb,Iv s.now] W (QO base b k m w s 4 x) from λW hW=>((uQ (h.below hW).st hs.st s.now (Lt BJ hW.size)).mono (λe w' g=>gM h hW (c:=4) (x:=x) (by obtain⟨e1,e2,e3⟩:=Nt.jt s.st 4 s.now x Fj Fj;rw[e1,e2,e3];exact g))));have Qn:=Nt.Sm hs 4 x Fj;(refine K23 ?_;intro ax Ws gD);have DE:=Hd (Nt.Zq (s:=s) (k:=4) (x:=x) Fj);obtain⟨er,Oe⟩:=BN (AJ.BZ s.st 4 s.now x);have HE:=Hd Oe;obtain⟨fr,Rv⟩:=BN (AJ.FM s.st 4 s.now x);obtain⟨s1,Om⟩:∃s1:Nt.St,s1={s with st:=AJ.JP s.st 4 s.now x}:=⟨_,rfl⟩;unfold QO at GV;rw[<-Oe,<-Rv,<-Om] at GV;rw[<-Rv] at Ws gD;rw[<-Om] at ax;(refine K2d ?_;intro Ws);have DN:=Hd (show er≠0->Nt.Rq s 4 x=s1 from λh0=>by rw[Nt.XE D8,Om,Nt.Sg Dw]);have DY:=Hd (show er=0->Nt.Rq s 4 x=Nt.look (Nt.FP s1 fr) from λh0=>by rw[Nt.WQ D8,Om,Rv]);rw[DE.out,<-Oe];clear h hs Qn Oe Rv Om DE HE;go_enter func28,ntmps28;go_wp2_with (refine NO.out.mono ?_;rintro e w' ⟨rfl,rfl⟩);go_upto_region 14 with fail;go_region_with (first|(go_at_call 69;refine(GV.out _ Aw).mono ?_;rintro e w5 ⟨v5,m4,rfl,Vn,h5⟩;have R4:=Hd Vn;have H4:=Hd h5;clear Vn h5))
 all_goals
  exact Gb
theorem A70(h:BQ w base b m k s)(hs:Nt.Inv N s)(BJ:base<=w.heap.size)(hN:N+200000<=1000000000000)(x:Int):
  Calls prog 28 #[Pt b,Iv 5,Iv x] w λe w'=>e= .returned (Iv (Nt.Yy s 5 x))/\Q4 base b m k (Nt.Rq s 5 x) w w':=by
 (refine K0W ?_;intro NO Pb ao);have GV:=Hd (show ∀W:World,Below w.heap.size w W->Calls prog 70 #[Pt m.sb,Iv s.now] W (QO base b k m w s 5 x) from λW hW=>((kQ (h.below hW).st hs.st s.now (Lt BJ hW.size)).mono (λe w' g=>gM h hW (c:=5) (x:=x) (by obtain⟨e1,e2,e3⟩:=Nt.jt s.st 5 s.now x Fj Fj;rw[e1,e2,e3];exact g))));have Qn:=Nt.Sm hs 5 x Fj;(refine K23 ?_;intro ax Ws gD);have DE:=Hd (Nt.Zq (s:=s) (k:=5) (x:=x) Fj);obtain⟨er,Oe⟩:=BN (AJ.BZ s.st 5 s.now x);have HE:=Hd Oe;obtain⟨fr,Rv⟩:=BN (AJ.FM s.st 5 s.now x);obtain⟨s1,Om⟩:∃s1:Nt.St,s1={s with st:=AJ.JP s.st 5 s.now x}:=⟨_,rfl⟩;unfold QO at GV;rw[<-Oe,<-Rv,<-Om] at GV;rw[<-Rv] at Ws gD;rw[<-Om] at ax;(refine K2d ?_;intro Ws);have DN:=Hd (show er≠0->Nt.Rq s 5 x=s1 from λh0=>by rw[Nt.XE D8,Om,Nt.Sg Dw]);have DY:=Hd (show er=0->Nt.Rq s 5 x=Nt.look (Nt.FP s1 fr) from λh0=>by rw[Nt.WQ D8,Om,Rv]);rw[DE.out,<-Oe];clear h hs Qn Oe Rv Om DE HE;go_enter func28,ntmps28;go_wp2_with (refine NO.out.mono ?_;rintro e w' ⟨rfl,rfl⟩);go_upto_region 16 with fail;go_region_with (first|(go_at_call 70;refine(GV.out _ Aw).mono ?_;rintro e w5 ⟨v5,m4,rfl,Vn,h5⟩;have R4:=Hd Vn;have H4:=Hd h5;clear Vn h5))
 all_goals
  exact Gb
theorem A6Z(h:BQ w base b m k s)(hs:Nt.Inv N s)(BJ:base<=w.heap.size)(hN:N+200000<=1000000000000)(x:Int):
  Calls prog 28 #[Pt b,Iv 6,Iv x] w λe w'=>e= .returned (Iv (Nt.Yy s 6 x))/\Q4 base b m k (Nt.Rq s 6 x) w w':=by
 (refine K0W ?_;intro NO Pb ao);have GV:=Hd (show ∀W:World,Below w.heap.size w W->Calls prog 71 #[Pt m.sb,Iv s.now] W (QO base b k m w s 6 x) from λW hW=>((pE (h.below hW).st hs.st s.now (Lt BJ hW.size)).mono (λe w' g=>gM h hW (c:=6) (x:=x) (by obtain⟨e1,e2,e3⟩:=Nt.jt s.st 6 s.now x Fj Fj;rw[e1,e2,e3];exact g))));have Qn:=Nt.Sm hs 6 x Fj;(refine K23 ?_;intro ax Ws gD);have DE:=Hd (Nt.Zq (s:=s) (k:=6) (x:=x) Fj);obtain⟨er,Oe⟩:=BN (AJ.BZ s.st 6 s.now x);have HE:=Hd Oe;obtain⟨fr,Rv⟩:=BN (AJ.FM s.st 6 s.now x);obtain⟨s1,Om⟩:∃s1:Nt.St,s1={s with st:=AJ.JP s.st 6 s.now x}:=⟨_,rfl⟩;unfold QO at GV;rw[<-Oe,<-Rv,<-Om] at GV;rw[<-Rv] at Ws gD;rw[<-Om] at ax;(refine K2d ?_;intro Ws);have DN:=Hd (show er≠0->Nt.Rq s 6 x=s1 from λh0=>by rw[Nt.XE D8,Om,Nt.Sg Dw]);have DY:=Hd (show er=0->Nt.Rq s 6 x=Nt.look (Nt.FP s1 fr) from λh0=>by rw[Nt.WQ D8,Om,Rv]);rw[DE.out,<-Oe];clear h hs Qn Oe Rv Om DE HE;go_enter func28,ntmps28;go_wp2_with (refine NO.out.mono ?_;rintro e w' ⟨rfl,rfl⟩);go_upto_region 18 with fail;go_region_with (first|(go_at_call 71;refine(GV.out _ Aw).mono ?_;rintro e w5 ⟨v5,m4,rfl,Vn,h5⟩;have R4:=Hd Vn;have H4:=Hd h5;clear Vn h5))
 all_goals
  exact Gb
theorem vW(h:BQ w base b m k s)(hs:Nt.Inv N s)(c x:Int)(hc:¬(1<=c/\c<=6)):
  Calls prog 28 #[Pt b,Iv c,Iv x] w λe w'=>e= .returned (Iv (Nt.Yy s c x))/\Q4 base b m k (Nt.Rq s c x) w w':=by
 have NO:=Hd (P4 h hs.n.1);have HH:=Hd h;(have e1:Nt.Yy s c x=2:=by unfold Nt.Yy;rw[AO hc]);have E2:=Hd (Nt.XE (s:=s) (k:=c) (x:=x) (by rw[e1];decide));rw[e1];have z1:(c==1)=false:=JJ Ft;have z2:(c==2)=false:=JJ Ft;have z3:(c==3)=false:=JJ Ft;have z4:(c==4)=false:=JJ Ft;have z5:(c==5)=false:=JJ Ft;have z6:(c==6)=false:=JJ Ft;clear h hs hc e1;go_enter func28,ntmps28;go_wp2_with (refine NO.out.mono ?_;rintro e w' ⟨rfl,rfl⟩);go_ret;exact⟨rfl,by rw[E2.out];exact Q4.refl HH.out⟩
theorem tl(h:BQ w base b m k s)(hs:Nt.Inv N s)(BJ:base<=w.heap.size)(hN:N+200000<=1000000000000)(c x:Int):
  Calls prog 28 #[Pt b,Iv c,Iv x] w λe w'=>e= .returned (Iv (Nt.Yy s c x))/\Q4 base b m k (Nt.Rq s c x) w w':=by
 by_cases hc:1<=c/\c<=6
 ·obtain rfl|rfl|rfl|rfl|rfl|rfl:c=1\/c=2\/c=3\/c=4\/c=5\/c=6:=by omega
  ·exact A74 h hs BJ hN x
  ·exact A73 h hs BJ hN x
  ·exact A72 h hs BJ hN x
  ·exact A71 h hs BJ hN x
  ·exact A70 h hs BJ hN x
  ·exact A6Z h hs BJ hN x
 ·exact vW h hs c x hc
end
namespace Nt
theorem Zc(s:St):(look s).cr.length=s.cr.length/\(look s).now=s.now/\(look s).steps=s.steps/\(look s).r=s.r:=by
 unfold look;split<;>exact⟨rfl,rfl,rfl,rfl⟩
theorem Z1{s:St}(he:FB s=0):(step s).now=s.now+s.r.step/\(step s).steps=s.steps+1/\(step s).r=s.r/\(step s).cr.length=s.cr.length:=by
 unfold step;rw[AW he];have h0:=Q1 (AJ.DK s.st (s.now+s.r.step)) {s with steps:=s.steps+1,now:=s.now+s.r.step,st:=AJ.tick s.st (s.now+s.r.step)};have e0:P7 s=FP {s with steps:=s.steps+1,now:=s.now+s.r.step,st:=AJ.tick s.st (s.now+s.r.step)} (AJ.DK s.st (s.now+s.r.step)):=rfl;rw[<-e0] at h0;have h1:=OV (P7 s) s.cr.length;have h2:=Zc (hears (P7 s) s.cr.length);have h3:=SP (look (hears (P7 s) s.cr.length)) s.cr.length;refine⟨?_,?_,?_,?_⟩
 ·rw[h3.2.1,h2.2.1,h1.2.1,h0.1]
 ·rw[h3.2.2.1,h2.2.2.1,h1.2.2.1,h0.2.1]
 ·rw[h3.2.2.2,h2.2.2.2,h1.2.2.2,h0.2.2.1]
 ·rw[h3.1,h2.1,h1.1,TR]
end Nt
def tj(b:Nat)(w:World):Nat:=match w.cell? (Ad b 21) with|some (.int _ x)=>(4000000-x).toNat|_=>0
section
variable{w w' w0:World}{base b k N fb:Nat}{m m1:NM}{s s':Nt.St}{v:Value}{L:List Fr}
theorem cR{x:Int}{kd:IntKind}(h:w.cell? (Ad b 21)=some (.int kd x)):tj b w=(4000000-x).toNat:=by unfold tj;rw[h]
theorem mI(h:BQ w base b m k s)(hs:Nt.Inv N s)(BJ:base<=w.heap.size)(hN:N+200000*100001<=1000000000000)(u:Int):
  Calls prog 27 #[Pt b,Iv u] w λe w'=>e= .returned (Iv (Nt.run s u).2)/\Q4 base b m k (Nt.run s u).1 w w':=by
 (refine K15 ?_;intro NO Pb);have HH:=Hd h
 by_cases hu:s.now<=u/\u<=3600000
 ·have WI:=Hd (JM u s.now 3600000 w hu);have RE:=Hd (show Nt.run s u=Nt.runK 3600001 s u from by unfold Nt.run;rw[AW (by unfold Nt.lu;rw[AW hu])]);rw[RE.out];have aV:=Hd (show HS base b k m w 0 (.slice none 0 0) [] s w m from⟨h,AG.refl _ _,NG.refl,IF.nil _ _⟩);have HI0:=Hd hs;have hnw:=hs.now;have hsp:=hs.steps;(have zi:∀x:Int,x=s.steps->(100000-s.steps).toNat<=100000:=λ_ _=>by omega);clear h hs;go_enter func27,ntmps27;go_wp2_with (first|(refine NO.out.mono ?_;rintro e w' ⟨rfl,rfl⟩)|(refine WI.out.mono ?_;rintro e w' ⟨rfl,rfl⟩));go_loopw[5] (λs5 wr=>∃(t:Nt.St)(m1:NM)(M kf:Nat),M+200000*(100001-t.steps).toNat<=1000000000000/\t.now<=u/\u-t.now<(kf:Int)/\w.heap.size<=wr.heap.size/\Hid (Nt.Inv M t)/\Hid (Nt.runK kf t u=Nt.runK 3600001 s u)/\Hid (HS base b k m w 0 (.slice none 0 0) [] t wr m1)) (λs5 wr=>tj b wr)
  case atStart=>exact⟨s,m,N,3600001,by omega,hu.1,by omega,Lr _,HI0,Hd rfl,aV⟩
  case round=>
   obtain⟨t,m1,M,kf,hM,htu,hkf,VE,IV,RK,HI⟩:=hrel;have Pb:wr.cell? (Ad b 21)=some (Iv t.now):=AB HI.out.1.BM 21 rfl;have c2:wr.cell? (Ad b 2)=some (Iv t.r.step):=AB HI.out.1.BM 2 rfl;obtain⟨kg,rfl⟩:∃kg,kf=kg+1:=⟨kf-1,by omega⟩;have DJ:=IV.out.step;have htn:=IV.out.now;have htp:=IV.out.steps;have zw:=GF (t.now+t.r.step) Ft
   by_cases hc:t.now+t.r.step<=u
   ·(have z1:decide (t.now+t.r.step<=u)=true:=by simp[hc]);(have xc:M+200000<=1000000000000:=by omega);have ST:=Hd (show ∀W:World,Below wr.heap.size wr W->Calls prog 24 #[Pt b] W λx w'=>x= .returned (Iv (Nt.FB t))/\∃m5,HS base b k m w 0 (.slice none 0 0) [] (Nt.step t) w' m5 from λW hW=>(fZ (HI.out.1.below hW) IV.out (Lt BJ (Lt VE hW.size)) xc).mono (λe w' ⟨h1,h2⟩=>⟨h1,(HI.out.below hW).to h2⟩));obtain⟨er,Oe⟩:=BN (Nt.FB t);have jZ:=cR Pb;rw[<-Oe] at ST
    by_cases h0:er=0
    ·(have he:Nt.FB t=0:=by rw[<-Oe];exact h0);have XN:=Nt.Z1 he;have tD:=IV.out.yM Ft;(have dj:Nt.runK (kg+1) t u=Nt.runK kg (Nt.step t) u:=by exact Jl);obtain⟨t1,ht1⟩:=BN (Nt.step t);rw[<-ht1] at XN tD dj ST;rw[dj] at RK;(refine K3d ?_;intro IV1 e1 e2 SM);subst h0;clear Oe he XN tD dj ht1 e1 e2 hM hkf htp IV;go_upto_region 5 with fail;go_quiet (fail);go_wp2_with (refine(ST.out _ Bd).mono ?_;rintro e w5 ⟨rfl,m5,h5⟩;have H5:=Hd h5;have jW:=h5.2.1.size;have d21:=Hd (show w5.cell? (Ad b 21)=some (Iv t1.now) from AB h5.1.BM 21 rfl);clear h5);exact J6
    ·(have he:Nt.FB t≠0:=by rw[<-Oe];exact h0);(have dj:Nt.runK (kg+1) t u=(t,er):=by exact Jj);(have A0O:Nt.step t=t:=by unfold Nt.step;rw[AO he]);rw[A0O] at ST;rw[dj] at RK;(have zE:(er !=0)=true:=by simp[h0]);clear Oe he dj A0O hM hkf htp IV h0 jZ;go_upto_region 5 with fail;go_quiet (fail);go_wp2_with (refine(ST.out _ Bd).mono ?_;rintro e w5 ⟨rfl,m5,h5⟩;have H5:=Hd h5;clear h5);go_ret;rw[<-RK.out];exact⟨rfl,m5,H5.out.1,H5.out.2.1,H5.out.2.2.1⟩
   ·(have z1:decide (t.now+t.r.step<=u)=false:=by simp;omega);(have dj:Nt.runK (kg+1) t u=(t,0):=by exact Jv);rw[dj] at RK;clear dj hM hkf htp IV;go_upto_region 5 with fail;go_quiet (fail);go_wp2_with fail;go_ret;rw[<-RK.out];(have hb:∀q,Below wr.heap.size wr (wr.drewN q):=λq=>below_drewN (IH wr) q);(have h6:=λq=>HI.out.below (hb q));exact⟨rfl,m1,(h6 _).1,(h6 _).2.1,HI.out.2.2.1⟩
 ·have WI:=Hd (Sy u s.now 3600000 w hu);have RE:=Hd (show Nt.run s u=(s,3) from by unfold Nt.run;rw[AO D2]);rw[RE.out];clear h hs hu;go_enter func27,ntmps27;go_wp2_with (first|(refine NO.out.mono ?_;rintro e w' ⟨rfl,rfl⟩)|(refine WI.out.mono ?_;rintro e w' ⟨rfl,rfl⟩));go_ret;exact⟨rfl,Q4.refl HH.out⟩
end
section
variable{w w' w0:World}{base b k N fb:Nat}{m m1:NM}{s s':Nt.St}{v:Value}{L:List Fr}
theorem BQ.yv(h:BQ w base b m k s){k':Nat}(hk:k<=k'){c:List Bool}(kk:AG (λq=>q=m.mb) w w')(hc:∃q,q<=k'/\IsCut w' m.mb q c):Q4 base b m k' {s with cut:=c} w w':=by
 (have hn:∀(q:Nat)(e:TypeId),Ty w q e->¬q=m.mb:=λq e g hq=>by obtain⟨_,_,h2⟩:=h.cut;exact h2.Ol g hq);refine⟨m,⟨AR h.BM kk (hn _ _ ⟨_,h.BM⟩),h.st.kept kk (λq hq=>by rcases h.st.three hq with t|t|t<;>exact hn _ _ t),h.CJ.kept kk (λq hq=>hn _ _ (h.CJ.ty hq)),h.BL.kept kk (λq hq=>hn _ _ (h.BL.ty hq)),h.S1.kept kk (λq hq=>hn _ _ (h.S1.ty hq)),h.GM.kept kk (λq hq=>hn _ _ (h.GM.ty hq)),?_,h.len,h.gW,hc,h.ge,h.so⟩,kk.mono (λq _ hq=> .inr (.inr (.inr (.inr (.inr (.inl hq)))))),NG.refl⟩;intro i hi;exact(h.cr i hi).kept kk (λq hq=>by rcases(h.cr i hi).ty hq with t|t|t|t<;>exact hn _ _ t)
theorem A2J(h:BQ w base b m k s)(hs:Nt.Inv N s)(a:Int)(x:Bool)(ha:¬(1<=a/\a<=s.cr.length)):
  Calls prog 23 #[Pt b,Iv a,.bool x] w λe w'=>e= .returned (Iv 2)/\Q4 base b m k s w w':=by
 have CH:=Hd (Zb h hs a ha);have HH:=Hd h;clear h hs ha;go_enter func23,ntmps23;go_wp2_with (refine CH.out.mono ?_;rintro e w' ⟨rfl,rfl⟩);go_ret;exact⟨rfl,Q4.refl HH.out⟩
theorem mQ(h:BQ w base b m k s)(hs:Nt.Inv N s)(i:Nat)(x:Bool)(hi:1<=i/\i<=s.cr.length)(hk:k<maxLen):
  Calls prog 23 #[Pt b,Iv i,.bool x] w λe w'=>e= .returned (Iv 0)/\Q4 base b m (k+1) (Nt.Vz s i x) w w':=by
 have CH:=Hd (Uo h hs i Ft);have HH:=Hd h;have c26:w.cell? (Ad b 26)=some (.map (some m.mb)):=AB h.BM 26 rfl;obtain⟨k',VG,MU⟩:=h.cut;have GG:=hs.cut;have hn:=hs.n.2;have TC:=Hd (show ∀(w2:World),w.grownBy w2 (some m.mb)->∀q,q<=k+1->IsCut w2 m.mb q (s.cut.set i x)->Q4 base b m (k+1) (Nt.Vz s i x) w w2 from λw2 hg q hq hc=>h.yv Ft (AG.JK hg (λg e=>by injection e with e;exact e.symm)) ⟨q,hq,hc⟩)
 cases x
 ·obtain⟨w2,Zf,XC,Ts⟩:=MU.del i Ft 0;have T2:=Hd (TC.out w2 Ts k' Ft XC);exact Jg
 ·obtain⟨w2,Zf,XC,Ts⟩:=MU.put i Ft Ft Ft;have T2:=Hd (TC.out w2 Ts (k'+1) Ft XC);exact Jg
end
section
variable{w w' w0:World}{base b k N fb:Nat}{m m1:NM}{s s':Nt.St}{v:Value}{L:List Fr}
theorem Yg(h:BQ w base b m k s)(hs:Nt.Inv N s):
  Calls prog 30 #[Pt b] w (TJ 3 1 (AJ.EC s.st).length ((AJ.EC s.st).map (λ(i:Nat)=>Iv i)) w):=by
 have NO:=Hd (P4 h hs.n.1);have MS:=Hd (mV h.st hs.st);(refine K4D ?_;intro ao);clear h hs;go_enter func30,ntmps30;go_wp2_with (refine NO.out.mono ?_;rintro e w' ⟨rfl,rfl⟩);refine MS.out.mono ?_;rintro e w' ⟨A,c,rfl,h1,h2⟩;go_wp2_with fail;go_ret;exact⟨A,c,rfl,h1,h2⟩
theorem vT(h:BQ w base b m k s)(hs:Nt.Inv N s)(a:Int)(ha:¬(1<=a/\a<=s.cr.length)):
  Calls prog 22 #[Pt b,Iv a] w (LP (.tuple #[Iv 0,Iv 2]) w):=by
 have CH:=Hd (Zb h hs a ha);clear h hs ha;go_enter func22,ntmps22;go_wp2_with (refine CH.out.mono ?_;rintro e w' ⟨rfl,rfl⟩);exact J9
theorem cQ(h:BQ w base b m k s)(hs:Nt.Inv N s){i:Nat}(hi:i<s.cr.length):
  Calls prog 22 #[Pt b,Iv ((i:Int)+1)] w (LP (.tuple #[Iv (Nt.at_ s i).p.st,Iv 0]) w):=by
 have CH:=Hd (Uo h hs ((i:Int)+1) Ft);obtain⟨g,o,qY,_,d0,_,_,_,_⟩:=h.cells hi;(refine K1Q ?_;intro Ud);rw[qY] at Ud;have QK:=hs.n.2;(refine K1g ?_;intro wi wi2);(refine K3R ?_;intro ic i0);have PS:=Hd (cC (h.cr i hi).p (hs.cr i hi).p);obtain⟨pb,hpb⟩:=BN ((m.cs.getD i Qp).pb);rw[<-hpb] at d0 PS;obtain⟨x,hx⟩:=BN ((Nt.at_ s i).p.st);rw[<-hx] at PS⊢;clear h hs hpb hx qY;go_enter func22,ntmps22;go_wp2_with (first|(refine CH.out.mono ?_;rintro e w' ⟨rfl,rfl⟩)|(refine PS.out.mono ?_;rintro e w' ⟨rfl,rfl⟩));exact J9
theorem qi(h:BQ w base b m k s)(hs:Nt.Inv N s)(a:Int)(ha:¬(1<=a/\a<=s.cr.length)):
  Calls prog 43 #[Pt b,Iv a] w (LP (.tuple #[Iv 0,Iv 2]) w):=by
 have CH:=Hd (Zb h hs a ha);clear h hs ha;go_enter func43,ntmps43;go_wp2_with (refine CH.out.mono ?_;rintro e w' ⟨rfl,rfl⟩);exact J9
theorem mM(h:BQ w base b m k s)(hs:Nt.Inv N s){i:Nat}(hi:i<s.cr.length):
  Calls prog 43 #[Pt b,Iv ((i:Int)+1)] w λe w'=>e= .returned (.tuple #[Iv (Nt.Sc s i),Iv 0])/\∃q,w'=w.drewN q:=by
 have CH:=Hd (Uo h hs ((i:Int)+1) Ft);have LO:=Hd (Xw h hs hi);clear h hs;go_enter func43,ntmps43;go_wp2_with (first|(refine CH.out.mono ?_;rintro e w' ⟨rfl,rfl⟩)|(refine LO.out.mono ?_;rintro e w' ⟨rfl,q,rfl⟩));go_ret2;exact⟨rfl,_,rfl⟩
end
end
section
open RowKit
attribute [local go_sem high] A96 A95
attribute [local go_sem ↓] wp_at_zero wp_at_succ
namespace Nt
def one(r:Ru)(i:Nat):Bool:=decide ((-3600000<=r.CJ.getD i 0/\r.CJ.getD i 0<=3600000)/\(-r.CY<=r.BL.getD i 0/\r.BL.getD i 0<=r.CY))
def WX(r:Ru):Nat->Bool
 |0=>true
 |i+1=>WX r i&&one r i
def iw(r:Ru):Bool:=decide ((1<=r.n/\r.n<=64)/\(1<=r.again/\r.again<=60000)/\(1<=r.step/\r.step<=1000)/\(0<=r.CY/\r.CY<=100000)/\(r.CJ.length:Int)=r.n/\(r.BL.length:Int)=r.n)
def MP(r:Ru):Bool:=iw r&&WX r r.CJ.length&&AL.S9 r.lost r.ret r.desc r.late r.every&&AN.MP r.up&&AN.MP r.dn&&decide (max r.up.seed r.dn.seed<=1099511627776)
theorem A2C{r:Ru}{i n:Nat}(hi:i<n)(h:one r i=false):WX r n=false:=by
 induction n with
 |zero=>omega
 |succ n ih=>
  rw[WX]
  by_cases e:i=n
  ·subst e;rw[h,Bool.and_false]
  ·rw[ih Ft,Bool.false_and]
end Nt
def Rz(r:Nt.Ru)(OA:Option Addr)(on oc:Nat)(TA:Option Addr)(tn tc:Nat):Value:= .agg #[Iv r.n,Iv r.again,Iv r.step,Iv r.CY,Iv r.lost,Iv r.ret,Iv r.desc,Iv r.late,Iv r.every,
 Iv r.up.BY,Iv r.up.AY,Iv r.up.least,Iv r.up.BU,Iv r.up.seed,Iv r.dn.BY,Iv r.dn.AY,Iv r.dn.least,Iv r.dn.BU,Iv r.dn.seed,.slice OA on oc,.slice TA tn tc]
section
variable{w w' w0:World}
theorem Ra(n a b:Int)(w:World):Calls prog 31 #[Iv n,Iv a,Iv b] w λe w'=>e= .returned (.bool (decide (a<=n/\n<=b)))/\w=w':=by
 by_cases h:a<=n/\n<=b
 ·rw[IU h];exact JM n a b w h
 ·rw[ME h];exact Sy n a b w h
end
end
section
open RowKit
attribute [local go_sem ↓] wp_at_zero wp_at_succ
namespace Nt
def VY(r:Ru)(i:Nat):Cr:=⟨AL.new ((i:Int)+1) r.lost r.ret r.desc r.late r.every r.CY,AN.new (JQ r.up i),AN.new (JQ r.dn i),0⟩
def FJ(r:Ru)(j:Nat):List Cr:=(List.range j).map (VY r)
def Rc(r:Ru)(j:Nat):St:=⟨r,0,0,AJ.new r.CJ.length r.again,0,FJ r j,List.replicate (r.CJ.length+1) false,[]⟩
def new(r:Ru):St:=Rc r r.CJ.length
theorem NI(r:Ru)(j:Nat):(FJ r j).length=j:=by simp[FJ]
theorem Tm(r:Ru)(j:Nat):FJ r (j+1)=FJ r j++[VY r j]:=by simp[FJ,List.range_succ]
theorem Za(r:Ru)(j i:Nat)(h:i<j):(FJ r j).getD i c0=VY r i:=by simp[FJ,List.getD,h]
theorem Sr{r:Ru}(h:MP r=true):iw r=true/\WX r r.CJ.length=true/\AL.S9 r.lost r.ret r.desc r.late r.every=true/\AN.MP r.up=true/\AN.MP r.dn=true/\r.up.seed<=1099511627776/\r.dn.seed<=1099511627776:=by
 unfold MP at h;simp only[bY,eS] at h;obtain⟨⟨⟨⟨⟨h1,h2⟩,h3⟩,h4⟩,h5⟩,h6⟩:=h;exact⟨h1,h2,h3,h4,h5,by omega,by omega⟩
end Nt
theorem Ri.reads{w:World}{B n:Nat}{A:Option Addr}{l:List Int}(h:Ri w B A n l):Reads w B 1 A n (Rt l):=by
 refine⟨by rw[Rt,WW,h.1,Vs],λhn=> ?_⟩;obtain⟨b,o,e,hb,hc⟩:=h.2.2 hn;refine⟨(Ad b o),e,hb,λj u hu=> ?_⟩;have hj:j<n:=by
  rcases Oj j n with g|g
  ·exact g
  ·rw[Rt,R3 (by rw[WW,h.1];exact g)] at hu
   cases hu
 rw[CP,hc j hj,<-hu,Rt,TV,List.getD,Gg (by rw[h.1];exact hj)];rfl
theorem WM(l:List Int):∀v∈Rt l,v.oneCell'=true:=by
 intro v hv;simp only[Rt,cz] at hv;obtain⟨x,_,rfl⟩:=hv;rfl
theorem gZ(A:Option Addr)(n c:Nat)(xs:List Value)(w:World)(hn:n<=1000000)(hA:A=none->n=0/\c=0)(hr:Reads w w.heap.size 1 A n xs)(h1:∀v∈xs,v.oneCell'=true):
  Calls prog 62 #[.slice A n c] w (TJ 3 1 n xs w):=by
 obtain⟨i0,OU,RR,IJ,Ot⟩:=MQ Ut
 cases A with
 |none=>obtain⟨h0,h00⟩:=hA rfl;(subst h0;subst h00);have hx:xs=[]:=a9 (by simpa using hr.1);subst hx;(have kn:=λ(W:World)=>vG (P:=prog) W 26 3 none 0 0 0 0 underlying26);simp only[Option.isNone] at kn;clear hr hA;exact L4
 |some a=>(have kn:=λ(W:World)=>vG (P:=prog) W 26 3 (some a) n c 0 0 underlying26);simp only[Option.isNone] at kn;clear hA;exact Hm
theorem ib:∀(ms:List CM)(cs:List Nt.Cr)(m:CM)(c:Nt.Cr),ms.length=cs.length->Pk (ms++[m]) (cs++[c])=Pk ms cs++tZ m c
 |[],[],_,_,_=>by simp[Pk]
 |x::ms,y::cs,m,c,h=>by rw[List.cons_append,List.cons_append,Pk,Pk,ib ms cs m c F7,a8]
 |[],_::_,_,_,h=>by simp at h
 |_::_,[],_,_,h=>by simp at h
theorem Zm{α:Type}(l:List α)(x d:α)(i:Nat):(l++[x]).getD i d=if i=l.length then x else l.getD i d:=by
 by_cases e:i=l.length
 ·subst e;simp[List.getD]
 ·rw[AO e]
  rcases Oj i l.length with h|h
  ·simp[List.getD,mj h]
  ·rw[List.getD,List.getD,R3 Fp,R3 h]
section
variable{w w':World}{base b k:Nat}{m:NM}{s:Nt.St}
theorem BQ.push(h:BQ w base b m k s){c:Nt.Cr}{c':CM}{CA':Option Addr}{cc':Nat}(kk:AG (λq=>q=b\/AK m.CA=some q) w w')
  (hb:w'.heap[b]?=some (.cells (ql {m with CA:=CA',cc:=cc',cs:=m.cs++[c']} {s with cr:=s.cr++[c]}).toArray 86 (0,0)))
  (CF:Row w' base 108 4 CA' (s.cr++[c]).length cc' (Pk (m.cs++[c']) (s.cr++[c])))
  (tI:Zu w' base c' (Nt.JQ s.r.up s.cr.length) (Nt.JQ s.r.dn s.cr.length) c)(jh:∀q,Cf c' q->w.heap.size<=q):
  BQ w' base b {m with CA:=CA',cc:=cc',cs:=m.cs++[c']} k {s with cr:=s.cr++[c]}:=by
 have hn:∀(q:Nat)(e:TypeId),Ty w q e->e≠86->e≠108->¬(q=b\/AK m.CA=some q):=λq e g h1 h2 hq=>by
  rcases hq with rfl|hq
  ·exact g.ne ⟨_,h.BM⟩ h1 rfl
  ·exact g.ne (h.S1.ty hq) h2 rfl
 (have GG:(s.cr++[c]).length=s.cr.length+1:=by simp);(have YQ:(m.cs++[c']).length=m.cs.length+1:=by simp);refine⟨hb,?_,?_,?_,CF,?_,?_,?_,?_,?_,h.ge,h.so⟩
 ·exact h.st.kept kk (λq hq=>by rcases h.st.three hq with t|t|t<;>exact hn _ _ t Fj Fj)
 ·exact h.CJ.kept kk (λq hq=>hn _ _ (h.CJ.ty hq) Fj Fj)
 ·exact h.BL.kept kk (λq hq=>hn _ _ (h.BL.ty hq) Fj Fj)
 ·exact h.GM.kept kk (λq hq=>hn _ _ (h.GM.ty hq) Fj Fj)
 ·intro i hi;(have hi:i<s.cr.length+1:=by rw[<-GG];exact hi);show Zu w' base ((m.cs++[c']).getD i Qp) _ _ ((s.cr++[c]).getD i Nt.c0);rw[Zm,Zm,h.len]
  by_cases e:i=s.cr.length
  ·subst e;rw[AW rfl,AW rfl];exact tI
  ·rw[AO e,AO e];(have Uu:i<s.cr.length:=by omega);exact(h.cr i Uu).kept kk (λq hq=>by rcases(h.cr i Uu).ty hq with t|t|t|t<;>exact hn _ _ t Fj Fj)
 ·show(m.cs++[c']).length=(s.cr++[c]).length;rw[YQ,GG,h.len]
 ·intro i j hi hj LX q hq jY;(have hi:i<s.cr.length+1:=by rw[<-GG];exact hi);(have hj:j<s.cr.length+1:=by rw[<-GG];exact hj);have tC:Cf ((m.cs++[c']).getD i Qp) q:=hq;have oN:Cf ((m.cs++[c']).getD j Qp) q:=jY;clear hq jY;rw[Zm,h.len] at tC oN
  by_cases e:i=s.cr.length
  ·rw[AW e] at tC;rw[AO Ft] at oN;have h1:=jh q tC;have h2:=((h.cr j Ft).lt oN).2;omega
  ·rw[AO e] at tC
   by_cases e':j=s.cr.length
   ·rw[AW e'] at oN;have h1:=jh q oN;have h2:=((h.cr i Ft).lt tC).2;omega
   ·rw[AO e'] at oN;exact h.gW i j Ft Ft LX q tC oN
 ·obtain⟨k',h1,h2⟩:=h.cut;exact⟨k',h1,h2.kept kk (λhq=>by
   rcases hq with hq|hq
   ·exact h2.Ol ⟨_,h.BM⟩ hq.symm
   ·exact h2.Ol (h.S1.ty hq) rfl)⟩
theorem FC.more{b mc rc base':Nat}{MA RA:Option Addr}{t:AJ.St}(h:FC w base b MA mc RA rc t)(hb:base'<=base):FC w base' b MA mc RA rc t:=⟨h.BM,h.Vt.more hb,h.Y1.more hb,Lt hb h.ge⟩
theorem BQ.begin{W:World}{base b sb mb n c4 c5:Nat}{RA A4 A5:Option Addr}(r:Nt.Ru)(hn:r.CJ.length=n)(hm:r.BL.length=n)
  (hb:W.heap[b]?=some (.cells (ql ⟨sb,none,0,RA,n,A4,c4,A5,c5,none,0,mb,none,0,[]⟩ (Nt.Rc r 0)).toArray 86 (0,0)))
  (hs:FC W base sb none 0 RA n (AJ.new n r.again))(ho:Row W base 3 1 A4 n c4 (Rt r.CJ))(ht:Row W base 3 1 A5 n c5 (Rt r.BL))
  (hc:IsCut W mb 0 (List.replicate (n+1) false))(jj:base<=b/\base<=mb)(so:∀q,AK A4=some q\/AK A5=some q->¬S8 sb none RA q):
  BQ W base b ⟨sb,none,0,RA,n,A4,c4,A5,c5,none,0,mb,none,0,[]⟩ 0 (Nt.Rc r 0):=by
 subst hn;refine⟨hb,hs,ho,?_,Row.nil _ _ _ _,Row.nil _ _ _ _,?_,rfl,?_,⟨0,Lr _,hc⟩,jj,so⟩
 ·show Row W base 3 1 A5 r.BL.length c5 (Rt r.BL);rw[hm];exact ht
 ·intro i hi;exact absurd hi (by show ¬i<0;omega)
 ·intro i j hi;exact absurd hi (by show ¬i<0;omega)
end
end
section
open RowKit
attribute [local go_sem high] A96 A95
attribute [local go_sem ↓] wp_at_zero wp_at_succ
section
variable{w w' w0:World}
theorem qg(r:Nt.Ru)(OA:Option Addr)(oc:Nat)(TA:Option Addr)(tc:Nat)(w:World)(h:Nt.iw r=false):
  Calls prog 9 #[Rz r OA r.CJ.length oc TA r.BL.length tc] w (IL (.bool false) w):=by
 have WI:=Hd (λn a b W=>Ra n a b W);(refine K2Y ?_;intro c1 eF c2 XC c3 hc3 c4 ZK);obtain⟨c5,aJ⟩:=BN ((r.CJ.length:Int) !=r.n);obtain⟨c6,ya⟩:=BN ((r.BL.length:Int) !=r.n);have fh:c1=true->c2=true->c3=true->c4=true->c5=false->c6=false->False:=by
  intro e1 e2 e3 e4 e5 e6;rw[e1] at eF;rw[e2] at XC;rw[e3] at hc3;rw[e4] at ZK;rw[e5] at aJ;rw[e6] at ya;unfold Nt.iw at h;rw[IU ⟨decide_eq_true_iff.1 eF.symm,decide_eq_true_iff.1 XC.symm,decide_eq_true_iff.1 hc3.symm,decide_eq_true_iff.1 ZK.symm,by simpa using aJ,by simpa using ya⟩] at h
  cases h
 have W1:=Hd (show ∀W,Calls prog 31 #[Iv r.n,Iv 1,Iv 64] W (LP (.bool c1) W) from λW=>by rw[eF];exact Ra _ _ _ W);have W2:=Hd (show ∀W,Calls prog 31 #[Iv r.again,Iv 1,Iv 60000] W (LP (.bool c2) W) from λW=>by rw[XC];exact Ra _ _ _ W);have W3:=Hd (show ∀W,Calls prog 31 #[Iv r.step,Iv 1,Iv 1000] W (LP (.bool c3) W) from λW=>by rw[hc3];exact Ra _ _ _ W);have W4:=Hd (show ∀W,Calls prog 31 #[Iv r.CY,Iv 0,Iv 100000] W (LP (.bool c4) W) from λW=>by rw[ZK];exact Ra _ _ _ W);have z5:=aJ.symm;have z6:=ya.symm;clear eF XC hc3 ZK aJ ya h WI;unfold Rz
 cases c1
 case false=>exact Gi
 case true=>
  cases c2
  case false=>exact Gi
  case true=>
   cases c3
   case false=>exact Gi
   case true=>
    cases c4
    case false=>exact Gi
    case true=>
     cases c5
     case true=>exact Gi
     case false=>
      cases c6
      case true=>exact Gi
      case false=>exact(fh rfl rfl rfl rfl rfl rfl).elim
end
section
variable{w w' w0:World}
theorem qf(r:Nt.Ru)(n:Nat)(OA:Option Addr)(oc:Nat)(TA:Option Addr)(tc:Nat)(w:World)(h:Nt.iw r=true)(hn:r.CJ.length=n)(ho:Ri w w.heap.size OA n r.CJ)(ht:Ri w w.heap.size TA n r.BL):
  Calls prog 9 #[Rz r OA n oc TA n tc] w (IL (.bool (Nt.MP r)) w):=by
 have H0:=Hd h;have h':=Z8 h;obtain⟨g1,g2,g3,g4,g5,g6⟩:=h';have HV:=Hd (show Nt.MP r=(Nt.WX r n&&AL.S9 r.lost r.ret r.desc r.late r.every&&AN.MP r.up&&AN.MP r.dn&&decide (max r.up.seed r.dn.seed<=1099511627776)) by unfold Nt.MP;rw[h,Bool.true_and,hn]);have W1:=Hd (λW=>JM r.n 1 64 W g1);have W2:=Hd (λW=>JM r.again 1 60000 W g2);have W3:=Hd (λW=>JM r.step 1 1000 W g3);have W4:=Hd (λW=>JM r.CY 0 100000 W g4);(have QK:n<=64:=by omega);(have z5:((n:Int) !=r.n)=false:=by rw[<-hn,g5];simp);have zd:=GF (-r.CY) Ft;have HN:=Hd hn;have W7:=Hd (λW=>cB r.lost r.ret r.desc r.late r.every W);have W8:=Hd (λW=>Xx r.up W);have W9:=Hd (λW=>Xx r.dn W);clear h hn g1 g2 g3 g4 g5 g6;unfold Rz;go_enter func9,ntmps9;go_upto_region 1 with fail;(refine Ko ?_;intro V hV);(refine K2l ?_;intro k0);(refine KX ?_;intro HB);have oW:=Hd (show V.heap.size=w.heap.size+1 by rw[<-hV,mw]);(refine K4J ?_;intro q0 q1 q2 q3);have jU:=AB k0 19 rfl;have iQ:=AB k0 20 rfl;have K0:=Hd k0;have HO:=Hd ho;have HT:=Hd ht;clear hV k0 ho ht;go_wp2_with (first|(with_reducible refine(W1.out _).mono ?_;rintro e w' ⟨rfl,rfl⟩)|(with_reducible refine(W2.out _).mono ?_;rintro e w' ⟨rfl,rfl⟩)|(with_reducible refine(W3.out _).mono ?_;rintro e w' ⟨rfl,rfl⟩)|(with_reducible refine(W4.out _).mono ?_;rintro e w' ⟨rfl,rfl⟩));clear W1 W2 W3 W4 z5;go_loopw[3,4,46] (λs3 s4 s46 wr=>∃(j:Nat),s46=Iv j/\j<=n/\Hid (Below w.heap.size w wr/\wr.heap[w.heap.size]?=some (.cells #[Iv r.n,Iv r.again,Iv r.step,Iv r.CY,Iv r.lost,Iv r.ret,Iv r.desc,Iv r.late,Iv r.every,Iv r.up.BY,Iv r.up.AY,Iv r.up.least,Iv r.up.BU,Iv r.up.seed,Iv r.dn.BY,Iv r.dn.AY,Iv r.dn.least,Iv r.dn.BU,Iv r.dn.seed,.slice OA n oc,.slice TA n tc] 28 (0,0)))/\Nt.WX r j=true) (λ_ _ s46 _=>n-(intOf s46).toNat)
 case atStart=>exact⟨0,by go_num,by omega,Hd ⟨HB.out,K0.out⟩,rfl⟩
 case round=>
  obtain⟨j,rfl,hj,HR,xY⟩:=hrel;clear q0 q1 q2 q3 jU iQ
  by_cases EK:j<n
  ·have q3:=AB HR.out.2 3 rfl;have jU:=AB HR.out.2 19 rfl;have iQ:=AB HR.out.2 20 rfl;obtain⟨b,o,rfl,QQ,GG⟩:=(HO.out.below HR.out.1 (Lr _)).2.2 Ft;obtain⟨b',o',rfl,A7y,nF⟩:=(HT.out.below HR.out.1 (Lr _)).2.2 Ft;have c1:=GG j EK;have c2:=nF j EK;have i1:=HO.out.2.1.at_ j;have i2:=HT.out.2.1.at_ j;(refine K1T ?_;intro NS NO ED x hx y hy);rw[hx] at c1 i1;rw[hy] at c2 i2;have ED':=Hd (ED.out.trans (by rw[hx,hy]));clear ED hx hy GG nF HO HT xY
   by_cases h5: -3600000<=x/\x<=3600000
   ·by_cases h6: -r.CY<=y/\y<=r.CY
    ·have W5:=Hd (λW=>JM x (-3600000) 3600000 W h5);have W6:=Hd (λW=>JM y (-r.CY) r.CY W h6);have E:=Hd (show Nt.WX r (j+1)=true by rw[NS.out,ED'.out];exact IU ⟨h5,h6⟩);clear NS NO ED' h5 h6;go_wp2_with fail;go_quiet ((go_at_call 31;first|(with_reducible refine(show Calls prog 31 #[Iv x,Iv (-3600000),Iv 3600000] _ _ from ?_);exact Yb ((W5.out _).mono λe w' h=>⟨h.1,h.2.symm⟩))|(exact Yb ((W6.out _).mono λe w' h=>⟨h.1,h.2.symm⟩))));exact J7
    ·have W5:=Hd (λW=>JM x (-3600000) 3600000 W h5);have W6:=Hd (λW=>Sy y (-r.CY) r.CY W h6);have E:=Hd (show Nt.MP r=false by rw[HV.out,NO.out Br];simp);clear NS NO ED' h5 h6;go_wp2_with fail;go_quiet ((go_at_call 31;first|(with_reducible refine(show Calls prog 31 #[Iv x,Iv (-3600000),Iv 3600000] _ _ from ?_);exact Yb ((W5.out _).mono λe w' h=>⟨h.1,h.2.symm⟩))|(exact Yb ((W6.out _).mono λe w' h=>⟨h.1,h.2.symm⟩))));exact Iq
   ·have W5:=Hd (λW=>Sy x (-3600000) 3600000 W h5);have E:=Hd (show Nt.MP r=false by rw[HV.out,NO.out Bs];simp);clear NS NO ED' h5;go_wp2_with fail;go_quiet ((go_at_call 31;exact Yb ((W5.out _).mono λe w' h=>⟨h.1,h.2.symm⟩)));exact Iq
  ·(obtain rfl:j=n:=by omega);have K1:=Hd HR.out.2;have DF:=Hd HR.out.1;have xV:w.heap.size<wr.heap.size:=BG HR.out.2;have HV1:=Hd (HV.out.trans (by rw[xY,Bool.true_and]));clear xY HV HO HT K0 HB oW HN H0 HR;have p4:=AB K1.out 4 rfl;have p5:=AB K1.out 5 rfl;have p6:=AB K1.out 6 rfl;have p7:=AB K1.out 7 rfl;have p8:=AB K1.out 8 rfl;obtain⟨cp,hcp⟩:=BN (AL.S9 r.lost r.ret r.desc r.late r.every);obtain⟨cu,hcu⟩:=BN (AN.MP r.up);obtain⟨cd,hcd⟩:=BN (AN.MP r.dn);have rP:=Hd (HV1.out.trans (by rw[<-hcp,<-hcu,<-hcd]));have V7:=Hd (show ∀W,Calls prog 32 #[.agg #[Iv r.lost,Iv r.ret,Iv r.desc,Iv r.late,Iv r.every]] W (IL (.bool cp) W) from λW=>by rw[hcp];exact W7.out W);have V8:=Hd (show ∀W,Calls prog 33 #[.agg #[Iv r.up.BY,Iv r.up.AY,Iv r.up.least,Iv r.up.BU,Iv r.up.seed]] W (IL (.bool cu) W) from λW=>by rw[hcu];exact W8.out W);have V9:=Hd (show ∀W,Calls prog 33 #[.agg #[Iv r.dn.BY,Iv r.dn.AY,Iv r.dn.least,Iv r.dn.BU,Iv r.dn.seed]] W (IL (.bool cd) W) from λW=>by rw[hcd];exact W9.out W);clear HV1 hcp hcu hcd W7 W8 W9
   cases cp
   case false=>go_wp2_with (with_reducible refine(V7.out _).mono ?_;rintro e w1 ⟨rfl,BX⟩);go_ret;exact⟨CU Er,DF.out.trans (BX.mono Ft)⟩
   case true=>
    cases cu
    case false=>go_wp2_with (first|(with_reducible refine(V7.out _).mono ?_;rintro e w1 ⟨rfl,BX⟩;have IJ:=BX.size;have k1:=AH K1.out BX xV;have u9:=AB k1 9 rfl;have u10:=AB k1 10 rfl;have u11:=AB k1 11 rfl;have u12:=AB k1 12 rfl;have u13:=AB k1 13 rfl;clear k1)|(with_reducible refine(V8.out _).mono ?_;rintro e w2 ⟨rfl,CB⟩;have Ot:=CB.size));go_ret;exact⟨CU Er,(DF.out.trans (BX.mono Ft)).trans (CB.mono Ft)⟩
    case true=>
     cases cd
     case false=>go_wp2_with (first|(with_reducible refine(V7.out _).mono ?_;rintro e w1 ⟨rfl,BX⟩;have IJ:=BX.size;have k1:=AH K1.out BX xV;have u9:=AB k1 9 rfl;have u10:=AB k1 10 rfl;have u11:=AB k1 11 rfl;have u12:=AB k1 12 rfl;have u13:=AB k1 13 rfl;have KK1:=Hd k1;clear k1)|(with_reducible refine(V8.out _).mono ?_;rintro e w2 ⟨rfl,CB⟩;have Ot:=CB.size;have k2:=AH KK1.out CB Ft;have d14:=AB k2 14 rfl;have d15:=AB k2 15 rfl;have d16:=AB k2 16 rfl;have d17:=AB k2 17 rfl;have d18:=AB k2 18 rfl;clear k2)|(with_reducible refine(V9.out _).mono ?_;rintro e w3 ⟨rfl,JZ⟩;have ZI:=JZ.size));exact L5
     case true=>go_wp2_with (first|(with_reducible refine(V7.out _).mono ?_;rintro e w1 ⟨rfl,BX⟩;have IJ:=BX.size;have k1:=AH K1.out BX xV;have u9:=AB k1 9 rfl;have u10:=AB k1 10 rfl;have u11:=AB k1 11 rfl;have u12:=AB k1 12 rfl;have u13:=AB k1 13 rfl;have KK1:=Hd k1;clear k1)|(with_reducible refine(V8.out _).mono ?_;rintro e w2 ⟨rfl,CB⟩;have Ot:=CB.size;have k2:=AH KK1.out CB Ft;have d14:=AB k2 14 rfl;have d15:=AB k2 15 rfl;have d16:=AB k2 16 rfl;have d17:=AB k2 17 rfl;have d18:=AB k2 18 rfl;have KK2:=Hd k2;clear k2)|(with_reducible refine(V9.out _).mono ?_;rintro e w3 ⟨rfl,JZ⟩;have ZI:=JZ.size;have k3:=AH KK2.out JZ Ft;have e13:=AB k3 13 rfl;have e18:=AB k3 18 rfl;clear k3));exact L5
end
section
variable{w w' w0:World}
theorem cO(r:Nt.Ru)(n m:Nat)(OA:Option Addr)(oc:Nat)(TA:Option Addr)(tc:Nat)(w:World)(hn:r.CJ.length=n)(hm:r.BL.length=m)(ho:Ri w w.heap.size OA n r.CJ)(ht:Ri w w.heap.size TA m r.BL):
  Calls prog 9 #[Rz r OA n oc TA m tc] w (IL (.bool (Nt.MP r)) w):=by
 by_cases h:Nt.iw r=true
 ·have h':=Z8 h;(have GK:m=n:=by have:=h'.2.2.2.2;omega);subst GK;exact qf r m OA oc TA tc w h hn ho ht
 ·(have h0:Nt.iw r=false:=by simpa using h);have:=qg r OA oc TA tc w h0;rw[hn,hm] at this;refine this.mono ?_;rintro e w' ⟨rfl,hb⟩;exact⟨by unfold Nt.MP;rw[h0];simp,hb⟩
end
end
section
open RowKit
attribute [local go_sem ↓] wp_at_zero wp_at_succ
section
variable{w w' w0:World}
theorem qE:(prog.info? 108).map (λi=>(i.zero,i.size,i.bytes))=some (some (.agg #[.pointer none,.pointer none,.pointer none,Iv 0]),4,32):=by kernel_rfl
def aC(r:Nt.Ru)(OA:Option Addr)(n oc:Nat)(TA:Option Addr)(m tc:Nat):List Value:=[Iv r.n,Iv r.again,Iv r.step,Iv r.CY,Iv r.lost,Iv r.ret,Iv r.desc,Iv r.late,Iv r.every,Iv r.up.BY,Iv r.up.AY,Iv r.up.least,Iv r.up.BU,Iv r.up.seed,Iv r.dn.BY,Iv r.dn.AY,Iv r.dn.least,Iv r.dn.BU,Iv r.dn.seed,.slice OA n oc,.slice TA m tc]
theorem QV(r:Nt.Ru)(OA:Option Addr)(n oc:Nat)(TA:Option Addr)(m tc:Nat):Rz r OA n oc TA m tc= .agg (aC r OA n oc TA m tc).toArray:=rfl
def A1T(r:Nt.Ru)(w:World)(e:Ending)(w':World):Prop:=∃b m,e= .returned (.tuple #[Pt b,Iv 0])/\BQ w' w.heap.size b m 0 (Nt.new r)/\Below w.heap.size w w'
def A8L(r:Nt.Ru)(n:Nat)(w wx:World):Prop:=∃A4 c4 A5 c5,wx.heap[w.heap.size]?=some (.cells (aC r A4 n c4 A5 n c5).toArray 28 (0,0))/\Row wx w.heap.size 3 1 A4 n c4 (Rt r.CJ)/\Row wx w.heap.size 3 1 A5 n c5 (Rt r.BL)/\Below w.heap.size w wx
def A4T(r:Nt.Ru)(C:World)(v7 v8:Value)(wx:World):Prop:=∃p7 p8,v7=Pt p7/\v8=Pt p8/\p7≠p8/\C.heap.size<=p7/\C.heap.size<=p8/\wx.heap[p7]?=some (.cells #[Iv r.up.BY,Iv r.up.AY,Iv r.up.least,Iv r.up.BU,Iv r.up.seed] 25 (0,0))/\wx.heap[p8]?=some (.cells #[Iv r.dn.BY,Iv r.dn.AY,Iv r.dn.least,Iv r.dn.BU,Iv r.dn.seed] 25 (0,0))/\Below C.heap.size C wx
theorem A2E(r:Nt.Ru)(n m:Nat)(OA:Option Addr)(oc:Nat)(TA:Option Addr)(tc:Nat)(w:World)(hv:Nt.MP r=false)(hn:r.CJ.length=n)(hm:r.BL.length=m)(ho:Ri w w.heap.size OA n r.CJ)(ht:Ri w w.heap.size TA m r.BL):
  Calls prog 25 #[Rz r OA n oc TA m tc] w (IL (.tuple #[.pointer none,Iv 2]) w):=by
 have VA:=Hd (λ(W:World)(hW:Below w.heap.size w W)=>hv▸cO r n m OA oc TA tc W hn hm ((ho.below hW (Lr _)).more hW.size) ((ht.below hW (Lr _)).more hW.size));clear hn hm ho ht hv;rw[QV] at VA⊢;unfold aC;go_enter func25,ntmps25;go_upto_region 1 with fail;(refine Ko ?_;intro V hV);(refine K0Y ?_;intro k0);(refine KX ?_;intro HB);clear hV;go_wp2_with (first|(go_at_call 9;refine(VA.out _ HB.out).mono ?_;rintro e w2 ⟨rfl,CB⟩)|(refine JS rfl 28 _ rfl w.heap.size rfl 28 _ (0,0) _ k0 underlying28 rfl Ff ?_));go_ret2;exact⟨rfl,HB.out.trans (CB.mono HB.out.size)⟩
theorem mL(r:Nt.Ru)(n:Nat)(OA:Option Addr)(oc:Nat)(TA:Option Addr)(tc:Nat)(w:World)(hv:Nt.MP r=true)(hn:r.CJ.length=n)(hm:r.BL.length=n)(hA:OA=none->n=0/\oc=0)(hT:TA=none->n=0/\tc=0)(ho:Ri w w.heap.size OA n r.CJ)(ht:Ri w w.heap.size TA n r.BL):
  Calls prog 25 #[Rz r OA n oc TA n tc] w (A1T r w):=by
 obtain⟨j0,hj0,jza,jzb,jzc⟩:=MQ qE;obtain⟨h0,h1,h2,h3,h4,h5,h6⟩:=Nt.Sr hv;have g:=Z8 h0;obtain⟨g1,g2,g3,g4,g5,g6⟩:=g;rw[hn] at g5;(have QK:n<=64:=by omega);(have YO:1<=n:=by omega);have VA:=Hd (λ(W:World)(hW:Below w.heap.size w W)=>hv▸cO r n n OA oc TA tc W hn hm ((ho.below hW (Lr _)).more hW.size) ((ht.below hW (Lr _)).more hW.size));have CO:=Hd (λ(W:World)(hW:Below w.heap.size w W)=>gZ OA n oc (Rt r.CJ) W Ft hA ((ho.below hW (Lr _)).more hW.size).reads (WM _));have CT:=Hd (λ(W:World)(hW:Below w.heap.size w W)=>gZ TA n tc (Rt r.BL) W Ft hT ((ht.below hW (Lr _)).more hW.size).reads (WM _));have SN:=Hd (λ(W:World)=>yQ n r.again W D1);have PN:=Hd (λ(i:Nat)(hi:i<n)(W:World)=>A0k ((i:Int)+1) r.lost r.ret r.desc r.late r.every r.CY W B6);have UN:=Hd (λ(i:Nat)(hi:i<n)(W:World)=>mW (Nt.JQ r.up i) W (Nt.PQ h3 i) Cg);have DN:=Hd (λ(i:Nat)(hi:i<n)(W:World)=>mW (Nt.JQ r.dn i) W (Nt.PQ h4 i) Ch);have u0:=(AN.OE.1 h3).2.2.2.2;have d0:=(AN.OE.1 h4).2.2.2.2;have HN:=Hd (And.intro hn hm);have G5:=Hd g5;clear hn hm hA hT ho ht hv h0 h1 h2 h3 h4 g1 g2 g3 g4 g5 g6;rw[QV] at VA⊢;unfold aC;go_enter func25,ntmps25;go_upto_region 1 with fail;(refine Ko ?_;intro V hV);have k0:V.heap[w.heap.size]?=some (.cells (aC r OA n oc TA n tc).toArray 28 (0,0)):=D7;(refine KX ?_;intro HB);(have Oq:w.heap.size<V.heap.size:=by rw[<-hV,mw];omega);clear hV;go_upto_region 3 with(first|(go_at_call 9;refine(VA.out _ HB.out).mono ?_;rintro e w2 ⟨rfl,CB⟩;have Ot:=CB.size;have k2:=AH k0 CB Oq;clear k0)|(refine JS rfl 28 _ rfl w.heap.size rfl 28 _ (0,0) _ k0 underlying28 rfl Ff ?_));have NB:=JI HB CB;clear CB HB VA;have jU:w2.cell? (Ad w.heap.size 19)=some (.slice OA n oc):=AB k2 19 rfl;have iQ:w2.cell? (Ad w.heap.size 20)=some (.slice TA n tc):=AB k2 20 rfl;have Wj:w.heap.size<w2.heap.size:=BG k2;have K2:=Hd k2;clear k2 Oq Ot;go_cut[] from 9 to 91 (λwx=>A8L r n w wx)
 case first=>
  go_region_with (first|(go_at_call 62;have _g:=Qo;refine(CT.out _ (by first|exact Qo.out|exact Qo.out.drew|exact below_drewN Qo.out _)).mono ?_;rintro e w5 ⟨A5,c5,rfl,Vn,LM⟩;have A6E:=Hd (show Below w4.heap.size w4 w5 from by first|exact LM|exact(IH _).drew.trans LM|exact(below_drewN (IH _) _).trans LM);have JD:=Hd (Qo.out.trans (A6E.out.mono Qo.out.size));have k5:=AH K4.out A6E.out hs4;have K5:=Hd k5;have hs5:w.heap.size<w5.heap.size:=BG k5;have e19:w5.cell? (Ad w.heap.size 19)=some (.slice OA n oc):=AB k5 19 rfl;have e20:w5.cell? (Ad w.heap.size 20)=some (.slice TA n tc):=AB k5 20 rfl;have yk:=Hd (Vn.more (base':=w.heap.size) (by have:=Qo.out.size;first|exact this|(simp;exact this)));have A8R:=Hd (HR4.out.below A6E.out (Lr _));have f19:=AE k5 19;have f20:=AE k5 20;clear Vn LM k5)|(go_at_call 62;refine(CO.out _ (by first|exact NB.out|exact NB.out.drew|exact below_drewN NB.out _)).mono ?_;rintro e w4 ⟨A4,c4,rfl,hr4,GA⟩;have A90:=Hd (show Below w2.heap.size w2 w4 from by first|exact GA|exact(IH _).drew.trans GA|exact(below_drewN (IH _) _).trans GA);have Qo:=Hd (NB.out.trans (A90.out.mono NB.out.size));have k4:=AH K2.out A90.out Wj;have K4:=Hd k4;have hs4:w.heap.size<w4.heap.size:=BG k4;have e19:w4.cell? (Ad w.heap.size 19)=some (.slice OA n oc):=AB k4 19 rfl;have e20:w4.cell? (Ad w.heap.size 20)=some (.slice TA n tc):=AB k4 20 rfl;have HR4:=Hd (hr4.more (base':=w.heap.size) (by have:=NB.out.size;first|exact this|(simp;exact this)));clear hr4 GA k4))
  all_goals
   go_wp2_with fail;go_meet;have kk:=AP (AP K5.out 19 (.slice A4 n c4)) 20 (.slice A5 n c5);rw[Q8,Q8] at kk;(have ha:∀g,AK A4=some g->g≠w.heap.size:=λg hg=>(A8R.out.ty hg).ne ⟨_,K5.out⟩ Fj);(have hb:∀g,AK A5=some g->g≠w.heap.size:=λg hg=>(yk.out.ty hg).ne ⟨_,K5.out⟩ Fj);exact⟨A4,c4,A5,c5,kk,(A8R.out.FY (p:=(Ad w.heap.size 19)) ha _).FY (p:=(Ad w.heap.size 20)) ha _,(yk.out.FY (p:=(Ad w.heap.size 19)) hb _).FY (p:=(Ad w.heap.size 20)) hb _,(JD.out.setCell (p:=(Ad w.heap.size 19)) (Lr _) _).setCell (p:=(Ad w.heap.size 20)) (Lr _) _⟩
 case rest=>
  obtain⟨A4,c4,A5,c5,k0,hr4,Vn,hb⟩:=hcut;have Vp:=Hd hr4;have HRT:=Hd Vn;have XI:=Hd hb;have hsc:w.heap.size<wc.heap.size:=BG k0;clear hr4 Vn hb jU iQ CO CT NB K2 Wj;have k0:wc.heap[w.heap.size]?=some (.cells #[Iv r.n,Iv r.again,Iv r.step,Iv r.CY,Iv r.lost,Iv r.ret,Iv r.desc,Iv r.late,Iv r.every,Iv r.up.BY,Iv r.up.AY,Iv r.up.least,Iv r.up.BU,Iv r.up.seed,Iv r.dn.BY,Iv r.dn.AY,Iv r.dn.least,Iv r.dn.BU,Iv r.dn.seed,.slice A4 n c4,.slice A5 n c5] 28 (0,0)):=k0;have hmm:= @run_makeMap prog;go_upto_region 5 with(first|(refine JS rfl 28 _ rfl w.heap.size rfl 28 _ (0,0) _ k0 underlying28 rfl Ff ?_));clear hmm;generalize hX:World.alloc _ _=X;have kx:=Hd (show X.heap[w.heap.size]?=some (.cells #[Iv r.n,Iv r.again,Iv r.step,Iv r.CY,Iv r.lost,Iv r.ret,Iv r.desc,Iv r.late,Iv r.every,Iv r.up.BY,Iv r.up.AY,Iv r.up.least,Iv r.up.BU,Iv r.up.seed,Iv r.dn.BY,Iv r.dn.AY,Iv r.dn.least,Iv r.dn.BU,Iv r.dn.seed,.slice A4 n c4,.slice A5 n c5] 28 (0,0)) by rw[<-hX];exact AI (AI k0 _) _);(have kbn:X.heap[wc.heap.size+1]?=some (.cells #[Iv r.n,Iv r.again,Iv r.step,Iv r.CY,Iv r.lost,Iv r.ret,Iv r.desc,Iv r.late,Iv r.every,Iv r.up.BY,Iv r.up.AY,Iv r.up.least,Iv r.up.BU,Iv r.up.seed,Iv r.dn.BY,Iv r.dn.AY,Iv r.dn.least,Iv r.dn.BU,Iv r.dn.seed,.slice A4 n c4,.slice A5 n c5,Iv 0,Iv 0,.pointer none,Iv 0,.slice none 0 0,.map (some wc.heap.size),.slice none 0 0] 86 (0,0)):=by rw[<-hX];exact BK _ _ _ Fu);have hbX:=BG kbn;have HCU:=Hd (show IsCut X wc.heap.size 0 (List.replicate (n+1) false) by
   rw[<-hX];exact(A1A wc _ (λi=>by rw[List.getD,List.getElem?_replicate];split<;>rfl)).kept ((AG.refl (λ_=>False) _).alloc _) (λh=>h))
  have A3S:=Hd (show Row X w.heap.size 3 1 A4 n c4 (Rt r.CJ) by rw[<-hX];exact(Vp.out.alloc _).alloc _);have A3R:=Hd (show Row X w.heap.size 3 1 A5 n c5 (Rt r.BL) by rw[<-hX];exact(HRT.out.alloc _).alloc _);have kt:=Hd (show Below w.heap.size w X by rw[<-hX];exact(XI.out.alloc Ft _).alloc Fp _);(have x0:X.cell? (Ad w.heap.size 0)=some (Iv (n:Int)):=by rw[G5.out];exact AB kx.out 0 rfl);have x1:X.cell? (Ad w.heap.size 1)=some (Iv r.again):=AB kx.out 1 rfl;have HSC:=Hd hsc;clear hX k0 hsc Vp HRT XI;go_upto_region 6 with((go_at_call 63;refine(SN.out _).mono ?_;rintro e w5 ⟨sb,RA,rfl,DJ,LM⟩;have kb5:=AH kbn LM hbX;have f23:=AE kb5 23;have d23:w5.cell? (Ad (wc.heap.size+1) 23)=some (.pointer none):=AB kb5 23 rfl;have JD:=Hd LM;have X7:=Hd DJ;have KB5:=Hd kb5;clear LM DJ kb5));generalize hY:World.setCell _ _ _=Y;have Vv:=AP KB5.out 23 (Pt sb);rw[Q8] at Vv;have hbs:=JD.out.size;(have ZJ:∀q,S8 sb none RA q->q≠wc.heap.size+1:=λq hq=>by have:=(X7.out.bf hq).1;omega);have HN0:=Hd (show BQ Y w.heap.size (wc.heap.size+1) ⟨sb,none,0,RA,n,A4,c4,A5,c5,none,0,wc.heap.size,none,0,[]⟩ 0 (Nt.Rc r 0) by
   (have hks:AG (λq=>q=wc.heap.size+1) w5 Y:=by rw[<-hY];exact(AG.refl (λq=>q=wc.heap.size+1) w5).setCell (p:=(Ad (wc.heap.size+1) 23)) (.inl rfl) _);have nC:AG (λ_=>False) X w5:=AG.AS JD.out;refine BQ.begin r HN.out.1 HN.out.2 ?_ ?_ ?_ ?_ ?_ ⟨by have:=HSC.out;omega,by have:=HSC.out;omega⟩ ?_
   ·rw[<-hY];refine Vv.trans ?_;simp only[ql,Nt.Rc,HN.out.1,HN.out.2];rfl
   ·exact(X7.out.kept hks ZJ).more (by have:=kt.out.size;omega)
   ·exact(A3S.out.kept nC (λ_ _ h=>h)).kept hks (λg hg=>by have:=(A3S.out.ty hg).ne ⟨_,kbn⟩ Fj;exact this)
   ·exact(A3R.out.kept nC (λ_ _ h=>h)).kept hks (λg hg=>by have:=(A3R.out.ty hg).ne ⟨_,kbn⟩ Fj;exact this)
   ·exact(HCU.out.kept nC (λh=>h)).kept hks Ft
   ·intro q hq h3;have h4:=(X7.out.bf h3).1
    rcases hq with hq|hq
    ·have:=(A3S.out.lt hq).2;omega
    ·have:=(A3R.out.lt hq).2;omega)
  have HKY:=Hd (show Y.heap[w.heap.size]?=some (.cells #[Iv r.n,Iv r.again,Iv r.step,Iv r.CY,Iv r.lost,Iv r.ret,Iv r.desc,Iv r.late,Iv r.every,Iv r.up.BY,Iv r.up.AY,Iv r.up.least,Iv r.up.BU,Iv r.up.seed,Iv r.dn.BY,Iv r.dn.AY,Iv r.dn.least,Iv r.dn.BU,Iv r.dn.seed,.slice A4 n c4,.slice A5 n c5] 28 (0,0)) by
   rw[<-hY];exact AR (GH kx.out JD.out) ((AG.refl (λq=>q=wc.heap.size+1) _).setCell (p:=(Ad (wc.heap.size+1) 23)) (.inl rfl) _) (by have:=HSC.out;omega))
  have ko:=Hd (show Below w.heap.size w Y by rw[<-hY];exact(kt.out.trans (JD.out.mono kt.out.size)).setCell (p:=(Ad (wc.heap.size+1) 23)) (by have:=HSC.out;show w.heap.size<=wc.heap.size+1;omega) _);clear hY Vv ZJ hbs X7 HCU A3S A3R kt JD KB5 f23 d23 kbn hbX x1 SN kx;(have y0:Y.cell? (Ad w.heap.size 0)=some (Iv (n:Int)):=by rw[G5.out];exact AB HKY.out 0 rfl);clear x0;go_wp2_with fail;go_loopw[37] (λs37 wr=>∃(j:Nat)(m:NM),s37=Iv j/\j<=n/\Hid (BQ wr w.heap.size (wc.heap.size+1) m 0 (Nt.Rc r j))/\Hid (wr.heap[w.heap.size]?=some (.cells #[Iv r.n,Iv r.again,Iv r.step,Iv r.CY,Iv r.lost,Iv r.ret,Iv r.desc,Iv r.late,Iv r.every,Iv r.up.BY,Iv r.up.AY,Iv r.up.least,Iv r.up.BU,Iv r.up.seed,Iv r.dn.BY,Iv r.dn.AY,Iv r.dn.least,Iv r.dn.BU,Iv r.dn.seed,.slice A4 n c4,.slice A5 n c5] 28 (0,0)))/\Hid (Below w.heap.size w wr)) (λs37 _=>n-(intOf s37).toNat)
  case atStart=>exact⟨0,_,by go_num,by omega,HN0,HKY,ko⟩
  case round=>
   obtain⟨j,m,rfl,hj,HI,HK,HB⟩:=hrel;clear HN0 HKY ko y0
   by_cases EK:j<n
   ·obtain⟨b,nH⟩:=BN (wc.heap.size+1);have HSB:=Hd (show w.heap.size<b by have:=HSC.out;omega);rw[<-nH] at HI⊢;clear nH HSC;(have Yp:(j:Int)<(n:Int):=by omega);have wj:=GF ((j:Int)+1) Ft;have wu:=GF (r.up.seed+((j:Int)+1)) Ft;have wd:=GF (r.dn.seed+((j:Int)+1)) Ft;(have y0:wr.cell? (Ad w.heap.size 0)=some (Iv (n:Int)):=by rw[G5.out];exact AB HK.out 0 rfl);go_upto_region 10 with fail;generalize hC:World.alloc _ _=C;have xZ:=Hd (show C.heap[w.heap.size]?=some (.cells #[Iv r.n,Iv r.again,Iv r.step,Iv r.CY,Iv r.lost,Iv r.ret,Iv r.desc,Iv r.late,Iv r.every,Iv r.up.BY,Iv r.up.AY,Iv r.up.least,Iv r.up.BU,Iv r.up.seed,Iv r.dn.BY,Iv r.dn.AY,Iv r.dn.least,Iv r.dn.BU,Iv r.dn.seed,.slice A4 n c4,.slice A5 n c5] 28 (0,0)) by rw[<-hC];exact AI HK.out _);have hcC:=Hd (show C.heap[wr.heap.size]?=some (.cells #[.pointer none,.pointer none,.pointer none,Iv 0] 108 (0,0)) by rw[<-hC];exact AM _ _);have XI:=Hd (show Below wr.heap.size wr C by rw[<-hC];exact(IH wr).alloc (Lr _) _);have q9:C.cell? (Ad w.heap.size 9)=some (Iv r.up.BY):=AB xZ.out 9 rfl;have q10:C.cell? (Ad w.heap.size 10)=some (Iv r.up.AY):=AB xZ.out 10 rfl;have q11:C.cell? (Ad w.heap.size 11)=some (Iv r.up.least):=AB xZ.out 11 rfl;have q12:C.cell? (Ad w.heap.size 12)=some (Iv r.up.BU):=AB xZ.out 12 rfl;have q13:C.cell? (Ad w.heap.size 13)=some (Iv r.up.seed):=AB xZ.out 13 rfl;have q14:C.cell? (Ad w.heap.size 14)=some (Iv r.dn.BY):=AB xZ.out 14 rfl;have q15:C.cell? (Ad w.heap.size 15)=some (Iv r.dn.AY):=AB xZ.out 15 rfl;have q16:C.cell? (Ad w.heap.size 16)=some (Iv r.dn.least):=AB xZ.out 16 rfl;have q17:C.cell? (Ad w.heap.size 17)=some (Iv r.dn.BU):=AB xZ.out 17 rfl;have q18:C.cell? (Ad w.heap.size 18)=some (Iv r.dn.seed):=AB xZ.out 18 rfl;have qG:w.heap.size<C.heap.size:=BG xZ.out;clear hC y0;go_cut[7,8] from 40 to 89 (λv7 v8 wx=>A4T r C v7 v8 wx)
    case first=>
     go_region_with fail
     all_goals
      go_wp2_with fail;go_meet;first
       |exact⟨_,_,rfl,rfl,by omega,Lr _,by omega,AI (AM C _) _,BK _ _ _ Fu,Yc (((IH C).alloc (Lr _) _).alloc Fu _)⟩
       |exact⟨_,_,rfl,rfl,by omega,by omega,Lr _,BK _ _ _ Fu,AI (AM C _) _,Yc (((IH C).alloc (Lr _) _).alloc Fu _)⟩
       |exact⟨_,_,rfl,rfl,by omega,Lr _,by omega,AI (AM C _) _,BK _ _ _ Fu,below_drewN (((IH C).alloc (Lr _) _).alloc Fu _) _⟩
       |exact⟨_,_,rfl,rfl,by omega,by omega,Lr _,BK _ _ _ Fu,AI (AM C _) _,below_drewN (((IH C).alloc (Lr _) _).alloc Fu _) _⟩
    case rest=>
     obtain⟨p7,p8,rfl,rfl,LX,hp7,hp8,g7,g8,EX⟩:=hcut;clear q9 q10 q11 q12 q13 q14 q15 q16 q17 q18;have a4:wc.cell? (Ad p7 4)=some (Iv r.up.seed):=AB g7 4 rfl;have a5:wc.cell? (Ad p8 4)=some (Iv r.dn.seed):=AB g8 4 rfl;have b4:=AE g7 4;have b5:=AE g8 4;have G7:=Hd g7;have G8:=Hd g8;have kt:=Hd EX;clear g7 g8 EX;go_upto_region 13 with fail;generalize hD:World.setCell _ _ _=D;have hD7:=Hd (show D.heap[p7]?=some (.cells #[Iv r.up.BY,Iv r.up.AY,Iv r.up.least,Iv r.up.BU,Iv (r.up.seed+((j:Int)+1))] 25 (0,0)) by
      rw[<-hD];have:=AP G7.out 4 (Iv (r.up.seed+((j:Int)+1)));rw[Q8] at this;exact AR this ((AG.refl (λq=>q=p8) _).setCell (p:=(Ad p8 4)) (.inl rfl) _) LX)
     have hD8:=Hd (show D.heap[p8]?=some (.cells #[Iv r.dn.BY,Iv r.dn.AY,Iv r.dn.least,Iv r.dn.BU,Iv (r.dn.seed+((j:Int)+1))] 25 (0,0)) by
      rw[<-hD];have:=AP (AR G8.out ((AG.refl (λq=>q=p7) _).setCell (p:=(Ad p7 4)) (.inl rfl) (Iv (r.up.seed+((j:Int)+1)))) (λe=>LX e.symm)) 4 (Iv (r.dn.seed+((j:Int)+1)));rw[Q8] at this;exact this)
     have iq:=Hd (show Below C.heap.size C D by rw[<-hD];exact(kt.out.setCell (p:=(Ad p7 4)) hp7 _).setCell (p:=(Ad p8 4)) hp8 _);clear hD a4 a5 b4 b5 G7 G8 kt;have kD:=Hd (AH xZ.out iq.out qG);have cD:=Hd (GH hcC.out iq.out);have hzD:=iq.out.size;have GG:=BG hcC.out;have hwr:=HB.out.size;have HZD:=Hd hzD;have HCL:=Hd GG;have HWR:=Hd hwr;clear hzD GG hwr;have q3:D.cell? (Ad w.heap.size 3)=some (Iv r.CY):=AB kD.out 3 rfl;have q4:D.cell? (Ad w.heap.size 4)=some (Iv r.lost):=AB kD.out 4 rfl;have q5:D.cell? (Ad w.heap.size 5)=some (Iv r.ret):=AB kD.out 5 rfl;have q6:D.cell? (Ad w.heap.size 6)=some (Iv r.desc):=AB kD.out 6 rfl;have q7:D.cell? (Ad w.heap.size 7)=some (Iv r.late):=AB kD.out 7 rfl;have q8:D.cell? (Ad w.heap.size 8)=some (Iv r.every):=AB kD.out 8 rfl;have PNj:=Hd (PN.out j EK);go_upto_region 14 with((go_at_call 64;refine(PNj.out _).mono ?_;rintro e w6 ⟨pb,pc,rfl,hp6,Se⟩;have k6:=GH cD.out Se;have f6:=AE k6 0;have d6:w6.cell? (Ad wr.heap.size 0)=some (.pointer none):=AB k6 0 rfl;have Vh:=Hd Se;have HP6:=Hd hp6;have K6:=Hd k6;clear Se hp6 k6));generalize hE:World.setCell _ _ _=E;have KE:=Hd (show AG (λq=>q=wr.heap.size) w6 E by rw[<-hE];exact(AG.refl (λq=>q=wr.heap.size) w6).setCell (p:=(Ad wr.heap.size 0)) (.inl rfl) _);have cE:=Hd (show E.heap[wr.heap.size]?=some (.cells #[Pt pb,.pointer none,.pointer none,Iv 0] 108 (0,0)) by
      rw[<-hE];have:=AP K6.out 0 (Pt pb);rw[Q8] at this;exact this)
     have E7:=Hd (AR (GH hD7.out Vh.out) KE.out E6);have E8:=Hd (AR (GH hD8.out Vh.out) KE.out E6);(have hpn:pb≠wr.heap.size/\pc≠wr.heap.size:=by have h1:=HP6.out.ge;have h2:=HCL.out;have h3:=HZD.out;constructor<;>omega);have PE:=Hd (HP6.out.kept KE.out hpn.1 hpn.2);have SE:=Hd (show D.heap.size<=w6.heap.size/\E.heap.size=w6.heap.size from⟨Vh.out.size,by rw[<-hE];simp⟩);have hDp:=Hd HP6.out.ge;have KDE:=Hd (show AG (λq=>q=wr.heap.size) D E from(AG.AS Vh.out).trans KE.out (λ_ _ h=>h));clear hE q3 q4 q5 q6 q7 q8 d6 f6 hpn K6;have s0:=AB E7.out 0 rfl;have s1:=AB E7.out 1 rfl;have s2:=AB E7.out 2 rfl;have s3:=AB E7.out 3 rfl;have s4:=AB E7.out 4 rfl;have UNj:=Hd (show ∀W,Calls prog 65 #[.agg #[Iv r.up.BY,Iv r.up.AY,Iv r.up.least,Iv r.up.BU,Iv (r.up.seed+((j:Int)+1))]] W (jM (Nt.JQ r.up j) W) from UN.out j EK);have DNj:=Hd (show ∀W,Calls prog 65 #[.agg #[Iv r.dn.BY,Iv r.dn.AY,Iv r.dn.least,Iv r.dn.BU,Iv (r.dn.seed+((j:Int)+1))]] W (jM (Nt.JQ r.dn j) W) from DN.out j EK);go_upto_region 15 with((go_at_call 65;refine(UNj.out _).mono ?_;rintro e w7 ⟨ub,rfl,A7h,Tt⟩;have k7:=GH cE.out Tt;have f7:=AE k7 1;have d7:w7.cell? (Ad wr.heap.size 1)=some (.pointer none):=AB k7 1 rfl;have T3:=Hd Tt;have HP7:=Hd A7h;have K7:=Hd k7;clear Tt A7h k7));generalize hF:World.setCell _ _ _=F;have KF:=Hd (show AG (λq=>q=wr.heap.size) w7 F by rw[<-hF];exact(AG.refl (λq=>q=wr.heap.size) w7).setCell (p:=(Ad wr.heap.size 1)) (.inl rfl) _);have cF:=Hd (show F.heap[wr.heap.size]?=some (.cells #[Pt pb,Pt ub,.pointer none,Iv 0] 108 (0,0)) by
      rw[<-hF];have:=AP K7.out 1 (Pt ub);rw[Q8] at this;exact this)
     have F8:=Hd (AR (GH E8.out T3.out) KF.out E6);have SF:=Hd (show E.heap.size<=w7.heap.size/\F.heap.size=w7.heap.size from⟨T3.out.size,by rw[<-hF];simp⟩);have UF:=Hd (HP7.out.kept KF.out (λq hq=>by have h1:=HP7.out.TD q hq;have h2:=HCL.out;have h3:=HZD.out;have h4:=SE.out;omega));have KEF:=Hd (show AG (λq=>q=wr.heap.size) E F from(AG.AS T3.out).trans KF.out (λ_ _ h=>h));clear hF s0 s1 s2 s3 s4 d7 f7 K7;have s0:=AB F8.out 0 rfl;have s1:=AB F8.out 1 rfl;have s2:=AB F8.out 2 rfl;have s3:=AB F8.out 3 rfl;have s4:=AB F8.out 4 rfl;go_upto_region 16 with((go_at_call 65;refine(DNj.out _).mono ?_;rintro e w8 ⟨db,rfl,A7g,nJ⟩;have k8:=GH cF.out nJ;have f8:=AE k8 2;have d8:w8.cell? (Ad wr.heap.size 2)=some (.pointer none):=AB k8 2 rfl;have ZU:=Hd nJ;have HP8:=Hd A7g;have K8:=Hd k8;clear nJ A7g k8));generalize hG:World.setCell _ _ _=G;have KG:=Hd (show AG (λq=>q=wr.heap.size) w8 G by rw[<-hG];exact(AG.refl (λq=>q=wr.heap.size) w8).setCell (p:=(Ad wr.heap.size 2)) (.inl rfl) _);have cG:=Hd (show G.heap[wr.heap.size]?=some (.cells #[Pt pb,Pt ub,Pt db,Iv 0] 108 (0,0)) by
      rw[<-hG];have:=AP K8.out 2 (Pt db);rw[Q8] at this;exact this)
     have SG:=Hd (show F.heap.size<=w8.heap.size/\G.heap.size=w8.heap.size from⟨ZU.out.size,by rw[<-hG];simp⟩);have DG:=Hd (HP8.out.kept KG.out (λq hq=>by have h1:=HP8.out.TD q hq;have h2:=HCL.out;have h3:=HZD.out;have h4:=SE.out;have h5:=SF.out;omega));have KFG:=Hd (show AG (λq=>q=wr.heap.size) F G from(AG.AS ZU.out).trans KG.out (λ_ _ h=>h));have VF:=Hd (show C.heap.size<=D.heap.size/\D.heap.size<=E.heap.size/\E.heap.size<=F.heap.size/\F.heap.size<=G.heap.size/\wr.heap.size<C.heap.size/\w.heap.size<=wr.heap.size by
      have h1:=SE.out;have h2:=SF.out;have h3:=SG.out;have h4:=HZD.out;have h5:=HCL.out;have h6:=HWR.out;omega)
     have KRG:=Hd (show AG (λ_=>False) wr G from
      (((AG.AS (S:=λ_=>False) (XI.out.trans (iq.out.mono XI.out.size))).trans KDE.out (λq h hq=>by omega)).trans KEF.out (λq h hq=>by omega)).trans KFG.out (λq h hq=>by omega))
     have PG:=Hd ((PE.out.kept KEF.out Cd Cd).kept KFG.out Cd Cd);have UG:=Hd (UF.out.kept KFG.out (λq hq=>by have h1:=UF.out.TD q hq;have h2:=VF.out;omega));clear hG s0 s1 s2 s3 s4 d8 f8 K8;have IG:=Hd (HI.out.kept KRG.out (λ_ _ h=>h));have ER:=Hd (show Row G w.heap.size 108 4 m.CA j m.cc (Pk m.cs (Nt.FJ r j)) by
      have:=IG.out.S1;rw[show(Nt.Rc r j).cr.length=j from Nt.NI r j] at this;exact this)
     (have Ud:G.cell? (Ad b 25)=some (.slice m.CA j m.cc):=by have:G.cell? (Ad b 25)=some (.slice m.CA (Nt.Rc r j).cr.length m.cc):=AB IG.out.BM 25 rfl;rw[show(Nt.Rc r j).cr.length=j from Nt.NI r j] at this;exact this);have HBL:=Hd (BG HI.out.BM);have HGB:=Hd (show w.heap.size<=G.heap.size by have:=VF.out;omega);have t0:=AB (l:=[Pt pb,Pt ub,Pt db,Iv 0]) cG.out 0 rfl;have t1:=AB (l:=[Pt pb,Pt ub,Pt db,Iv 0]) cG.out 1 rfl;have t2:=AB (l:=[Pt pb,Pt ub,Pt db,Iv 0]) cG.out 2 rfl;have t3:=AB (l:=[Pt pb,Pt ub,Pt db,Iv 0]) cG.out 3 rfl;have XO:=HGB.out;have hbG:b<G.heap.size:=BG IG.out.BM;(have ca:=λ(o:Obj)=>(A02 G o (Ad b 25) hbG).trans Ud);clear PN UN DN PNj UNj DNj KE KF KG XI iq hcC cD cE cF E7 E8 F8 Vh T3 ZU HP6 HP7 HP8 PE hD7 hD8 KDE KEF KFG h5 h6 wu wd u0 d0 LX hp7 hp8 qG;go_region_law (first|(refine FF rfl (.tmp 83) (.tmp 85) 83 rfl w.heap.size 108 j0 _ 4 32 underlying83 hj0 jza jzb jzc rfl m.CA j m.cc (Pk m.cs (Nt.FJ r j)) rfl Av (Ad G.heap.size 0) 1 1 [Pt pb,Pt ub,Pt db,Iv 0] rfl rfl (λk u hu=>by rw[CP,PL];exact AB (l:=[_,_,_,_]) Bi k hu) E9 Ft Dk Ft F0 ?_;intro CA2 cc2 w9 CF hg JV;have K9:=Hd (show AG (λi=>AK m.CA=some i) G w9 from AG.trans (S':=λi=>AK m.CA=some i) Al (AG.JK hg (λg e=>e)) (λ_ _ h=>h));have kb9:=Hd (AR IG.out.BM K9.out (λe=>(IG.out.S1.ty e).ne ⟨_,IG.out.BM⟩ Fj rfl));have f9:=AE kb9.out 25;have c9:=(show w9.cell? (Ad b 25)=some (.slice m.CA (Nt.Rc r j).cr.length m.cc) from AB kb9.out 25 rfl);have AT:=Hd (show AK CA2=AK m.CA\/∃g,AK CA2=some g/\G.heap.size<=g from JV.imp id (λe=>⟨_,e,by simp⟩));have RO:=Hd CF;clear CF hg JV;simp only[R2,R7,R6,Act.put,Q8,P3,P0]))
     all_goals
      go_wp2_with fail;go_roundw
      case rel=>
       have HSb:=AP kb9.out 25 (.slice CA2 (j+1) cc2);have hlen:(Nt.FJ r j).length=j:=Nt.NI r j;have KW:=(KRG.out.mono (S':=λq=>q=b\/AK m.CA=some q) (λ_ _ h=>h.elim)).trans K9.out (λq _ hq=> .inr hq);have KWW:=KW.setCell (p:=(Ad b 25)) (.inl (.inl rfl)) (.slice CA2 (j+1) cc2);have KGG:=((K9.out.mono (S':=λq=>q<wr.heap.size) (λq _ hq=>(HI.out.S1.lt hq).2)).setCell (p:=(Ad b 25)) (.inl HBL.out) (.slice CA2 (j+1) cc2));have hz:=VF.out;have hdp:=hDp.out;have hub:=UF.out.two _ (.inl rfl);have PW:=PG.out.kept KGG (by show ¬pb<wr.heap.size;omega) (by show ¬pc<wr.heap.size;omega);have UW:=UG.out.kept KGG (λq hq=>by have:=UG.out.TD q hq;show ¬q<wr.heap.size;omega);have DW:=DG.out.kept KGG (λq hq=>by have:=DG.out.TD q hq;show ¬q<wr.heap.size;omega);refine⟨j+1,{m with CA:=CA2,cc:=cc2,cs:=m.cs++[⟨pb,pc,ub,none,0,db,none,0⟩]},by go_num,by omega,Hd ?_,Hd ?_,Hd ?_⟩
       ·(have e:Nt.Rc r (j+1)={Nt.Rc r j with cr:=(Nt.Rc r j).cr++[Nt.VY r j]}:=by unfold Nt.Rc;rw[Nt.Tm]);rw[e];refine HI.out.push KWW ?_ ?_ ?_ ?_
        ·rw[Q8] at HSb;rw[HSb];simp[ql,Nt.Rc,hlen]
        ·have hr:=RO.out.FY (p:=(Ad b 25)) (λg hg e=>by
          have jj:=HBL.out
          rcases AT.out with h1|⟨q,h1,h2⟩
          ·exact(HI.out.S1.ty (h1▸hg)).ne ⟨_,HI.out.BM⟩ Fj e
          ·rw[h1] at hg;injection hg with hg;have e:g=b:=e;omega) (.slice CA2 (j+1) cc2)
         rw[ib _ _ _ _ HI.out.len,TW,List.length_singleton];rw[show(Nt.Rc r j).cr.length=j from hlen];exact hr
        ·rw[show(Nt.Rc r j).cr.length=j from hlen];exact⟨⟨PW.BM,PW.Tc,by show w.heap.size<=pb;omega,by show w.heap.size<=pc;omega⟩,⟨UW.BM,UW.row.more (by show w.heap.size<=E.heap.size;omega),by have:=UW.ge;show w.heap.size<=ub;omega⟩,⟨DW.BM,DW.row.more (by show w.heap.size<=F.heap.size;omega),by have:=DW.ge;show w.heap.size<=db;omega⟩,λq hq jY=>by
          have h1:=DG.out.TD q jY
          rcases hq with rfl|hq
          ·omega
          ·cases hq⟩
        ·intro q hq
         rcases hq with hq|hq|hq|hq
         ·have hq:q=pb:=hq;omega
         ·have hq:q=pc:=hq;omega
         ·have:=UG.out.TD q hq;omega
         ·have:=DG.out.TD q hq;omega
       ·exact AR HK.out KWW (λhq=>by
         rcases hq with hq|hq
         ·have:=HSB.out;omega
         ·exact(HI.out.S1.ty hq).ne ⟨_,HK.out⟩ Fj rfl)
       ·exact HB.out.trans (KWW.below (λq _ hq=>by
         rcases hq with hq|hq
         ·have:=HSB.out;omega
         ·exact(HI.out.S1.lt hq).1) Ft)
      case measure=>simp[intOf];omega
   ·(obtain rfl:j=n:=by omega);(refine K3u ?_;intro ik);go_wp2_with fail;go_ret2;refine⟨wc.heap.size+1,m,rfl,?_,HB.out⟩;rw[Nt.new,HN.out.1];exact HI.out
end
end
section
set_option maxRecDepth 512
namespace Nt
theorem aF{r:Ru}(h:MP r=true):Inv 0 (new r):=by
 obtain⟨h0,h1,h2,h3,h4,h5,h6⟩:=Sr h;obtain⟨g1,g2,g3,g4,g5,g6⟩:=Z8 h0;obtain⟨n,hn⟩:=BN r.CJ.length;(have tI:(new r).cr.length=n:=by rw[hn];exact NI _ _);(have DJ:AJ.VX (n:Int) r.again=0:=by unfold AJ.VX;rw[AW Ft]);refine⟨?_,?_,?_,⟨h3,h5⟩,⟨h4,h6⟩,⟨ZB _,by show(0:Int)<=3600000;omega⟩,g3,⟨ZB _,by show(0:Int)<=100000;omega⟩,?_,?_,?_,?_,Lr _⟩
 ·show AJ.Inv (AJ.new r.CJ.length r.again);rw[<-hn];exact AJ.aH DJ
 ·rw[tI,hn];rfl
 ·rw[tI];show r.n=n;omega
 ·rw[tI,hn];rfl
 ·rw[tI];show r.BL.length=n;omega
 ·intro i hi;rw[tI] at hi;have e:at_ (new r) i=VY r i:=Za _ _ _ Ft;rw[e];exact⟨AL.aF B6,rfl,(by simp[VY,AL.new]),AN.aH (PQ h3 i) Cg,AN.aH (PQ h4 i) Ch,(by simp[VY,AN.new]),(by simp[VY,AN.new])⟩
 ·rw[tI];show(List.replicate _ _).length=n+1;rw[iP,hn]
end Nt
end
end Go.Proofs.YtdocdgcdldpagaaGreat

import Derived.Test.YtdocdgcdldpagaaGreatAw13
open Go.Proofs.Tryz
namespace Go.Proofs.YtdocdgcdldpagaaGreat
set_option maxHeartbeats 64000000
set_option maxRecDepth 100000
set_option linter.all false
section
open RowKit
attribute [local go_sem ↓] wp_at_zero wp_at_succ
def Qm(base b c:Nat)(R:AL.St×Bool)(w:World)(e:Ending)(w':World):Prop:=e= .returned (.bool R.2)/\Of w' base b c R.1/\AG (λi=>i=b\/i=c) w w'
def A3L(s:AL.St)(x:Int)(w:World)(e:Ending)(w':World):Prop:=∃r lo hi,e= .returned (.tuple #[Iv r,.agg #[Iv lo,Iv hi],Iv x])/\Below w.heap.size w w'
theorem m0{w:World}{c:Nat}{d r:Int}{cs:Bool}{lo hi:Int}(h:Ck.DV w c d r true cs lo hi)(x:Int)(hx:x=if cs then 0 else 9)(s:AL.St):
  Calls prog 163 #[Pt c] w (A3L s x w):=by
 subst hx
 cases cs
 ·exact(Ck.iI c d r lo hi w h).mono λe w' ⟨h1,h2⟩=>⟨_,_,_,h1,h2⟩
 ·exact(Ck.lZ c d r lo hi w h).mono λe w' ⟨h1,h2⟩=>⟨_,_,_,h1,h2⟩
section
variable{w:World}{base b c:Nat}{s:AL.St}
theorem A54(h:Of w base b c s)(hs:AL.Inv s)(k f t q:Int)(A:Option Addr)(n cap:Nat)(l:List Int)(hn:n=l.length)(IM:n<=64)(DT:n<=cap)(GC:cap<=9223372036854775807)(hr:Rd w w.heap.size A n l)(hk:k=1):
  Calls prog 140 #[Pt b,.agg #[Iv k,Iv f,Iv t,Iv q,.slice A n cap]] w (Qm base b c (AL.take s (AL.MK ⟨k,f,t,q,l⟩)) w):=by
 (refine K1k ?_;intro HH HS m hm);have NU:=Hd (λ(W:World)(hW:Below w.heap.size w W)=>show Calls prog 162 #[.agg #[Iv k,Iv f,Iv t,Iv q,.slice A n cap]] W (IL (Iv m) W) from by
  rw[hm];exact OQ k f t q A n cap l W hn Ft DT GC ((hr.below hW (Lr _)).more hW.size))
 (refine K0g ?_;intro GK IY LA x hx);rw[<-hx] at GK IY LA⊢;(have y1:(k==1)=true:=by rw[hk];rfl);have key:s.st=0\/s.st=1\/s.st=7\/¬(s.st=0\/s.st=1\/s.st=7):=by omega
 rcases key with DJ|DJ|DJ|DJ
 ·(have z0:(s.st==0)=true:=F6;have z1:(s.st==1)=false:=F6;have z7:(s.st==7)=false:=F6;);exact M0
 ·(have z0:(s.st==0)=false:=F6;have z1:(s.st==1)=true:=F6;have z7:(s.st==7)=false:=F6;);exact M0
 ·(have z0:(s.st==0)=false:=F6;have z1:(s.st==1)=false:=F6;have z7:(s.st==7)=true:=F6;);exact M0
 ·(have z0:(s.st==0)=false:=(JJ Ft);have z1:(s.st==1)=false:=(JJ Ft);have z7:(s.st==7)=false:=(JJ Ft););have E:=Hd (show AL.take s x=(s,false) by unfold AL.take;rw[AW Ft,AO Ft]);clear hk IY GK LA hx hm hn hr hs h IM DT GC DJ;exact G0
theorem A53(h:Of w base b c s)(hs:AL.Inv s)(k f t q:Int)(A:Option Addr)(n cap:Nat)(l:List Int)(hn:n=l.length)(IM:n<=64)(DT:n<=cap)(GC:cap<=9223372036854775807)(hr:Rd w w.heap.size A n l)(hk:k=2):
  Calls prog 140 #[Pt b,.agg #[Iv k,Iv f,Iv t,Iv q,.slice A n cap]] w (Qm base b c (AL.take s (AL.MK ⟨k,f,t,q,l⟩)) w):=by
 (refine K1k ?_;intro HH HS m hm);have NU:=Hd (λ(W:World)(hW:Below w.heap.size w W)=>show Calls prog 162 #[.agg #[Iv k,Iv f,Iv t,Iv q,.slice A n cap]] W (IL (Iv m) W) from by
  rw[hm];exact OQ k f t q A n cap l W hn Ft DT GC ((hr.below hW (Lr _)).more hW.size))
 (refine K0g ?_;intro GK IY LA x hx);rw[<-hx] at GK IY LA⊢;(have y1:(k==1)=false:=by rw[hk];rfl);(have y2:(k==2)=true:=by rw[hk];rfl);have key:s.st=1\/s.st=2\/¬(s.st=1\/s.st=2):=by omega
 rcases key with DJ|DJ|DJ
 ·(have z1:(s.st==1)=true:=F6;have z2:(s.st==2)=false:=F6;);exact M8
 ·(have z1:(s.st==1)=false:=F6;have z2:(s.st==2)=true:=F6;);exact M8
 ·(have z1:(s.st==1)=false:=(JJ Ft);have z2:(s.st==2)=false:=(JJ Ft););(refine K1U ?_;intro E);clear hk IY GK LA hx hm hn hr hs h IM DT GC DJ;exact G0
theorem A52(h:Of w base b c s)(hs:AL.Inv s)(k f t q:Int)(A:Option Addr)(n cap:Nat)(l:List Int)(hn:n=l.length)(IM:n<=64)(DT:n<=cap)(GC:cap<=9223372036854775807)(hr:Rd w w.heap.size A n l)(hk:k=3):
  Calls prog 140 #[Pt b,.agg #[Iv k,Iv f,Iv t,Iv q,.slice A n cap]] w (Qm base b c (AL.take s (AL.MK ⟨k,f,t,q,l⟩)) w):=by
 (refine K1k ?_;intro HH HS m hm);have NU:=Hd (λ(W:World)(hW:Below w.heap.size w W)=>show Calls prog 162 #[.agg #[Iv k,Iv f,Iv t,Iv q,.slice A n cap]] W (IL (Iv m) W) from by
  rw[hm];exact OQ k f t q A n cap l W hn Ft DT GC ((hr.below hW (Lr _)).more hW.size))
 (refine K0g ?_;intro GK IY LA x hx);rw[<-hx] at GK IY LA⊢;(have y1:(k==1)=false:=by rw[hk];rfl);(have y2:(k==2)=false:=by rw[hk];rfl);(have y3:(k==3)=true:=by rw[hk];rfl);obtain⟨v,hv⟩:∃v:Int,v=if s.cs then 0 else 9:=⟨_,rfl⟩;have RG:=Hd (λ(W:World)(hW:Of W base b c s)=>m0 hW.Tc v hv s)
 by_cases DJ:s.st=2
 ·have z2:(s.st==2)=true:=by rw[DJ];rfl
  by_cases h0:0<=m/\m<=3600000
  ·have WT:=Hd (λW:World=>Tj m 0 3600000 W h0)
   cases YS:s.cs
   ·have E:=Hd (show AL.take s x=(s,false) by unfold AL.take;rw[AO Ft,AO Ft,AW Ft,AO (by rw[YS];simp),DJ];rfl);have WS:=Hd (λW:World=>Sw s.st 3 5 W Ft);rw[YS,AO Fu] at hv;subst hv;clear hk IY GK LA hx hm hn hr hs h IM DT GC DJ h0 YS;exact Lv
   ·have E:=Hd (show AL.take s x=({AL.QR s 3 s.now with given:=true,start:=m},true) by unfold AL.take;rw[AO Ft,AO Ft,AW Ft,AW (by rw[GK];exact⟨DJ,h0,YS⟩),GK]);rw[YS,AW rfl] at hv;subst hv;clear hk IY GK LA hx hm hn hr hs h IM DT GC DJ h0 YS;go_enter func140,ntmps140;go_upto_region 1 with fail;(refine Kc ?_;intro V HV Oq CX lf K0);go_region_held3 (λw'=>w'.cell? ⟨w.heap.size,0,none⟩=some (Iv k)/\w'.cell? ⟨w.heap.size,1,none⟩=some (Iv f)/\w'.cell? ⟨w.heap.size,2,none⟩=some (Iv t)/\w'.cell? ⟨w.heap.size,3,none⟩=some (Iv q)/\w'.cell? ⟨w.heap.size,4,none⟩=some (.slice A n cap)) (first|(refine⟨?_,?_,?_,?_,?_⟩<;>simp[go_sem, *];done)|go_keep) (first|(go_at_call 162;refine(NU.out _ C4).mono ?_;rintro e w1 ⟨rfl,BX⟩;have CB:Below V.heap.size V w1:=Ay;have DF:=JI HV CB;have j0:=AH K0.out CB Oq;have HJ:=Hd j0;have HP:=Hd (HH.out.below DF.out (Lr _));clear BX CB;clear CX;have JH:=OH j0;have lg:=BG j0;clear j0));(refine K0a ?_;intro BH la);go_wp2_with fail;(refine(RG.out _ HP.out).mono ?_;rintro e w3 ⟨r3,lo3,hi3,rfl,JZ⟩;have VD:=Hd (HP.out.below JZ (Lr _));have P6:=JI DF JZ;have e3:=AB VD.out.BM 7 rfl;have e12:=AB VD.out.BM 12 rfl;have e16:=AB VD.out.BM 16 rfl;(clear BH);clear JZ;(go_upto_region 18 with fail);generalize hV:World.alloc _ _=V3;have aW:=Hd (show Of V3 base b c s by rw[<-hV];exact VD.out.alloc _);have XH:=Hd (show Below w.heap.size w V3 by rw[<-hV];exact P6.out.alloc P6.out.size _);clear hV HP DF e3 e12 e16;have HP:=aW;have DF:=XH;clear aW XH VD P6);(refine K0a ?_;intro BH la);go_wp2_with fail;refine(WT.out _).mono ?_;rintro e w' ⟨rfl,rfl⟩;go_wp2_with fail;(refine K0o ?_;intro w2 SZ T0);clear BH;obtain⟨s2,Wj⟩:=BN (AL.QR s 3 s.now);rw[<-Wj] at SZ E;(refine K2O ?_;clear Wj;intro CI lb);go_wp2_with fail;generalize hW:World.setCell _ _ _=W;have kW:Of W base b c {s2 with given:=true,start:=m}:=⟨by simp only[cI];rw[<-hW];have hk:=SZ.out.BM;simp only[cI] at hk;exact Fl,SZ.out.U8 Ai,SZ.out.ge⟩;(refine K4s ?_;clear hW kW CI;intro KW xL);(try(go_wp2_with fail));go_ret;exact⟨CU Da,by rw[E.out];exact KW.out,((AG.AS DF.out).trans T0.out (λ_ _ h=> .inl h)).trans xL.out (λ_ _ h=> .inl h)⟩
  ·have WT:=Hd (λW:World=>Sw m 0 3600000 W h0);have E:=Hd (show AL.take s x=(s,false) by unfold AL.take;rw[AO Ft,AO Ft,AW Ft,AO (by rw[GK];exact λhh=>h0 hh.2.1),DJ];rfl);have WS:=Hd (λW:World=>Sw s.st 3 5 W Ft);clear hk IY GK LA hx hm hn hr hs h IM DT GC DJ h0 hv;exact Lv
 ·have z2:(s.st==2)=false:=by rw[Bf];exact DJ
  by_cases h3:3<=s.st/\s.st<=5
  ·have WS:=Hd (λW:World=>Tj s.st 3 5 W h3)
   by_cases h0:m=s.start
   ·(have z9:(m==s.start)=true:=by rw[h0];simp);have E:=Hd (show AL.take s x=(s,true) by unfold AL.take;rw[AO Ft,AO Ft,AW Ft,AO (λhh=>DJ hh.1),IU Ft]);clear hk IY GK LA hx hm hn hr hs h IM DT GC DJ h0 h3 hv;exact G6
   ·(have z9:(m==s.start)=false:=by rw[Bf];exact h0);(refine K3W ?_;intro E);clear hk IY GK LA hx hm hn hr hs h IM DT GC DJ h0 h3 hv;exact G6
  ·have WS:=Hd (λW:World=>Sw s.st 3 5 W h3);(refine K3W ?_;intro E);clear hk IY GK LA hx hm hn hr hs h IM DT GC DJ h3 hv;exact G6
end
end
end Go.Proofs.YtdocdgcdldpagaaGreat

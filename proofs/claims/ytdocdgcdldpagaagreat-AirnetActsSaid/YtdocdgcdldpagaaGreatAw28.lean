import Derived.Test.YtdocdgcdldpagaaGreatAw27
import Derived.Test.YtdocdgcdldpagaaGreatAw25
open Go.Proofs.Tryz
namespace Go.Proofs.YtdocdgcdldpagaaGreat
set_option maxHeartbeats 64000000
set_option maxRecDepth 100000
set_option linter.all false
section
open RowKit
attribute [local go_sem ↓] wp_at_zero wp_at_succ
section
variable{w w':World}{base p N i:Nat}{m:RN}{s:Nt.St}
theorem bG(h:IX w base p m s)(hs:Nt.Inv N s)(BJ:base<=w.heap.size)(hN:N+200000<=1000000000000):
  Calls prog 39 #[Pt p] w λe w'=>e= .returned (Iv (Nt.FB s))/\Vg base p m (Nt.step s) w w':=by
 by_cases he:Nt.FB s=0
 ·rw[he];exact pL h hs he BJ hN
 ·(have e:Nt.step s=s:=by unfold Nt.step;rw[AO he]);rw[e];exact(vi h hs he).mono λe w' ⟨h1,h2⟩=>⟨h1,Vg.AS h h2⟩
theorem vj(h:IX w base p m s)(hs:Nt.Inv N s)(BJ:base<=w.heap.size)(hN:N+200000*100001<=1000000000000)(u:Int):
  Calls prog 40 #[Pt p,Iv u] w λe w'=>e= .returned (Iv (Nt.run s u).2)/\Vg base p m (Nt.run s u).1 w w':=by
 have Pb:w.cell? (Ad p 21)=some (Iv s.now):=AB h.n.BM 21 rfl;have HH:=Hd h
 by_cases hu:s.now<=u/\u<=3600000
 ·have RE:=Hd (show Nt.run s u=Nt.runK 3600001 s u from by unfold Nt.run;rw[AW (by unfold Nt.lu;rw[AW hu])]);rw[RE.out];have aV:=Hd (RH.refl h);have HI0:=Hd hs;have hnw:=hs.now;have hsp:=hs.steps;(have zi:∀x:Int,x=s.steps->(100000-s.steps).toNat<=100000:=λ_ _=>by omega);(have z0:decide (u<s.now)=false:=by simp;omega);(have z9:decide (u>3600000)=false:=by simp;omega);clear h hs;go_enter func40,ntmps40;go_upto_region 3 with fail;go_loopw[5] (λs5 wr=>∃(t:Nt.St)(m1:RN)(M kf:Nat),M+200000*(100001-t.steps).toNat<=1000000000000/\t.now<=u/\u-t.now<(kf:Int)/\w.heap.size<=wr.heap.size/\Hid (Nt.Inv M t)/\Hid (Nt.runK kf t u=Nt.runK 3600001 s u)/\Hid (RH base p m w t wr m1)) (λs5 wr=>tj p wr)
  case atStart=>exact⟨s,m,N,3600001,by omega,hu.1,by omega,Lr _,HI0,Hd rfl,aV⟩
  case round=>
   obtain⟨t,m1,M,kf,hM,htu,hkf,VE,IV,RK,HI⟩:=hrel;have Pb:wr.cell? (Ad p 21)=some (Iv t.now):=AB HI.out.1.n.BM 21 rfl;have c2:wr.cell? (Ad p 2)=some (Iv t.r.step):=AB HI.out.1.n.BM 2 rfl;obtain⟨kg,rfl⟩:∃kg,kf=kg+1:=⟨kf-1,by omega⟩;have DJ:=IV.out.step;have htn:=IV.out.now;have htp:=IV.out.steps;have zw:=GF (t.now+t.r.step) Ft
   by_cases hc:t.now+t.r.step<=u
   ·(have z1:decide (t.now+t.r.step<=u)=true:=by simp[hc]);(have xc:M+200000<=1000000000000:=by omega);have ST:=Hd (show ∀W:World,Below wr.heap.size wr W->Calls prog 39 #[Pt p] W λx w'=>x= .returned (Iv (Nt.FB t))/\∃m5,RH base p m w (Nt.step t) w' m5 from λW hW=>(bG (HI.out.1.below hW) IV.out (Lt BJ (Lt VE hW.size)) xc).mono (λe w' ⟨h1,h2⟩=>⟨h1,by obtain⟨m5,h5,_⟩:=(HI.out.below hW).to h2;exact⟨m5,h5⟩⟩));obtain⟨er,Oe⟩:=BN (Nt.FB t);have jZ:=cR Pb;rw[<-Oe] at ST
    by_cases h0:er=0
    ·(have he:Nt.FB t=0:=by rw[<-Oe];exact h0);have XN:=Nt.Z1 he;have tD:=IV.out.yM Ft;(have dj:Nt.runK (kg+1) t u=Nt.runK kg (Nt.step t) u:=by exact Jl);obtain⟨t1,ht1⟩:=BN (Nt.step t);rw[<-ht1] at XN tD dj ST;rw[dj] at RK;(refine K3d ?_;intro IV1 e1 e2 SM);subst h0;clear Oe he XN tD dj ht1 e1 e2 hM hkf htp IV;go_upto_region 3 with fail;go_quiet (fail);go_wp2_with (refine(ST.out _ Bd).mono ?_;rintro e w5 ⟨rfl,m5,h5⟩;have H5:=Hd h5;have jW:=h5.ge;have d21:=Hd (show w5.cell? (Ad p 21)=some (Iv t1.now) from AB h5.1.n.BM 21 rfl);clear h5);exact J6
    ·(have he:Nt.FB t≠0:=by rw[<-Oe];exact h0);(have dj:Nt.runK (kg+1) t u=(t,er):=by exact Jj);(have A0O:Nt.step t=t:=by unfold Nt.step;rw[AO he]);rw[A0O] at ST;rw[dj] at RK;(have zE:(er !=0)=true:=by simp[h0]);clear Oe he dj A0O hM hkf htp IV h0 jZ;go_upto_region 3 with fail;go_quiet (fail);go_wp2_with (refine(ST.out _ Bd).mono ?_;rintro e w5 ⟨rfl,m5,h5⟩;have H5:=Hd h5;clear h5);go_ret;rw[<-RK.out];exact⟨rfl,H5.out.rto⟩
   ·(have z1:decide (t.now+t.r.step<=u)=false:=by simp;omega);(have dj:Nt.runK (kg+1) t u=(t,0):=by exact Jv);rw[dj] at RK;clear dj hM hkf htp IV;go_upto_region 3 with fail;go_quiet (fail);go_wp2_with fail;go_ret;rw[<-RK.out];exact⟨rfl,(HI.out.below (below_drewN (IH wr) _)).rto⟩
 ·have RE:=Hd (show Nt.run s u=(s,3) from by unfold Nt.run;rw[AO D2]);rw[RE.out]
  by_cases h1:u<s.now
  ·(have z0:decide (u<s.now)=true:=by simp[h1]);exact L2
  ·(have z0:decide (u<s.now)=false:=by simp;omega);(have h2:u>3600000:=by omega);(have z9:decide (u>3600000)=true:=by simp[h2]);exact L2
theorem IX.yv(h:IX w base p m s)(hi:i<s.cr.length)(hc:s.cut.length=s.cr.length+1){g o:Nat}(hg:m.KA=some (Ad g o))(x:Bool):Vg base p m (Nt.Vz s (i+1) x) w (w.setCell (Ad g (o+i)) (.bool x)):=by
 (have XO:AK m.KA=some g:=by rw[hg];rfl);have kk:AG (λq=>q=g) w (w.setCell (Ad g (o+i)) (.bool x)):=(AG.refl (λq=>q=g) w).setCell (p:=(Ad g (o+i))) (.inl rfl) _;have tg:Ty w g 4:=h.n.RQ.ty XO;(have FY:∀{q:Nat}{e:TypeId},Ty w q e->e≠4->¬q=g:=λht he e'=>by subst e';exact ht.ne tg he rfl);(have hX:∀q,RX base p m q->¬q=g:=λq hq e'=>hq.2.1 (by subst e';exact .inr (.inr (.inr (.inr (.inl XO))))));refine⟨m,⟨⟨AR h.n.BM kk (FY ⟨_,h.n.BM⟩ Fj),?_,h.n.CJ.kept kk (λq hq=>FY (h.n.CJ.ty hq) Fj),h.n.BL.kept kk (λq hq=>FY (h.n.BL.ty hq) Fj),h.n.R9.kept kk (λq hq=>FY (h.n.R9.ty hq) Fj),h.n.QF.kept kk (λq hq=>FY (h.n.QF.ty hq) Fj),h.n.QD.kept kk (λq hq=>FY (h.n.QD.ty hq) Fj),?_,h.n.S4.kept kk (λq hq=>FY (h.n.S4.ty hq) Fj),h.n.GM.kept kk (λq hq=>FY (h.n.GM.ty hq) Fj),h.n.len,
  λj hj=>⟨(h.n.uw j hj).1.IE kk hX,(h.n.uw j hj).2⟩,λj hj=>⟨(h.n.dw j hj).1.IE kk hX,(h.n.dw j hj).2⟩,h.n.ge⟩,h.uv,h.bo,h.ka,λq hq=>Sv (h.av q hq) kk.size⟩,kk.mono (λq _ e=> .inr (.inr (.inr (.inr (.inl (by subst e;exact XO)))))),RG.refl⟩
 ·exact⟨h.n.st.dr.kept kk (λq hq=>FY (h.n.st.dr.ty hq) Fj),h.n.st.ar.kept kk (λq hq e=>h.ka g XO (by subst e;exact hq)),h.n.st.sr.kept kk (λq hq=>FY (h.n.st.sr.ty hq) Fj)⟩
 ·have hr:=h.n.RQ;rw[hg] at hr⊢;(have e:GY (((Nt.Vz s (i+1) x).cut).drop 1)=(GY (s.cut.drop 1)).set i (.bool x):=by show GY ((s.cut.set (i+1) x).drop 1)=_;unfold GY;rw[<-fT];congr 1;exact(λl:List Bool=>show(l.set (i+1) x).drop 1=(l.drop 1).set i x from by cases l<;>simp) s.cut);rw[e];exact hr.yT Ft (by show i<s.cr.length*1;omega) rfl _
theorem IX.A2H(h:IX w base p m s){S av':Nat->Prop}(kk:AG S w w')(h1:∀q,S q->m.av q)(h2:∀q,S q->¬RF p m q/\AK m.OA≠some q/\AK m.TA≠some q)
  (h3:∀q,S q->¬Ty w q 5/\¬Ty w q 4/\¬Ty w q 207)(h4:∀q,av' q->(m.av q\/w.heap.size<=q)/\q<w'.heap.size):IX w' base p {m with av:=av'} s:=by
 (have hX:∀q,RX base p m q->¬S q:=λq hq e=>hq.2.2 (h1 q e));have eG:∀q,RX base p m q/\q<w.heap.size->RX base p {m with av:=av'} q:=λq hq=>⟨hq.1.1,hq.1.2.1,λe=>by
  rcases(h4 q e).1 with e|e
  ·exact hq.1.2.2 e
  ·have:=hq.2;omega⟩
 refine⟨⟨AR h.n.BM kk (λe=>(h2 _ e).1 (.inl rfl)),⟨h.n.st.dr.kept kk (λq hq e=>(h3 q e).1 (h.n.st.dr.ty hq)),h.n.st.ar.kept kk (λq hq e=>(h3 q e).2.1 (h.n.st.ar.ty hq)),h.n.st.sr.kept kk (λq hq e=>(h3 q e).2.2 (h.n.st.sr.ty hq))⟩,
  h.n.CJ.kept kk (λq hq e=>(h2 q e).2.1 hq),h.n.BL.kept kk (λq hq e=>(h2 q e).2.2 hq),h.n.R9.kept kk (λq hq e=>(h2 q e).1 (.inr (.inl hq))),h.n.QF.kept kk (λq hq e=>(h2 q e).1 (.inr (.inr (.inl hq)))),h.n.QD.kept kk (λq hq e=>(h2 q e).1 (.inr (.inr (.inr (.inl hq))))),h.n.RQ.kept kk (λq hq e=>(h2 q e).1 (.inr (.inr (.inr (.inr (.inl hq)))))),h.n.S4.kept kk (λq hq e=>(h2 q e).1 (.inr (.inr (.inr (.inr (.inr (.inl hq))))))),h.n.GM.kept kk (λq hq e=>(h2 q e).1 (.inr (.inr (.inr (.inr (.inr (.inr hq))))))),h.n.len,
  λj hj=>⟨((h.n.uw j hj).1.bound.IE kk (λq hq=>hX q hq.1)).mono eG,(h.n.uw j hj).2⟩,λj hj=>⟨((h.n.dw j hj).1.bound.IE kk (λq hq=>hX q hq.1)).mono eG,(h.n.dw j hj).2⟩,h.n.ge⟩,h.uv,h.bo,h.ka,λq hq=>(h4 q hq).2⟩
end
def oz(r:Nt.Ru)(w:World)(e:Ending)(w':World):Prop:=Below w.heap.size w w'/\
 ((Nt.MP r=false/\e= .returned (.tuple #[.pointer none,.pointer none,.bool true]))\/
  (Nt.MP r=true/\∃b m p m2 B C,e= .returned (.tuple #[Pt b,Pt p,.bool true])/\w.heap.size<=B/\B<=C/\C<=w'.heap.size/\BQ w' B b m 0 (Nt.new r)/\(∀i,NF b m i->i<C)/\IX w' C p m2 (Nt.new r)))
theorem Row.riN{w:World}{base n c:Nat}{A:Option Addr}{l:List Int}(h:Row w base 3 1 A n c (Rt l))(hl:l.length=n)(hb:∀x∈l,-9223372036854775808<=x/\x<=9223372036854775807):Ri w w.heap.size A n l:=by
 refine⟨hl,hb,λhn=> ?_⟩;obtain⟨g,o,cur,rfl,_,hg,_,_,_,_,_,DD,_⟩:=h.some_ hn;refine⟨g,o,rfl,hg,λi hi=>DD i _ ?_⟩;rw[Rt,TV,Gg Ft];simp[List.getD,Gg (show i<l.length by omega)]
theorem A2Q(l:List Int)(i:Nat)(z:Int):(Rt l).set i (Iv z)=Rt (l.set i z):=by
 simp[Rt,fT]
theorem ij.A46{w w':World}{base p:Nat}{X S:Nat->Prop}{m:RN}{s:Nt.St}(h:ij w base p X m s)(g:AG S w w')(hS:∀q,S q->q<base/\Ty w q 3)(hX:∀q,X q->base<=q):ij w' base p X m s where
 BM:=AR h.BM g (λhs=>by have:=(hS _ hs).1;have:=h.ge;omega)
 st:=⟨h.st.dr.kept g (λq hq hs=>(h.st.dr.ty hq).ne (hS q hs).2 Fj rfl),h.st.ar.kept g (λq hq hs=>(h.st.ar.ty hq).ne (hS q hs).2 Fj rfl),h.st.sr.kept g (λq hq hs=>(h.st.sr.ty hq).ne (hS q hs).2 Fj rfl)⟩
 CJ:=h.CJ.kept g (λq hq hs=>by have:=(hS _ hs).1;have:=(h.CJ.lt hq).1;omega)
 BL:=h.BL.kept g (λq hq hs=>by have:=(hS _ hs).1;have:=(h.BL.lt hq).1;omega)
 R9:=h.R9.kept g (λq hq hs=>by have:=(hS _ hs).1;have:=(h.R9.lt hq).1;omega)
 QF:=h.QF.kept g (λq hq hs=>by have:=(hS _ hs).1;have:=(h.QF.lt hq).1;omega)
 QD:=h.QD.kept g (λq hq hs=>by have:=(hS _ hs).1;have:=(h.QD.lt hq).1;omega)
 RQ:=h.RQ.kept g (λq hq hs=>by have:=(hS _ hs).1;have:=(h.RQ.lt hq).1;omega)
 S4:=h.S4.kept g (λq hq hs=>by have:=(hS _ hs).1;have:=(h.S4.lt hq).1;omega)
 GM:=h.GM.kept g (λq hq hs=>by have:=(hS _ hs).1;have:=(h.GM.lt hq).1;omega)
 len:=h.len
 uw:=λi hi=>⟨(h.uw i hi).1.IE g (λq hx hs=>by have:=hX q hx;have:=(hS _ hs).1;omega),(h.uw i hi).2⟩
 dw:=λi hi=>⟨(h.dw i hi).1.IE g (λq hx hs=>by have:=hX q hx;have:=(hS _ hs).1;omega),(h.dw i hi).2⟩
 ge:=h.ge
theorem IX.A5a{w:World}{base p:Nat}{m:RN}{r:Nt.Ru}(h:ij w base p (base<=·) m (Nt.new r))(hs:A3M m):IX w base p m (Nt.new r):=by
 (have e:∀i,i<(Nt.new r).cr.length->Nt.at_ (Nt.new r) i=Nt.VY r i:=λi hi=>Nt.Za _ _ _ (by have:(Nt.new r).cr.length=r.CJ.length:=Nt.NI _ _;omega));exact⟨{h with
  uw:=λi hi=>⟨by rw[e i hi];exact IW.nil _ _ _,(h.uw i hi).2⟩
  dw:=λi hi=>⟨by rw[e i hi];exact IW.nil _ _ _,(h.dw i hi).2⟩},hs.1,hs.2.1,hs.2.2.1,λq hq=>absurd hq (hs.2.2.2 q)⟩
theorem A0C(r:Nt.Ru)(n m:Nat)(OA:Option Addr)(oc:Nat)(TA:Option Addr)(tc:Nat)(w:World)(hn:r.CJ.length=n)(hm:r.BL.length=m)(h7:n<=70)(h8:m<=70)(ho:Ri w w.heap.size OA n r.CJ)(ht:Ri w w.heap.size TA m r.BL):
  Calls prog 12 #[Rz r OA n oc TA m tc] w (oz r w):=by
 obtain⟨i0,OU,da,xS,wO⟩:=MQ Ut;have NN:=Hd (show ∀(A4:Option Addr)(c4:Nat)(A5:Option Addr)(c5:Nat)(W:World),Row W w.heap.size 3 1 A4 n c4 (Rt r.CJ)->Row W w.heap.size 3 1 A5 m c5 (Rt r.BL)->Calls prog 25 #[Rz r A4 n c4 A5 m c5] W λe w'=>∃nv ev,e= .returned (.tuple #[nv,Iv ev])/\Below W.heap.size W w'/\((Nt.MP r=false/\nv= .pointer none/\ev=2)\/(Nt.MP r=true/\ev=0/\∃b m,nv=Pt b/\BQ w' W.heap.size b m 0 (Nt.new r))) from λA4 c4 A5 c5 W r4 r5=>by
  cases hv:Nt.MP r
  ·exact(A2E r n m A4 c4 A5 c5 W hv hn hm (r4.riN hn ho.2.1) (r5.riN hm ht.2.1)).mono λe w' ⟨h1,h2⟩=>⟨_,_,h1,h2,.inl ⟨rfl,rfl,rfl⟩⟩
  ·have g:=Z8 (Nt.Sr hv).1;(have GK:m=n:=by have:=g.2.2.2.2;omega);subst GK;exact(mL r m A4 c4 A5 c5 W hv hn hm (λe=>by rcases r4.2 with⟨_,h1,h2⟩|⟨g,o,cur,e',_⟩<;>simp_all) (λe=>by rcases r5.2 with⟨_,h1,h2⟩|⟨g,o,cur,e',_⟩<;>simp_all) (r4.riN hn ho.2.1) (r5.riN hm ht.2.1)).mono λe w' ⟨b,m,h1,h2,h3⟩=>⟨_,_,h1,h3,.inr ⟨rfl,rfl,b,m,rfl,h2⟩⟩)
 have NR:=Hd (show ∀(W:World),Below w.heap.size w W->Calls prog 37 #[Rz r OA n oc TA m tc] W λe w'=>∃rv fv,e= .returned (.tuple #[rv,Iv fv])/\Below W.heap.size W w'/\((Nt.MP r=false/\rv= .pointer none/\fv=2)\/(Nt.MP r=true/\fv=0/\∃p m2,rv=Pt p/\ij w' W.heap.size p (W.heap.size<=·) m2 (Nt.new r)/\A3M m2)) from λW hW=>by
  have ho':=(ho.below hW (Lr _)).more hW.size;have ht':=(ht.below hW (Lr _)).more hW.size
  cases hv:Nt.MP r
  ·exact(zh r n m OA oc TA tc W hv hn hm ho' ht').mono λe w' ⟨h1,h2⟩=>⟨_,_,h1,h2,.inl ⟨rfl,rfl,rfl⟩⟩
  ·have g:=Z8 (Nt.Sr hv).1;(have GK:m=n:=by have:=g.2.2.2.2;omega);subst GK;exact(vl r m OA oc TA tc W hv hn hm ho' ht').mono λe w' ⟨b,m,h1,h2,hsep,h3⟩=>⟨_,_,h1,h3,.inr ⟨rfl,rfl,b,m,rfl,h2,hsep⟩⟩)
 have SH:=Hd (λ(W:World)(b k p base ou:Nat)(X:Nat->Prop)(m1:NM)(m2:RN)(hv:Nt.MP r=true)(h1:BQ W base b m1 k (Nt.new r))(h2:ij W ou p X m2 (Nt.new r))=>fD h1 (Nt.aF hv) h2 Ft);have HO:=Hd ho;have HT:=Hd ht;have HL:=Hd (And.intro hn hm);clear hn hm ho ht;rw[QV] at NR⊢;simp only[QV] at NN;unfold aC;go_enter func12,ntmps12;go_upto_region 1 with fail;(refine Ko ?_;intro V hV);(refine K0Y ?_;intro k0);(refine KX ?_;intro HB);have HZV:=Hd (show V.heap.size=w.heap.size+1 by rw[<-hV,mw]);clear hV;have z1:(aC r OA n oc TA m tc).toArray.size=21:=rfl;go_upto_region 2 with(first|(refine JS rfl 28 _ rfl w.heap.size rfl 28 _ (0,0) _ k0 underlying28 rfl Ff ?_)|(refine OZ rfl 28 _ _ rfl V.heap.size (aC r OA n oc TA m tc).toArray rfl rfl 28 _ (AM V (.cells Z4z 28 (0,0))) Ff rfl Ff ?_));have gx0:=MR (V.alloc (.cells Z4z 28 (0,0))) V.heap.size Z4z (aC r OA n oc TA m tc).toArray 28 (0,0) (AM V (.cells Z4z 28 (0,0)));have bx:Below V.heap.size V ((V.alloc (.cells Z4z 28 (0,0))).setRow V.heap.size (aC r OA n oc TA m tc).toArray):=JO ((QZ V.heap.size V).alloc (Lr _) _) (Lr _) _;generalize World.setRow _ _ _=W0 at*;obtain⟨Q,hQ⟩:=BN V.heap.size;rw[<-hQ] at gx0⊢;(have hQw:Q=w.heap.size+1:=by rw[hQ];exact HZV.out);have xM:=JI HB bx;have kc:=Hd (AH k0 bx (by rw[HZV.out];omega));have gx:=Hd gx0;clear bx k0 gx0 z1 hQ HB HZV V;have HQ:=Hd hQw;clear hQw;have RD:=Hd (Ri.reads ((HO.out.below xM.out (Lr _)).more xM.out.size));have src:=AB kc.out 19 rfl;go_upto_region 3 with(at_builtin;refine BD _ rfl (.const (.slice none 0 0)) (.tmp 14) _ rfl W0.heap.size 3 i0 _ 1 8 underlying26 OU da xS wO rfl Ft (.slice none 0 0) 0 [] rfl (Ta _ _ _ _) W0.heap.size OA n oc (Rt r.CJ) rfl RD.out (WM _) Dk Ft (Lr _) ?_;intro v1 wn CE GQ LY;obtain⟨An,cn,rfl⟩:=EZ CE;simp only[PL,List.nil_append] at CE;have rS:=Hd (Row.GR CE);have jT:=Hd (show Below W0.heap.size W0 wn from(IH _).grown GQ (Lr _) (λk hk=>by simp[Value.ownBlock] at hk));have kn:=GH gx.out jT.out;have fn:=AE kn 19;have dn:=AB kn 19 rfl;have KN:=Hd kn;clear CE GQ LY kn);generalize hY:World.setCell _ _ _=Y;have KY:=Hd (show AG (λq=>q=Q) W0 Y by rw[<-hY];exact(AG.AS (S:=λq=>q=Q) jT.out).setCell (p:=(Ad Q 19)) (.inl rfl) _);have gy:=Hd (show Y.heap[Q]?=some (.cells (aC r An n cn TA m tc).toArray 28 (0,0)) by rw[<-hY];exact AP KN.out 19 (.slice An n cn));have R4:=Hd (show Row Y W0.heap.size 3 1 An n cn (Rt r.CJ) by rw[<-hY];exact rS.out.FY (p:=(Ad Q 19)) (λg hg=>(rS.out.ty hg).ne ⟨_,KN.out⟩ Fj) _);have A21:=Hd (show Below w.heap.size w Y from xM.out.trans (KY.out.below (λq _ hq=>by have:=HQ.out;omega) xM.out.size));have ky:=Hd (AR kc.out KY.out (by have:=HQ.out;omega));have aV:=Hd (show w.heap.size<=W0.heap.size/\W0.heap.size<=Y.heap.size from⟨xM.out.size,KY.out.size⟩);clear hY KN rS jT KY gx kc RD src xM fn dn;have gx:=gy;have kc:=ky;obtain⟨A4,hA4⟩:=BN An;obtain⟨c4,ZK⟩:=BN cn;rw[<-hA4,<-ZK] at gx R4;clear gy ky;have RD:=Hd (Ri.reads ((HT.out.below A21.out (Lr _)).more A21.out.size));have src:=AB kc.out 20 rfl;go_upto_region 4 with(at_builtin;refine BD _ rfl (.const (.slice none 0 0)) (.tmp 18) _ rfl Y.heap.size 3 i0 _ 1 8 underlying26 OU da xS wO rfl Ft (.slice none 0 0) 0 [] rfl (Ta _ _ _ _) Y.heap.size TA m tc (Rt r.BL) rfl RD.out (WM _) Dk Ft (Lr _) ?_;intro v1 wn CE GQ LY;obtain⟨An,cn,rfl⟩:=EZ CE;simp only[PL,List.nil_append] at CE;have rS:=Hd (Row.GR CE);have jT:=Hd (show Below Y.heap.size Y wn from(IH _).grown GQ (Lr _) (λk hk=>by simp[Value.ownBlock] at hk));have kn:=GH gx.out jT.out;have fn:=AE kn 20;have dn:=AB kn 20 rfl;have KN:=Hd kn;clear CE GQ LY kn);generalize hZ:World.setCell _ _ _=Z;have KZ:=Hd (show AG (λq=>q=Q) Y Z by rw[<-hZ];exact(AG.AS (S:=λq=>q=Q) jT.out).setCell (p:=(Ad Q 20)) (.inl rfl) _);have gz:=Hd (show Z.heap[Q]?=some (.cells (aC r A4 n c4 An m cn).toArray 28 (0,0)) by rw[<-hZ];exact AP KN.out 20 (.slice An m cn));have R5:=Hd (show Row Z Y.heap.size 3 1 An m cn (Rt r.BL) by rw[<-hZ];exact rS.out.FY (p:=(Ad Q 20)) (λg hg=>(rS.out.ty hg).ne ⟨_,KN.out⟩ Fj) _);have R4z:=Hd (R4.out.kept KZ.out (λg hg=>(R4.out.ty hg).ne ⟨_,gx.out⟩ Fj));have A20:=Hd (show Below w.heap.size w Z from A21.out.trans (KZ.out.below (λq _ hq=>by have:=HQ.out;omega) A21.out.size));have kz:=Hd (AR kc.out KZ.out (by have:=HQ.out;omega));have H45:=Hd (show ∀g,AK A4=some g->g<Y.heap.size from λg hg=>(R4.out.lt hg).2);have HYZ:=Hd (show Y.heap.size<=Z.heap.size from KZ.out.size);clear hZ KN rS jT KZ gx kc RD src A21 fn dn R4 HO HT;obtain⟨A5,hA5⟩:=BN An;obtain⟨c5,aJ⟩:=BN cn;rw[<-hA5,<-aJ] at gz R5;clear hA4 ZK hA5 aJ;have k2:=gz.out;go_upto_region 5 with(first|(refine JS rfl 28 _ rfl Q rfl 28 _ (0,0) _ k2 underlying28 rfl Ff ?_)|(go_at_call 25;refine(NN.out _ _ _ _ Z (R4z.out.more aV.out.1) (R5.out.more (Lt aV.out.1 aV.out.2))).mono ?_;rintro _ w4 ⟨nv,ev,rfl,GA,ZK⟩));have Qo:=Hd GA;have HC4:=Hd ZK;have k4:=GH kz.out GA;clear GA ZK k2;go_upto_region 6 with(first|(refine JS rfl 28 _ rfl w.heap.size rfl 28 _ (0,0) _ k4 underlying28 rfl Ff ?_)|(go_at_call 37;refine(NR.out w4 (A20.out.trans (Qo.out.mono A20.out.size))).mono ?_;rintro _ w5 ⟨rv,fv,rfl,LM,aJ⟩));have JD:=Hd LM;have HC5:=Hd aJ;clear LM aJ k4;have HZ4:=Hd (show Below Z.heap.size Z w5 from Qo.out.trans (JD.out.mono Qo.out.size));have gw5:=Hd (GH gz.out HZ4.out);have R4w:=Hd (R4z.out.below HZ4.out (Lr _));have R5v:=Hd (R5.out.below HZ4.out (Lr _));have H5Z:=Hd (show ∀g,AK A5=some g->g<Z.heap.size from λg hg=>(R5.out.lt hg).2);clear gz R4z R5 NN NR kz;go_wp2_with fail;go_loopw[10] (λiF wr=>∃(i:Nat)(l':List Int),iF=Iv i/\i<=n/\Hid (l'.length=n)/\Hid (Row wr W0.heap.size 3 1 A4 n c4 (Rt l'))/\Hid (AG (λq=>AK A4=some q) w5 wr)) (λiF _=>n-(intOf iF).toNat)
 case atStart=>exact⟨0,r.CJ,rfl,Pe _,Hd HL.out.1,R4w,Hd (AG.refl _ _)⟩
 case round=>
  obtain⟨i,l',rfl,hi,HLI,oB,HKE⟩:=hrel;have gq:=AR gw5.out HKE.out (λ(e:AK A4=some Q)=>(R4w.out.ty e).ne ⟨_,gw5.out⟩ Fj rfl);have jU:=AB gq 19 rfl
  by_cases EK:i<n
  ·obtain⟨g,o,cur,hA,XO,hgs,hgh,Xz,GC,Px,OW,DD,Yr⟩:=oB.out.some_ Ft;(refine K3q ?_;intro ci fi);(have U3:(i:Int)<(n:Int):=by omega);(refine K2o ?_;intro OU wi);exact Hk
  ·(obtain rfl:i=n:=by omega);(have U3:¬((i:Int)<(i:Int)):=by omega);clear EK hi;obtain⟨W6,hW6⟩:=BN wr;subst hW6;have eL:=HKE;have gW6:=Hd gq;have R5w:=Hd (R5v.out.kept HKE.out (λg hg hs=>by have h1:=H45.out g hs;have h2:=(R5v.out.lt hg).1;omega));go_wp2_with fail;clear jU gq oB HLI R5v HKE gw5;go_loopw[11] (λiF wr=>∃(i:Nat)(l':List Int),iF=Iv i/\i<=m/\Hid (l'.length=m)/\Hid (Row wr Y.heap.size 3 1 A5 m c5 (Rt l'))/\Hid (AG (λq=>AK A5=some q) W6 wr)) (λiF _=>m-(intOf iF).toNat)
   case atStart=>exact⟨0,r.BL,rfl,Pe _,Hd HL.out.2,R5w,Hd (AG.refl _ _)⟩
   case round=>
    obtain⟨i,l',rfl,hi,HLI,oB,HKE⟩:=hrel;have gq:=AR gW6.out HKE.out (λ(e:AK A5=some Q)=>(R5w.out.ty e).ne ⟨_,gW6.out⟩ Fj rfl);have jU:=AB gq 20 rfl
    by_cases EK:i<m
    ·obtain⟨g,o,cur,hA,XO,hgs,hgh,Xz,GC,Px,OW,DD,Yr⟩:=oB.out.some_ Ft;(refine K3q ?_;intro ci fi);(have U3:(i:Int)<(m:Int):=by omega);(refine K2o ?_;intro OU wi);exact Hk
    ·(obtain rfl:i=m:=by omega);(have U3:¬((i:Int)<(i:Int)):=by omega);clear EK hi;obtain⟨W7,hW7⟩:=BN wr;subst hW7;have Rx:=Hd (show Below w.heap.size w W7 from by
      have h1:=A20.out.trans (HZ4.out.mono A20.out.size);have h2:=eL.out.below (B:=w.heap.size) (λq _ (hq:AK A4=some q)=>Lt aV.out.1 (R4w.out.lt hq).1) h1.size;have h3:=HKE.out.below (B:=w.heap.size) (λq _ (hq:AK A5=some q)=>Lt (Lt aV.out.1 aV.out.2) (R5w.out.lt hq).1) (h1.trans h2).size;exact(h1.trans h2).trans h3)
     clear oB HLI
     rcases HC4.out with⟨hv,rfl,rfl⟩|⟨hv,rfl,b,m1,rfl,ae⟩
     ·have HV:=Hd hv
      rcases HC5.out with⟨_,rfl,rfl⟩|⟨hv',_⟩
      ·clear hv HC4 HC5;go_wp2_with fail;go_ret3;exact⟨Rx.out,.inl ⟨HV.out,rfl⟩⟩
      ·rw[hv] at hv';cases hv'
     ·have HV:=Hd hv
      rcases HC5.out with⟨hv',_⟩|⟨_,rfl,p,m2,rfl,A0T,hsep⟩
      ·rw[hv] at hv';cases hv'
      ·have HNF:=Hd (show ∀i,NF b m1 i->i<w4.heap.size from λi hi=>(ae.lt hi).2);have HNT:=Hd (show BQ W7 Z.heap.size b m1 0 (Nt.new r) from by
        refine((ae.below JD.out).kept eL.out (λq hq (hs:AK A4=some q)=> ?_)).kept HKE.out (λq hq (hs:AK A5=some q)=> ?_)
        ·have h1:=H45.out q hs;have h2:=(ae.lt hq).1;have h3:=HYZ.out;omega
        ·have h1:=H5Z.out q hs;have h2:=(ae.lt hq).1;omega)
       have HRF:=Hd (show ij W7 w4.heap.size p (w4.heap.size<=·) m2 (Nt.new r) from by
        refine(A0T.A46 eL.out (λq (hs:AK A4=some q)=>⟨?_,R4w.out.ty hs⟩) (λq hx=>hx)).A46 HKE.out (λq (hs:AK A5=some q)=>⟨?_,R5w.out.ty hs⟩) (λq hx=>hx)
        ·have h1:=H45.out q hs;have h2:=Qo.out.size;have h3:=HYZ.out;omega
        ·have h1:=H5Z.out q hs;have h2:=Qo.out.size;omega)
       have oW:=Hd (show w.heap.size<=Z.heap.size/\Z.heap.size<=w4.heap.size/\w4.heap.size<=W7.heap.size from⟨A20.out.size,Qo.out.size,Lt JD.out.size (Lt eL.out.size HKE.out.size)⟩);have SH7:=Hd (SH.out W7 b 0 p _ _ _ m1 m2 hv HNT.out HRF.out);have HSP:=Hd hsep;clear hv ae A0T hsep HC4 HC5 SH;go_wp2_with ((go_at_call 14;refine SH7.out.mono ?_;rintro _ w8 ⟨rfl,nJ⟩));go_ret3;exact⟨Rx.out.trans (nJ.mono Rx.out.size),.inr ⟨HV.out,b,m1,p,m2,_,_,rfl,oW.out.1,oW.out.2.1,Lt oW.out.2.2 nJ.size,HNT.out.below nJ,HNF.out,(IX.A5a HRF.out HSP.out).below nJ⟩⟩
structure Pr(w:World)(B C b k p:Nat)(m:NM)(m2:RN)(s t:Nt.St):Prop where
 net:BQ w B b m k s
 ref:IX w C p m2 t
 av:∀q,NF b m q->m2.av q
 gW:∀q,NF b m q->¬RF p m2 q/\AK m2.OA≠some q/\AK m2.TA≠some q
 le:B<=C/\C<=w.heap.size
namespace Nt
def Sj(s:St)(a:Act):St:=
 if a.kind=0 then Rq s a.k a.n
 else if a.kind=1 then(if 1<=a.n/\a.n<=s.cr.length then Vz s a.n.toNat a.cut else s)
 else if a.kind=2 then step s
 else(run s (if a.n<=3600000/\s.now+40*s.r.step<a.n then s.now+40*s.r.step else a.n)).1
theorem LG.succ{c:Nat}{s:St}(h:LG c s):LG (c+1) s:=Inv.mono h Ft
theorem LG.Sj{c:Nat}{s:St}(h:LG c s)(hc:c<=1000000)(a:Act):LG (c+1) (Sj s a):=by
 unfold Nt.Sj;split
 ·exact h.Rq hc _ _
 ·split
  ·split
   ·exact(h.Vz _ _).succ
   ·exact h.succ
  ·split
   ·exact(h.step hc).succ
   ·exact(h.run hc _).succ
end Nt
section
variable{w w':World}{B C b k k' p:Nat}{m:NM}{m2:RN}{s s' t t':Nt.St}
theorem Pr.below(h:Pr w B C b k p m m2 s t)(g:Below w.heap.size w w'):Pr w' B C b k p m m2 s t:=⟨h.net.below g,h.ref.below g,h.av,h.gW,h.le.1,Lt h.le.2 g.size⟩
theorem Pr.mono(h:Pr w B C b k p m m2 s t)(hk:k<=k'):Pr w B C b k' p m m2 s t:=⟨h.net.mono hk,h.ref,h.av,h.gW,h.le⟩
theorem NF.tyR(h:BQ w B b m k s){q:Nat}(hq:NF b m q):¬Ty w q 5/\¬Ty w q 4/\¬Ty w q 207:=by
 have key:∀e,e=5\/e=4\/e=207->¬Ty w q e:=λe he g=>by
  rcases hq with hq|hq|hq|hq|hq|hq|hq|⟨j,hj,hq⟩
  ·subst hq;exact(Ty.ne g ⟨_,h.BM⟩ Cy) rfl
  ·rcases h.st.three hq with t|t|t<;>exact(Ty.ne g t Cy) rfl
  ·exact(Ty.ne g (h.CJ.ty hq) Cy) rfl
  ·exact(Ty.ne g (h.BL.ty hq) Cy) rfl
  ·exact(Ty.ne g (h.S1.ty hq) Cy) rfl
  ·subst hq;obtain⟨_,_,h2⟩:=h.cut;exact h2.Ol g rfl
  ·exact(Ty.ne g (h.GM.ty hq) Cy) rfl
  ·rcases(h.cr j Dp).ty hq with t|t|t|t<;>exact(Ty.ne g t Cy) rfl
 exact⟨key _ (.inl rfl),key _ (.inr (.inl rfl)),key _ (.inr (.inr rfl))⟩
theorem Pr.A40(h:Pr w B C b k p m m2 s t)(g:Vg C p m2 t' w w'):∃m3,Pr w' B C b k p m m3 s t'/\AG (RF p m2) w w':=by
 obtain⟨m3,g1,g2,g3,g4⟩:=g;simp only[RN.fix,Prod.mk.injEq] at g4;obtain⟨_,_,_,_,_,e6,e7,e8⟩:=g4;refine⟨m3,⟨h.net.kept g2 (λq hq=>(h.gW q hq).1),g1,λq hq=>by rw[e8];exact h.av q hq,λq hq=>⟨λhf=> ?_,by rw[e6];exact(h.gW q hq).2.1,by rw[e7];exact(h.gW q hq).2.2⟩,h.le.1,Lt h.le.2 g2.size⟩,g2⟩
 rcases g3 q hf with hf|hf
 ·exact(h.gW q hq).1 hf
 ·have:=(h.net.lt hq).2;omega
theorem Pr.A6J(h:Pr w B C b k p m m2 s t)(g:Q4 B b m k' s' w w'):∃m3 m4,Pr w' B C b k' p m3 m4 s' t/\AG (NF b m) w w':=by
 obtain⟨m3,g1,g2,g3,_⟩:=g;refine⟨m3,{m2 with av:=NF b m3},⟨g1,?_,λq hq=>hq,λq hq=> ?_,h.le.1,Lt h.le.2 g2.size⟩,g2⟩
 ·exact h.ref.A2H g2 h.av h.gW (λq hq=>NF.tyR h.net hq) (λq hq=>⟨(g3 q hq).imp (h.av q) id,(g1.lt hq).2⟩)
 ·have hr:∀q,RF p m2 q->q<w.heap.size:=λq hf=>(hf.lt h.ref).2
  rcases g3 q hq with hq|hq
  ·exact h.gW q hq
  ·refine⟨λhf=> ?_,λhf=> ?_,λhf=> ?_⟩
   ·have:=hr q hf;omega
   ·have:=(h.ref.n.CJ.lt hf).2;omega
   ·have:=(h.ref.n.BL.lt hf).2;omega
theorem Pr.made(h1:BQ w B b m k s)(h2:∀i,NF b m i->i<C)(h3:IX w C p m2 t)(h4:B<=C)(h5:C<=w.heap.size):Pr w B C b k p m {m2 with av:=NF b m} s t:=by
 (have hr:∀q,RF p m2 q->C<=q:=λq hf=>(hf.lt h3).1);(have hX:∀q,RX C p m2 q->RX C p {m2 with av:=NF b m} q:=λq hq=>⟨hq.1,hq.2.1,λhf=>by have h:=h2 q hf;have:=hq.1;omega⟩);refine⟨h1,⟨⟨h3.n.BM,h3.n.st,h3.n.CJ,h3.n.BL,h3.n.R9,h3.n.QF,h3.n.QD,h3.n.RQ,h3.n.S4,h3.n.GM,h3.n.len,λi hi=>⟨(h3.n.uw i hi).1.mono hX,(h3.n.uw i hi).2⟩,λi hi=>⟨(h3.n.dw i hi).1.mono hX,(h3.n.dw i hi).2⟩,h3.n.ge⟩,h3.uv,h3.bo,h3.ka,λq hq=>(h1.lt hq).2⟩,λq hq=>hq,λq hq=>⟨λhf=> ?_,λhf=> ?_,λhf=> ?_⟩,h4,h5⟩
 ·have:=hr q hf;have:=h2 q hq;omega
 ·have:=(h3.n.CJ.lt hf).1;have:=h2 q hq;omega
 ·have:=(h3.n.BL.lt hf).1;have:=h2 q hq;omega
theorem AG.low{S:Nat->Prop}(h:AG S w w')(hS:∀q,S q->B<=q)(hb:B<=w.heap.size):Below B w w':=h.below (λq _ hq=>hS q hq) hb
end
def TB(B C b k p c:Nat)(s':Nt.St)(w:World)(e:Ending)(w':World):Prop:=e= .returned (.bool true)/\Below B w w'/\Nt.LG c s'/\∃m m2,Pr w' B C b k p m m2 s' s'
section
variable{w:World}{B C b k p c:Nat}{m:NM}{m2:RN}{s:Nt.St}
theorem zm{N:Nat}{base:Nat}(h:IX w base p m2 s)(hs:Nt.Inv N s)(BJ:base<=w.heap.size)(hN:N+65<=1000000000000)(j x:Int):
  Calls prog 38 #[Pt p,Iv j,Iv x] w λe w'=>e= .returned (Iv (Nt.Yy s j x))/\Vg base p m2 (Nt.Rq s j x) w w':=by
 by_cases hj:1<=j/\j<=6
 ·exact zl h hs BJ hN j x hj
 ·(have e:Nt.Yy s j x=2:=by unfold Nt.Yy;rw[AO hj]);(have e2:Nt.Rq s j x=s:=by unfold Nt.Rq;rw[e,AO Fj]);rw[e,e2];exact(zk j x hj p w).mono λe w' ⟨h1,h2⟩=>⟨h1,by subst h2;exact Vg.refl h⟩
theorem Pr.A1D{V:World}{t':Nt.St}{f:Nat}{vs:Array Value}{R:Ending}(h:Pr V B C b k p m m2 s s)(hc:∀W,IX W C p m2 s->C<=W.heap.size->Calls prog f vs W λe w'=>e=R/\Vg C p m2 t' W w'){W:World}(hW:Below V.heap.size V W):
  Calls prog f vs W λe w'=>e=R/\∃m3,Pr w' B C b k p m m3 s t'/\AG (RF p m2) V w':=
 (hc W (h.ref.below hW) (Lt h.le.2 hW.size)).mono λe w' ⟨h1,h2⟩=>⟨h1,by
  obtain⟨m3,g1,g2⟩:=(h.below hW).A40 h2;exact⟨m3,g1,(AG.AS (S:=RF p m2) hW).trans g2 (λ_ _ hq=>hq)⟩⟩
theorem Pr.ot{V:World}{s' t:Nt.St}{f k':Nat}{vs:Array Value}{R:Ending}(h:Pr V B C b k p m m2 s t)(hc:∀W,BQ W B b m k s->B<=W.heap.size->Calls prog f vs W λe w'=>e=R/\Q4 B b m k' s' W w'){W:World}(hW:Below V.heap.size V W):
  Calls prog f vs W λe w'=>e=R/\∃m3 m4,Pr w' B C b k' p m3 m4 s' t/\AG (NF b m) V w':=
 (hc W (h.net.below hW) (Lt (Lt h.le.1 h.le.2) hW.size)).mono λe w' ⟨h1,h2⟩=>⟨h1,by
  obtain⟨m3,m4,g1,g2⟩:=(h.below hW).A6J h2;exact⟨m3,m4,g1,(AG.AS (S:=NF b m) hW).trans g2 (λ_ _ hq=>hq)⟩⟩
theorem Pr.A75{V w1 w2:World}{m3:RN}{s' t:Nt.St}(h:Pr w B C b k p m m2 s s)(hB:Below w.heap.size w V)(h1:AG (RF p m2) V w1)(hn:Pr w1 B C b k p m m3 s' t)(h2:AG (NF b m) w1 w2):Below B w w2:=by
 have hb:B<=w.heap.size:=Lt h.le.1 h.le.2;have g1:=(hB.mono hb).trans (h1.low (B:=B) (λq hq=>Lt h.le.1 (hq.lt h.ref).1) (Lt hb hB.size));exact g1.trans (h2.low (λq hq=>(hn.net.lt hq).1) (Lt hb g1.size))
theorem A6v(h:Pr w B C b k p m m2 s s)(hi:Nt.LG c s)(hc:c<=1000000)(a:Nt.Act)(h0:a.kind=0):
  Calls prog 13 #[Pt b,Pt p,.agg a.cells.toArray] w (TB B C b (k+1) p (c+1) (Nt.Sj s a) w):=by
 have E:=Hd (show Nt.Sj s a=Nt.Rq s a.k a.n from by unfold Nt.Sj;rw[AW h0]);have HC:=Hd (hi.Rq hc a.k a.n);have HI:=Hd hi;have HL:=Hd hi.le;have HP:=Hd h;obtain⟨ak,aj,an,ac⟩:=a;simp only at h0 E HC;subst h0;clear h hi;unfold Nt.Act.cells;go_enter func13,ntmps13;go_upto_region 1 with fail;(refine Ko ?_;intro V hV);(refine Kb ?_;intro HB);(have kv:V.heap[w.heap.size]?=some (.cells #[Iv 0,Iv aj,Iv an,.bool ac] 39 (0,0)):=by rw[<-hV];exact AM _ _);(refine K0w ?_;intro KV c0 c1 c2 c3 aW T5 Zk);rw[<-Zk] at KV c0 c1 c2 c3⊢;have HT5:=Hd Zk;clear hV kv Zk;obtain⟨er,Oe⟩:=BN (Nt.Yy s aj an);have ym:=Hd Oe;have DO:=Hd (aW.out.A1D (R:= .returned (Iv er)) (t':=Nt.Rq s aj an) (λW h1 h2=>by rw[ym.out];exact zm h1 HI.out h2 Eb aj an) (IH V));clear Oe;go_upto_region 4 with(go_at_call 38;refine DO.out.mono ?_;rintro e w1 ⟨rfl,m3,hp1,VG⟩);have ZR:=Hd hp1;have eL:=Hd VG;have kw:=AR KV.out eL.out (λhf=>by have:=(hf.lt HP.out.ref).2;have:=HT5.out;omega);have d1:=AB kw 1 rfl;have d2:=AB kw 2 rfl;have ND:=Hd (ZR.out.ot (R:= .returned (Iv er)) (k':=k) (s':=Nt.Rq s aj an) (λW h1 h2=>by rw[ym.out];exact tl h1 HI.out h2 Eb aj an) (IH w1));clear hp1 VG c0 c1 c2 c3 kw DO;go_wp2_with (go_at_call 28;refine ND.out.mono ?_;rintro e w2 ⟨rfl,m4,m5,Pp,MU⟩);have SZ:=Hd Pp;have T0:=Hd MU;clear Pp MU ND d1 d2;exact Jo
theorem A1K(h:Pr w B C b k p m m2 s s)(hi:Nt.LG c s)(hc:c<=1000000)(a:Nt.Act)(h0:a.kind=2):
  Calls prog 13 #[Pt b,Pt p,.agg a.cells.toArray] w (TB B C b (k+1) p (c+1) (Nt.Sj s a) w):=by
 have E:=Hd (show Nt.Sj s a=Nt.step s from by unfold Nt.Sj;rw[AO Ft,AO Ft,AW h0]);have HC:=Hd (hi.step hc).succ;have HI:=Hd hi;have HL:=Hd hi.le;have HP:=Hd h;obtain⟨ak,aj,an,ac⟩:=a;simp only at h0 E HC;subst h0;clear h hi;unfold Nt.Act.cells;go_enter func13,ntmps13;go_upto_region 1 with fail;(refine Ko ?_;intro V hV);(refine Kb ?_;intro HB);(have kv:V.heap[w.heap.size]?=some (.cells #[Iv 2,Iv aj,Iv an,.bool ac] 39 (0,0)):=by rw[<-hV];exact AM _ _);(refine K0w ?_;intro KV c0 c1 c2 c3 aW T5 Zk);rw[<-Zk] at KV c0 c1 c2 c3⊢;have HT5:=Hd Zk;clear hV kv Zk;obtain⟨er,Oe⟩:=BN (Nt.FB s);have ym:=Hd Oe;have DO:=Hd (aW.out.A1D (R:= .returned (Iv er)) (t':=Nt.step s) (λW h1 h2=>by rw[ym.out];exact bG h1 HI.out h2 Eb) (IH V));clear Oe;go_upto_region 13 with(go_at_call 39;refine DO.out.mono ?_;rintro e w1 ⟨rfl,m3,hp1,VG⟩);have ZR:=Hd hp1;have eL:=Hd VG;have ND:=Hd (ZR.out.ot (R:= .returned (Iv er)) (k':=k) (s':=Nt.step s) (λW h1 h2=>by rw[ym.out];exact fZ h1 HI.out h2 Eb) (IH w1));clear hp1 VG c0 c1 c2 c3 DO;go_wp2_with (go_at_call 24;refine ND.out.mono ?_;rintro e w2 ⟨rfl,m4,m5,Pp,MU⟩);have SZ:=Hd Pp;have T0:=Hd MU;clear Pp MU ND;exact Jo
theorem A1N(h:Pr w B C b k p m m2 s s)(hi:Nt.LG c s)(hc:c<=1000000)(a:Nt.Act)(NJ:a.kind≠0)(VG:a.kind≠1)(MU:a.kind≠2)(hx:a.n<=3600000/\s.now+40*s.r.step<a.n):
  Calls prog 13 #[Pt b,Pt p,.agg a.cells.toArray] w (TB B C b (k+1) p (c+1) (Nt.Sj s a) w):=by
 (refine K3z ?_;intro u hu);(have gC:u=s.now+40*s.r.step:=by rw[hu];rw[AW hx]);(refine K18 ?_;intro E HC hnw DJ wm wa HI HL HP);obtain⟨ak,aj,an,ac⟩:=a;simp only at NJ VG MU hx gC E HC;clear h hi;unfold Nt.Act.cells;go_enter func13,ntmps13;go_upto_region 1 with fail;(refine Ko ?_;intro V hV);(refine Kb ?_;intro HB);(refine K3l ?_;intro kv);(refine K0w ?_;intro KV c0 c1 c2 c3 aW T5 Zk);rw[<-Zk] at KV c0 c1 c2 c3⊢;(refine K0m ?_;clear hV kv Zk;intro HT5 k0 k1 k2 Pb c2' er Oe ym HU DO);(have z1:decide (an<=3600000)=true:=by simp;omega);(have z2:decide (an>s.now+40*s.r.step)=true:=by simp;omega);clear Oe hu NJ VG MU gC;go_upto_region 15 with fail;go_quiet (fail);go_upto_region 16 with fail;exact H7
theorem A1M(h:Pr w B C b k p m m2 s s)(hi:Nt.LG c s)(hc:c<=1000000)(a:Nt.Act)(NJ:a.kind≠0)(VG:a.kind≠1)(MU:a.kind≠2)(hx:3600000<a.n):
  Calls prog 13 #[Pt b,Pt p,.agg a.cells.toArray] w (TB B C b (k+1) p (c+1) (Nt.Sj s a) w):=by
 (refine K3z ?_;intro u hu);(have gC:u=a.n:=by rw[hu];rw[AO Ft]);(refine K18 ?_;intro E HC hnw DJ wm wa HI HL HP);obtain⟨ak,aj,an,ac⟩:=a;simp only at NJ VG MU hx gC E HC;clear h hi;unfold Nt.Act.cells;go_enter func13,ntmps13;go_upto_region 1 with fail;(refine Ko ?_;intro V hV);(refine Kb ?_;intro HB);(refine K3l ?_;intro kv);(refine K0w ?_;intro KV c0 c1 c2 c3 aW T5 Zk);rw[<-Zk] at KV c0 c1 c2 c3⊢;(refine K0m ?_;clear hV kv Zk;intro HT5 k0 k1 k2 Pb c2' er Oe ym HU DO);(have z1:decide (an<=3600000)=false:=by simp;omega);clear Oe hu NJ VG MU gC;go_upto_region 15 with fail;exact H7
theorem A1L(h:Pr w B C b k p m m2 s s)(hi:Nt.LG c s)(hc:c<=1000000)(a:Nt.Act)(NJ:a.kind≠0)(VG:a.kind≠1)(MU:a.kind≠2)(hx:a.n<=3600000/\a.n<=s.now+40*s.r.step):
  Calls prog 13 #[Pt b,Pt p,.agg a.cells.toArray] w (TB B C b (k+1) p (c+1) (Nt.Sj s a) w):=by
 (refine K3z ?_;intro u hu);(have gC:u=a.n:=by rw[hu];rw[AO Ft]);(refine K18 ?_;intro E HC hnw DJ wm wa HI HL HP);obtain⟨ak,aj,an,ac⟩:=a;simp only at NJ VG MU hx gC E HC;clear h hi;unfold Nt.Act.cells;go_enter func13,ntmps13;go_upto_region 1 with fail;(refine Ko ?_;intro V hV);(refine Kb ?_;intro HB);(refine K3l ?_;intro kv);(refine K0w ?_;intro KV c0 c1 c2 c3 aW T5 Zk);rw[<-Zk] at KV c0 c1 c2 c3⊢;(refine K0m ?_;clear hV kv Zk;intro HT5 k0 k1 k2 Pb c2' er Oe ym HU DO);(have z1:decide (an<=3600000)=true:=by simp;omega);(have z2:decide (an>s.now+40*s.r.step)=false:=by simp;omega);clear Oe hu NJ VG MU gC;go_upto_region 15 with fail;exact H7
theorem xD(h:Pr w B C b k p m m2 s s)(hi:Nt.LG c s)(hc:c<=1000000)(a:Nt.Act)(h0:a.kind=1)(hx:¬(1<=a.n/\a.n<=s.cr.length)):
  Calls prog 13 #[Pt b,Pt p,.agg a.cells.toArray] w (TB B C b (k+1) p (c+1) (Nt.Sj s a) w):=by
 have E:=Hd (show Nt.Sj s a=s from by unfold Nt.Sj;rw[AO Ft,AW h0,AO hx]);have HC:=Hd hi.succ;have hrn:=hi.rn;have HI:=Hd hi;have HL:=Hd hi.le;have HP:=Hd h;obtain⟨ak,aj,an,ac⟩:=a;simp only at h0 hx E HC;subst h0;clear h hi;unfold Nt.Act.cells;go_enter func13,ntmps13;go_upto_region 1 with fail;(refine Ko ?_;intro V hV);(refine Kb ?_;intro HB);(have kv:V.heap[w.heap.size]?=some (.cells #[Iv 1,Iv aj,Iv an,.bool ac] 39 (0,0)):=by rw[<-hV];exact AM _ _);(refine K0w ?_;intro KV c0 c1 c2 c3 aW T5 Zk);rw[<-Zk] at KV c0 c1 c2 c3⊢;have HT5:=Hd Zk;clear hV kv Zk;have ND:=Hd (aW.out.ot (R:= .returned (Iv 2)) (k':=k) (s':=s) (λW h1 h2=>A2J h1 HI.out an ac hx) (IH V));have HX:=Hd hx;have HRN:=Hd hrn;clear hx hrn;go_upto_region 7 with(go_at_call 23;refine ND.out.mono ?_;rintro e w2 ⟨rfl,m4,m5,Pp,MU⟩);have SZ:=Hd Pp;have T0:=Hd MU;have kw:=AR KV.out T0.out (λhf=>by have:=(HP.out.net.lt hf).2;have:=HT5.out;omega);(refine K3U ?_;intro d2 e0 nn jZ);rw[<-jZ] at e0;have HNN:=Hd jZ;clear Pp MU ND c0 c1 c2 c3 kw jZ;have A7p:∀q,Below B w (w2.drewN q)/\Pr (w2.drewN q) B C b (k+1) p m4 m5 s s:=λq=>by have h1:Below B w w2:=(HB.out.mono (Lt HP.out.le.1 HP.out.le.2)).trans (T0.out.low (λq hq=>(HP.out.net.lt hq).1) (Lt (Lt HP.out.le.1 HP.out.le.2) HB.out.size));have h2:=below_drewN (QZ w2.heap.size w2) q;exact⟨h1.trans (h2.mono (Lt (Lt HP.out.le.1 HP.out.le.2) (show w.heap.size<=w2.heap.size from Lt HB.out.size T0.out.size))),(SZ.out.below h2).mono (Nat.le_succ k)⟩
 by_cases h1:an<1
 ·(have z1:decide (an<1)=true:=by simp[h1]);exact Jw
 ·(have z1:decide (an<1)=false:=by simp;omega);(have z2:decide (an>(nn:Int))=true:=by have h8:=HX.out;have:=HNN.out;simp;omega);exact Jw
theorem rK(h:Pr w B C b k p m m2 s s)(hi:Nt.LG c s)(hc:c<=1000000)(a:Nt.Act)(h0:a.kind=1)(hx:1<=a.n/\a.n<=s.cr.length)(hk:k<maxLen):
  Calls prog 13 #[Pt b,Pt p,.agg a.cells.toArray] w (TB B C b (k+1) p (c+1) (Nt.Sj s a) w):=by
 have hrn:=hi.rn;have GG:=hi.cut;obtain⟨i,hai⟩:∃i:Nat,a.n=(i:Int)+1:=⟨(a.n-1).toNat,by omega⟩;(have hil:i<s.cr.length:=by omega);have E:=Hd (show Nt.Sj s a=Nt.Vz s (i+1) a.cut from by unfold Nt.Sj;rw[AO Ft,AW h0,AW hx,hai];rfl);have HC:=Hd (hi.Vz (i+1) a.cut).succ;have HI:=Hd hi;have HL:=Hd hi.le;have HP:=Hd h;obtain⟨ak,aj,an,ac⟩:=a;simp only at h0 hx hai E HC;subst hai;subst h0;clear h hi;unfold Nt.Act.cells;go_enter func13,ntmps13;go_upto_region 1 with fail;(refine Ko ?_;intro V hV);(refine Kb ?_;intro HB);(have kv:V.heap[w.heap.size]?=some (.cells #[Iv 1,Iv aj,Iv ((i:Int)+1),.bool ac] 39 (0,0)):=by rw[<-hV];exact AM _ _);(refine K0w ?_;intro KV c0 c1 c2 c3 aW T5 Zk);rw[<-Zk] at KV c0 c1 c2 c3⊢;have HT5:=Hd Zk;clear hV kv Zk;have ND:=Hd (aW.out.ot (R:= .returned (Iv 0)) (k':=k+1) (s':=Nt.Vz s (i+1) ac) (λW h1 h2=>mQ h1 HI.out (i+1) ac Ft hk) (IH V));rw[show((i+1:Nat):Int)=(i:Int)+1 from by omega] at ND;have HRN:=Hd hrn;have HCL:=Hd GG;have HIL:=Hd hil;clear hx hrn GG;go_upto_region 7 with(go_at_call 23;refine ND.out.mono ?_;rintro e w2 ⟨rfl,m4,m5,Pp,MU⟩);have SZ:=Hd Pp;have T0:=Hd MU;have kw:=AR KV.out T0.out (λhf=>by have:=(HP.out.net.lt hf).2;have:=HT5.out;omega);have KW:=Hd kw;(refine K3U ?_;intro d2 e0 nn jZ);rw[<-jZ] at e0;have HNN:=Hd jZ;(have z1:decide ((i:Int)+1<1)=false:=by simp;omega);(have z2:decide ((i:Int)+1>(nn:Int))=false:=by simp;omega);clear Pp MU ND c0 c1 c2 c3 kw jZ hil;go_quiet (fail);go_upto_region 9 with fail;generalize hw3:w2.drewN _=w3;have P6:=Hd (show Below w2.heap.size w2 w3 from by rw[<-hw3];exact below_drewN (IH w2) _);have VD:=Hd (SZ.out.below P6.out);have k3:=GH KW.out P6.out;clear hw3 d2 e0 z1 z2;obtain⟨g,o,cur,hKA,_,XO,_,_,_,_,_,DD,Yr⟩:=VD.out.ref.n.RQ.some_ (by have:=HIL.out;omega);have HKA:=Hd hKA;obtain⟨kc,hkc⟩:=BN m5.kc;(have c37:w3.cell? (Ad p 37)=some (.slice (some (Ad g o)) nn kc):=by rw[<-HKA.out,hkc,HNN.out];exact AB VD.out.ref.n.BM 37 rfl);have tg:Ty w3 g 4:=VD.out.ref.n.RQ.ty (by rw[hKA];rfl);have hpg:p≠g:=Ty.ne ⟨_,VD.out.ref.n.BM⟩ tg Fj;have h5g:T5≠g:=Ty.ne ⟨_,k3⟩ tg Fj;have Ou:=BG VD.out.ref.n.BM;have h5l:=BG k3;have e2:=AB k3 2 rfl;have e3:=AB k3 3 rfl;have CAw:=Hd (show ∃v,w3.cell? (Ad g (o+i))=some v from by
  (have hl:(GY (s.cut.drop 1)).length=s.cr.length:=by unfold GY;rw[WW,Xu,HCL.out];omega);exact⟨_,DD i _ (Gg (by rw[hl];exact HIL.out))⟩)
 obtain⟨v0,tA⟩:=CAw.out;have um:=Hd (show AG (λq=>q=g) w3 w3.drew from(AG.refl (λq=>q=g) w3).drew);have oH:=Hd (show Below w3.heap.size w3 w3.drew from(IH w3).drew);have CA:=Hd (show w3.drew.cell? (Ad g (o+i))=some v0 from tA);have FA:=Hd (show w3.drew.frozen? (Ad g (o+i))=false from Yr (o+i));have SS:=Hd (show ∀w':World,AG (λq=>q=g) w3 w'->w'.cell? (Ad p 37)=some (.slice (some (Ad g o)) nn kc)/\w'.cell? (Ad T5 2)=some (Iv ((i:Int)+1))/\w'.cell? (Ad T5 3)=some (.bool ac) from λW hW=>
  ⟨(Cb (hW.block p Ou hpg)).trans c37,(Cb (hW.block T5 h5l h5g)).trans e2,(Cb (hW.block T5 h5l h5g)).trans e3⟩)
 have gJ:=SS.out _ um.out;(have U3:(i:Int)<(nn:Int):=by have:=HIL.out;have:=HNN.out;omega);(have OU:(0:Int)<=(i:Int):=by omega);have wj:IntKind.i64.wrap (i:Int)=(i:Int):=GF _ (by have:=HIL.out;have:=(show Nt.Inv _ s from HI.out).n;omega);clear hKA DD Yr hkc c37 e2 e3 tA CAw tg k3;refine Um (S:=λw'=>w'.cell? (Ad p 37)=some (.slice (some (Ad g o)) nn kc)/\w'.cell? (Ad T5 2)=some (Iv ((i:Int)+1))/\w'.cell? (Ad T5 3)=some (.bool ac)) Ff gJ (λhHeld=> ?_);generalize Oy:w2.drew=V0 at*;clear Oy gJ;refine K0Z ?_;refine K4F ?_;refine JB 8 hHeld ?_;refine JB 9 hHeld ?_;refine OI (rs:=[10]) Ff Fu ?_;refine NH rfl (λK hK=> ?_) Pd;have ca:=CA.out;have fa:=FA.out;go_simp;refine hK.out _ _ (SS.out _ (um.out.setCell (p:=(Ad g (o+i))) (.inl rfl) _)) (λ_=> ?_);clear hK K hHeld;refine PU ?_;refine RJ Ff ?_ _;have RT:=Hd ((VD.out.below oH.out).A40 ((VD.out.ref.below oH.out).yv HIL.out HCL.out HKA.out ac));go_wp2_with fail;go_ret;obtain⟨m6,h6,h7⟩:=RT.out;have hb:B<=w.heap.size:=Lt HP.out.le.1 HP.out.le.2;have b1:Below B w w2:=(HB.out.mono hb).trans (T0.out.low (λq hq=>(HP.out.net.lt hq).1) (Lt hb HB.out.size));have z1:w.heap.size<=w2.heap.size:=Lt HB.out.size T0.out.size;have b2:=b1.trans ((P6.out.trans (oH.out.mono P6.out.size)).mono (Lt hb z1));refine⟨rfl,b2.trans (h7.low (B:=B) (λq hq=>Lt HP.out.le.1 (hq.lt VD.out.ref).1) ?_),by rw[E.out];exact HC.out,m4,m6,by rw[E.out];exact h6⟩;exact Lt (Lt hb z1) (Lt P6.out.size oH.out.size)
theorem A3J(h:Pr w B C b k p m m2 s s)(hi:Nt.LG c s)(hc:c<=1000000)(hk:k<maxLen)(a:Nt.Act):
  Calls prog 13 #[Pt b,Pt p,.agg a.cells.toArray] w (TB B C b (k+1) p (c+1) (Nt.Sj s a) w):=by
 by_cases h0:a.kind=0
 ·exact A6v h hi hc a h0
 ·by_cases h1:a.kind=1
  ·by_cases hx:1<=a.n/\a.n<=s.cr.length
   ·exact rK h hi hc a h1 hx hk
   ·exact xD h hi hc a h1 hx
  ·by_cases h2:a.kind=2
   ·exact A1K h hi hc a h2
   ·by_cases hx:a.n<=3600000
    ·by_cases hy:s.now+40*s.r.step<a.n
     ·exact A1N h hi hc a h0 h1 h2 ⟨hx,hy⟩
     ·exact A1L h hi hc a h0 h1 h2 ⟨hx,by omega⟩
    ·exact A1M h hi hc a h0 h1 h2 Ft
end
end
end Go.Proofs.YtdocdgcdldpagaaGreat

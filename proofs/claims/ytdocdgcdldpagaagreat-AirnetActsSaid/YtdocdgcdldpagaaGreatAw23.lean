import Derived.Test.YtdocdgcdldpagaaGreatAw22
import Derived.Test.YtdocdgcdldpagaaGreatAw08
open Go.Proofs.Tryz
namespace Go.Proofs.YtdocdgcdldpagaaGreat
set_option maxHeartbeats 64000000
set_option maxRecDepth 100000
set_option linter.all false
section
open RowKit
attribute [local go_sem high] A96 A95
attribute [local go_sem ↓] wp_at_zero wp_at_succ
section
variable{w w' w0:World}
theorem QW(n a b:Int)(w:World)(h:a<=n/\n<=b):Calls prog 34 #[Iv n,Iv a,Iv b] w (LP (.bool true) w):=by
 obtain⟨h1,h2⟩:=h;go_enter func34,ntmps34;exact He
theorem iH(n a b:Int)(w:World)(h:¬(a<=n/\n<=b)):Calls prog 34 #[Iv n,Iv a,Iv b] w (LP (.bool false) w):=by
 by_cases h1:a<=n
 ·(have h2:¬n<=b:=λhh=>h ⟨h1,hh⟩);clear h;go_enter func34,ntmps34;exact He
 ·clear h;go_enter func34,ntmps34;exact He
theorem Y2(n a b:Int)(w:World):Calls prog 34 #[Iv n,Iv a,Iv b] w λe w'=>e= .returned (.bool (decide (a<=n/\n<=b)))/\w=w':=by
 by_cases h:a<=n/\n<=b
 ·rw[IU h];exact QW n a b w h
 ·rw[ME h];exact iH n a b w h
theorem lM(r:Nt.Ru)(n m:Nat)(OA:Option Addr)(oc:Nat)(TA:Option Addr)(tc:Nat)(w:World)(h:¬((1<=r.n/\r.n<=64)/\(1<=r.again/\r.again<=60000)/\(1<=r.step/\r.step<=1000)/\(0<=r.CY/\r.CY<=100000)/\AL.S9 r.lost r.ret r.desc r.late r.every=true)):
  Calls prog 10 #[Rz r OA n oc TA m tc] w (IL (.bool false) w):=by
 (refine K2Y ?_;intro c1 eF c2 XC c3 hc3 c4 ZK);obtain⟨c5,aJ⟩:=BN (AL.S9 r.lost r.ret r.desc r.late r.every);(have fh:c1=true->c2=true->c3=true->c4=true->c5=true->False:=by intro e1 e2 e3 e4 e5;rw[e1] at eF;rw[e2] at XC;rw[e3] at hc3;rw[e4] at ZK;rw[e5] at aJ;exact h ⟨decide_eq_true_iff.1 eF.symm,decide_eq_true_iff.1 XC.symm,decide_eq_true_iff.1 hc3.symm,decide_eq_true_iff.1 ZK.symm,aJ.symm⟩);have W1:=Hd (show ∀W,Calls prog 34 #[Iv r.n,Iv 1,Iv 64] W (LP (.bool c1) W) from λW=>by rw[eF];exact Y2 _ _ _ W);have W2:=Hd (show ∀W,Calls prog 34 #[Iv r.again,Iv 1,Iv 60000] W (LP (.bool c2) W) from λW=>by rw[XC];exact Y2 _ _ _ W);have W3:=Hd (show ∀W,Calls prog 34 #[Iv r.step,Iv 1,Iv 1000] W (LP (.bool c3) W) from λW=>by rw[hc3];exact Y2 _ _ _ W);have W4:=Hd (show ∀W,Calls prog 34 #[Iv r.CY,Iv 0,Iv 100000] W (LP (.bool c4) W) from λW=>by rw[ZK];exact Y2 _ _ _ W);have W5:=Hd (show ∀W,Calls prog 35 #[.agg #[Iv r.lost,Iv r.ret,Iv r.desc,Iv r.late,Iv r.every]] W (IL (.bool c5) W) from λW=>by rw[aJ];exact VO _ _ _ _ _ W);clear eF XC hc3 ZK aJ h;unfold Rz
 cases c1
 case false=>exact Gp
 case true=>
  cases c2
  case false=>exact Gp
  case true=>
   cases c3
   case false=>exact Gp
   case true=>
    cases c4
    case false=>exact Gp
    case true=>
     cases c5
     case false=>clear fh;go_enter func10,ntmps10;go_upto_region 1 with fail;(refine Kk ?_;intro V HB Oq K0 q0 q1 q2 q3 q4 q5 q6 q7 q8);go_wp2_with (first|(go_at_call 34;first|(with_reducible refine(W1.out _).mono ?_;rintro e w' ⟨rfl,rfl⟩)|(with_reducible refine(W2.out _).mono ?_;rintro e w' ⟨rfl,rfl⟩)|(with_reducible refine(W3.out _).mono ?_;rintro e w' ⟨rfl,rfl⟩)|(with_reducible refine(W4.out _).mono ?_;rintro e w' ⟨rfl,rfl⟩))|(go_at_call 35;refine(W5.out _).mono ?_;rintro e w1 ⟨rfl,BX⟩));go_ret;exact⟨rfl,HB.out.trans (BX.mono HB.out.size)⟩
     case true=>exact(fh rfl rfl rfl rfl rfl).elim
theorem lL(r:Nt.Ru)(n m:Nat)(OA:Option Addr)(oc:Nat)(TA:Option Addr)(tc:Nat)(w:World)(g1:1<=r.n/\r.n<=64)(g2:1<=r.again/\r.again<=60000)(g3:1<=r.step/\r.step<=1000)(g4:0<=r.CY/\r.CY<=100000)(g5:AL.S9 r.lost r.ret r.desc r.late r.every=true)
  (h:¬(AN.MP r.up=true/\AN.MP r.dn=true/\r.up.seed<=1099511627776/\r.dn.seed<=1099511627776/\(n:Int)=r.n/\(m:Int)=r.n)):
  Calls prog 10 #[Rz r OA n oc TA m tc] w (IL (.bool false) w):=by
 (refine K2R ?_;intro W1 W2 W3 W4 W5);obtain⟨cu,hcu⟩:=BN (AN.MP r.up);obtain⟨cd,hcd⟩:=BN (AN.MP r.dn);have W6:=Hd (show ∀W,Calls prog 36 #[.agg #[Iv r.up.BY,Iv r.up.AY,Iv r.up.least,Iv r.up.BU,Iv r.up.seed]] W (IL (.bool cu) W) from λW=>by rw[hcu];exact QX r.up W);have W7:=Hd (show ∀W,Calls prog 36 #[.agg #[Iv r.dn.BY,Iv r.dn.AY,Iv r.dn.least,Iv r.dn.BU,Iv r.dn.seed]] W (IL (.bool cd) W) from λW=>by rw[hcd];exact QX r.dn W);rw[<-hcu,<-hcd] at h;clear g1 g2 g3 g4 g5 hcu hcd;unfold Rz
 cases cu
 case false=>clear h;go_enter func10,ntmps10;go_upto_region 1 with fail;(refine Kk ?_;intro V HB Oq K0 q0 q1 q2 q3 q4 q5 q6 q7 q8);go_upto_region 3 with(first|(go_at_call 34;first|(with_reducible refine(W1.out _).mono ?_;rintro e w' ⟨rfl,rfl⟩)|(with_reducible refine(W2.out _).mono ?_;rintro e w' ⟨rfl,rfl⟩)|(with_reducible refine(W3.out _).mono ?_;rintro e w' ⟨rfl,rfl⟩)|(with_reducible refine(W4.out _).mono ?_;rintro e w' ⟨rfl,rfl⟩))|(go_at_call 35;refine(W5.out _).mono ?_;rintro e w1 ⟨rfl,BX⟩));(refine K0r ?_;clear K0 BX Oq q0 q1 q2 q3 q4 q5 q6 q7 q8 W1 W2 W3 W4 W5 HB;intro K1 DF Om u9 u10 u11 u12 u13);go_wp2_with (first|(go_at_call 36;have _g:=NB;refine(W7.out _).mono ?_;rintro e w3 ⟨rfl,JZ⟩;(have k1:=AH K2.out JZ Wj;have K3:=Hd k1;have e13:=AB k1 13 rfl;have e18:=AB k1 18 rfl;have e0:=AB k1 0 rfl;have e19:=AB k1 19 rfl;have e20:=AB k1 20 rfl;have P6:=JI NB JZ;clear k1 JZ))|(go_at_call 36;refine(W6.out _).mono ?_;rintro e w2 ⟨rfl,CB⟩;(have k1:=AH K1.out CB Om;have K2:=Hd k1;have Wj:=BG k1;have d14:=AB k1 14 rfl;have d15:=AB k1 15 rfl;have d16:=AB k1 16 rfl;have d17:=AB k1 17 rfl;have d18:=AB k1 18 rfl;have NB:=JI DF CB;clear k1 CB)));go_ret;exact⟨rfl,NB.out⟩
 case true=>
  cases cd
  case false=>clear h;exact Ge
  case true=>
   by_cases h5:1099511627776<r.up.seed
   ·clear h;exact Ge
   ·by_cases h6:1099511627776<r.dn.seed
    ·clear h;exact Ge
    ·by_cases h7:(n:Int)=r.n
     ·(have z7:((n:Int) !=r.n)=false:=by simp[h7]);(have z8:((m:Int) !=r.n)=true:=by(have:¬(m:Int)=r.n:=λe=>h ⟨rfl,rfl,by omega,by omega,h7,e⟩);simpa using this);exact Gl
     ·(have z7:((n:Int) !=r.n)=true:=by simpa using h7);exact Gl
end
section
variable{w w' w0:World}
theorem pK(r:Nt.Ru)(n:Nat)(OA:Option Addr)(oc:Nat)(TA:Option Addr)(tc:Nat)(w:World)(g1:1<=r.n/\r.n<=64)(g2:1<=r.again/\r.again<=60000)(g3:1<=r.step/\r.step<=1000)(g4:0<=r.CY/\r.CY<=100000)(g5:AL.S9 r.lost r.ret r.desc r.late r.every=true)
  (h1:AN.MP r.up=true)(h2:AN.MP r.dn=true)(h3:r.up.seed<=1099511627776)(h4:r.dn.seed<=1099511627776)(hn:(n:Int)=r.n)(ho:Ri w w.heap.size OA n r.CJ)(ht:Ri w w.heap.size TA n r.BL):
  Calls prog 10 #[Rz r OA n oc TA n tc] w (IL (.bool (Nt.WX r n)) w):=by
 (refine K2R ?_;intro W1 W2 W3 W4 W5);have W6:=Hd (show ∀W,Calls prog 36 #[.agg #[Iv r.up.BY,Iv r.up.AY,Iv r.up.least,Iv r.up.BU,Iv r.up.seed]] W (IL (.bool true) W) from λW=>h1▸QX r.up W);have W7:=Hd (show ∀W,Calls prog 36 #[.agg #[Iv r.dn.BY,Iv r.dn.AY,Iv r.dn.least,Iv r.dn.BU,Iv r.dn.seed]] W (IL (.bool true) W) from λW=>h2▸QX r.dn W);(have QK:n<=64:=by omega);have zd:=GF (-r.CY) Ft;(have z7:((n:Int) !=r.n)=false:=by simp[hn]);(have k5:¬1099511627776<r.up.seed:=by omega);(have k6:¬1099511627776<r.dn.seed:=by omega);have HO:=Hd ho;have HT:=Hd ht;have HNR:=Hd hn;have ZD:=Hd zd;clear g1 g2 g3 g4 g5 h1 h2 h3 h4 hn ho ht zd;unfold Rz;go_enter func10,ntmps10;go_upto_region 1 with fail;(refine Ko ?_;intro V hV);(refine K2l ?_;intro k0);(refine KX ?_;intro HB);(refine K4q ?_;clear hV k0;intro Oq K0 q0 q1 q2 q3 q4 q5 q6 q7 q8);go_upto_region 3 with(first|(go_at_call 34;first|(with_reducible refine(W1.out _).mono ?_;rintro e w' ⟨rfl,rfl⟩)|(with_reducible refine(W2.out _).mono ?_;rintro e w' ⟨rfl,rfl⟩)|(with_reducible refine(W3.out _).mono ?_;rintro e w' ⟨rfl,rfl⟩)|(with_reducible refine(W4.out _).mono ?_;rintro e w' ⟨rfl,rfl⟩))|(go_at_call 35;refine(W5.out _).mono ?_;rintro e w1 ⟨rfl,BX⟩));(refine K0r ?_;clear K0 BX Oq q0 q1 q2 q3 q4 q5 q6 q7 q8 W1 W2 W3 W4 W5 HB;intro K1 DF Om u9 u10 u11 u12 u13);go_upto_region 5 with(first|(go_at_call 36;have _g:=NB;refine(W7.out _).mono ?_;rintro e w3 ⟨rfl,JZ⟩;(have k1:=AH K2.out JZ Wj;have K3:=Hd k1;have e13:=AB k1 13 rfl;have e18:=AB k1 18 rfl;have e0:=AB k1 0 rfl;have e19:=AB k1 19 rfl;have e20:=AB k1 20 rfl;have P6:=JI NB JZ;clear k1 JZ))|(go_at_call 36;refine(W6.out _).mono ?_;rintro e w2 ⟨rfl,CB⟩;(have k1:=AH K1.out CB Om;have K2:=Hd k1;have Wj:=BG k1;have d14:=AB k1 14 rfl;have d15:=AB k1 15 rfl;have d16:=AB k1 16 rfl;have d17:=AB k1 17 rfl;have d18:=AB k1 18 rfl;have NB:=JI DF CB;clear k1 CB)));clear W6 W7 K1 K2 DF NB Om Wj u9 u10 u11 u12 u13 d14 d15 d16 d17 d18 e13 e18 e0 e19 e20 z7 k5 k6;have zd:=ZD.out;go_wp2_with fail;go_loopw[3] (λs3 wr=>∃(j:Nat),s3=Iv j/\j<=n/\Hid (Below w.heap.size w wr/\wr.heap[w.heap.size]?=some (.cells #[Iv r.n,Iv r.again,Iv r.step,Iv r.CY,Iv r.lost,Iv r.ret,Iv r.desc,Iv r.late,Iv r.every,Iv r.up.BY,Iv r.up.AY,Iv r.up.least,Iv r.up.BU,Iv r.up.seed,Iv r.dn.BY,Iv r.dn.AY,Iv r.dn.least,Iv r.dn.BU,Iv r.dn.seed,.slice OA n oc,.slice TA n tc] 28 (0,0)))/\Nt.WX r j=true) (λs3 _=>n-(intOf s3).toNat)
 case atStart=>exact⟨0,by go_num,by omega,Hd ⟨P6.out,K3.out⟩,rfl⟩
 case round=>
  obtain⟨j,rfl,hj,HR,xY⟩:=hrel;clear K3 P6;have y0:wr.cell? (Ad w.heap.size 0)=some (Iv (n:Int)):=by rw[HNR.out];exact AB HR.out.2 0 rfl
  by_cases EK:j<n
  ·(have Yp:(j:Int)<(n:Int):=by omega);have q3:=AB HR.out.2 3 rfl;have jU:=AB HR.out.2 19 rfl;have iQ:=AB HR.out.2 20 rfl;obtain⟨b,o,rfl,QQ,GG⟩:=(HO.out.below HR.out.1 (Lr _)).2.2 Ft;obtain⟨b',o',rfl,A7y,nF⟩:=(HT.out.below HR.out.1 (Lr _)).2.2 Ft;have c1:=GG j EK;have c2:=nF j EK;(refine K1T ?_;intro NS NO ED x hx y hy);rw[hx] at c1;rw[hy] at c2;have ED':=Hd (ED.out.trans (by rw[hx,hy]));clear ED hx hy GG nF HO HT xY
   by_cases h5: -3600000<=x/\x<=3600000
   ·by_cases h6: -r.CY<=y/\y<=r.CY
    ·have W5:=Hd (λW=>QW x (-3600000) 3600000 W h5);have W6:=Hd (λW=>QW y (-r.CY) r.CY W h6);have E:=Hd (show Nt.WX r (j+1)=true by rw[NS.out,ED'.out];exact IU ⟨h5,h6⟩);clear NS NO ED' h5 h6;go_wp2_with fail;go_quiet ((go_at_call 34;first|(with_reducible refine(show Calls prog 34 #[Iv x,Iv (-3600000),Iv 3600000] _ _ from ?_);exact Yb ((W5.out _).mono λe w' h=>⟨h.1,h.2.symm⟩))|(exact Yb ((W6.out _).mono λe w' h=>⟨h.1,h.2.symm⟩))));exact J7
    ·have W5:=Hd (λW=>QW x (-3600000) 3600000 W h5);have W6:=Hd (λW=>iH y (-r.CY) r.CY W h6);have E:=Hd (show Nt.WX r n=false from NO.out Br);clear NS NO ED' h5 h6;go_wp2_with fail;go_quiet ((go_at_call 34;first|(with_reducible refine(show Calls prog 34 #[Iv x,Iv (-3600000),Iv 3600000] _ _ from ?_);exact Yb ((W5.out _).mono λe w' h=>⟨h.1,h.2.symm⟩))|(exact Yb ((W6.out _).mono λe w' h=>⟨h.1,h.2.symm⟩))));exact Iq
   ·have W5:=Hd (λW=>iH x (-3600000) 3600000 W h5);have E:=Hd (show Nt.WX r n=false from NO.out Bs);clear NS NO ED' h5;go_wp2_with fail;go_quiet ((go_at_call 34;exact Yb ((W5.out _).mono λe w' h=>⟨h.1,h.2.symm⟩)));exact Iq
  ·(obtain rfl:j=n:=by omega);(have Yp:¬(j:Int)<(j:Int):=by omega);go_wp2_with fail;go_ret;exact⟨rfl,HR.out.1⟩
theorem Zy(r:Nt.Ru)(n m:Nat)(OA:Option Addr)(oc:Nat)(TA:Option Addr)(tc:Nat)(w:World)(hn:r.CJ.length=n)(hm:r.BL.length=m)(ho:Ri w w.heap.size OA n r.CJ)(ht:Ri w w.heap.size TA m r.BL):
  Calls prog 10 #[Rz r OA n oc TA m tc] w (IL (.bool (Nt.MP r)) w):=by
 have no:∀P:Prop,¬P->(Nt.MP r=true->P)->Nt.MP r=false:=λP hp h=>by
  cases hv:Nt.MP r
  ·rfl
  ·exact absurd (h hv) hp
 by_cases h1:(1<=r.n/\r.n<=64)/\(1<=r.again/\r.again<=60000)/\(1<=r.step/\r.step<=1000)/\(0<=r.CY/\r.CY<=100000)/\AL.S9 r.lost r.ret r.desc r.late r.every=true
 ·by_cases h2:AN.MP r.up=true/\AN.MP r.dn=true/\r.up.seed<=1099511627776/\r.dn.seed<=1099511627776/\(n:Int)=r.n/\(m:Int)=r.n
  ·obtain⟨g1,g2,g3,g4,g5⟩:=h1;obtain⟨k1,k2,k3,k4,k5,k6⟩:=h2;(have GK:m=n:=by omega);subst GK;(have e:Nt.MP r=Nt.WX r m:=by unfold Nt.MP;(have h0:Nt.iw r=true:=by unfold Nt.iw;exact IU ⟨g1,g2,g3,g4,by omega,by omega⟩);rw[h0,g5,k1,k2,hn,IU (by omega:max r.up.seed r.dn.seed<=1099511627776)];simp);rw[e];exact pK r m OA oc TA tc w g1 g2 g3 g4 g5 k1 k2 k3 k4 k5 ho ht
  ·rw[no _ h2 (λhv=>by
    obtain⟨a0,a1,a2,a3,a4,a5,a6⟩:=Nt.Sr hv;obtain⟨_,_,_,_,b5,b6⟩:=Z8 a0;exact⟨a3,a4,a5,a6,by omega,by omega⟩)]
   exact lL r n m OA oc TA tc w h1.1 h1.2.1 h1.2.2.1 h1.2.2.2.1 h1.2.2.2.2 h2
 ·rw[no _ h1 (λhv=>by
   obtain⟨a0,a1,a2,a3,a4,a5,a6⟩:=Nt.Sr hv;obtain⟨b1,b2,b3,b4,b5,b6⟩:=Z8 a0;exact⟨b1,b2,b3,b4,a2⟩)]
  exact lM r n m OA oc TA tc w h1
end
end
section
open RowKit
structure RN where
 OA:Option Addr
 oc:Nat
 TA:Option Addr
 tc:Nat
 D:Option Addr
 dc:Nat
 A:Option Addr
 ac:Nat
 S:Option Addr
 sc:Nat
 PA:Option Addr
 pc:Nat
 UA:Option Addr
 uc:Nat
 VA:Option Addr
 vc:Nat
 KA:Option Addr
 kc:Nat
 BA:Option Addr
 bc:Nat
 EA:Option Addr
 ec:Nat
 us:List (Option Addr×Nat)
 ds:List (Option Addr×Nat)
 av:Nat->Prop
def lO(m:RN)(s:Nt.St):List Value:=
 [Iv s.r.n,Iv s.r.again,Iv s.r.step,Iv s.r.CY,Iv s.r.lost,Iv s.r.ret,Iv s.r.desc,Iv s.r.late,Iv s.r.every,
  Iv s.r.up.BY,Iv s.r.up.AY,Iv s.r.up.least,Iv s.r.up.BU,Iv s.r.up.seed,Iv s.r.dn.BY,Iv s.r.dn.AY,Iv s.r.dn.least,Iv s.r.dn.BU,Iv s.r.dn.seed,
  .slice m.OA s.r.CJ.length m.oc,.slice m.TA s.r.BL.length m.tc,Iv s.now,Iv s.steps,
  Iv s.st.again,Iv s.st.st,Iv s.st.now,Iv s.st.seq,.bool s.st.some,Iv s.st.prog,Iv s.st.cmd,.slice m.D (AJ.data s.st).length m.dc,Iv s.st.BB,.slice m.A s.st.n m.ac,.slice m.S s.st.n m.sc,
  .slice m.PA s.cr.length m.pc,.slice m.UA s.cr.length m.uc,.slice m.VA s.cr.length m.vc,.slice m.KA s.cr.length m.kc,.slice m.BA (s.cr.length+1) m.bc,.slice m.EA s.ev.length m.ec]
def IS(ru:AN.Ru)(f:Nt.Cr->AN.St):Nat->List Nt.Cr->List (Option Addr×Nat)->List Value
 |i,c::cs,a::qs=>OY (Nt.JQ ru i) (f c) a.1 (f c).u.length a.2++IS ru f (i+1) cs qs
 |_,_,_=>[]
def PZ(cs:List Nt.Cr):List Value:=cs.flatMap (λc=>LJ c.p)
def eJ(s:Nt.St):List Int:=s.ss::s.cr.map (·.s)
structure ij(w:World)(base p:Nat)(X:Nat->Prop)(m:RN)(s:Nt.St):Prop where
 BM:w.heap[p]?=some (.cells (lO m s).toArray 55 (0,0))
 st:Q9 w m.D m.dc m.A m.ac m.S m.sc s.st
 CJ:Row w base 3 1 m.OA s.r.CJ.length m.oc (Rt s.r.CJ)
 BL:Row w base 3 1 m.TA s.r.BL.length m.tc (Rt s.r.BL)
 R9:Row w base 101 24 m.PA s.cr.length m.pc (PZ s.cr)
 QF:Row w base 136 11 m.UA s.cr.length m.uc (IS s.r.up (·.up) 0 s.cr m.us)
 QD:Row w base 136 11 m.VA s.cr.length m.vc (IS s.r.dn (·.dn) 0 s.cr m.ds)
 RQ:Row w base 4 1 m.KA s.cr.length m.kc (GY (s.cut.drop 1))
 S4:Row w base 3 1 m.BA (s.cr.length+1) m.bc (Rt (eJ s))
 GM:Row w base 58 3 m.EA s.ev.length m.ec (UQ s.ev)
 len:m.us.length=s.cr.length/\m.ds.length=s.cr.length
 uw:∀i,i<s.cr.length->IW w X (m.us.getD i (none,0)).1 (Nt.at_ s i).up.u.length (Nt.at_ s i).up.u/\(Nt.at_ s i).up.u.length<=(m.us.getD i (none,0)).2
 dw:∀i,i<s.cr.length->IW w X (m.ds.getD i (none,0)).1 (Nt.at_ s i).dn.u.length (Nt.at_ s i).dn.u/\(Nt.at_ s i).dn.u.length<=(m.ds.getD i (none,0)).2
 ge:base<=p
theorem fy(ru:AN.Ru)(f:Nt.Cr->AN.St):∀(i:Nat)(cs:List Nt.Cr)(qs:List (Option Addr×Nat))(c:Nt.Cr)(a:Option Addr×Nat),qs.length=cs.length->IS ru f i (cs++[c]) (qs++[a])=IS ru f i cs qs++OY (Nt.JQ ru (i+cs.length)) (f c) a.1 (f c).u.length a.2
 |i,[],[],_,_,_=>by simp[IS]
 |i,x::cs,y::qs,c,a,h=>by rw[List.cons_append,List.cons_append,IS,IS,fy ru f (i+1) cs qs c a F7,a8,List.length_cons];rw[show i+1+cs.length=i+(cs.length+1) by omega]
 |_,[],_::_,_,_,h=>by simp at h
 |_,_::_,[],_,_,h=>by simp at h
theorem vM(cs:List Nt.Cr)(c:Nt.Cr):PZ (cs++[c])=PZ cs++LJ c.p:=by simp[PZ]
theorem A2A(cs:List Nt.Cr)(i j:Nat)(hi:i<cs.length)(hj:j<24):(PZ cs)[i*24+j]?=(LJ (cs.getD i Nt.c0).p)[j]?:=by
 induction cs generalizing i with
 |nil=>exact absurd hi Fu
 |cons x l ih=>
  have e:PZ (x::l)=LJ x.p++PZ l:=rfl
  cases i with
  |zero=>rw[e,fR,PL,mj (by simpa[LJ] using hj)];rfl
  |succ i=>rw[e,vI (by simp[LJ];omega)];(have e2:(i+1)*24+j-(LJ x.p).length=i*24+j:=by simp[LJ];omega);rw[e2,ih i F3];rfl
section
variable{w w':World}{base p:Nat}{X:Nat->Prop}{m:RN}{s:Nt.St}
theorem ij.below(h:ij w base p X m s)(g:Below w.heap.size w w'):ij w' base p X m s where
 BM:=GH h.BM g
 st:=h.st.below g (Lr _)
 CJ:=h.CJ.below g (Lr _)
 BL:=h.BL.below g (Lr _)
 R9:=h.R9.below g (Lr _)
 QF:=h.QF.below g (Lr _)
 QD:=h.QD.below g (Lr _)
 RQ:=h.RQ.below g (Lr _)
 S4:=h.S4.below g (Lr _)
 GM:=h.GM.below g (Lr _)
 len:=h.len
 uw:=λi hi=>⟨(h.uw i hi).1.IE (AG.AS (S:=λ_=>False) g) (λ_ _ hf=>hf),(h.uw i hi).2⟩
 dw:=λi hi=>⟨(h.dw i hi).1.IE (AG.AS (S:=λ_=>False) g) (λ_ _ hf=>hf),(h.dw i hi).2⟩
 ge:=h.ge
end
end
section
open RowKit
attribute [local go_sem ↓] wp_at_zero wp_at_succ
section
variable{w w':World}{base p N:Nat}{X:Nat->Prop}{m:RN}{s:Nt.St}
theorem Zz(h:ij w base p X m s)(hs:Nt.Inv N s){i:Nat}(hi:i<s.cr.length):Calls prog 45 #[Pt p,Iv ((i:Int)+1)] w λe w'=>e= .returned (Iv (Nt.Sc s i))/\∃q,w'=w.drewN q:=by
 have ye:w.cell? (Ad p 19)=some (.slice m.OA s.r.CJ.length m.oc):=AB h.BM 19 rfl;have Ua:w.cell? (Ad p 20)=some (.slice m.TA s.r.BL.length m.tc):=AB h.BM 20 rfl;have Pb:w.cell? (Ad p 21)=some (Iv s.now):=AB h.BM 21 rfl;(have io:i<s.r.CJ.length:=by rw[hs.CJ];exact hi);(have ir:i<s.r.BL.length:=by rw[hs.BL];exact hi);obtain⟨g1,o1,e1,k1⟩:=h.CJ.j8 io;obtain⟨g2,o2,e2,k2⟩:=h.BL.j8 ir;rw[e1] at ye;rw[e2] at Ua;have A9p:=hs.n.2;(refine K1g ?_;intro wi wi2);(have io':(i:Int)<(s.r.CJ.length:Int):=by omega);(have ir':(i:Int)<(s.r.BL.length:Int):=by omega);have LC:=Hd (λ(W:World)=>Ck.pN (s.r.CJ.getD i 0) (s.r.BL.getD i 0) s.now W);obtain⟨x,hx⟩:=BN (s.r.CJ.getD i 0);obtain⟨y,hy⟩:=BN (s.r.BL.getD i 0);obtain⟨z,hz⟩:=BN (Nt.Sc s i);(have hz':Ck.lV x y s.now=z:=by rw[hz,hx,hy];rfl);rw[<-hx,<-hy,hz'] at LC;rw[<-hx] at k1;rw[<-hy] at k2;rw[<-hz];(have OU:(0:Int)<=(i:Int):=by omega);clear hx hy hz hz' h hs e1 e2 io ir hi;go_enter func45,ntmps45;go_upto_region 1 with fail;go_quiet ((go_at_call 90;exact Yb ((LC.out _).mono λe w' h=>⟨h.1,h.2.symm⟩)));go_wp2_with fail;go_ret;exact⟨rfl,_,rfl⟩
end
end
section
open RowKit
theorem A3p(x y z:Int)(W:World):(binOp .neq 58 (.agg #[Iv x,Iv y,Iv z]) (.agg #[Iv x,Iv y,Iv z])).run prog W= .ok (.bool false) W:=by
 simp[go_sem]
theorem A6q(x y:Int)(W:World):(binOp .neq 65 (.agg #[Iv x,Iv y]) (.agg #[Iv x,Iv y])).run prog W= .ok (.bool false) W:=by
 simp[go_sem]
theorem XU(ru:AN.Ru)(f:Nt.Cr->AN.St):∀(i0:Nat)(cs:List Nt.Cr)(qs:List (Option Addr×Nat))(i j:Nat),qs.length=cs.length->i<cs.length->j<11->(IS ru f i0 cs qs)[i*11+j]?=(OY (Nt.JQ ru (i0+i)) (f (cs.getD i Nt.c0)) (qs.getD i (none,0)).1 (f (cs.getD i Nt.c0)).u.length (qs.getD i (none,0)).2)[j]?
 |i0,c::cs,a::qs,0,j,h,hi,hj=>by rw[IS,fR,PL,mj (by simpa[OY] using hj)];rfl
 |i0,c::cs,a::qs,i+1,j,h,hi,hj=>by rw[IS,vI (by simp[OY];omega)];(have e:(i+1)*11+j-(OY (Nt.JQ ru i0) (f c) a.1 (f c).u.length a.2).length=i*11+j:=by simp[OY];omega);rw[e,XU ru f (i0+1) cs qs i j F7 F3 hj];rw[show i0+1+i=i0+(i+1) by omega];rfl
 |_,[],_::_,_,_,h,_,_=>by simp at h
 |_,_::_,[],_,_,h,_,_=>by simp at h
 |_,[],[],_,_,_,hi,_=>by simp at hi
section
variable{w w':World}{base p N:Nat}{X:Nat->Prop}{m:RN}{s:Nt.St}
theorem ij.iR(h:ij w base p X m s){i:Nat}(hi:i<s.cr.length):∃g o,m.PA=some (Ad g o)/\g<w.heap.size/\∀j u,j<24->(LJ (Nt.at_ s i).p)[j]?=some u->w.cell? (Ad g (o+(i*24+j)))=some u:=by
 obtain⟨g,o,cur,h1,_,EK,h4,_,_,_,_,hc,hf⟩:=h.R9.some_ Ft;exact⟨g,o,h1,EK,λj u hj hu=>hc (i*24+j) _ (by rw[A2A _ _ _ hi hj];exact hu)⟩
theorem zo(hs:Nt.Inv N s){i:Nat}(hi:i<s.cr.length)(w:World):
  Calls prog 44 #[.agg #[Iv (Nt.at_ s i).p.d,Iv (Nt.at_ s i).p.r,.bool (Nt.at_ s i).p.cs,Iv (Nt.at_ s i).p.lo,Iv (Nt.at_ s i).p.hi],Iv (Nt.Sc s i)] w (IL (.tuple #[.agg #[Iv (Nt.bLo s i),Iv (Nt.bHi s i)],Iv (Nt.bE s i)]) w):=
 Ck.sJ _ _ _ _ _ _ w (hs.cr i hi).p.Tc (hs.cr i hi).p.l0
end
end
section
open RowKit Shelf
attribute [local go_sem ↓] wp_at_zero wp_at_succ
attribute [local go_sem] Oper.semAt_some
theorem Ql{β:Type}(B q:Nat)(cs:Array Value)(t:TypeId):OwnFrom B (λ(_:β) W=>W.heap[q]?=some (.cells cs t (0,0))):=λs X Y row hs hg hr=>
 (hg.block q (Array.getElem?_eq_some_iff.1 hs).1 (λe=>by
  obtain⟨_,o',ho',hc'⟩:=hr q e.symm;rw[hs] at ho'
  cases ho'
  simp[Obj.isCells] at hc')).trans hs
theorem mY{B:Nat}{a:Addr}{W:World}{u:Value}(hg:a.block<B):KeepsFrom B W (W.setCell a u):=
 ⟨((QZ 0 W).setCell (Pe _) u).size,λk o hk h _=>CV h Ft u⟩
section
variable{w:World}{base ou b k p N:Nat}{X:Nat->Prop}{m:NM}{m2:RN}{s:Nt.St}
theorem lQ(h:BQ w base b m k s)(hs:Nt.Inv N s)(hr:ij w ou p X m2 s)(hN:N<=1000000000000)(stop:Int)(h1:1<=stop):
  Calls prog 16 #[Pt b,Pt p,Iv stop] w (IL (.bool true) w):=by
 obtain⟨n,hn⟩:=BN s.ev.length;(have A9j:n<=1000000000000:=by have:=hs.ev;omega);have NA:=Hd (show ∀W:World,Below w.heap.size w W->Calls prog 15 #[Pt b] W (sg m.EA n W) from λW hW=>by rw[hn];exact A0y (h.below hW) hs);have HE:=Hd (show EvR w w.heap.size m.EA n s.ev from by rw[hn];exact h.GM.reads);have HO:=Hd (show ∀a,m.EA=some a->a.spot=none from λa e=>by
  rcases h.GM.2 with⟨e',_⟩|⟨g,o,cur,e',_⟩
  ·rw[e] at e';cases e'
  ·rw[e] at e';injection e' with e';rw[e'])
 have HE2:=Hd (show EvR w w.heap.size m2.EA n s.ev from by rw[hn];exact hr.GM.reads);have HO2:=Hd (show ∀a,m2.EA=some a->a.spot=none from λa e=>by
  rcases hr.GM.2 with⟨e',_⟩|⟨g,o,cur,e',_⟩
  ·rw[e] at e';cases e'
  ·rw[e] at e';injection e' with e';rw[e'])
 (have c39:w.cell? (Ad p 39)=some (.slice m2.EA n m2.ec):=by rw[hn];exact AB hr.BM 39 rfl);have Ou:=BG hr.BM;have P39:=Hd (λ(W:World)(hW:Below w.heap.size w W)=>(hW.cell (p:=(Ad p 39)) Ou).trans c39);clear h hs hr hn c39 hN;refine(callsIn_wide (n:=5)).1 (A09 func16 rfl trivial ?_ rfl);simp only[ntmps16,cf,List.length_cons,List.length_nil,Nat.reduceAdd,Nat.reduceSub,A01,Array.replicate_zero,mA,mD,List.nil_append,List.cons_append];refine wpIn_wide.2 ?_;go_upto_region 1 with fail;generalize jn:World.alloc _ _=W0;(have r0:W0.heap[w.heap.size]?=some (.cells #[Pt p] 32 (0,0)):=by rw[<-jn];exact AI (AI (AM _ _) _) _);(have s0:W0.heap[w.heap.size+1]?=some (.cells #[Iv stop] 3 (0,0)):=by rw[<-jn];exact AI (show((w.alloc (.cells #[Pt p] 32)).alloc (.cells #[Iv stop] 3)).heap[w.heap.size+1]?=_ from BK _ _ _ Fu) _);(have b0:W0.heap[w.heap.size+1+1]?=some (.cells #[.bool false] 4 (0,0)):=by rw[<-jn];exact BK _ _ _ Fu);(have B0:Below w.heap.size w W0:=by rw[<-jn];exact(((IH w).alloc (Lr _) _).alloc Fu _).alloc Fp _);clear jn;go_wp2_with fail;refine(NA.out W0 B0).mono ?_;rintro _ W1 ⟨bx,rfl,A5B,A13,BX⟩;have r1:=GH r0 BX;have s1:=GH s0 BX;have b1:=GH b0 BX;have B1:Below w.heap.size w W1:=B0.trans (BX.mono B0.size);have wY:=A44 91 #[Pt bx];clear r0 s0 b0 B0 BX NA A5B;go_upto_region 5 with fail;clear wY;generalize hW2:World.alloc _ _=W2;obtain⟨K,hK⟩:=BN W1.heap.size;(have k2:W2.heap[K]?=some (.cells #[Iv 0] 3 (0,0)):=by rw[<-hW2,hK];exact AM _ _);(have b12:Below W1.heap.size W1 W2:=by rw[<-hW2];exact(IH W1).alloc (Lr _) _);have r2:=GH r1 b12;have s2:=GH s1 b12;have b2:=GH b1 b12;have EX:=GH A13 b12;have B2:=B1.trans (b12.mono B1.size);(have hrK:w.heap.size+1+1<K:=by rw[hK];exact BG b1);rw[<-hK];clear hW2 hK b12 r1 s1 b1 B1 A13;go_upto_region 6 with fail;have hzK:=BG k2;refine(wpIn_wide (n:=5)).1 ?_;have Vw:=tS 4 w.heap.size bx m.EA n n s.ev W2 Ft A9j B2.size EX (Reads.below HE.out B2) HO.out;have NB:=Hd B2;refine fN (F:=Fence.wide) rfl Ft (gf:=91) (lb:= #[Pt bx]) rfl trivial (enters_of func91 Ff rfl) Vw (λh k=>h.trans k)
  (λV l' o o' hl h hc=>(IH V).grown (mr V l' o') C9 (λk e=>by cases e;omega)) (λx=>rfl)
  (λpre V=>Below w.heap.size W2 V/\(V.heap[w.heap.size]?=some (.cells #[Pt p] 32 (0,0))/\(V.heap[w.heap.size+1]?=some (.cells #[Iv stop] 3 (0,0))/\(V.heap[w.heap.size+1+1]?=some (.cells #[.bool false] 4 (0,0))/\(V.heap[K]?=some (.cells #[Iv (pre.length:Nat)] 3 (0,0))/\(pre.length:Int)<stop)))))
  (λc pre V=>c= .exit 0/\(Below w.heap.size W2 V/\(V.heap[w.heap.size]?=some (.cells #[Pt p] 32 (0,0))/\(V.heap[w.heap.size+1]?=some (.cells #[Iv stop] 3 (0,0))/\(V.heap[w.heap.size+1+1]?=some (.cells #[.bool false] 4 (0,0))/\(V.heap[K]?=some (.cells #[Iv (pre.length:Nat)] 3 (0,0))/\(pre.length:Int)=stop))))))
  (λx a' V=>∃Bx,W2.heap.size<=Bx/\V.heap[Bx]?=some (.cells (jz x.2).toArray 58 (0,0))/\a'={tmps:= #[Pt b,Pt p,Iv stop,undef,Pt w.heap.size,Pt ((w.heap.size+1)),Pt ((w.heap.size+1+1)),.func (.func 91) #[] #[Pt bx],Pt K,Iv x.1,Pt Bx,Pt b,.func (.func 91) #[] #[Pt bx],.func (.func 91) #[] #[Pt bx],.bool false,.func (.func 91) #[] #[Pt bx],Iv x.1,.agg (jz x.2).toArray,undef,undef,undef,undef,undef,undef,undef,undef,undef,undef,undef,undef,undef,undef,undef,undef,undef,undef,undef,undef,undef,undef,undef,undef,undef,undef,undef,undef,undef,undef,undef,undef,undef,undef,undef,undef,undef],defers:=[]})
  ?hI ?hIx ?hPr ?hAx ?h0 ?assign ?body ?done ?stop
 case hI=>exact bS (sM B2.size B2.size) (bS (Ql _ _ _ _) (bS (Ql _ _ _ _) (bS (Ql _ _ _ _) (bS (λs X Y row hs hg hr=>Ql (β:=Unit) _ K _ _ () X Y row hs hg hr) (ownFrom_pure _ _)))))
 case hIx=>exact λc=>bS (ownFrom_pure _ _) (bS (sM B2.size B2.size) (bS (Ql _ _ _ _) (bS (Ql _ _ _ _) (bS (Ql _ _ _ _) (bS (λs X Y row hs hg hr=>Ql (β:=Unit) _ K _ _ () X Y row hs hg hr) (ownFrom_pure _ _))))))
 case hPr=>exact λpre=>Nt.PrE.own _ s.ev pre
 case hAx=>rintro a' x X Y row ⟨Bx,e1,e2,e3⟩ hg hr;exact⟨Bx,e1,Ql (β:=Unit) _ Bx _ _ () X Y row e2 hg hr,e3⟩
 case h0=>exact⟨QZ _ _,r2,s2,b2,k2,by show((0:Nat):Int)<stop;omega⟩
 case assign=>rintro l' pre ⟨xi,x1,x2,x3⟩ V Kt ⟨oS,hr,DJ,hb,hk,EK⟩ jg hKt;have Oq:=oS.size;have HPR:=Hd jg;clear jg;simp only[Nt.A1p,jz];have hwV:w.heap.size<=V.heap.size:=Lt B2.size Oq;gi_wp2;have kx:(V.alloc (.cells #[Iv x1,Iv x2,Iv x3] 58)).heap[V.heap.size]?=some (.cells #[Iv x1,Iv x2,Iv x3] 58 (0,0)):=AM _ _;have bx:Below V.heap.size V (V.alloc (.cells #[Iv x1,Iv x2,Iv x3] 58)):=(QZ V.heap.size V).alloc (Lr _) _;exact hKt _ _ (Vl bx) (bx.mono hwV) ⟨oS.trans (bx.mono hwV),GH hr bx,GH DJ bx,GH hb bx,GH hk bx,EK⟩ HPR.out ⟨V.heap.size,Oq,kx,rfl⟩
 case body=>
  rintro l' pre x a' V ⟨oS,hr,DJ,hb,hk,EK⟩ ⟨px1,px2⟩ ⟨Bx,hBx,EX,rfl⟩ hpn;obtain⟨i,e⟩:=x;simp only at px1 px2;subst px1;have Oq:=oS.size;have hwV:w.heap.size<=V.heap.size:=Lt NB.out.size Oq;have BV:Below w.heap.size w V:=NB.out.trans oS;obtain⟨k,hkk⟩:=BN pre.length;(have hkn:k<n:=by rw[hkk];exact hpn);obtain⟨g2,o2,hEA,Ts,GG⟩:=EvR.at_ (show EvR V w.heap.size m2.EA n s.ev from Reads.below HE2.out BV) HO2.out hkn;have p39:=P39.out V BV;rw[hEA] at p39;(have AbR:g2<V.heap.size:=by omega);(have GG:∀j u,(jz e)[j]?=some u->V.cell? (Ad g2 (o2+k*3+j))=some u:=by rw[px2,<-hkk];exact GG);obtain⟨x,y,z⟩:=e;have HCL:=Hd (show ∀j u,[Value.int .i64 x,Iv y,Iv z][j]?=some u->V.cell? (Ad g2 (o2+k*3+j))=some u from GG);rw[<-hkk] at hk EK;rw[<-hkk];have EX:V.heap[Bx]?=some (.cells #[Iv x,Iv y,Iv z] 58 (0,0)):=EX;have HK:=Hd hkk;have wk:=GF ((k:Int)+1) Ft;(have kN:(k:Int)<(n:Int):=by omega);(have kN2:¬(n:Int)<=(k:Int):=by omega);(have km3:¬n<=k:=by omega);(have kk1:(0:Int)<=(k:Int):=by omega);have ck:=AB (l:=[_]) hk 0 rfl;have cr:=AB (l:=[_]) hr 0 rfl;clear hkk px2 GG hEA hpn Vw;simp only[jz];gi_wp2;(try refine wpIn_block ?_);refine Y5 (S:=λw'=>w'.cell? (Ad K 0)=some (Iv k)/\w'.cell? (Ad w.heap.size 0)=some (Pt p)/\w'.cell? (Ad p 39)=some (.slice (some (Ad g2 o2)) n m2.ec)/\w'.heap[Bx]?=some (.cells #[Iv x,Iv y,Iv z] 58 (0,0))/\∀j u,[Value.int .i64 x,Iv y,Iv z][j]?=some u->w'.cell? (Ad g2 (o2+k*3+j))=some u) Ff Ff (by rintro⟨a,w,h⟩;exact h) ⟨ck,cr,p39,EX,HCL.out⟩ ?_;intro h0;refine GI (i:=0) (v:= ?_) rfl Ff Ff Ff (λ_ _ _ h=>h) (Or.inl ⟨by rfl,?_⟩) h0 ?_;rotate_left
  focus(intro w' BS;obtain⟨c1,c2,c3,U5,U4⟩:=BS;go_simp;(try with_reducible rfl))
  refine PU ?_;refine GI (i:=1) (v:= ?_) rfl Ff Ff Ff (λ_ _ _ h=>h) (Or.inl ⟨by rfl,?_⟩) h0 ?_;rotate_left
  focus(intro w' BS;obtain⟨c1,c2,c3,U5,U4⟩:=BS;go_simp;(try with_reducible rfl))
  refine PU ?_;refine GI (i:=2) (v:= .bool false) rfl Ff Ff Ff (λ_ _ _ h=>h) (Or.inl ⟨by rfl,?_⟩) h0 ?_
  focus(intro w' BS;obtain⟨c1,c2,c3,U5,U4⟩:=BS;go_simp;(try simp only[ME km3,sK]);(try with_reducible rfl);(try simp);done)
  refine PU ?_;refine GI (i:=3) (v:= ?_) rfl Ff Ff Ff (λ_ _ _ h=>h) (Or.inl ⟨by rfl,?_⟩) h0 ?_;rotate_left
  focus(intro w' BS;obtain⟨c1,c2,c3,U5,U4⟩:=BS;go_simp;(try with_reducible rfl))
  refine PU ?_;refine GI (i:=4) (v:= ?_) rfl Ff Ff Ff (λ_ _ _ h=>h) (Or.inl ⟨by rfl,?_⟩) h0 ?_;rotate_left
  focus(intro w' BS;obtain⟨c1,c2,c3,U5,U4⟩:=BS;go_simp;(try with_reducible rfl))
  refine PU ?_;refine GI (i:=5) (v:= ?_) rfl Ff Ff Ff (λ_ _ _ h=>h) (Or.inl ⟨by rfl,?_⟩) h0 ?_;rotate_left
  focus(intro w' BS;obtain⟨c1,c2,c3,U5,U4⟩:=BS;go_simp;(try with_reducible rfl))
  refine PU ?_;refine GI (i:=6) (v:= ?_) rfl Ff Ff Ff (λ_ _ _ h=>h) (Or.inl ⟨by rfl,?_⟩) h0 ?_;rotate_left
  focus(intro w' BS;obtain⟨c1,c2,c3,U5,U4⟩:=BS;go_simp;(try with_reducible rfl))
  refine PU ?_;refine GI (i:=7) (v:= ?_) rfl Ff Ff Ff (λ_ _ _ h=>h) (Or.inl ⟨by rfl,?_⟩) h0 ?_;rotate_left
  focus(intro w' BS;obtain⟨c1,c2,c3,U5,U4⟩:=BS;go_simp;(try with_reducible rfl))
  refine PU ?_;refine GI (i:=8) (v:= ?_) rfl Ff Ff Ff (λ_ _ _ h=>h) (Or.inl ⟨by rfl,?_⟩) h0 ?_;rotate_left
  focus(intro w' BS;obtain⟨c1,c2,c3,U5,U4⟩:=BS;go_simp;(try with_reducible rfl))
  refine PU ?_;refine GI (i:=9) (v:= ?_) rfl Ff Ff Ff (λ_ _ _ h=>h) (Or.inl ⟨by rfl,?_⟩) h0 ?_;rotate_left
  focus(intro w' BS;obtain⟨c1,c2,c3,U5,U4⟩:=BS;go_simp;(try with_reducible rfl))
  refine PU ?_;refine GI (i:=10) (v:= .bool false) rfl Ff Ff Ff (λ_ _ _ h=>h) (Or.inl ⟨by rfl,?_⟩) h0 ?_
  focus(intro w' BS;obtain⟨c1,c2,c3,U5,U4⟩:=BS;go_simp;(try simp only[ME km3,sK]);(try with_reducible rfl);(try simp);done)
  refine PU ?_;refine GI (i:=11) (v:= ?_) rfl Ff Ff Ff (λ_ _ _ h=>h) (Or.inl ⟨by rfl,?_⟩) h0 ?_;rotate_left
  focus(intro w' BS;obtain⟨c1,c2,c3,U5,U4⟩:=BS;go_simp;(try with_reducible rfl))
  refine PU ?_;refine GI (i:=12) (v:= ?_) rfl Ff Ff Ff (λ_ _ _ h=>h) (Or.inl ⟨by rfl,?_⟩) h0 ?_;rotate_left
  focus(intro w' BS;obtain⟨c1,c2,c3,U5,U4⟩:=BS;go_simp;(try with_reducible rfl))
  refine PU ?_;refine GI (i:=13) (v:= .agg #[Iv x,Iv y,Iv z]) rfl Ff Ff Ff (λ_ _ _ h=>h) (CW Fk 58 _ rfl Bx rfl 58 _ (0,0) _ (λw' hS=>hS.2.2.2.1) underlying58 rfl Ff) h0 ?_;refine PU ?_;refine GI (i:=14) (v:= ?_) rfl Ff Ff Ff (λ_ _ _ h=>h) (Or.inl ⟨by rfl,?_⟩) h0 ?_;rotate_left
  focus(intro w' BS;obtain⟨c1,c2,c3,U5,U4⟩:=BS;go_simp;(try with_reducible rfl))
  refine PU ?_;refine GI (i:=15) (v:= ?_) rfl Ff Ff Ff (λ_ _ _ h=>h) (Or.inl ⟨by rfl,?_⟩) h0 ?_;rotate_left
  focus(intro w' BS;obtain⟨c1,c2,c3,U5,U4⟩:=BS;go_simp;(try with_reducible rfl))
  refine PU ?_;refine GI (i:=16) (v:= ?_) rfl Ff Ff Ff (λ_ _ _ h=>h) (Or.inl ⟨by rfl,?_⟩) h0 ?_;rotate_left
  focus(intro w' BS;obtain⟨c1,c2,c3,U5,U4⟩:=BS;go_simp;(try with_reducible rfl))
  refine PU ?_;refine GI (i:=17) (v:= ?_) rfl Ff Ff Ff (λ_ _ _ h=>h) (Or.inl ⟨by rfl,?_⟩) h0 ?_;rotate_left
  focus(intro w' BS;obtain⟨c1,c2,c3,U5,U4⟩:=BS;go_simp;(try with_reducible rfl))
  refine PU ?_;refine GI (i:=18) (v:= ?_) rfl Ff Ff Ff (λ_ _ _ h=>h) (Or.inl ⟨by rfl,?_⟩) h0 ?_;rotate_left
  focus(intro w' BS;obtain⟨c1,c2,c3,U5,U4⟩:=BS;go_simp;(try with_reducible rfl))
  refine PU ?_;refine GI (i:=19) (v:= ?_) rfl Ff Ff Ff (λ_ _ _ h=>h) (Or.inl ⟨by rfl,?_⟩) h0 ?_;rotate_left
  focus(intro w' BS;obtain⟨c1,c2,c3,U5,U4⟩:=BS;go_simp;(try with_reducible rfl))
  refine PU ?_;refine GI (i:=20) (v:= .agg #[Iv x,Iv y,Iv z]) rfl Ff Ff Ff (λ_ _ _ h=>h) (VI Fk 58 _ rfl g2 (o2+k*3) rfl _ _ (λw' hS=>hS.2.2.2.2) underlying58 rfl Ff) h0 ?_;refine PU ?_;refine GI (i:=21) (v:= .bool false) rfl Ff Ff Ff (λ_ _ _ h=>h) (Or.inl ⟨by rfl,?_⟩) h0 ?_
  focus(intro w' BS;obtain⟨c1,c2,c3,U5,U4⟩:=BS;have en:=A3p x y z;go_simp;(try simp only[ME km3,sK]);(try with_reducible rfl);(try simp);done)
  refine PU ?_;refine GI (i:=22) (v:= ?_) rfl Ff Ff Ff (λ_ _ _ h=>h) (Or.inl ⟨by rfl,?_⟩) h0 ?_;rotate_left
  focus(intro w' BS;obtain⟨c1,c2,c3,U5,U4⟩:=BS;go_simp;(try with_reducible rfl))
  refine PU ?_;refine RJ Ff ?_ _;have bV5:Below V.heap.size V V.drew:=(IH V).drew;generalize V.drew=w5 at bV5⊢;have YR:=GH hk bV5;have hs5:=GH DJ bV5;have Vn:=GH hr bV5;have LM:=GH hb bV5;have hB5:Below w.heap.size W2 w5:=oS.trans (bV5.mono hwV);have cG5:=AB (l:=[_]) YR 0 rfl;have fG5:=AE YR 0;have cS5:=AB (l:=[_]) (CV (a:=(Ad K 0)) hs5 (by show w.heap.size+1≠K;omega) (Iv ((k:Int)+1))) 0 rfl;have cN5:=AB (l:=[_]) (AP YR 0 (Iv ((k:Int)+1))) 0 rfl;(have hlen:∀e:Nt.NE,(((pre++[e]).length:Nat):Int)=(k:Int)+1:=λe=>by rw[TW,List.length_singleton,<-HK.out];omega);have HLN:=Hd hlen;have KB5:=Hd (show Below w.heap.size V (w5.setCell (Ad K 0) (Iv ((k:Int)+1))) from(bV5.mono hwV).setCell (p:=(Ad K 0)) (by show w.heap.size<=K;omega) _);have K5:=Hd (show KeepsFrom W2.heap.size V (w5.setCell (Ad K 0) (Iv ((k:Int)+1))) from(Vl (B:=W2.heap.size) bV5).trans (mY (by show K<W2.heap.size;omega)));have I5:=Hd (show Below w.heap.size W2 (w5.setCell (Ad K 0) (Iv ((k:Int)+1)))/\(w5.setCell (Ad K 0) (Iv ((k:Int)+1))).heap[w.heap.size]?=some (.cells #[Pt p] 32 (0,0))/\(w5.setCell (Ad K 0) (Iv ((k:Int)+1))).heap[w.heap.size+1]?=some (.cells #[Iv stop] 3 (0,0))/\(w5.setCell (Ad K 0) (Iv ((k:Int)+1))).heap[w.heap.size+1+1]?=some (.cells #[.bool false] 4 (0,0))/\(w5.setCell (Ad K 0) (Iv ((k:Int)+1))).heap[K]?=some (.cells #[Iv ((k:Int)+1)] 3 (0,0)) from⟨hB5.setCell (p:=(Ad K 0)) (by show w.heap.size<=K;omega) _,CV Vn (by show w.heap.size≠K;omega) _,CV hs5 (by show w.heap.size+1≠K;omega) _,CV LM (by show w.heap.size+1+1≠K;omega) _,AP YR 0 _⟩);have HLT:=Hd EK;clear h0 p39 EX hk YR hs5 Vn LM hB5 hlen DJ hr hb EK ck cr
  by_cases qT:(k:Int)+1=stop
  ·(have zb:(((k:Int)+1)==stop)=true:=by simp[qT]);have HBR:=Hd qT;clear qT;gi_wp2;obtain⟨i1,i2,i3,i4,i5⟩:=I5.out;refine⟨K5.out,rfl,i1,i2,i3,i4,?_,?_⟩
   ·rw[HLN.out];exact i5
   ·rw[HLN.out];exact HBR.out
  ·(have zb:(((k:Int)+1)==stop)=false:=by simp[qT]);have HBR:=Hd qT;clear qT;gi_wp2;obtain⟨i1,i2,i3,i4,i5⟩:=I5.out;refine⟨K5.out,KB5.out,i1,i2,i3,i4,?_,?_⟩
   ·rw[HLN.out];exact i5
   ·rw[HLN.out];have:=HBR.out;have:=HLT.out;omega
 case stop=>rintro D c' pre V hD hsp ⟨rfl,oS,hr,DJ,hb,hk,EK⟩ hDf;refine wpIn_wide.2 ?_;(have hc:¬((n:Nat):Int)<stop:=by omega);rw[EK] at hk;(refine K1a ?_;clear hDf hk hr DJ hb EK oS Vw;intro BV HD HB HDF p39 ck cr cst cb fb A5u A0W A5t A5s);go_wp2_with fail;go_region_held3 (λw'=>w'.cell? ⟨K,0,none⟩=some (Iv stop)/\w'.cell? ⟨w.heap.size+1,0,none⟩=some (Iv stop)/\w'.cell? ⟨w.heap.size,0,none⟩=some (Pt p)/\w'.cell? ⟨p,39,none⟩=some (.slice m2.EA n m2.ec)) (first|(refine⟨?_,?_,?_,?_⟩<;>simp[go_sem, *];done)|go_keep) (fail);exact Hs
 case done=>rintro D ys V hD hys ⟨oS,hr,DJ,hb,hk,EK⟩ hDf;rw[hys] at hk EK;have hc:((n:Nat):Int)<stop:=EK;(refine K1a ?_;clear hDf hk hr DJ hb EK oS Vw;intro BV HD HB HDF p39 ck cr cst cb fb A5u A0W A5t A5s);go_wp2_with fail;go_region_held3 (λw'=>w'.cell? ⟨K,0,none⟩=some (Iv (n:Int))/\w'.cell? ⟨w.heap.size+1,0,none⟩=some (Iv stop)/\w'.cell? ⟨w.heap.size,0,none⟩=some (Pt p)/\w'.cell? ⟨p,39,none⟩=some (.slice m2.EA n m2.ec)) (first|(refine⟨?_,?_,?_,?_⟩<;>simp[go_sem, *];done)|go_keep) (fail);exact Hs
end
end
section
open RowKit
attribute [local go_sem ↓] wp_at_zero wp_at_succ
theorem Row.rin{w:World}{base n c:Nat}{A:Option Addr}{l:List Nat}(h:Row w base 3 1 A n c (l.map (λ(i:Nat)=>Iv i)))(hl:∀x∈l,x<=64):Ri w w.heap.size A n (l.map (λ(i:Nat)=>(i:Int))):=by
 have hlen:=h.1;rw[WW,Vs] at hlen;refine⟨by rw[WW];exact hlen,λy hy=> ?_,λhn=> ?_⟩
 ·simp only[cz] at hy;obtain⟨x,hx,rfl⟩:=hy;have:=hl x hx;omega
 ·obtain⟨g,o,cur,rfl,_,hg,_,_,_,_,_,DD,_⟩:=h.some_ hn;refine⟨g,o,rfl,hg,λi hi=>DD i _ ?_⟩;rw[TV,Gg Ft];simp[List.getD,Gg (show i<l.length by omega)]
section
variable{w:World}{base ou b k p N:Nat}{X:Nat->Prop}{m:NM}{m2:RN}{s:Nt.St}
theorem fD(h:BQ w base b m k s)(hs:Nt.Inv N s)(hr:ij w ou p X m2 s)(hN:N<=1000000000000):
  Calls prog 14 #[Pt b,Pt p] w (IL (.bool true) w):=by
 obtain⟨n,hn⟩:=BN s.cr.length;(have YO:1<=n:=by have:=hs.n;omega);(have QK:n<=64:=by have:=hs.n;omega);obtain⟨L,hL⟩:=BN s.ev.length;(have AbU:L<=1000000000000:=by have:=hs.ev;omega);have YQ:=Up s.st hs.st;obtain⟨n9,gF⟩:=BN ((AJ.EC s.st).length);(have AbV:n9<=64:=by omega);obtain⟨dl,GZ⟩:=BN ((AJ.data s.st).length);obtain⟨sn,ZJ⟩:=BN s.st.n;have NW:=Hd (λ(W:World)(hW:Below w.heap.size w W)=>mK (h.below hW) hs.n.1);have SA:=Hd (λ(W:World)(hW:Below w.heap.size w W)=>Ye (h.below hW) hs);have MS:=Hd (show ∀W:World,Below w.heap.size w W->Calls prog 30 #[Pt b] W (TJ 3 1 n9 ((AJ.EC s.st).map (λ(i:Nat)=>Iv i)) W) from λW hW=>by rw[gF];exact Yg (h.below hW) hs);have RM:=Hd (show ∀W:World,Below w.heap.size w W->Calls prog 42 #[.agg #[Iv s.st.again,Iv s.st.st,Iv s.st.now,Iv s.st.seq,.bool s.st.some,Iv s.st.prog,Iv s.st.cmd,.slice m2.D dl m2.dc,Iv s.st.BB,.slice m2.A sn m2.ac,.slice m2.S sn m2.sc]] W (TJ 3 1 n9 ((AJ.EC s.st).map (λ(i:Nat)=>Iv i)) W) from λW hW=>by
  rw[gF,ZJ];exact Sa s.st hs.st m2.D dl m2.dc m2.A m2.ac m2.S s.st.n m2.sc W (hr.below hW).st.ar)
 have SI:=Hd (λ(W:World)(A5 A6:Option Addr)(c5 c6:Nat)(h5:Row W w.heap.size 3 1 A5 n9 c5 ((AJ.EC s.st).map (λ(i:Nat)=>Iv i)))(h6:Row W w.heap.size 3 1 A6 n9 c6 ((AJ.EC s.st).map (λ(i:Nat)=>Iv i)))=>show Calls prog 41 #[.slice A5 n9 c5,.slice A6 n9 c6] W λe w'=>e= .returned (.bool true)/\∃q,w'=W.drewN q from by
  have:=uS A5 A6 n9 n9 c5 c6 _ _ W Ft Ft (h5.rin (λx hx=>(YQ.2 x hx).2)) (h6.rin (λx hx=>(YQ.2 x hx).2));rw[IU rfl] at this;exact this)
 have PI:=Hd (λ(W:World)(hW:Below w.heap.size w W)(i:Nat)(hi:i<n)=>cQ (h.below hW) hs (i:=i) Ec);have PO:=Hd (λ(W:World)(hW:Below w.heap.size w W)=>vT (h.below hW) hs 0 Ft);have LI:=Hd (λ(W:World)(hW:Below w.heap.size w W)(i:Nat)(hi:i<n)=>mM (h.below hW) hs (i:=i) Ec);have LO:=Hd (λ(W:World)(hW:Below w.heap.size w W)=>qi (h.below hW) hs ((n:Int)+1) Ft);have BI:=Hd (λ(W:World)(hW:Below w.heap.size w W)(i:Nat)(hi:i<n)=>mS (h.below hW) hs (i:=i) Ec);have RL:=Hd (λ(W:World)(hW:Below w.heap.size w W)(i:Nat)(hi:i<n)=>Zz (hr.below hW) hs (i:=i) Ec);have RA:=Hd (λ(W:World)(i:Nat)(hi:i<n)=>zo hs (i:=i) Ec W);have EV:=Hd (λ(W:World)(hW:Below w.heap.size w W)=>lQ (h.below hW) hs (hr.below hW) hN ((L:Int)+1) Ft);have Ou:=BG hr.BM;have HP:=Hd Ou;(have hrn:s.r.n=(n:Int):=by rw[hn];exact hs.rn);(have q0:w.cell? (Ad p 0)=some (Iv n):=by rw[<-hrn];exact AB hr.BM 0 rfl);have q21:w.cell? (Ad p 21)=some (Iv s.now):=AB hr.BM 21 rfl;have q23:w.cell? (Ad p 23)=some (Iv s.st.again):=AB hr.BM 23 rfl;have q24:w.cell? (Ad p 24)=some (Iv s.st.st):=AB hr.BM 24 rfl;have q25:w.cell? (Ad p 25)=some (Iv s.st.now):=AB hr.BM 25 rfl;have q26:w.cell? (Ad p 26)=some (Iv s.st.seq):=AB hr.BM 26 rfl;have q27:w.cell? (Ad p 27)=some (.bool s.st.some):=AB hr.BM 27 rfl;have q28:w.cell? (Ad p 28)=some (Iv s.st.prog):=AB hr.BM 28 rfl;have q29:w.cell? (Ad p 29)=some (Iv s.st.cmd):=AB hr.BM 29 rfl;(have q30:w.cell? (Ad p 30)=some (.slice m2.D dl m2.dc):=by rw[GZ];exact AB hr.BM 30 rfl);have q31:w.cell? (Ad p 31)=some (Iv s.st.BB):=AB hr.BM 31 rfl;(have q32:w.cell? (Ad p 32)=some (.slice m2.A sn m2.ac):=by rw[ZJ];exact AB hr.BM 32 rfl);(have q33:w.cell? (Ad p 33)=some (.slice m2.S sn m2.sc):=by rw[ZJ];exact AB hr.BM 33 rfl);(have q34:w.cell? (Ad p 34)=some (.slice m2.PA n m2.pc):=by rw[hn];exact AB hr.BM 34 rfl);(have q39:w.cell? (Ad p 39)=some (.slice m2.EA L m2.ec):=by rw[hL];exact AB hr.BM 39 rfl);have Q0:=Hd (λ(W:World)(hW:Below w.heap.size w W)=>(hW.cell (p:=(Ad p 0)) Ou).trans q0);have Q34:=Hd (λ(W:World)(hW:Below w.heap.size w W)=>(hW.cell (p:=(Ad p 34)) Ou).trans q34);have Q39:=Hd (λ(W:World)(hW:Below w.heap.size w W)=>(hW.cell (p:=(Ad p 39)) Ou).trans q39);have PC:=Hd (show ∃g o,m2.PA=some (Ad g o)/\g<w.heap.size/\∀i,i<n->∀j u,j<24->(LJ (Nt.at_ s i).p)[j]?=some u->w.cell? (Ad g (o+(i*24+j)))=some u from by
  obtain⟨g,o,e,hg,_⟩:=hr.iR (i:=0) Ft;refine⟨g,o,e,hg,λi hi=> ?_⟩;obtain⟨g',o',e',_,hc⟩:=hr.iR (i:=i) Ft;rw[e] at e';injection e' with e';injection e' with e1 e2 e3;(subst e1;subst e2);exact hc)
 (have e39:(s.st.st==s.st.st)=true:=by simp);have QA:=Hd (show ∀W:World,Below w.heap.size w W->W.cell? (Ad p 21)=some (Iv s.now)/\W.cell? (Ad p 23)=some (Iv s.st.again)/\W.cell? (Ad p 24)=some (Iv s.st.st)/\W.cell? (Ad p 25)=some (Iv s.st.now)/\W.cell? (Ad p 26)=some (Iv s.st.seq)/\W.cell? (Ad p 27)=some (.bool s.st.some)/\W.cell? (Ad p 28)=some (Iv s.st.prog)/\W.cell? (Ad p 29)=some (Iv s.st.cmd)/\W.cell? (Ad p 30)=some (.slice m2.D dl m2.dc)/\W.cell? (Ad p 31)=some (Iv s.st.BB)/\W.cell? (Ad p 32)=some (.slice m2.A sn m2.ac)/\W.cell? (Ad p 33)=some (.slice m2.S sn m2.sc) from λW hW=>⟨(hW.cell (p:=(Ad p 21)) Ou).trans q21,(hW.cell (p:=(Ad p 23)) Ou).trans q23,(hW.cell (p:=(Ad p 24)) Ou).trans q24,(hW.cell (p:=(Ad p 25)) Ou).trans q25,(hW.cell (p:=(Ad p 26)) Ou).trans q26,(hW.cell (p:=(Ad p 27)) Ou).trans q27,(hW.cell (p:=(Ad p 28)) Ou).trans q28,(hW.cell (p:=(Ad p 29)) Ou).trans q29,(hW.cell (p:=(Ad p 30)) Ou).trans q30,(hW.cell (p:=(Ad p 31)) Ou).trans q31,(hW.cell (p:=(Ad p 32)) Ou).trans q32,(hW.cell (p:=(Ad p 33)) Ou).trans q33⟩);clear h hs hr hn hL YQ gF GZ ZJ hrn;go_enter func14,ntmps14;go_upto_region 1 with fail;go_region_held3 (λw'=>w'.cell? ⟨p,21,none⟩=some (Iv s.now)/\w'.cell? ⟨p,23,none⟩=some (Iv s.st.again)/\w'.cell? ⟨p,24,none⟩=some (Iv s.st.st)/\w'.cell? ⟨p,25,none⟩=some (Iv s.st.now)/\w'.cell? ⟨p,26,none⟩=some (Iv s.st.seq)/\w'.cell? ⟨p,27,none⟩=some (.bool s.st.some)/\w'.cell? ⟨p,28,none⟩=some (Iv s.st.prog)/\w'.cell? ⟨p,29,none⟩=some (Iv s.st.cmd)/\w'.cell? ⟨p,30,none⟩=some (.slice m2.D dl m2.dc)/\w'.cell? ⟨p,31,none⟩=some (Iv s.st.BB)/\w'.cell? ⟨p,32,none⟩=some (.slice m2.A sn m2.ac)/\w'.cell? ⟨p,33,none⟩=some (.slice m2.S sn m2.sc)) (first|(refine⟨?_,?_,?_,?_,?_,?_,?_,?_,?_,?_,?_,?_⟩<;>simp[go_sem, *];done)|go_keep) (first|(go_at_call 21;refine(NW.out _ (IH w).drew).mono ?_;rintro e w' ⟨rfl,rfl⟩)|(go_at_call 19;refine(SA.out _ (IH w).drew).mono ?_;rintro e w' ⟨rfl,rfl⟩)|(go_at_call 30;refine(MS.out _ (IH w).drew).mono ?_;rintro e w5 ⟨A5,c5,rfl,Vn,LM⟩;have JD:=Hd (show Below w.heap.size w w5 from(IH w).drew.trans LM);obtain⟨y21,y23,y24,y25,y26,y27,y28,y29,y30,y31,y32,y33⟩:=QA.out w5 JD.out;have yk:=Hd (show Row w5 w.heap.size 3 1 A5 n9 c5 _ from Vn);clear Vn LM)|(go_at_call 42;refine(RM.out _ JD.out).mono ?_;rintro e w6 ⟨A6,c6,rfl,hr6,Se⟩;have Vh:=JI JD Se;obtain⟨z21,z23,z24,z25,z26,z27,z28,z29,z30,z31,z32,z33⟩:=QA.out w6 Vh.out;have yj:=Hd (hr6.more (base':=w.heap.size) JD.out.size);have A8Q:=Hd (yk.out.below Se (Lr _));clear hr6 Se)|(go_at_call 41;refine(SI.out _ _ _ _ _ A8Q.out yj.out).mono ?_;rintro e w7 ⟨rfl,q7,rfl⟩));go_wp2_with fail;have T3:=Hd (show Below w.heap.size w (w6.drewN q7) from below_drewN Vh.out q7);clear q21 q23 q24 q25 q26 q27 q28 q29 q30 q31 q32 q33 y21 y23 y24 y25 y26 y27 y28 y29 y30 y31 y32 y33 z21 z23 z24 z25 z26 z27 z28 z29 z30 z31 z32 z33 q0 q34 q39 yk yj A8Q JD Vh NW SA MS RM SI;generalize w6.drewN q7=W7 at*;go_loopw[5] (λs5 wr=>∃(i:Nat),s5=Iv ((i:Int)+1)/\i<=n/\Hid (Below w.heap.size w wr)) (λs5 _=>n+1-(intOf s5).toNat)
 case atStart=>exact⟨0,rfl,by omega,T3⟩
 case round=>
  obtain⟨i,rfl,hi,HB⟩:=hrel;have q0r:=Q0.out wr HB.out;(have wi:IntKind.i64.wrap ((i:Int)+1-1)=(i:Int):=by rw[GF _ Ft];omega);have wi2:=GF ((i:Int)+1+1) Ft;have wi3:IntKind.i64.wrap (i:Int)=(i:Int):=GF _ Ft
  by_cases EK:i<n
  ·(have U3:(i:Int)+1<=(n:Int):=by omega);(have qP:(i:Int)<(n:Int):=by omega);(have OU:(0:Int)<=(i:Int):=by omega);obtain⟨g,o,hPA,hg,GG⟩:=PC.out;have R34:=Hd (show ∀W:World,Below w.heap.size w W->W.cell? (Ad p 34)=some (.slice (some (Ad g o)) n m2.pc) from λW hW=>by rw[<-hPA];exact Q34.out W hW);have CL:=Hd (λ(W:World)(hW:Below w.heap.size w W)(j:Nat)(u:Value)(hj:j<24)(hu:(LJ (Nt.at_ s i).p)[j]?=some u)=>(hW.cell (p:=(Ad g (o+(i*24+j)))) hg).trans (GG i EK j u hj hu));clear GG hPA;go_upto_region 9 with(first|(go_at_call 22;refine(PI.out _ HB.out i EK).mono ?_;rintro e w' ⟨rfl,rfl⟩)|(go_at_call 43;refine(LI.out _ HB.out i EK).mono ?_;rintro e w' ⟨rfl,qq,rfl⟩)|(go_at_call 20;refine(BI.out _ (below_drewN HB.out qq) i EK).mono ?_;rintro e w3 ⟨rfl,JZ⟩;have P6:=Hd (show Below w.heap.size w w3 from(below_drewN HB.out qq).trans (JZ.mono (below_drewN HB.out qq).size));clear JZ));generalize hW9:World.alloc w3 _=W9;obtain⟨T10,A5F⟩:=BN w3.heap.size;(have Q10':W9.heap[T10]?=some (.cells #[Iv (Nt.bLo s i),Iv (Nt.bHi s i)] 65 (0,0)):=by rw[<-hW9,A5F];exact AM _ _);have XK:=Hd (show Below w.heap.size w W9 from by rw[<-hW9];exact P6.out.alloc P6.out.size _);rw[<-A5F];clear hW9 A5F P6;have SS:=Hd (show ∀w':World,Below w.heap.size w w'->w'.cell? (Ad p 34)=some (.slice (some (Ad g o)) n m2.pc)/\w'.cell? (Ad g (o+i*24+6))=some (Iv (Nt.at_ s i).p.d)/\w'.cell? (Ad g (o+i*24+7))=some (Iv (Nt.at_ s i).p.r)/\w'.cell? (Ad g (o+i*24+8))=some (.bool (Nt.at_ s i).p.cs)/\w'.cell? (Ad g (o+i*24+9))=some (Iv (Nt.at_ s i).p.lo)/\w'.cell? (Ad g (o+i*24+10))=some (Iv (Nt.at_ s i).p.hi) from λW hW=>⟨R34.out W hW,CL.out W hW 6 _ Ft rfl,CL.out W hW 7 _ Ft rfl,CL.out W hW 8 _ Ft rfl,CL.out W hW 9 _ Ft rfl,CL.out W hW 10 _ Ft rfl⟩);have ST:=Hd (λ(W:World)(hW:Below w.heap.size w W)=>(show W.cell? (Ad g (o+i*24+11))=some (Iv (Nt.at_ s i).p.st) from CL.out W hW 11 _ Ft rfl));clear CL;have RA:=Hd (RA.out · i EK);obtain⟨pd,hpd⟩:=BN ((Nt.at_ s i).p.d);obtain⟨pr,jg⟩:=BN ((Nt.at_ s i).p.r);obtain⟨pcs,A5r⟩:=BN ((Nt.at_ s i).p.cs);obtain⟨plo,A5p⟩:=BN ((Nt.at_ s i).p.lo);obtain⟨phi,A5q⟩:=BN ((Nt.at_ s i).p.hi);obtain⟨bl,QQ⟩:=BN (Nt.bLo s i);obtain⟨bh,hbh⟩:=BN (Nt.bHi s i);obtain⟨be,hbe⟩:=BN (Nt.bE s i);rw[<-hpd,<-jg,<-A5r,<-A5p,<-A5q] at SS;rw[<-hpd,<-jg,<-A5r,<-A5p,<-A5q,<-QQ,<-hbh,<-hbe] at RA;rw[<-QQ,<-hbh] at Q10';rw[<-hbe];clear hpd jg A5r A5p A5q QQ hbh hbe;go_cut[12,13] from 73 to 88 (λaZ XT wx=>∃eK,aZ=Pt eK/\XT=Iv be/\wx.heap[eK]?=some (.cells #[Iv bl,Iv bh] 65 (0,0))/\wx.heap[T10]?=some (.cells #[Iv bl,Iv bh] 65 (0,0))/\Below w.heap.size w wx)
   case first=>
    have xI:T10<W9.heap.size:=BG Q10';refine Um (S:=λw'=>w'.cell? (Ad p 34)=some (.slice (some (Ad g o)) n m2.pc)/\w'.cell? (Ad g (o+i*24+6))=some (Iv pd)/\w'.cell? (Ad g (o+i*24+7))=some (Iv pr)/\w'.cell? (Ad g (o+i*24+8))=some (.bool pcs)/\w'.cell? (Ad g (o+i*24+9))=some (Iv plo)/\w'.cell? (Ad g (o+i*24+10))=some (Iv phi)) Ff (SS.out _ XK.out.drew) (λhHeld=> ?_);have JY:=Hd (show Below w.heap.size w W9.drew from XK.out.drew);have A6z:=Hd (show Below W9.heap.size W9 W9.drew from(IH W9).drew);have Q10:=Hd Q10';generalize W9.drew=V0 at*;clear Q10';refine K0Z ?_;refine K4F ?_;refine GI (i:=8) (v:= .agg #[Iv pd,Iv pr,.bool pcs,Iv plo,Iv phi]) rfl Ff Ff Ff (λ_ _ _ h=>h) (VI Fk 99 _ rfl g (o+i*24+6) rfl [Value.int .i64 pd,Iv pr,.bool pcs,Iv plo,Iv phi] _ (λw' hS=>by obtain⟨_,c0,c1,c2,c3,c4⟩:=hS;intro j u hu;match j with|0=>cases hu;exact c0|1=>cases hu;exact c1|2=>cases hu;exact c2|3=>cases hu;exact c3|4=>cases hu;exact c4|(j+5)=>simp at hu) underlying99 rfl Ff) hHeld ?_;refine PU ?_;refine JB 9 hHeld ?_;refine JB 10 hHeld ?_;refine OI (rs:=[11,16]) Ff Fu ?_;refine NH rfl (λK hK=> ?_) (NH rfl (λK hK=> ?_) Pd)
    ·go_simp;refine(RL.out _ JY.out i EK).mono ?_;rintro e wx ⟨rfl,qx,rfl⟩;have EX:Below V0.heap.size V0 (V0.drewN qx):=below_drewN (IH V0) qx;generalize V0.drewN qx=V1 at*;have Rs:=JI JY EX;have A6y:=JI A6z EX;clear EX;go_wp2_with fail;clear hHeld;refine hK.out _ _ ?_ (λhHeld=> ?_)
     ·exact SS.out _ Rs.out
     clear hK K;refine PU ?_;refine OI (rs:=[12,16]) Ff Fu ?_;refine NH rfl (λK hK=> ?_) (NH rfl (λK hK=> ?_) Pd)
     ·go_simp;refine(RA.out _).mono ?_;rintro e V2 ⟨rfl,EX⟩;have T1:=JI Rs EX;have A8M:=JI A6y EX;clear EX;go_wp2_with fail;clear hHeld;refine hK.out _ _ ?_ (λhHeld=> ?_)
      ·exact SS.out _ T1.out
      clear hK K;refine PU ?_;refine K2r ?_;refine K3E ?_;refine NH rfl (λK hK=> ?_) Pd;go_simp;have EX:Below V2.heap.size V2 (V2.alloc (.cells #[Iv 0,Iv 0] 65)):=(IH V2).alloc (Lr _) _;have n12:=AM V2 (.cells #[Iv 0,Iv 0] 65);have A15:T10<V2.heap.size:=Sv xI A8M.out.size;have eZ:w.heap.size<=V2.heap.size:=T1.out.size;generalize V2.alloc (.cells #[Iv 0,Iv 0] 65)=V3 at*;have Pn:=JI T1 EX;have A9O:=JI A8M EX;generalize V2.heap.size=eK at n12 A15 eZ⊢;have rN:=Hd n12;clear EX n12;clear hHeld;refine hK.out _ _ ?_ (λhHeld=> ?_)
      ·exact SS.out _ Pn.out
      (refine K49 ?_;clear hK K);refine NH rfl (λK hK=> ?_) Pd;(refine K34 ?_;intro rG rF rk rj);have nK:=(Pn.out.setCell (p:=(Ad eK 0)) eZ (Iv bl)).setCell (p:=(Ad eK 1)) eZ (Iv bh);clear hHeld rG rF rk rj;refine hK.out _ _ ?_ (λhHeld=> ?_)
      ·exact SS.out _ nK
      (refine K3w ?_;clear hK K);refine RJ Ff ?_ _;go_wp2_with fail;go_meet;exact⟨eK,rfl,rfl,AP (AP rN.out 0 (Iv bl)) 1 (Iv bh),CV (CV (AH Q10.out A9O.out xI) (a:=(Ad eK 0)) Ds _) (a:=(Ad eK 1)) Ds _,nK⟩
     ·go_simp;have EX:Below V1.heap.size V1 (V1.alloc (.cells #[Iv 0,Iv 0] 65)):=(IH V1).alloc (Lr _) _;have n12:=AM V1 (.cells #[Iv 0,Iv 0] 65);have A15:T10<V1.heap.size:=Sv xI A6y.out.size;have eZ:w.heap.size<=V1.heap.size:=Rs.out.size;generalize V1.alloc (.cells #[Iv 0,Iv 0] 65)=V4 at*;have Ub:=JI Rs EX;have A9N:=JI A6y EX;generalize V1.heap.size=eK at n12 A15 eZ⊢;have rN:=Hd n12;clear EX n12;clear hHeld;refine hK.out _ _ ?_ (λhHeld=> ?_)
      ·exact SS.out _ Ub.out
      clear hK K;refine K1v ?_;refine NH rfl (λK hK=> ?_) Pd;go_simp;refine(RA.out _).mono ?_;rintro e V5 ⟨rfl,EX⟩;have A8Z:=JI Ub EX;have A9M:=JI A9N EX;have rN:=Hd (GH rN.out EX);clear EX;go_wp2_with fail;clear hHeld;refine hK.out _ _ ?_ (λhHeld=> ?_)
      ·exact SS.out _ A8Z.out
      clear hK K;refine PU ?_;refine K2k ?_;refine NH rfl (λK hK=> ?_) Pd;(refine K34 ?_;intro rG rF rk rj);have nK:=(A8Z.out.setCell (p:=(Ad eK 0)) eZ (Iv bl)).setCell (p:=(Ad eK 1)) eZ (Iv bh);clear hHeld rG rF rk rj;refine hK.out _ _ ?_ (λhHeld=> ?_)
      ·exact SS.out _ nK
      (refine K3w ?_;clear hK K);refine RJ Ff ?_ _;go_wp2_with fail;go_meet;exact⟨eK,rfl,rfl,AP (AP rN.out 0 (Iv bl)) 1 (Iv bh),CV (CV (AH Q10.out A9M.out xI) (a:=(Ad eK 0)) Ds _) (a:=(Ad eK 1)) Ds _,nK⟩
    ·go_simp;have EX:Below V0.heap.size V0 (V0.alloc (.cells #[Iv 0,Iv 0] 65)):=(IH V0).alloc (Lr _) _;have n12:=AM V0 (.cells #[Iv 0,Iv 0] 65);have A15:T10<V0.heap.size:=Sv xI A6z.out.size;have eZ:w.heap.size<=V0.heap.size:=JY.out.size;generalize V0.alloc (.cells #[Iv 0,Iv 0] 65)=V6 at*;have A6D:=JI JY EX;have A9L:=JI A6z EX;generalize V0.heap.size=eK at n12 A15 eZ⊢;have rN:=Hd n12;clear EX n12;clear hHeld;refine hK.out _ _ ?_ (λhHeld=> ?_)
     ·exact SS.out _ A6D.out
     (refine K2H ?_;clear hK K);refine NH rfl (λK hK=> ?_) Pd;go_simp;refine(RL.out _ A6D.out i EK).mono ?_;rintro e wx ⟨rfl,qx,rfl⟩;have EX:Below V6.heap.size V6 (V6.drewN qx):=below_drewN (IH V6) qx;generalize V6.drewN qx=V7 at*;have A8Y:=JI A6D EX;have A9K:=JI A9L EX;have rN:=Hd (GH rN.out EX);clear EX;go_wp2_with fail;clear hHeld;refine hK.out _ _ ?_ (λhHeld=> ?_)
     ·exact SS.out _ A8Y.out
     clear hK K;refine K1v ?_;refine NH rfl (λK hK=> ?_) Pd;go_simp;refine(RA.out _).mono ?_;rintro e V8 ⟨rfl,EX⟩;have A8X:=JI A8Y EX;have A9J:=JI A9K EX;have rN:=Hd (GH rN.out EX);clear EX;go_wp2_with fail;clear hHeld;refine hK.out _ _ ?_ (λhHeld=> ?_)
     ·exact SS.out _ A8X.out
     clear hK K;refine PU ?_;refine K2k ?_;refine NH rfl (λK hK=> ?_) Pd;(refine K34 ?_;intro rG rF rk rj);have nK:=(A8X.out.setCell (p:=(Ad eK 0)) eZ (Iv bl)).setCell (p:=(Ad eK 1)) eZ (Iv bh);clear hHeld rG rF rk rj;refine hK.out _ _ ?_ (λhHeld=> ?_)
     ·exact SS.out _ nK
     (refine K3w ?_;clear hK K);refine RJ Ff ?_ _;go_wp2_with fail;go_meet;exact⟨eK,rfl,rfl,AP (AP rN.out 0 (Iv bl)) 1 (Iv bh),CV (CV (AH Q10.out A9J.out xI) (a:=(Ad eK 0)) Ds _) (a:=(Ad eK 1)) Ds _,nK⟩
   case rest=>
    obtain⟨eK,rfl,rfl,k12,k10,hBc⟩:=hcut;have HBc:=Hd hBc;have p34:=R34.out wc hBc;have pst:=ST.out wc hBc;have a0:=AB k10 0 rfl;have a1:=AB k10 1 rfl;have b0:=AB k12 0 rfl;have b1:=AB k12 1 rfl;(have bn:=λW=>A6q bl bh W);clear k10 k12 hBc SS RA;go_wp2_with ((go_at_call 45;refine(RL.out _ HBc.out i EK).mono ?_;rintro e wy ⟨rfl,qy,rfl⟩));have HBy:=Hd (show Below w.heap.size w (wc.drewN qy) from below_drewN HBc.out qy);go_roundw
    case rel=>exact⟨i+1,by first|rfl|(rw[wi2];rfl)|(simp;done),by omega,HBy⟩
    case measure=>simp[intOf];omega
  ·(obtain rfl:i=n:=by omega);(have U3:¬((i:Int)+1<=(i:Int)):=by omega);have q39:=Q39.out wr HB.out;have wi4:=GF ((L:Int)+1) Ft;have wi5:=GF ((i:Int)+1) Ft;clear PI LI BI RL RA PC Q34;go_wp2_with (first|(go_at_call 22;refine(PO.out _ HB.out).mono ?_;rintro e w' ⟨rfl,rfl⟩)|(go_at_call 43;refine(LO.out _ HB.out).mono ?_;rintro e w' ⟨rfl,rfl⟩)|(go_at_call 16;refine(EV.out _ HB.out).mono ?_;rintro e w9 ⟨rfl,Uv⟩));go_ret;exact⟨rfl,HB.out.trans (Uv.mono HB.out.size)⟩
end
end
section
open RowKit
structure ZQ(U V:World)(p:Nat)(N:Array Value)(x6 x10 x12:Nat)(X6 X10 X12:List Value)(A1:Option Addr)(n1 c1:Nat)(r1:List Value)(A2:Option Addr)(n2 c2:Nat)(r2:List Value)(A3:Option Addr)(n3 c3:Nat)(r3:List Value)(b1 b2 b3:Option Nat):Prop where
 hp:V.heap[p]?=some (.cells N 55 (0,0))
 h6:V.heap[x6]?=some (.cells X6.toArray 101 (0,0))
 ZM:V.heap[x10]?=some (.cells X10.toArray 136 (0,0))
 YV:V.heap[x12]?=some (.cells X12.toArray 136 (0,0))
 w1:Row V U.heap.size 101 24 A1 n1 c1 r1
 w2:Row V U.heap.size 136 11 A2 n2 c2 r2
 w3:Row V U.heap.size 136 11 A3 n3 c3 r3
 f1:∀q,b1=some q->V.heap[q]?=some (.cells X6.toArray 101 (0,0))/\AK A1≠some q
 f2:∀q,b2=some q->V.heap[q]?=some (.cells X10.toArray 136 (0,0))/\AK A2≠some q/\AK A3≠some q
 f3:∀q,b3=some q->V.heap[q]?=some (.cells X12.toArray 136 (0,0))/\AK A2≠some q/\AK A3≠some q
 d:∀q,AK A2=some q->AK A3≠some q
 d6:AK A1≠some x6
 d10:AK A2≠some x10/\AK A3≠some x10
 d12:AK A2≠some x12/\AK A3≠some x12
 kU:AG (λq=>q=p) U V
 up:U.heap.size<=V.heap.size
section
variable{U V V':World}{p:Nat}{N:Array Value}{x6 x10 x12:Nat}{X6 X10 X12:List Value}{A1:Option Addr}{n1 c1:Nat}{r1:List Value}{A2:Option Addr}{n2 c2:Nat}{r2:List Value}{A3:Option Addr}{n3 c3:Nat}{r3:List Value}{b1 b2 b3:Option Nat}
theorem Su{e:TypeId}{z n c q:Nat}{A:Option Addr}{xs:List Value}{B:Nat}(h:Row V B e z A n c xs)(hq:V.heap.size<=q):AK A≠some q:=λhh=>by
 have:=(h.lt hh).2;omega
theorem Ss{e e':TypeId}{z n c q:Nat}{A:Option Addr}{xs:List Value}{B:Nat}{cs:Array Value}(h:Row V B e z A n c xs)(hq:V.heap[q]?=some (.cells cs e' (0,0)))(LX:e≠e'):AK A≠some q:=λhh=>(h.ty hh).ne ⟨_,hq⟩ LX rfl
theorem ZQ.drew(h:ZQ U V p N x6 x10 x12 X6 X10 X12 A1 n1 c1 r1 A2 n2 c2 r2 A3 n3 c3 r3 b1 b2 b3):ZQ U V.drew p N x6 x10 x12 X6 X10 X12 A1 n1 c1 r1 A2 n2 c2 r2 A3 n3 c3 r3 b1 b2 b3:=
 ⟨h.hp,h.h6,h.ZM,h.YV,h.w1,h.w2,h.w3,h.f1,h.f2,h.f3,h.d,h.d6,h.d10,h.d12,h.kU.drew,h.up⟩
theorem ZQ.mk1(h:ZQ U V p N x6 x10 x12 X6 X10 X12 A1 n1 c1 r1 A2 n2 c2 r2 A3 n3 c3 r3 none b2 b3):ZQ U (V.alloc (.cells X6.toArray 101)) p N x6 x10 x12 X6 X10 X12 A1 n1 c1 r1 A2 n2 c2 r2 A3 n3 c3 r3 (some V.heap.size) b2 b3 where
 hp:=AI h.hp _
 h6:=AI h.h6 _
 ZM:=AI h.ZM _
 YV:=AI h.YV _
 w1:=h.w1.alloc _
 w2:=h.w2.alloc _
 w3:=h.w3.alloc _
 f1:=λq hq=>by cases hq;exact⟨AM _ _,Su h.w1 (Lr _)⟩
 f2:=λq hq=>⟨AI (h.f2 q hq).1 _,(h.f2 q hq).2⟩
 f3:=λq hq=>⟨AI (h.f3 q hq).1 _,(h.f3 q hq).2⟩
 d:=h.d
 d6:=h.d6
 d10:=h.d10
 d12:=h.d12
 kU:=h.kU.alloc _
 up:=by have:=h.up;simp;omega
theorem ZQ.mk2(h:ZQ U V p N x6 x10 x12 X6 X10 X12 A1 n1 c1 r1 A2 n2 c2 r2 A3 n3 c3 r3 b1 none b3):ZQ U (V.alloc (.cells X10.toArray 136)) p N x6 x10 x12 X6 X10 X12 A1 n1 c1 r1 A2 n2 c2 r2 A3 n3 c3 r3 b1 (some V.heap.size) b3 where
 hp:=AI h.hp _
 h6:=AI h.h6 _
 ZM:=AI h.ZM _
 YV:=AI h.YV _
 w1:=h.w1.alloc _
 w2:=h.w2.alloc _
 w3:=h.w3.alloc _
 f1:=λq hq=>⟨AI (h.f1 q hq).1 _,(h.f1 q hq).2⟩
 f2:=λq hq=>by cases hq;exact⟨AM _ _,Su h.w2 (Lr _),Su h.w3 (Lr _)⟩
 f3:=λq hq=>⟨AI (h.f3 q hq).1 _,(h.f3 q hq).2⟩
 d:=h.d
 d6:=h.d6
 d10:=h.d10
 d12:=h.d12
 kU:=h.kU.alloc _
 up:=by have:=h.up;simp;omega
theorem ZQ.mk3(h:ZQ U V p N x6 x10 x12 X6 X10 X12 A1 n1 c1 r1 A2 n2 c2 r2 A3 n3 c3 r3 b1 b2 none):ZQ U (V.alloc (.cells X12.toArray 136)) p N x6 x10 x12 X6 X10 X12 A1 n1 c1 r1 A2 n2 c2 r2 A3 n3 c3 r3 b1 b2 (some V.heap.size) where
 hp:=AI h.hp _
 h6:=AI h.h6 _
 ZM:=AI h.ZM _
 YV:=AI h.YV _
 w1:=h.w1.alloc _
 w2:=h.w2.alloc _
 w3:=h.w3.alloc _
 f1:=λq hq=>⟨AI (h.f1 q hq).1 _,(h.f1 q hq).2⟩
 f2:=λq hq=>⟨AI (h.f2 q hq).1 _,(h.f2 q hq).2⟩
 f3:=λq hq=>by cases hq;exact⟨AM _ _,Su h.w2 (Lr _),Su h.w3 (Lr _)⟩
 d:=h.d
 d6:=h.d6
 d10:=h.d10
 d12:=h.d12
 kU:=h.kU.alloc _
 up:=by have:=h.up;simp;omega
theorem new_ne{A A':Option Addr}{q:Nat}(JV:AK A'=AK A\/AK A'=some V.heap.size)(h:AK A≠some q)(hq:q<V.heap.size):AK A'≠some q:=λhh=>by
 rcases JV with e|e
 ·exact h (e▸hh)
 ·rw[e] at hh;injection hh with hh;omega
theorem ZQ.a1(h:ZQ U V p N x6 x10 x12 X6 X10 X12 A1 n1 c1 r1 A2 n2 c2 r2 A3 n3 c3 r3 b1 b2 b3){A':Option Addr}{n' c':Nat}{r':List Value}(CF:Row V' U.heap.size 101 24 A' n' c' r')(hg:V.grownBy V' (AK A1))(JV:AK A'=AK A1\/AK A'=some V.heap.size):
  ZQ U V' p N x6 x10 x12 X6 X10 X12 A' n' c' r' A2 n2 c2 r2 A3 n3 c3 r3 b1 b2 b3:=by
 have kk:AG (λi=>AK A1=some i) V V':=AG.JK hg (λg e=>e);refine⟨AR h.hp kk (Ss h.w1 h.hp Fj),AR h.h6 kk h.d6,AR h.ZM kk (Ss h.w1 h.ZM Fj),AR h.YV kk (Ss h.w1 h.YV Fj),CF,
  h.w2.kept kk (λg Yq hh=>(h.w1.ty hh).ne (h.w2.ty Yq) Fj rfl),h.w3.kept kk (λg Yq hh=>(h.w1.ty hh).ne (h.w3.ty Yq) Fj rfl),?_,?_,?_,h.d,new_ne JV h.d6 (BG h.h6),h.d10,h.d12,?_,Lt h.up kk.size⟩
 ·intro q hq;obtain⟨g1,g2⟩:=h.f1 q hq;exact⟨AR g1 kk g2,new_ne JV g2 (BG g1)⟩
 ·intro q hq;obtain⟨g1,g2⟩:=h.f2 q hq;exact⟨AR g1 kk (Ss h.w1 g1 Fj),g2⟩
 ·intro q hq;obtain⟨g1,g2⟩:=h.f3 q hq;exact⟨AR g1 kk (Ss h.w1 g1 Fj),g2⟩
 ·exact h.kU.trans kk (λi hi hh=>by have:=(h.w1.lt hh).1;omega)
theorem ZQ.a2(h:ZQ U V p N x6 x10 x12 X6 X10 X12 A1 n1 c1 r1 A2 n2 c2 r2 A3 n3 c3 r3 b1 b2 b3){A':Option Addr}{n' c':Nat}{r':List Value}(CF:Row V' U.heap.size 136 11 A' n' c' r')(hg:V.grownBy V' (AK A2))(JV:AK A'=AK A2\/AK A'=some V.heap.size):
  ZQ U V' p N x6 x10 x12 X6 X10 X12 A1 n1 c1 r1 A' n' c' r' A3 n3 c3 r3 b1 b2 b3:=by
 have kk:AG (λi=>AK A2=some i) V V':=AG.JK hg (λg e=>e);refine⟨AR h.hp kk (Ss h.w2 h.hp Fj),AR h.h6 kk (Ss h.w2 h.h6 Fj),AR h.ZM kk h.d10.1,AR h.YV kk h.d12.1,
  h.w1.kept kk (λg Yq hh=>(h.w2.ty hh).ne (h.w1.ty Yq) Fj rfl),CF,h.w3.kept kk (λg Yq hh=>h.d g hh Yq),?_,?_,?_,?_,h.d6,⟨new_ne JV h.d10.1 (BG h.ZM),h.d10.2⟩,⟨new_ne JV h.d12.1 (BG h.YV),h.d12.2⟩,?_,Lt h.up kk.size⟩
 ·intro q hq;obtain⟨g1,g2⟩:=h.f1 q hq;exact⟨AR g1 kk (Ss h.w2 g1 Fj),g2⟩
 ·intro q hq;obtain⟨g1,g2,g3⟩:=h.f2 q hq;exact⟨AR g1 kk g2,new_ne JV g2 (BG g1),g3⟩
 ·intro q hq;obtain⟨g1,g2,g3⟩:=h.f3 q hq;exact⟨AR g1 kk g2,new_ne JV g2 (BG g1),g3⟩
 ·intro q hq
  rcases JV with e|e
  ·exact h.d q (e▸hq)
  ·rw[e] at hq;injection hq with hq;exact Su h.w3 Ft
 ·exact h.kU.trans kk (λi hi hh=>by have:=(h.w2.lt hh).1;omega)
theorem ZQ.a3(h:ZQ U V p N x6 x10 x12 X6 X10 X12 A1 n1 c1 r1 A2 n2 c2 r2 A3 n3 c3 r3 b1 b2 b3){A':Option Addr}{n' c':Nat}{r':List Value}(CF:Row V' U.heap.size 136 11 A' n' c' r')(hg:V.grownBy V' (AK A3))(JV:AK A'=AK A3\/AK A'=some V.heap.size):
  ZQ U V' p N x6 x10 x12 X6 X10 X12 A1 n1 c1 r1 A2 n2 c2 r2 A' n' c' r' b1 b2 b3:=by
 have kk:AG (λi=>AK A3=some i) V V':=AG.JK hg (λg e=>e);refine⟨AR h.hp kk (Ss h.w3 h.hp Fj),AR h.h6 kk (Ss h.w3 h.h6 Fj),AR h.ZM kk h.d10.2,AR h.YV kk h.d12.2,
  h.w1.kept kk (λg Yq hh=>(h.w3.ty hh).ne (h.w1.ty Yq) Fj rfl),h.w2.kept kk (λg Yq hh=>h.d g Yq hh),CF,?_,?_,?_,?_,h.d6,⟨h.d10.1,new_ne JV h.d10.2 (BG h.ZM)⟩,⟨h.d12.1,new_ne JV h.d12.2 (BG h.YV)⟩,?_,Lt h.up kk.size⟩
 ·intro q hq;obtain⟨g1,g2⟩:=h.f1 q hq;exact⟨AR g1 kk (Ss h.w3 g1 Fj),g2⟩
 ·intro q hq;obtain⟨g1,g2,g3⟩:=h.f2 q hq;exact⟨AR g1 kk g3,g2,new_ne JV g3 (BG g1)⟩
 ·intro q hq;obtain⟨g1,g2,g3⟩:=h.f3 q hq;exact⟨AR g1 kk g3,g2,new_ne JV g3 (BG g1)⟩
 ·intro q hq;exact new_ne JV (h.d q hq) (h.w2.lt hq).2
 ·exact h.kU.trans kk (λi hi hh=>by have:=(h.w3.lt hh).1;omega)
def S16(p x6 x10 x12:Nat)(X6 X10 X12:List Value)(v1 v2 v3:Value)(V:World):Prop:=(V.cell? (Ad p 34)=some v1/\V.cell? (Ad p 35)=some v2/\V.cell? (Ad p 36)=some v3)/\
 V.heap[x6]?=some (.cells X6.toArray 101 (0,0))/\V.heap[x10]?=some (.cells X10.toArray 136 (0,0))/\V.heap[x12]?=some (.cells X12.toArray 136 (0,0))
theorem ZQ.s{l:List Value}{v1 v2 v3:Value}(h:ZQ U V p l.toArray x6 x10 x12 X6 X10 X12 A1 n1 c1 r1 A2 n2 c2 r2 A3 n3 c3 r3 b1 b2 b3)(e1:l[34]?=some v1)(e2:l[35]?=some v2)(e3:l[36]?=some v3):S16 p x6 x10 x12 X6 X10 X12 v1 v2 v3 V:=
 ⟨⟨AB h.hp 34 e1,AB h.hp 35 e2,AB h.hp 36 e3⟩,h.h6,h.ZM,h.YV⟩
end
end
end Go.Proofs.YtdocdgcdldpagaaGreat

import Derived.Test.YtdocdgcdldpagaaGreatAp
import Derived.Test.YtdocdgcdldpagaaGreatRows
open Go.Proofs.Tryz
namespace Go.Proofs.YtdocdgcdldpagaaGreat
set_option maxHeartbeats 64000000
set_option maxRecDepth 100000
set_option linter.all false
section
set_option maxRecDepth 512
namespace Ck
namespace AV
theorem uJ(a b:Int)(h:0<b):(if a.tmod b<0 then a.tdiv b-1 else a.tdiv b)=a/b:=by
 have e:b*a.tdiv b+a.tmod b=a:=Int.mul_tdiv_add_tmod a b;have u:a.tmod b<b:=Int.tmod_lt_of_pos a h;have l: -b<a.tmod b:=Int.lt_tmod_of_pos a h;split
 ·rename_i hn
  exact((A0c (a:=a) (r:=a.tmod b+b) (q:=a.tdiv b-1) h).2 ⟨by rw[Int.mul_sub];omega,by omega,by omega⟩).1.symm
 ·rename_i hn
  exact((A0c (a:=a) (r:=a.tmod b) (q:=a.tdiv b) h).2 ⟨by omega,by omega,by omega⟩).1.symm
theorem A38(l d:Int)(hd:0<=d)(tH:d<=100000): -((-(l+1)*1000000)/(1000000-d))=((l+1)*1000000+(1000000-d)-1)/(1000000-d):=by
 generalize hn:(l+1)*1000000=n;rw[show-(l+1)*1000000= -n by omega];generalize hk:1000000-d=k;(have NJ:0<k:=by omega);have e:=Int.mul_ediv_add_emod (-n) k;have e1:=sN (-n) (b:=k) Ft;have e2:=sU (-n) NJ;refine((A0c (a:=n+k-1) (r:=k-1-(-n)%k) (q:= -(-n/k)) NJ).2 ⟨by rw[Int.mul_neg];omega,by omega,by omega⟩).1.symm
theorem lo_le(l d:Int)(hl:1<=l)(hd:0<=d)(tH:d<=100000):0<=(l-1)*1000000/(1000000+d)/\(l-1)*1000000/(1000000+d)<=l-1:=by
 (have NJ:0<1000000+d:=by omega);have h0:0<=(l-1)*d:=Int.mul_nonneg Ft hd;refine⟨Int.ediv_nonneg Ft Ft,Int.ediv_le_of_le_mul NJ (by rw[Int.mul_add];omega)⟩
theorem A10(l d:Int)(hl:0<=l)(hd:0<=d)(tH:d<=100000):l+1<=((l+1)*1000000+(1000000-d)-1)/(1000000-d)/\((l+1)*1000000+(1000000-d)-1)/(1000000-d)<=2*l+3:=by
 (have NJ:0<1000000-d:=by omega);have h0:0<=(l+1)*d:=Int.mul_nonneg Ft hd;have h1:(l+1)*d<=(l+1)*100000:=A0h tH Ft;refine⟨(Int.le_ediv_iff_mul_le NJ).2 (by rw[Int.mul_sub];omega),Int.ediv_le_of_le_mul NJ ?_⟩;rw[Int.mul_sub,show(2*l+3)*d=2*((l+1)*d)+d by rw[Int.add_mul,Int.add_mul];have:=Int.mul_assoc 2 l d;omega];omega
def Rj(n a b:Int):Bool:=decide (a<=n)&&decide (n<=b)
theorem EP{n a b:Int}:Rj n a b=true↔a<=n/\n<=b:=by simp[Rj]
theorem SB{n a b:Int}:Rj n a b=false↔¬(a<=n/\n<=b):=by rw[<-EP];simp
def vB(lo hi:Int):Bool:=decide (-1073741824<=lo)&&decide (lo<=hi)&&decide (hi<=1073741824)
theorem aY{lo hi:Int}:vB lo hi=true↔-1073741824<=lo/\lo<=hi/\hi<=1073741824:=by simp[vB,and_assoc]
def up(d l:Int):Int:=(l-1)*1000000/(1000000+d)
def vp(d l:Int):Int:=((l+1)*1000000+(1000000-d)-1)/(1000000-d)
def YW(lo d l:Int):Int:=if 1<=l then lo+up d l else lo
def jv(hi d l:Int):Int:=hi+vp d l
def Ti(lo hi d l:Int):Int:=if jv hi d l<=1073741824 then YW lo d l else 0
def PK(hi d l:Int):Int:=if jv hi d l<=1073741824 then jv hi d l else 0
def rE(hi d l:Int):Int:=if jv hi d l<=1073741824 then 0 else 3
theorem A3Z(d l:Int)(hl:0<=l)(hd:0<=d)(tH:d<=100000):l+1<=vp d l/\vp d l<=2*l+3:=A10 l d hl hd tH
theorem A6T(hi d l:Int):rE hi d l=0\/rE hi d l=3:=by unfold rE;split<;>simp
theorem bR{hi d l:Int}(h:rE hi d l≠0):rE hi d l=3:=by have:=A6T hi d l;omega
theorem A1c{lo d l:Int}(hl:0<=l)(hd:0<=d)(tH:d<=100000):lo<=YW lo d l/\YW lo d l<=lo+l:=by
 unfold YW up;split
 ·rename_i h;have:=lo_le l d h hd tH;omega
 ·omega
theorem A2w{lo hi d l:Int}(h:rE hi d l=0)(h1: -1073741824<=lo)(h2:lo<=hi)(hl:0<=l)(hd:0<=d)(tH:d<=100000):
  lo<=Ti lo hi d l/\Ti lo hi d l<=PK hi d l/\PK hi d l<=1073741824/\hi+l+1<=PK hi d l/\Ti lo hi d l<=lo+l:=by
 have a:=A3Z d l hl hd tH;have b:=A1c (lo:=lo) hl hd tH;unfold rE at h;split at h
 ·rename_i g
  rw[Ti,PK,AW g,AW g];unfold jv at*;omega
 ·omega
def XL(a g k h:Int):Bool:=decide (-1073741824<=a)&&decide (a<=h)&&decide (h<=1073741824)&&decide (0<=g)&&decide (g<=k)&&decide (k<=3600000)
theorem Wu{a g k h:Int}:XL a g k h=true↔-1073741824<=a/\a<=h/\h<=1073741824/\0<=g/\g<=k/\k<=3600000:=by simp[XL,and_assoc]
def jV(d r:Int)(s:Bool)(lo hi k h:Int):Int:=if s then max (Ti lo hi d (h-r)) k else k
def mT(d r:Int)(s:Bool)(hi a g h:Int):Int:=if s then min (PK hi d (h-r)) (PK g d (h-a)) else PK g d (h-a)
def MF(d r:Int)(s:Bool)(lo hi a g k h:Int):Int:=
 if XL a g k h=false then 2 else if s=true/\h<r then 3 else if s=true/\rE hi d (h-r)≠0 then 3 else if rE g d (h-a)≠0 then 3 else
 if mT d r s hi a g h<jV d r s lo hi k h then 10 else 0
def YI(d r:Int)(s:Bool)(lo hi a g k h:Int):Int:=if MF d r s lo hi a g k h=0 then h else r
def YH(d r:Int)(s:Bool)(lo hi a g k h:Int):Bool:=if MF d r s lo hi a g k h=0 then true else s
def S7(d r:Int)(s:Bool)(lo hi a g k h:Int):Int:=if MF d r s lo hi a g k h=0 then jV d r s lo hi k h else lo
def Tw(d r:Int)(s:Bool)(lo hi a g k h:Int):Int:=if MF d r s lo hi a g k h=0 then mT d r s hi a g h else hi
theorem ov{d r:Int}{s:Bool}{lo hi a g k h:Int}(x:XL a g k h=false):MF d r s lo hi a g k h=2:=by rw[MF,AW x]
theorem ef{d r:Int}{lo hi a g k h:Int}(x:XL a g k h=true)(y:h<r):MF d r true lo hi a g k h=3:=by simp[MF,x,y]
theorem A1J{d r:Int}{lo hi a g k h:Int}(x:XL a g k h=true)(y:r<=h)(z:rE hi d (h-r)≠0):MF d r true lo hi a g k h=3:=by simp[MF,x,z]
theorem ig{d r:Int}{s:Bool}{lo hi a g k h:Int}(x:XL a g k h=true)(y:s=true->r<=h/\rE hi d (h-r)=0)(z:rE g d (h-a)≠0):MF d r s lo hi a g k h=3:=by
 cases s
 ·simp[MF,x,z]
 ·obtain⟨y1,y2⟩:=y rfl;simp[MF,x,y2,z]
theorem XG{d r:Int}{s:Bool}{lo hi a g k h:Int}(x:XL a g k h=true)(y:s=true->r<=h/\rE hi d (h-r)=0)(z:rE g d (h-a)=0)(v:mT d r s hi a g h<jV d r s lo hi k h):MF d r s lo hi a g k h=10:=by
 cases s
 ·simp[MF,x,z,v]
 ·obtain⟨y1,y2⟩:=y rfl;simp[MF,x,y2,z,v];omega
theorem jI{d r:Int}{s:Bool}{lo hi a g k h:Int}(x:XL a g k h=true)(y:s=true->r<=h/\rE hi d (h-r)=0)(z:rE g d (h-a)=0)(v:jV d r s lo hi k h<=mT d r s hi a g h):MF d r s lo hi a g k h=0:=by
 cases s
 ·simp[MF,x,z];omega
 ·obtain⟨y1,y2⟩:=y rfl;simp[MF,x,y2,z];omega
theorem A5e{d r lo hi k h:Int}:jV d r true lo hi k h=if Ti lo hi d (h-r)<k then k else Ti lo hi d (h-r):=by unfold jV;rw[AW rfl];split<;>omega
theorem A5f{d r hi a g h:Int}:mT d r true hi a g h=if PK g d (h-a)<PK hi d (h-r) then PK g d (h-a) else PK hi d (h-r):=by unfold mT;rw[AW rfl];split<;>omega
theorem mP{d r lo hi a g k h:Int}(x:XL a g k h=true)(y:r<=h)(u:(rE hi d (h-r) !=0)=false)(z:(rE g d (h-a) !=0)=false)(v:mT d r true hi a g h<jV d r true lo hi k h):MF d r true lo hi a g k h=10:=
 XG x (λ_=>⟨y,by simpa using u⟩) F9 v
theorem A0s{d r lo hi a g k h:Int}(x:XL a g k h=true)(y:r<=h)(u:(rE hi d (h-r) !=0)=false)(z:(rE g d (h-a) !=0)=false)(v:jV d r true lo hi k h<=mT d r true hi a g h):MF d r true lo hi a g k h=0:=
 jI x (λ_=>⟨y,by simpa using u⟩) F9 v
theorem dJ{d r lo hi a g k h:Int}(x:XL a g k h=true)(z:(rE g d (h-a) !=0)=true):MF d r false lo hi a g k h=rE g d (h-a)/\rE g d (h-a)≠0:=by
 have z':=bne_iff_ne.1 z;exact⟨(ig x Fu z').trans (bR z').symm,z'⟩
theorem ZO{d r lo hi a g k h:Int}(x:XL a g k h=true)(z:(rE g d (h-a) !=0)=false)(v:PK g d (h-a)<k):MF d r false lo hi a g k h=10:=
 XG x Fu F9 (by simpa[mT,jV] using v)
theorem nR{d r lo hi a g k h:Int}(x:XL a g k h=true)(z:(rE g d (h-a) !=0)=false)(v:k<=PK g d (h-a)):MF d r false lo hi a g k h=0:=
 jI x Fu F9 (by simpa[mT,jV] using v)
theorem mO{d r lo hi a g k h:Int}(x:XL a g k h=true)(y:r<=h)(z:(rE hi d (h-r) !=0)=true):MF d r true lo hi a g k h=rE hi d (h-r)/\rE hi d (h-r)≠0:=by
 have z':=bne_iff_ne.1 z;exact⟨(A1J x y z').trans (bR z').symm,z'⟩
theorem gh{d r lo hi a g k h:Int}(x:XL a g k h=true)(y:r<=h)(u:(rE hi d (h-r) !=0)=false)(z:(rE g d (h-a) !=0)=true):MF d r true lo hi a g k h=rE g d (h-a)/\rE g d (h-a)≠0:=by
 have z':=bne_iff_ne.1 z;exact⟨(ig x (λ_=>⟨y,by simpa using u⟩) z').trans (bR z').symm,z'⟩
theorem cT{d r lo hi a g k h:Int}(x:XL a g k h=true)(y:r<=h)(u:(rE hi d (h-r) !=0)=false)(z:(rE g d (h-a) !=0)=false)(v:min (PK hi d (h-r)) (PK g d (h-a))<max (Ti lo hi d (h-r)) k):MF d r true lo hi a g k h=10:=
 XG x (λ_=>⟨y,by simpa using u⟩) F9 Bu
theorem A2F{d r lo hi a g k h:Int}(x:XL a g k h=true)(y:r<=h)(u:(rE hi d (h-r) !=0)=false)(z:(rE g d (h-a) !=0)=false)(v:max (Ti lo hi d (h-r)) k<=min (PK hi d (h-r)) (PK g d (h-a))):MF d r true lo hi a g k h=0:=
 jI x (λ_=>⟨y,by simpa using u⟩) F9 Bu
def cnt(p:Nat->Bool):Nat->Nat
 |0=>0
 |n+1=>cnt p n+if p n then 0 else 1
theorem A1B(p:Nat->Bool):∀n,cnt p n<=n
 |0=>Lr _
 |n+1=>by have:=A1B p n;unfold cnt;split<;>omega
theorem tV(p:Nat->Bool):∀n,(∀t,t<n->p t=false)->cnt p n=n
 |0,_=>rfl
 |n+1,h=>by unfold cnt;rw[tV p n (λt ht=>h t Ft),h n Ft];rfl
theorem jF(p:Nat->Bool)(m:Nat):∀n,m<=n->(∀t,t<m->p t=false)->(∀t,m<=t->t<n->p t=true)->cnt p n=m
 |0,h,_,_=>by(have:m=0:=by omega);subst this;rfl
 |n+1,h,h1,h2=>by
  by_cases e:m=n+1
  ·subst e;exact tV p _ h1
  ·unfold cnt;rw[jF p m n Ft h1 (λt a b=>h2 t a Ft),h2 n Ft Ft];rfl
theorem A24{d a b:Int}(hd:0<=d)(h:a<=b):up d a<=up d b:=by
 unfold up;exact Int.ediv_le_ediv Ft (Int.mul_le_mul_of_nonneg_right Ft Ft)
theorem A1b{lo d a b:Int}(hd:0<=d)(tH:d<=100000)(ha:0<=a)(h:a<=b):YW lo d a<=YW lo d b:=by
 by_cases h1:1<=a
 ·rw[YW,YW,AW h1,AW Ft];have:=A24 (d:=d) hd h;omega
 ·(have e:YW lo d a=lo:=by rw[YW,AO h1]);have:=A1c (lo:=lo) (d:=d) (l:=b) Ft hd tH;omega
def oJ(d lo time:Int)(i:Nat):Bool:=decide (time<=YW lo d i)
theorem bg{d lo time:Int}(hd:0<=d)(tH:d<=100000)(a b:Nat)(h:a<=b)(p:oJ d lo time a=true):oJ d lo time b=true:=by
 unfold oJ at*;have:=A1b (lo:=lo) (d:=d) (a:=a) (b:=b) hd tH Ft Ft;simp at*;omega
def YM(r:Int):Nat:=(1073741824-r+1).toNat
def yI(d r lo time:Int):Nat:=cnt (oJ d lo time) (YM r)
def fA(d r:Int)(s:Bool)(lo time:Int):Int:=if Rj time 0 3600000=false then 2 else if s=false then 9 else if yI d r lo time=YM r then 3 else 0
def iB(d r:Int)(s:Bool)(lo time:Int):Int:=if fA d r s lo time=0 then r+yI d r lo time else 0
def Po(d r lo hi:Int):Prop:=0<=d/\d<=100000/\-1073741824<=r/\r<=1073741824/\-1073741824<=lo/\lo<=hi/\hi<=1073741824
theorem A3G{d r:Int}{s:Bool}{lo hi a g k h:Int}(c:Po d r lo hi):Po d (YI d r s lo hi a g k h) (S7 d r s lo hi a g k h) (Tw d r s lo hi a g k h):=by
 unfold YI S7 Tw
 by_cases e:MF d r s lo hi a g k h=0
 ·rw[AW e,AW e,AW e];obtain⟨c1,c2,c3,c4,c5,c6,c7⟩:=c;have x:XL a g k h=true:=by
   cases hx:XL a g k h with
   |true=>rfl
   |false=>rw[MF,AW hx] at e;omega
  rw[MF,AO (by simp[x])] at e;rw[Wu] at x;split at e
  ·omega
  split at e
  ·omega
  split at e
  ·omega
  split at e
  ·omega
  rename_i n1 n2 n3 n4
  (have e3:rE g d (h-a)=0:=by omega);have o:=A2w (lo:=g) e3 Ft Ft Ft c1 c2;refine⟨c1,c2,by omega,by omega,?_,by omega,?_⟩
  ·unfold jV;split<;>omega
  ·unfold mT;split<;>omega
 ·rw[AO e,AO e,AO e];exact c
end AV
end Ck
namespace Ck
open Go.RowKit
theorem CU{a b:Bool}(h:a=b):Ending.returned (.bool a)= .returned (.bool b):=by rw[h]
theorem JL{k:IntKind}{a b:Int}(h:a=b):Ending.returned (.int k a)= .returned (.int k b):=by rw[h]
theorem Z5{k j:IntKind}{a b c d:Int}(h:a=b)(g:c=d):Ending.returned (.tuple #[.int k a,.int j c])= .returned (.tuple #[.int k b,.int j d]):=by rw[h,g]
theorem Qf{k j l:IntKind}{a b c d e f:Int}(h:a=b)(g:c=d)(i:e=f):Ending.returned (.tuple #[.agg #[.int k a,.int j c],.int l e])= .returned (.tuple #[.agg #[.int k b,.int j d],.int l f]):=by rw[h,g,i]
theorem BO{W w1:World}(hb:Below W.heap.size W w1):(∀b o,b<W.heap.size->w1.cell? (Ad b o)=W.cell? (Ad b o))/\(∀b o,b<W.heap.size->w1.frozen? (Ad b o)=W.frozen? (Ad b o)):=
 ⟨λb o h=>hb.cell (p:=(Ad b o)) h,λb o h=>hb.frozen (p:=(Ad b o)) h⟩
theorem Ue(n a b:Int)(w:World):
  Calls prog 126 #[Iv n,Iv a,Iv b] w (LP (.bool (AV.Rj n a b)) w):=by
 by_cases h:a<=n
 all_goals
  go_enter func126,ntmps126;exact Lj
theorem Sq(n a b:Int)(w:World)(h:a<=n/\n<=b):
  Calls prog 126 #[Iv n,Iv a,Iv b] w (LP (.bool true) w):=
 (Ue n a b w).mono λe w' ⟨h1,h2⟩=>⟨by rw[h1,AV.EP.2 h],h2⟩
theorem iA(n a b:Int)(w:World):
  Calls prog 123 #[Iv n,Iv a,Iv b] w (LP (.bool (AV.Rj n a b)) w):=by
 by_cases h:a<=n
 all_goals
  go_enter func123,ntmps123;exact Lj
theorem YZ(n a b:Int)(w:World)(h:a<=n/\n<=b):
  Calls prog 123 #[Iv n,Iv a,Iv b] w (LP (.bool true) w):=
 (iA n a b w).mono λe w' ⟨h1,h2⟩=>⟨by rw[h1,AV.EP.2 h],h2⟩
theorem dO(a b:Int)(w:World)(h:0<b)(ha: -9000000000000000000<=a/\a<=9000000000000000000):
  Calls prog 124 #[Iv a,Iv b] w (LP (Iv (a/b)) w):=by
 have H:=Hd (AV.uJ a b h);(have q1: -9000000000000000000<=a.tdiv b/\a.tdiv b<=9000000000000000000:=by have:=Int.natAbs_tdiv_le_natAbs a b;omega);go_enter func124,ntmps124;go_wp2_with fail
 all_goals go_ret
 ·exact⟨JL (by rw[<-H.out,AW Fq]),rfl⟩
 ·exact⟨JL (by rw[<-H.out,AO Ft]),rfl⟩
def lV(o r t:Int):Int:=if AV.Rj o (-3600000) 3600000&&AV.Rj r (-100000) 100000&&AV.Rj t 0 3600000 then o+t*(1000000+r)/1000000 else 0
def lE(o r t:Int):Int:=if AV.Rj o (-3600000) 3600000&&AV.Rj r (-100000) 100000&&AV.Rj t 0 3600000 then 0 else 2
theorem wF(o r t:Int)(w:World):
  Calls prog 98 #[Iv o,Iv r,Iv t] w (LP (.tuple #[Iv (lV o r t),Iv (lE o r t)]) w):=by
 by_cases h:AV.Rj o (-3600000) 3600000&&AV.Rj r (-100000) 100000&&AV.Rj t 0 3600000
 ·have e1:=Hd (show lV o r t=o+t*(1000000+r)/1000000 by rw[lV,AW h]);have e2:=Hd (show lE o r t=0 by rw[lE,AW h]);simp only[bY,AV.EP] at h;obtain⟨⟨ho,hr⟩,ht⟩:=h;have h1:0<=t*(1000000+r):=Int.mul_nonneg Ft Ft;have h2:t*(1000000+r)<=3600000*1100000:=Int.mul_le_mul Ft Ft Ft Ft;go_enter func98,ntmps98;go_wp2_with (go_at_call 126;refine(Sq _ _ _ _ Ft).mono ?_;rintro e w' ⟨rfl,rfl⟩);go_ret2;exact⟨Z5 e1.out.symm e2.out.symm,rfl⟩
 ·have e1:=Hd (show lV o r t=0 by rw[lV,AO h]);have e2:=Hd (show lE o r t=2 by rw[lE,AO h]);have H:=Hd h;clear h;go_enter func98,ntmps98;go_wp2_with (go_at_call 126;refine(Ue _ _ _ _).mono ?_;rintro e w' ⟨rfl,rfl⟩)
  all_goals first|(go_ret2;exact⟨Z5 e1.out.symm e2.out.symm,rfl⟩)|(exact absurd (by simp_all) H.out)
theorem pN(o r t:Int)(w:World):
  Calls prog 90 #[Iv o,Iv r,Iv t] w (LP (.tuple #[Iv (lV o r t),Iv (lE o r t)]) w):=by
 by_cases h:AV.Rj o (-3600000) 3600000&&AV.Rj r (-100000) 100000&&AV.Rj t 0 3600000
 ·have e1:=Hd (show lV o r t=o+t*(1000000+r)/1000000 by rw[lV,AW h]);have e2:=Hd (show lE o r t=0 by rw[lE,AW h]);simp only[bY,AV.EP] at h;obtain⟨⟨ho,hr⟩,ht⟩:=h;(have h1: -360000000000<=t*r:=by have:t* -100000<=t*r:=A0h hr.1 ht.1;omega);(have h2:t*r<=360000000000:=by have:t*r<=t*100000:=A0h hr.2 ht.1;omega);have e3:=Hd (show o+t+t*r/1000000=o+t*(1000000+r)/1000000 by rw[Int.mul_add];omega);go_enter func90,ntmps90;go_wp2_with (first|(go_at_call 123;refine(YZ _ _ _ _ Ft).mono ?_;rintro e w' ⟨rfl,rfl⟩)|(go_at_call 124;refine(dO _ _ _ Ft Ft).mono ?_;rintro e w' ⟨rfl,rfl⟩));go_ret2;exact⟨Z5 (e3.out.trans e1.out.symm) e2.out.symm,rfl⟩
 ·have e1:=Hd (show lV o r t=0 by rw[lV,AO h]);have e2:=Hd (show lE o r t=2 by rw[lE,AO h]);have H:=Hd h;clear h;go_enter func90,ntmps90;go_wp2_with (go_at_call 123;refine(iA _ _ _ _).mono ?_;rintro e w' ⟨rfl,rfl⟩)
  all_goals first|(go_ret2;exact⟨Z5 e1.out.symm e2.out.symm,rfl⟩)|(exact absurd (by simp_all) H.out)
theorem EJ(a b:Int)(w:World):
  Calls prog 149 #[.agg #[Iv a,Iv b]] w (IL (.bool (AV.vB a b)) w):=by
 by_cases h: -1073741824<=a
 all_goals by_cases h2:a<=b
 all_goals
  go_enter func149,ntmps149;go_wp2_with fail;go_ret;exact⟨CU (by simp[AV.vB,h,h2];try omega),A9⟩
set_option maxRecDepth 100000 in
theorem Ys(lo hi d l:Int)(w:World)(h1: -1073741824<=lo)(h2:lo<=hi)(h3:hi<=1073741824)(hd0:0<=d)(x8:d<=100000)(hl0:0<=l)(hl1:l<=2147483648):
  Calls prog 127 #[.agg #[Iv lo,Iv hi],Iv d,Iv l] w (IL (.tuple #[.agg #[Iv (AV.Ti lo hi d l),Iv (AV.PK hi d l)],Iv (AV.rE hi d l)]) w):=by
 have a2:=AV.A10 l d hl0 hd0 x8
 by_cases hl:1<=l
 ·have a1:=AV.lo_le l d hl hd0 x8;have c1:=Hd (show AV.jv hi d l<=1073741824->AV.Ti lo hi d l=lo+(l-1)*1000000/(1000000+d)/\AV.PK hi d l=hi+((l+1)*1000000+(1000000-d)-1)/(1000000-d)/\AV.rE hi d l=0 from λh=>⟨by rw[AV.Ti,AW h,AV.YW,AW hl];rfl,by rw[AV.PK,AW h];rfl,by rw[AV.rE,AW h]⟩);have c2:=Hd (show ¬AV.jv hi d l<=1073741824->AV.Ti lo hi d l=0/\AV.PK hi d l=0/\AV.rE hi d l=3 from λh=>⟨by rw[AV.Ti,AO h],by rw[AV.PK,AO h],by rw[AV.rE,AO h]⟩);go_enter func127,ntmps127;go_wp2_with fail;go_region
  all_goals go_wp2_with fail
  all_goals go_region
  all_goals go_wp2_with fail
  ·obtain⟨d1,d2,d3⟩:=c2.out (by simp only[AV.jv,AV.vp];omega);exact Lc
  ·obtain⟨d1,d2,d3⟩:=c1.out (by simp only[AV.jv,AV.vp];omega);refine IT (v:= .tuple #[.agg #[Iv (lo+(l-1)*1000000/(1000000+d)),Iv (hi+((l+1)*1000000+(1000000-d)-1)/(1000000-d))],Iv 0]) D0 rfl ⟨Qf d1.symm d2.symm d3.symm,A9⟩
 ·(obtain rfl:l=0:=by omega);have c1:=Hd (show AV.jv hi d 0<=1073741824->AV.Ti lo hi d 0=lo/\AV.PK hi d 0=hi+((0+1)*1000000+(1000000-d)-1)/(1000000-d)/\AV.rE hi d 0=0 from λh=>⟨by rw[AV.Ti,AW h,AV.YW,AO hl],by rw[AV.PK,AW h];rfl,by rw[AV.rE,AW h]⟩);have c2:=Hd (show ¬AV.jv hi d 0<=1073741824->AV.Ti lo hi d 0=0/\AV.PK hi d 0=0/\AV.rE hi d 0=3 from λh=>⟨by rw[AV.Ti,AO h],by rw[AV.PK,AO h],by rw[AV.rE,AO h]⟩);simp only[Int.zero_add,Int.one_mul] at a2 c1;go_enter func127,ntmps127;go_wp2_with fail;go_region
  all_goals go_wp2_with fail
  all_goals go_region
  all_goals go_wp2_with fail
  ·obtain⟨d1,d2,d3⟩:=c2.out Bb;exact Lc
  ·obtain⟨d1,d2,d3⟩:=c1.out Bb;refine IT (v:= .tuple #[.agg #[Iv lo,Iv (hi+(1000000+(1000000-d)-1)/(1000000-d))],Iv 0]) D0 rfl ⟨Qf d1.symm d2.symm d3.symm,A9⟩
end Ck
namespace Ck
open Go.RowKit
def DV(w:World)(b:Nat)(d r:Int)(m s:Bool)(lo hi:Int):Prop:=w.heap[b]?=some (.cells #[Iv d,Iv r,.bool m,.bool s,Iv lo,Iv hi] 213 (0,0))
theorem AM(w:World)(o:Obj):(w.alloc o).heap[w.heap.size]?=some o:=by show(w.heap.push o)[w.heap.size]?=_;simp
theorem BK(w:World)(o:Obj)(q:Nat)(hq:q=w.heap.size):(w.alloc o).heap[q]?=some o:=by subst hq;exact AM w o
theorem Ov{w:World}{b:Nat}{d r:Int}{m s:Bool}{lo hi:Int}(h:DV w b d r m s lo hi):
  w.cell? (Ad b 0)=some (Iv d)/\w.cell? (Ad b 1)=some (Iv r)/\w.cell? (Ad b 2)=some (.bool m)/\w.cell? (Ad b 3)=some (.bool s)/\w.cell? (Ad b 4)=some (Iv lo)/\w.cell? (Ad b 5)=some (Iv hi):=by
 unfold DV at h;simp[World.cell?,h]
theorem Py{w:World}{b:Nat}{d r:Int}{m s:Bool}{lo hi:Int}(h:DV w b d r m s lo hi):
  w.frozen? (Ad b 0)=false/\w.frozen? (Ad b 1)=false/\w.frozen? (Ad b 2)=false/\w.frozen? (Ad b 3)=false/\w.frozen? (Ad b 4)=false/\w.frozen? (Ad b 5)=false:=by
 unfold DV at h;simp[World.frozen?,h]
theorem AB{w:World}{q:Nat}{l:List Value}{t:TypeId}(h:w.heap[q]?=some (.cells l.toArray t (0,0)))(i:Nat){v:Value}(hv:l[i]?=some v):w.cell? (Ad q i)=some v:=by simp[World.cell?,h,hv]
theorem A3B{w:World}{b:Nat}{d r:Int}{m s:Bool}{lo hi:Int}(h:DV w b d r m s lo hi):w.heap[b]?=some (.cells #[Iv d,Iv r,.bool m,.bool s,Iv lo,Iv hi] 213 (0,0)):=h
theorem AE{w:World}{q:Nat}{cs:Array Value}{t:TypeId}(h:w.heap[q]?=some (.cells cs t (0,0)))(i:Nat):w.frozen? (Ad q i)=false:=by simp[World.frozen?,h]
theorem AI{w:World}{q:Nat}{x:Obj}(h:w.heap[q]?=some x)(o:Obj):(w.alloc o).heap[q]?=some x:=(bX w o q (BG h)).trans h
theorem FX{w:World}{q:Nat}{x:Obj}(h:w.heap[q]?=some x):w.drew.heap[q]?=some x:=h
theorem CV{w:World}{q:Nat}{x:Obj}(h:w.heap[q]?=some x){a:Addr}(ha:q≠a.block)(u:Value):(w.setCell a u).heap[q]?=some x:=(iN w a u q ha).trans h
theorem AP{w:World}{q:Nat}{cs:Array Value}{t:TypeId}(h:w.heap[q]?=some (.cells cs t (0,0)))(i:Nat)(u:Value):(w.setCell (Ad q i) u).heap[q]?=some (.cells (cs.setIfInBounds i u) t (0,0)):=by
 exact Is
theorem AH{B:Nat}{w w':World}{q:Nat}{x:Obj}(h:w.heap[q]?=some x)(k:Below B w w')(hq:q<B):w'.heap[q]?=some x:=(k.block q hq).trans h
theorem QM{w:World}{b:Nat}{d r:Int}{m s:Bool}{lo hi:Int}(h:DV w b d r m s lo hi):b<w.heap.size:=BG h
theorem P5{B:Nat}{w w':World}{b:Nat}{d r:Int}{m s:Bool}{lo hi:Int}(h:DV w b d r m s lo hi)(k:Below B w w')(hb:b<B):DV w' b d r m s lo hi:=(k.block b hb).trans h
theorem WR{w:World}{b:Nat}{d r:Int}{m s:Bool}{lo hi:Int}(h:DV w b d r m s lo hi)(o:Obj):DV (w.alloc o) b d r m s lo hi:=(bX w o b (QM h)).trans h
theorem jG{w:World}{b:Nat}{d r:Int}{m s:Bool}{lo hi:Int}(h:DV w b d r m s lo hi){a:Addr}(ha:b≠a.block)(u:Value):DV (w.setCell a u) b d r m s lo hi:=CV h ha u
theorem o8{w:World}{b:Nat}{d r:Int}{m s:Bool}{lo hi:Int}(h:DV w b d r m s lo hi):DV w.drew b d r m s lo hi:=h
theorem Z9{a w:World}{row:Option Nat}(h:a.grownBy w row):a.grownBy w.drew row:=⟨h.os,h.tape,h.output,h.size,h.block⟩
theorem qe{a w:World}{row:Option Nat}(h:a.grownBy w row)(o:Obj):a.grownBy (w.alloc o) row:=
 ⟨h.os,h.tape,h.output,Lt h.size Fu,λi hi LX=>(bX w o i (Sv hi h.size)).trans (h.block i hi LX)⟩
theorem iT{a w:World}{g:Nat}(h:a.grownBy w (some g)){p:Addr}(hp:p.block=g\/a.heap.size<=p.block)(u:Value):a.grownBy (w.setCell p u) (some g):=
 ⟨h.os,h.tape,h.output,by simpa[World.setCell] using h.size,λi hi LX=>(iN w p u i (by
  rintro rfl
  rcases hp with hp|hp
  ·exact LX (by rw[hp])
  ·omega)).trans (h.block i hi LX)⟩
theorem Pu{a w:World}(h:Below a.heap.size a w)(row:Option Nat):a.grownBy w row:=⟨h.os,h.tape,h.output,h.size,λi hi _=>h.block i hi⟩
theorem Un{a w w':World}{row:Option Nat}{B:Nat}(h:a.grownBy w row)(k:Below B w w')(hB:a.heap.size<=B):a.grownBy w' row:=
 ⟨k.os.trans h.os,k.tape.trans h.tape,k.output.trans h.output,Lt h.size k.size,λi hi LX=>(k.block i Ft).trans (h.block i hi LX)⟩
theorem cL{a w:World}{row:Option Nat}(h:a.grownBy w row)(n:Nat):a.grownBy (w.drewN n) row:=⟨h.os,h.tape,h.output,h.size,h.block⟩
theorem below_drewN{B:Nat}{a w:World}(h:Below B a w)(n:Nat):Below B a (w.drewN n):=⟨h.os,h.tape,h.output,h.size,h.block⟩
theorem U9{w:World}{b:Nat}{d r:Int}{m s:Bool}{lo hi:Int}(h:DV w b d r m s lo hi)(n:Nat):DV (w.drewN n) b d r m s lo hi:=h
theorem QN{w:World}{q:Nat}{x:Obj}(h:w.heap[q]?=some x)(n:Nat):(w.drewN n).heap[q]?=some x:=h
theorem II(b:Nat)(d r:Int)(s:Bool)(lo hi:Int)(w:World)(hk:DV w b d r true s lo hi):
  Calls prog 125 #[Pt b] w (LP (.bool false) w):=by
 exact Mq
theorem gd(b:Nat)(d r:Int)(s:Bool)(lo hi:Int)(w:World)(hk:DV w b d r false s lo hi):
  Calls prog 125 #[Pt b] w (LP (.bool true) w):=by
 exact Mq
theorem A2G(d:Int)(w:World)(h:0<=d/\d<=100000):
  Calls prog 106 #[Iv d] w λe w'=>e= .returned (.tuple #[Pt w.heap.size,Iv 0])/\DV w' w.heap.size d 0 true false 0 0/\Below w.heap.size w w':=by
 go_enter func106,ntmps106;go_wp2_with (go_at_call 126;refine(Sq _ _ _ _ Ft).mono ?_;rintro e w' ⟨rfl,rfl⟩);go_ret2;exact⟨rfl,AM _ _,A9⟩
theorem lZ(b:Nat)(d r:Int)(lo hi:Int)(w:World)(hk:DV w b d r true true lo hi):
  Calls prog 163 #[Pt b] w (IL (.tuple #[Iv r,.agg #[Iv lo,Iv hi],Iv 0]) w):=by
 (refine uq ?_;intro q0 q1 q2 q3 q4 q5 z0 z1 z2 z3 z4 z5 EK);go_enter func163,ntmps163;go_wp2_with (go_at_call 125;refine(II b d r true lo hi _ Aq).mono ?_;rintro e w' ⟨rfl,rfl⟩);go_region
 all_goals go_wp2_with fail
 all_goals(refine IT (v:= .tuple #[Iv r,.agg #[Iv lo,Iv hi],Iv 0]) ?_ rfl ⟨rfl,?_⟩;(· simp[results,results163,go_sem]);(· exact A9))
theorem iI(b:Nat)(d r:Int)(lo hi:Int)(w:World)(hk:DV w b d r true false lo hi):
  Calls prog 163 #[Pt b] w (IL (.tuple #[Iv 0,.agg #[Iv 0,Iv 0],Iv 9]) w):=by
 (refine uq ?_;intro q0 q1 q2 q3 q4 q5 z0 z1 z2 z3 z4 z5 EK);go_enter func163,ntmps163;go_wp2_with (go_at_call 125;refine(II b d r false lo hi _ Aq).mono ?_;rintro e w' ⟨rfl,rfl⟩);refine IT (v:= .tuple #[Iv 0,.agg #[Iv 0,Iv 0],Iv 9]) ?_ rfl ⟨rfl,?_⟩
 ·simp[results,results163,go_sem]
 ·exact A9
end Ck
namespace Ck
open Go.RowKit
set_option maxRecDepth 100000 in
theorem A6r(b:Nat)(d r:Int)(lo hi:Int)(x:Int)(w:World)(hk:DV w b d r true true lo hi)(h1: -1073741824<=lo)(h2:lo<=hi)(h3:hi<=1073741824)(hd0:0<=d)(x8:d<=100000)(hr0: -1073741824<=r)(hr1:r<=x)(hx:x<=1073741824):
  Calls prog 97 #[Pt b,Iv x] w λe w'=>e= .returned (.tuple #[.agg #[Iv (AV.Ti lo hi d (x-r)),Iv (AV.PK hi d (x-r))],Iv (AV.rE hi d (x-r))])/\Below w.heap.size w w':=by
 (refine uq ?_;intro q0 q1 q2 q3 q4 q5 z0 z1 z2 z3 z4 z5 EK);have k1:=GF (x-r) Ft;go_enter func97,ntmps97;go_wp2_with (first|(go_at_call 125;refine(II b d r true lo hi _ Ag).mono ?_;rintro e w' ⟨rfl,rfl⟩)|(go_at_call 126;refine(Sq _ _ _ _ Ft).mono ?_;rintro e w' ⟨rfl,rfl⟩));go_region_held3 (λw'=>w'.cell? ⟨b,0,none⟩=some (Iv d)/\w'.cell? ⟨b,1,none⟩=some (Iv r)/\w'.cell? ⟨b,4,none⟩=some (Iv lo)/\w'.cell? ⟨b,5,none⟩=some (Iv hi)) (first|(refine⟨?_,?_,?_,?_⟩<;>simp[go_sem, *])|go_keep) (first|(go_at_call 127;refine(Ys lo hi d (x-r) _ h1 h2 h3 hd0 x8 Ft Ft).mono ?_;rintro e w2 ⟨rfl,CB⟩;have MU:=P5 (show DV _ b d r true true lo hi from Ag) CB Fp;obtain⟨iQ,q21,q22,q23,q24,q25⟩:=Ov MU;obtain⟨z20,z21,z22,z23,z24,z25⟩:=Py MU;have wV:=QM MU;have A8j:=(BO CB).1 (w.heap.size) 0 Cm;have A7G:=(BO CB).2 (w.heap.size) 0 Cm;have A8i:=(BO CB).1 (w.heap.size) 1 Cm;have A7F:=(BO CB).2 (w.heap.size) 1 Cm;try simp[go_sem] at A8j A7G A8i A7F))
 ·go_wp2_with fail;refine IT (v:= .tuple #[.agg #[Iv (AV.Ti lo hi d (x-r)),Iv (AV.PK hi d (x-r))],Iv (AV.rE hi d (x-r))]) ?_ rfl ⟨rfl,?_⟩
  ·simp[results,results97,go_sem, *]
  ·exact A9
theorem at_range(b:Nat)(d r:Int)(lo hi:Int)(x:Int)(w:World)(hk:DV w b d r true true lo hi)(h:¬(r<=x/\x<=1073741824)):
  Calls prog 97 #[Pt b,Iv x] w (IL (.tuple #[.agg #[Iv 0,Iv 0],Iv 3]) w):=by
 (refine uq ?_;intro q0 q1 q2 q3 q4 q5 z0 z1 z2 z3 z4 z5 EK);have H:=Hd (AV.SB.2 h);clear h;go_enter func97,ntmps97;go_wp2_with (first|(go_at_call 125;refine(II b d r true lo hi _ Ag).mono ?_;rintro e w' ⟨rfl,rfl⟩)|(go_at_call 126;refine(Ue _ _ _ _).mono ?_;rintro e w' ⟨rfl,rfl⟩;rw[H.out]));refine IT (v:= .tuple #[.agg #[Iv 0,Iv 0],Iv 3]) ?_ rfl ⟨rfl,?_⟩
 ·simp[results,results97,go_sem]
 ·exact A9
theorem A3E(b:Nat)(d r:Int)(lo hi:Int)(x:Int)(w:World)(hk:DV w b d r true false lo hi):
  Calls prog 97 #[Pt b,Iv x] w (IL (.tuple #[.agg #[Iv 0,Iv 0],Iv 9]) w):=by
 (refine uq ?_;intro q0 q1 q2 q3 q4 q5 z0 z1 z2 z3 z4 z5 EK);go_enter func97,ntmps97;go_wp2_with (first|(go_at_call 125;refine(II b d r false lo hi _ Ag).mono ?_;rintro e w' ⟨rfl,rfl⟩));refine IT (v:= .tuple #[.agg #[Iv 0,Iv 0],Iv 9]) ?_ rfl ⟨rfl,?_⟩
 ·simp[results,results97,go_sem]
 ·exact A9
def aOk(r:Int)(s:Bool)(x:Int):Bool:=s&&AV.Rj x r 1073741824
def aLo(d r:Int)(s:Bool)(lo hi x:Int):Int:=if aOk r s x then AV.Ti lo hi d (x-r) else 0
def ue(d r:Int)(s:Bool)(hi x:Int):Int:=if aOk r s x then AV.PK hi d (x-r) else 0
def aE(d r:Int)(s:Bool)(hi x:Int):Int:=if aOk r s x then AV.rE hi d (x-r) else if s then 3 else 9
theorem A1H(b:Nat)(d r:Int)(s:Bool)(lo hi:Int)(x:Int)(w:World)(hk:DV w b d r true s lo hi)(c:AV.Po d r lo hi):
  Calls prog 97 #[Pt b,Iv x] w (IL (.tuple #[.agg #[Iv (aLo d r s lo hi x),Iv (ue d r s hi x)],Iv (aE d r s hi x)]) w):=by
 obtain⟨c1,c2,c3,c4,c5,c6,c7⟩:=c
 cases s with
 |false=>refine(A3E b d r lo hi x w hk).mono ?_;rintro e w' ⟨rfl,hb⟩;exact⟨by simp[aLo,ue,aE,aOk],hb⟩
 |true=>
  by_cases h:r<=x/\x<=1073741824
  ·refine(A6r b d r lo hi x w hk c5 c6 c7 c1 c2 c3 h.1 h.2).mono ?_;exact Li
  ·refine(at_range b d r lo hi x w hk h).mono ?_;exact Lk
end Ck
end
section
namespace Ck
open Go.RowKit
def Vi(w:World)(b:Nat)(d r:Int)(s:Bool)(lo hi a g k h:Int)(e:Ending)(w':World):Prop:=
 e= .returned (Iv (AV.MF d r s lo hi a g k h))/\DV w' b d (AV.YI d r s lo hi a g k h) true (AV.YH d r s lo hi a g k h) (AV.S7 d r s lo hi a g k h) (AV.Tw d r s lo hi a g k h)/\w.grownBy w' (some b)
theorem Sx{w w':World}{b:Nat}{d r:Int}{s:Bool}{lo hi a g k h n:Int}(hE:AV.MF d r s lo hi a g k h=n)(hn:n≠0)(hk:DV w' b d r true s lo hi)(hg:w.grownBy w' (some b)):Vi w b d r s lo hi a g k h (.returned (Iv n)) w':=by
 (have:¬AV.MF d r s lo hi a g k h=0:=by omega);exact⟨by rw[hE],by rw[AV.YI,AV.YH,AV.S7,AV.Tw,AO this,AO this,AO this,AO this];exact hk,hg⟩
theorem A2z{w w':World}{b:Nat}{d r:Int}{s:Bool}{lo hi a g k h x y:Int}(hE:AV.MF d r s lo hi a g k h=0)(h1:AV.jV d r s lo hi k h=x)(h2:AV.mT d r s hi a g h=y)(hk:DV w' b d h true true x y)(hg:w.grownBy w' (some b)):Vi w b d r s lo hi a g k h (.returned (Iv 0)) w':=
 ⟨by rw[hE],by rw[AV.YI,AV.YH,AV.S7,AV.Tw,AW hE,AW hE,AW hE,AW hE,h1,h2];exact hk,hg⟩
def sh(w:World)(b:Nat)(d r:Int)(s:Bool)(lo hi a g k h:Int)(s5 s6:Value)(wx:World):Prop:=
 ∃q:Nat,s5=Pt q/\s6=Iv (AV.rE g d (h-a))/\DV wx b d r true s lo hi/\wx.heap[w.heap.size]?=some (.cells #[Iv a,Iv g,Iv k,Iv h] 246 (0,0))/\
  wx.heap[q]?=some (.cells #[Iv (AV.Ti g g d (h-a)),Iv (AV.PK g d (h-a))] 65 (0,0))/\w.heap.size<q/\Below w.heap.size w wx
def A3O(wc:World)(b:Nat)(d r:Int)(lo hi a g k h:Int)(q z:Nat)(s8 s9:Value)(wy:World):Prop:=
 ∃p:Nat,s8=Pt p/\s9=Iv (AV.rE hi d (h-r))/\DV wy b d r true true lo hi/\wy.heap[z]?=some (.cells #[Iv a,Iv g,Iv k,Iv h] 246 (0,0))/\
  wy.heap[q]?=some (.cells #[Iv (AV.Ti g g d (h-a)),Iv (AV.PK g d (h-a))] 65 (0,0))/\wy.heap[wc.heap.size]?=some (.cells #[Iv (AV.Ti g g d (h-a)),Iv (AV.PK g d (h-a))] 65 (0,0))/\
  wy.heap[p]?=some (.cells #[Iv (AV.Ti lo hi d (h-r)),Iv (AV.PK hi d (h-r))] 65 (0,0))/\wc.heap.size<p/\Below wc.heap.size wc wy
end Ck
namespace Ck
open Go.RowKit
theorem A3H(b:Nat)(d r:Int)(s:Bool)(lo hi a g k h:Int)(w:World)(hk:DV w b d r true s lo hi)(x:¬(-1073741824<=a/\a<=h/\h<=1073741824/\0<=g/\g<=k/\k<=3600000)):
  Calls prog 165 #[Pt b,.agg #[Iv a,Iv g,Iv k,Iv h]] w λe w'=>Vi w b d r s lo hi a g k h e w':=by
 have X:=AV.ov (d:=d) (r:=r) (s:=s) (lo:=lo) (hi:=hi) (show AV.XL a g k h=false from by have:=(not_congr (AV.Wu (a:=a) (g:=g) (k:=k) (h:=h))).2 x;simpa using this);have X:=Hd X;(refine uq ?_;intro q0 q1 q2 q3 q4 q5 z0 z1 z2 z3 z4 z5 EK);(have x':(a< -1073741824)\/(-1073741824<=a/\h<a)\/(-1073741824<=a/\a<=h/\1073741824<h)\/(-1073741824<=a/\a<=h/\h<=1073741824/\g<0)\/(-1073741824<=a/\a<=h/\h<=1073741824/\0<=g/\k<g)\/(-1073741824<=a/\a<=h/\h<=1073741824/\0<=g/\g<=k/\3600000<k):=by omega);clear x
 rcases x' with x|⟨x1,x2⟩|⟨x1,x2,x3⟩|⟨x1,x2,x3,x4⟩|⟨x1,x2,x3,x4,x5⟩|⟨x1,x2,x3,x4,x5,x6⟩
 all_goals
  go_enter func165,ntmps165;go_wp2_with (first|(go_at_call 125;refine(II b d r s lo hi _ Ag).mono ?_;rintro e w' ⟨rfl,rfl⟩));go_ret;exact Sx X.out Fj Ag Ab
end Ck
namespace Ck
open Go.RowKit
theorem xB(b:Nat)(d r:Int)(lo hi a g k h:Int)(w:World)(hk:DV w b d r true false lo hi)(h0:0<=d)(h1:d<=100000)(x1: -1073741824<=a)(x2:a<=h)(x3:h<=1073741824)(x4:0<=g)(x5:g<=k)(x6:k<=3600000):
  Calls prog 165 #[Pt b,.agg #[Iv a,Iv g,Iv k,Iv h]] w λe w'=>Vi w b d r false lo hi a g k h e w':=by
 (refine uq ?_;intro q0 q1 q2 q3 q4 q5 z0 z1 z2 z3 z4 z5 EK);(refine K3V ?_;intro X k1);have VG:DV (w.alloc (.cells #[Iv a,Iv g,Iv k,Iv h] 50)) b d r true false lo hi:=WR hk _;go_enter func165,ntmps165;go_upto_region 5 with(first|(go_at_call 125;refine(II b d r false lo hi _ Ag).mono ?_;rintro e w' ⟨rfl,rfl⟩));go_cut[5,6] (λs5 s6 wx=>sh w b d r false lo hi a g k h s5 s6 wx)
 case first=>
  go_region_held3 (λw'=>w'.cell? ⟨b,0,none⟩=some (Iv d)/\w'.cell? ⟨w.heap.size,0,none⟩=some (Iv a)/\w'.cell? ⟨w.heap.size,1,none⟩=some (Iv g)/\w'.cell? ⟨w.heap.size,3,none⟩=some (Iv h)) (first|(refine⟨?_,?_,?_,?_⟩<;>simp[go_sem, *])|go_keep) (first|(go_at_call 127;refine(Ys g g d (h-a) _ Ft Ft Ft h0 h1 Ft Ft).mono ?_;rintro e w2 ⟨rfl,CB⟩;have Ot:=CB.size;simp at Ot;have MU:=P5 (show DV _ b d r true false lo hi from Ag) CB Fp;obtain⟨iQ,q21,q22,q23,q24,q25⟩:=Ov MU;obtain⟨z20,z21,z22,z23,z24,z25⟩:=Py MU;have wV:=QM MU;have U2:=AH (q:=w.heap.size) Af CB Cm;have A4D:=AB U2 0 rfl;have A4k:=AE U2 0;have A4C:=AB U2 1 rfl;have A4j:=AE U2 1;have A4B:=AB U2 2 rfl;have A4i:=AE U2 2;have A4A:=AB U2 3 rfl;have A4h:=AE U2 3;have lx2:=BG U2;try(have ny:=AH (q:=w.heap.size+1) Af CB Cm;have A8l:=AB ny 0 rfl;have A7I:=AE ny 0;have A8k:=AB ny 1 rfl;have A7H:=AE ny 1;have lq2:=BG ny)))
  all_goals(go_wp2_with fail;go_meet)
  all_goals refine⟨_,rfl,rfl,Ag,Fl,Fl,?_,A9⟩
  all_goals(first|omega|(simp<;>omega))
 case rest=>
  obtain⟨q,rfl,rfl,af,hx,hq,hlq,EX⟩:=hcut;(refine K0F ?_;intro ZI q30 q31 q32 q33 q34 q35 z30 z31 z32 z33 z34 z35 A2Y RZ A3g A3w A3f A3v A3e A3u A3d lx A3A A3k A3z A3j lq);go_wp2_with fail
  ·obtain⟨e1,e2⟩:=AV.dJ (r:=r) (lo:=lo) (hi:=hi) X ‹_›;go_ret;exact Sx e1 e2 Ag Ab
  ·have e1:=AV.ZO (r:=r) (lo:=lo) (hi:=hi) X ‹_› ‹_›;go_ret;exact Sx e1 Fj Ag Ab
  ·have E1:=Hd (AV.nR (r:=r) (lo:=lo) (hi:=hi) X ‹_› ‹_›);exact L0
end Ck
namespace Ck
open Go.RowKit
theorem xC(b:Nat)(d r:Int)(lo hi a g k h:Int)(w:World)(hk:DV w b d r true true lo hi)(h0:0<=d)(h1:d<=100000)(x1: -1073741824<=a)(x2:a<=h)(x3:h<=1073741824)(x4:0<=g)(x5:g<=k)(x6:k<=3600000)(y:h<r):
  Calls prog 165 #[Pt b,.agg #[Iv a,Iv g,Iv k,Iv h]] w λe w'=>Vi w b d r true lo hi a g k h e w':=by
 (refine uq ?_;intro q0 q1 q2 q3 q4 q5 z0 z1 z2 z3 z4 z5 EK);(refine K3V ?_;intro X k1);go_enter func165,ntmps165;go_upto_region 5 with(first|(go_at_call 125;refine(II b d r true lo hi _ Ag).mono ?_;rintro e w' ⟨rfl,rfl⟩));go_cut[5,6] (λs5 s6 wx=>sh w b d r true lo hi a g k h s5 s6 wx)
 case first=>exact Gs
 case rest=>obtain⟨q,rfl,rfl,af,hx,hq,hlq,EX⟩:=hcut;(refine K0F ?_;intro ZI q30 q31 q32 q33 q34 q35 z30 z31 z32 z33 z34 z35 A2Y RZ A3g A3w A3f A3v A3e A3u A3d lx A3A A3k A3z A3j lq);go_wp2_with fail;go_quiet (fail);go_wp2_with fail;go_ret;exact Sx (AV.ef (lo:=lo) (hi:=hi) X y) Fj Ag Ab
end Ck
namespace Ck
open Go.RowKit
def A3P(wy:World)(b:Nat)(d r:Int)(lo hi a g k h:Int)(q z c:Nat)(wz:World):Prop:=
 DV wz b d r true true lo hi/\wz.heap[z]?=some (.cells #[Iv a,Iv g,Iv k,Iv h] 246 (0,0))/\
  wz.heap[q]?=some (.cells #[Iv (AV.Ti g g d (h-a)),Iv (AV.PK g d (h-a))] 65 (0,0))/\
  wz.heap[c]?=some (.cells #[Iv (AV.Ti lo hi d (h-r)),Iv (AV.PK hi d (h-r))] 65 (0,0))/\Below c wy wz
def A6F(wr:World)(b:Nat)(d r:Int)(lo hi a g k h:Int)(z c:Nat)(wz:World):Prop:=
 DV wz b d r true true lo hi/\wz.heap[z]?=some (.cells #[Iv a,Iv g,Iv k,Iv h] 246 (0,0))/\
  wz.heap[c]?=some (.cells #[Iv (AV.jV d r true lo hi k h),Iv (AV.mT d r true hi a g h)] 65 (0,0))/\Below c wr wz
theorem A1I(b:Nat)(d r:Int)(lo hi a g k h:Int)(w:World)(hk:DV w b d r true true lo hi)(c:AV.Po d r lo hi)(x1: -1073741824<=a)(x2:a<=h)(x3:h<=1073741824)(x4:0<=g)(x5:g<=k)(x6:k<=3600000)(y:r<=h):
  Calls prog 165 #[Pt b,.agg #[Iv a,Iv g,Iv k,Iv h]] w λe w'=>Vi w b d r true lo hi a g k h e w':=by
 obtain⟨h0,h1,r0,r1,l0,l1,l2⟩:=c;(refine uq ?_;intro q0 q1 q2 q3 q4 q5 z0 z1 z2 z3 z4 z5 EK);(refine K3V ?_;intro X k1);have k2:=GF (h-r) Ft;go_enter func165,ntmps165;go_upto_region 5 with(first|(go_at_call 125;refine(II b d r true lo hi _ Ag).mono ?_;rintro e w' ⟨rfl,rfl⟩));go_cut[5,6] (λs5 s6 wx=>sh w b d r true lo hi a g k h s5 s6 wx)
 case first=>exact Gs
 case rest=>
  obtain⟨q,rfl,rfl,af,hx,hq,hlq,EX⟩:=hcut;(refine K0F ?_;intro ZI q30 q31 q32 q33 q34 q35 z30 z31 z32 z33 z34 z35 A2Y RZ A3g A3w A3f A3v A3e A3u A3d lx A3A A3k A3z A3j lq);go_wp2_with fail;go_quiet (fail);go_wp2_with fail;obtain⟨wo,hwo⟩:∃wo:World,wo=wc:=⟨_,rfl⟩;subst hwo;go_upto_region 10 with fail;go_cut[8,9] (λs8 s9 wy=>A3O wo b d r lo hi a g k h q w.heap.size s8 s9 wy)
  case first=>
   go_region_held3 (λw'=>w'.cell? ⟨b,0,none⟩=some (Iv d)/\w'.cell? ⟨b,1,none⟩=some (Iv r)/\w'.cell? ⟨b,4,none⟩=some (Iv lo)/\w'.cell? ⟨b,5,none⟩=some (Iv hi)/\w'.cell? ⟨w.heap.size,3,none⟩=some (Iv h)) (first|(refine⟨?_,?_,?_,?_,?_⟩<;>simp[go_sem, *])|go_keep) (first|(go_at_call 127;refine(Ys lo hi d (h-r) _ l0 l1 l2 h0 h1 Ft Ft).mono ?_;rintro e w2 ⟨rfl,CB⟩;have Ot:=CB.size;simp at Ot;have MU:=P5 (show DV _ b d r true true lo hi from Ag) CB Fp;obtain⟨iQ,q21,q22,q23,q24,q25⟩:=Ov MU;obtain⟨z20,z21,z22,z23,z24,z25⟩:=Py MU;have wV:=QM MU;have U2:=AH (q:=w.heap.size) Af CB Cm;have A4D:=AB U2 0 rfl;have A4k:=AE U2 0;have A4C:=AB U2 1 rfl;have A4j:=AE U2 1;have A4B:=AB U2 2 rfl;have A4i:=AE U2 2;have A4A:=AB U2 3 rfl;have A4h:=AE U2 3;have lx2:=BG U2;have ny:=AH (q:=q) Af CB Cm;have XC:=AH (q:=wo.heap.size) Af CB Cm;have Abb:=AB XC 0 rfl;have Aas:=AE XC 0;have Aba:=AB XC 1 rfl;have Aar:=AE XC 1;have lc2:=BG XC;try(have Pp:=AH (q:=wo.heap.size+1) Af CB Cm;have Ab2:=AB Pp 0 rfl;have Aaj:=AE Pp 0;have Ab1:=AB Pp 1 rfl;have Aai:=AE Pp 1;have lp2:=BG Pp)))
   all_goals(go_wp2_with fail;go_meet)
   all_goals refine⟨_,rfl,rfl,Ag,Fl,Fl,Fl,Fl,?_,A9⟩
   all_goals(first|omega|(simp<;>omega))
  case rest=>
   obtain⟨p,rfl,rfl,eE,wS,hq4,ZK,qK,hlp,MB⟩:=hcut;have QP:=MB.size;obtain⟨q40,q41,q42,q43,q44,q45⟩:=Ov eE;obtain⟨z40,z41,z42,z43,z44,z45⟩:=Py eE;have A9k:=QM eE;have AaU:=AB wS 0 rfl;have Aaa:=AE wS 0;have AaT:=AB wS 1 rfl;have Aa9:=AE wS 1;have AaS:=AB wS 2 rfl;have Aa8:=AE wS 2;have AaR:=AB wS 3 rfl;have Aa7:=AE wS 3;have lx4:=BG wS;have AaY:=AB hq4 0 rfl;have Aaf:=AE hq4 0;have AaX:=AB hq4 1 rfl;have Aae:=AE hq4 1;have lq4:=BG hq4;have Ab9:=AB ZK 0 rfl;have Aaq:=AE ZK 0;have Ab8:=AB ZK 1 rfl;have Aap:=AE ZK 1;have lc4:=BG ZK;have Ab0:=AB qK 0 rfl;have Aah:=AE qK 0;have AaZ:=AB qK 1 rfl;have Aag:=AE qK 1;have lp4:=BG qK;go_upto_region 13 with fail
   ·obtain⟨e1,e2⟩:=AV.mO (lo:=lo) (a:=a) (g:=g) (k:=k) X y ‹_›;have hg:=Un (Pu EX (some b)) MB ZI;go_wp2_with fail;go_ret;exact Sx e1 e2 Ag Ab
   ·obtain⟨wp,hwp⟩:∃wp:World,wp=wc:=⟨_,rfl⟩;subst hwp;go_cut[] (λwz=>A3P wp b d r lo hi a g k h q w.heap.size wo.heap.size wz)
    case first=>go_wp2_with fail;go_meet;exact⟨Ag,Fl,Fl,Fl,A9⟩
    case rest=>
     obtain⟨nC,wR,hq5,aJ,hbz⟩:=hcut;have jW:=hbz.size;obtain⟨q50,q51,q52,q53,q54,q55⟩:=Ov nC;obtain⟨z50,z51,z52,z53,z54,z55⟩:=Py nC;have A5w:=QM nC;have AaQ:=AB wR 0 rfl;have Aa6:=AE wR 0;have AaP:=AB wR 1 rfl;have Aa5:=AE wR 1;have AaO:=AB wR 2 rfl;have Aa4:=AE wR 2;have AaN:=AB wR 3 rfl;have Aa3:=AE wR 3;have lx5:=BG wR;have AaW:=AB hq5 0 rfl;have Aad:=AE hq5 0;have AaV:=AB hq5 1 rfl;have Aac:=AE hq5 1;have lq5:=BG hq5;have Ab7:=AB aJ 0 rfl;have Aao:=AE aJ 0;have Ab6:=AB aJ 1 rfl;have Aan:=AE aJ 1;have lc5:=BG aJ;have GQ:=Un (Un (Pu EX (some b)) MB ZI) hbz Ft;go_upto_region 18 with fail
     ·obtain⟨e1,e2⟩:=AV.gh (d:=d) (r:=r) (lo:=lo) (hi:=hi) (a:=a) (g:=g) (k:=k) (h:=h) X y Fo Fo;go_wp2_with fail;go_ret;exact Sx e1 e2 Ag Ab
     ·obtain⟨wr,hwr⟩:∃wr:World,wr=wc:=⟨_,rfl⟩;subst hwr;go_cut[] (λwz=>A6F wr b d r lo hi a g k h w.heap.size wo.heap.size wz)
      case first=>
       go_wp2_with fail
       all_goals
        go_meet;refine⟨Ag,Fl,?_,A9⟩;rw[AV.A5e,AV.A5f];(split<;>(try split)<;>(first|(exfalso;omega)|exact Fl))
      case rest=>
       obtain⟨hk6,jX,ya,hbe⟩:=hcut;have Xi:=hbe.size;obtain⟨q60,q61,q62,q63,q64,q65⟩:=Ov hk6;obtain⟨z60,z61,z62,z63,z64,z65⟩:=Py hk6;have AbO:=QM hk6;have AaM:=AB jX 0 rfl;have Aa2:=AE jX 0;have AaL:=AB jX 1 rfl;have Aa1:=AE jX 1;have AaK:=AB jX 2 rfl;have Aa0:=AE jX 2;have AaJ:=AB jX 3 rfl;have A9Z:=AE jX 3;have lx6:=BG jX;have Ab5:=AB ya 0 rfl;have Aam:=AE ya 0;have Ab4:=AB ya 1 rfl;have Aal:=AE ya 1;have lc6:=BG ya;have Ts:=Un GQ hbe Ft;go_wp2_with fail
       ·have e1:=AV.mP (d:=d) (r:=r) (lo:=lo) (hi:=hi) (a:=a) (g:=g) (k:=k) (h:=h) X y Fo Fo Fo;go_ret;exact Sx e1 Fj Ag Ab
       ·have E1:=Hd (AV.A0s (d:=d) (r:=r) (lo:=lo) (hi:=hi) (a:=a) (g:=g) (k:=k) (h:=h) X y Fo Fo Fo);exact L0
end Ck
namespace Ck
open Go.RowKit
theorem A3I(b:Nat)(d r:Int)(s:Bool)(lo hi a g k h:Int)(w:World)(hk:DV w b d r true s lo hi)(c:AV.Po d r lo hi):
  Calls prog 165 #[Pt b,.agg #[Iv a,Iv g,Iv k,Iv h]] w λe w'=>Vi w b d r s lo hi a g k h e w':=by
 by_cases x:(-1073741824<=a/\a<=h/\h<=1073741824/\0<=g/\g<=k/\k<=3600000)
 ·obtain⟨x1,x2,x3,x4,x5,x6⟩:=x
  cases s with
  |false=>exact xB b d r lo hi a g k h w hk c.1 c.2.1 x1 x2 x3 x4 x5 x6
  |true=>
   by_cases y:h<r
   ·exact xC b d r lo hi a g k h w hk c.1 c.2.1 x1 x2 x3 x4 x5 x6 y
   ·exact A1I b d r lo hi a g k h w hk c x1 x2 x3 x4 x5 x6 Ft
 ·exact A3H b d r s lo hi a g k h w hk x
theorem add_zero(b:Nat)(d r:Int)(s:Bool)(lo hi a g k h:Int)(w:World)(hk:DV w b d r false s lo hi):
  Calls prog 165 #[Pt b,.agg #[Iv a,Iv g,Iv k,Iv h]] w (IL (Iv 1) w):=by
 go_enter func165,ntmps165;go_wp2_with (first|(go_at_call 125;refine(gd b d r s lo hi _ Ag).mono ?_;rintro e w' ⟨rfl,rfl⟩));go_ret;exact⟨rfl,A9⟩
end Ck
namespace Ck
open Go.RowKit
theorem A6K(b B T:Nat)(d r:Int)(s:Bool)(lo hi time l:Int)(w:World)(hk:DV w b d r true s lo hi)(hB:w.heap[B]?=some (.cells #[Pt b] 166 (0,0)))(hT:w.heap[T]?=some (.cells #[Iv time] 3 (0,0)))
  (h0:0<=d)(h1:d<=100000)(l0: -1073741824<=lo)(l1:lo<=1073741824)(y0:0<=l)(y1:l<=2147483650):
  Calls prog 181 #[Iv l,Pt B,Pt T] w λe w'=>e= .returned (.bool (decide (time<=AV.YW lo d l)))/\Below w.heap.size w w':=by
 (refine uq ?_;intro q0 q1 q2 q3 q4 q5 z0 z1 z2 z3 z4 z5 EK);have A8F:=AB hB 0 rfl;have A83:=AE hB 0;have lB:=BG hB;have A9I:=AB hT 0 rfl;have A9C:=AE hT 0;have lT:=BG hT;have k1:=GF (l-1) Ft;have k3:=GF (1000000+d) Ft
 by_cases hl:1<=l
 ·have a1:=AV.lo_le l d hl h0 h1;(refine K2D ?_;intro k2 k4 k5 G);exact Js
 ·(obtain rfl:l=0:=by omega);have G:=Hd (show AV.YW lo d 0=lo by rw[AV.YW,AO hl]);have k6:=GF lo Ft;exact Js
def xE(w:World)(n:Nat)(p:Nat->Bool)(kx:Nat)(s5 s6:Value)(wr:World):Prop:=
 ∃lo hi:Nat,s5=Iv lo/\s6=Iv hi/\lo<=hi/\hi<=n/\hi-lo<=kx/\Below w.heap.size w wr/\(∀t,t<lo->p t=false)/\(∀t,hi<=t->t<n->p t=true)
theorem Uj(cb:Array Value)(n:Nat)(p:Nat->Bool)(w:World)(hn:n<=2147483650)
  (hf:∀(wx:World)(i:Nat),Below w.heap.size w wx->i<n->Calls prog 181 (#[Iv i]++cb) wx (IL (.bool (p i)) wx))
  (hm:∀a b,a<=b->b<n->p a=true->p b=true):
  Calls prog 180 #[Iv n,.func (.func 181) #[] cb] w λe w'=>∃m:Nat,e= .returned (Iv m)/\m<=n/\(∀t,t<m->p t=false)/\(∀t,m<=t->t<n->p t=true)/\Below w.heap.size w w':=by
 have HF:=Hd hf;have M:=Hd hm;clear hf hm;go_enter func180,ntmps180;go_wp2_with fail;go_loopg [5,6] n (λkx s5 s6 wr=>xE w n p kx s5 s6 wr)
 case atStart=>exact⟨0,n,rfl,rfl,Pe _,Lr _,by omega,QZ _ _,λt ht=>absurd ht (Nat.not_lt_zero _),λt h1 h2=>by omega⟩
 case round=>
  obtain⟨lo,hi,rfl,rfl,hlh,U3,hg,hb,i1,i2⟩:=hrel;have hz:=hb.size;have I1:=Hd i1;have I2:=Hd i2;clear i1 i2
  by_cases EK:lo<hi
  ·have hc:=HF.out wr ((lo+hi)/2) hb Ft;rw[show(((lo+hi)/2:Nat):Int)=((lo:Int)+(hi:Int))/2 by omega] at hc
   cases hp:p ((lo+hi)/2)<;>rw[hp] at hc
   ·have HP:=Hd hp;have HC:=Hd hc;clear hc hp;go_wp2_with fail;refine HC.out.mono ?_;rintro e w1 ⟨rfl,BX⟩;go_wp2_with fail;go_roundg (hi-((lo+hi)/2+1))
    case rel=>
     refine⟨(lo+hi)/2+1,hi,by go_num,rfl,by omega,U3,by omega,A9,λt ht=> ?_,I2.out⟩
     cases hpt:p t with
     |false=>rfl
     |true=>rw[M.out t ((lo+hi)/2) Ft Ft hpt] at HP;exact absurd HP.out Fu
    case measure=>omega
   ·have HP:=Hd hp;have HC:=Hd hc;clear hc hp;go_wp2_with fail;refine HC.out.mono ?_;rintro e w1 ⟨rfl,BX⟩;go_wp2_with fail;go_roundg ((lo+hi)/2-lo)
    case rel=>exact⟨lo,(lo+hi)/2,rfl,by go_num,by omega,by omega,by omega,A9,I1.out,λt h1 h2=>M.out ((lo+hi)/2) t h1 h2 HP.out⟩
    case measure=>omega
  ·go_wp2_with fail;go_ret;(obtain rfl:lo=hi:=by omega);exact⟨lo,rfl,U3,I1.out,I2.out,hb⟩
end Ck
namespace Ck
open Go.RowKit
theorem yG(b:Nat)(d r:Int)(s:Bool)(lo hi x:Int)(w:World)(hk:DV w b d r true s lo hi)(h:AV.Rj x 0 3600000=false):
  Calls prog 175 #[Pt b,Iv x] w (IL (.tuple #[Iv 0,Iv 2]) w):=by
 (refine uq ?_;intro q0 q1 q2 q3 q4 q5 z0 z1 z2 z3 z4 z5 EK);have H:=Hd h;clear h;go_enter func175,ntmps175;go_wp2_with (first|(go_at_call 125;refine(II b d r s lo hi _ Ag).mono ?_;rintro e w' ⟨rfl,rfl⟩)|(go_at_call 126;refine(Ue _ _ _ _).mono ?_;rintro e w' ⟨rfl,rfl⟩;rw[H.out]));go_ret2;exact⟨rfl,A9⟩
theorem uL(b:Nat)(d r:Int)(lo hi x:Int)(w:World)(hk:DV w b d r true false lo hi)(h:0<=x/\x<=3600000):
  Calls prog 175 #[Pt b,Iv x] w (IL (.tuple #[Iv 0,Iv 9]) w):=by
 (refine uq ?_;intro q0 q1 q2 q3 q4 q5 z0 z1 z2 z3 z4 z5 EK);go_enter func175,ntmps175;go_wp2_with (first|(go_at_call 125;refine(II b d r false lo hi _ Ag).mono ?_;rintro e w' ⟨rfl,rfl⟩)|(go_at_call 126;refine(Sq _ _ _ _ h).mono ?_;rintro e w' ⟨rfl,rfl⟩));go_ret2;exact⟨rfl,A9⟩
theorem uK(b:Nat)(d r:Int)(lo hi x:Int)(w:World)(hk:DV w b d r true true lo hi)(c:AV.Po d r lo hi)(h:0<=x/\x<=3600000):
  Calls prog 175 #[Pt b,Iv x] w (IL (.tuple #[Iv (AV.iB d r true lo x),Iv (AV.fA d r true lo x)]) w):=by
 obtain⟨h0,h1,r0,r1,l0,l1,l2⟩:=c;(refine uq ?_;intro q0 q1 q2 q3 q4 q5 z0 z1 z2 z3 z4 z5 EK);have N:=Hd (show((AV.YM r:Nat):Int)=1073741824-r+1 by unfold AV.YM;omega);have S:=Hd (λ(wx:World)(hb:Below w.heap.size w wx)(hB:wx.heap[w.heap.size]?=some (.cells #[Pt b] 166 (0,0)))(hT:wx.heap[w.heap.size+1]?=some (.cells #[Iv x] 3 (0,0)))=>
  Uj #[Pt w.heap.size,Pt (w.heap.size+1)] (AV.YM r) (AV.oJ d lo x) wx (by have:=N.out;omega)
   (λwy i hy hii=>by
    have:=N.out;exact A6K b w.heap.size (w.heap.size+1) d r true lo hi x i wy (P5 (P5 hk hb EK) hy (by have:=hb.size;omega)) (AH hB hy (BG hB)) (AH hT hy (BG hT)) h0 h1 l0 Ft Ft Ft)
   (λa b' hab _ hp=>AV.bg h0 h1 a b' hab hp))
 (refine K3s ?_;intro E1);have k1:=AV.EP.2 h;(refine K4c ?_;intro E2);have E3:=Hd (show ∀m:Nat,m<AV.YM r->AV.yI d r lo x=m->AV.iB d r true lo x=r+m/\AV.fA d r true lo x=0 from λm hm e=>by
  (have e':AV.fA d r true lo x=0:=by rw[AV.fA,AO (by simp[k1]),AO Fu,AO Ft]);exact⟨by rw[AV.iB,AW e',e],e'⟩)
 clear k1;go_enter func175,ntmps175;go_wp2_with (first|(go_at_call 125;refine(II b d r true lo hi _ Ag).mono ?_;rintro e w' ⟨rfl,rfl⟩)|(go_at_call 126;refine(Sq _ _ _ _ h).mono ?_;rintro e w' ⟨rfl,rfl⟩));rw[<-N.out];refine(S.out _ A9 Af Af).mono ?_;rintro e w1 ⟨m,rfl,q1,q2,q3,BX⟩;have EM:=Hd (E1.out m q1 q2 q3);clear q2 q3;have MU:=P5 (show DV _ b d r true true lo hi from Ag) BX Fp;have YU:=AH (q:=w.heap.size) Af BX Cm;have hT2:=AH (q:=w.heap.size+1) Af BX Cm;obtain⟨iQ,q21,q22,q23,q24,q25⟩:=Ov MU;obtain⟨z20,z21,z22,z23,z24,z25⟩:=Py MU;have wV:=QM MU;have A8F:=AB YU 0 rfl;have A83:=AE YU 0;have lB:=BG YU;have A9I:=AB hT2 0 rfl;have A9C:=AE hT2 0;have lT:=BG hT2
 rcases Oj m (AV.YM r) with hm|hm
 ·obtain⟨v1,v2⟩:=E3.out m hm EM.out;have V1:=Hd v1;have V2:=Hd v2;clear v1 v2;have ht:((m:Int)==(AV.YM r:Int))=false:=JJ Ft;(have hm2:(m:Int)<=2147483650:=by have:=N.out;omega);have k9:=GF (r+(m:Int)) Ft;exact Iu
 ·(obtain rfl:m=AV.YM r:=by omega);obtain⟨v1,v2⟩:=E2.out EM.out;have V1:=Hd v1;have V2:=Hd v2;clear v1 v2;exact Iu
theorem yH(b:Nat)(d r:Int)(s:Bool)(lo hi x:Int)(w:World)(hk:DV w b d r true s lo hi)(c:AV.Po d r lo hi):
  Calls prog 175 #[Pt b,Iv x] w (IL (.tuple #[Iv (AV.iB d r s lo x),Iv (AV.fA d r s lo x)]) w):=by
 cases h:AV.Rj x 0 3600000 with
 |false=>refine(yG b d r s lo hi x w hk h).mono ?_;exact Iy
 |true=>
  cases s with
  |false=>refine(uL b d r lo hi x w hk (AV.EP.1 h)).mono ?_;exact Iy
  |true=>exact uK b d r lo hi x w hk c (AV.EP.1 h)
end Ck
namespace Ck
open Go.RowKit
theorem A2M(d r lo hi l x:Int)(s:Bool)(w:World)(h0:0<=d)(h1:d<=100000)(l0: -1073741824<=lo)(l1:lo<=1073741824)(r0: -1073741824<=r)(r1:r<=1073741824)(y0:0<=l)(y1:l<=2147483650)(e:x-r=l):
  Calls prog 177 #[.agg #[Iv d,Iv r,.bool s,Iv lo,Iv hi],Iv x] w (IL (Iv (AV.YW lo d l)) w):=by
 have k1:=GF (l-1) Ft;have k3:=GF (1000000+d) Ft
 by_cases hl:1<=l
 ·have a1:=AV.lo_le l d hl h0 h1;(refine K2D ?_;intro k2 k4 k5 G);have ht:(l==0)=false:=JJ Ft;go_enter func177,ntmps177;go_wp2_with fail;go_quiet (fail);go_wp2_with fail;go_ret;exact⟨JL (by rw[G.out]),A9⟩
 ·(obtain rfl:l=0:=by omega);have G:=Hd (show AV.YW lo d 0=lo by rw[AV.YW,AO hl]);go_enter func177,ntmps177;go_wp2_with fail;go_ret;exact⟨JL (by rw[G.out]),A9⟩
theorem uV(d r:Int)(s:Bool)(lo hi x:Int)(w:World)(h:AV.Rj x 0 3600000=false):
  Calls prog 169 #[.agg #[Iv d,Iv r,.bool s,Iv lo,Iv hi],Iv x] w (IL (.tuple #[Iv 0,Iv 2]) w):=by
 have H:=Hd h;clear h;go_enter func169,ntmps169;go_wp2_with (first|(go_at_call 123;refine(iA _ _ _ _).mono ?_;rintro e w' ⟨rfl,rfl⟩;rw[H.out]));go_ret2;exact⟨rfl,A9⟩
theorem pG(d r lo hi x:Int)(w:World)(h:0<=x/\x<=3600000):
  Calls prog 169 #[.agg #[Iv d,Iv r,.bool false,Iv lo,Iv hi],Iv x] w (IL (.tuple #[Iv 0,Iv 9]) w):=by
 go_enter func169,ntmps169;go_wp2_with (first|(go_at_call 123;refine(YZ _ _ _ _ h).mono ?_;rintro e w' ⟨rfl,rfl⟩));go_ret2;exact⟨rfl,A9⟩
def A8I(w:World)(d r lo hi x:Int)(kx:Nat)(s6 s7:Value)(wr:World):Prop:=
 ∃i j:Nat,s6=Iv (r-1+i)/\s7=Iv (r+j)/\i<=j/\j<=AV.YM r/\j-i<=kx/\Below w.heap.size w wr/\
  wr.heap[w.heap.size]?=some (.cells #[Iv d,Iv r,.bool true,Iv lo,Iv hi] 99 (0,0))/\(∀t,t<i->AV.oJ d lo x t=false)/\(∀t,j<=t->t<AV.YM r->AV.oJ d lo x t=true)
theorem pF(d r lo hi x:Int)(w:World)(c:AV.Po d r lo hi)(h:0<=x/\x<=3600000):
  Calls prog 169 #[.agg #[Iv d,Iv r,.bool true,Iv lo,Iv hi],Iv x] w (IL (.tuple #[Iv (AV.iB d r true lo x),Iv (AV.fA d r true lo x)]) w):=by
 obtain⟨h0,h1,r0,r1,l0,l1,l2⟩:=c;have N:=Hd (show((AV.YM r:Nat):Int)=1073741824-r+1 by unfold AV.YM;omega);have M:=Hd (AV.bg (lo:=lo) (time:=x) h0 h1);have k1:=AV.EP.2 h;(refine K3s ?_;intro E1);(refine K4c ?_;intro E2);have E3:=Hd (show ∀m:Nat,m<AV.YM r->AV.yI d r lo x=m->AV.iB d r true lo x=r+m/\AV.fA d r true lo x=0 from λm hm e=>by
  (have e':AV.fA d r true lo x=0:=by rw[AV.fA,AO (by simp[k1]),AO Fu,AO Ft]);exact⟨by rw[AV.iB,AW e',e],e'⟩)
 clear k1;go_enter func169,ntmps169;go_wp2_with (first|(go_at_call 123;refine(YZ _ _ _ _ h).mono ?_;rintro e w' ⟨rfl,rfl⟩));go_loopg [6,7] (AV.YM r) (λkx s6 s7 wr=>A8I w d r lo hi x kx s6 s7 wr)
 case atStart=>exact⟨0,AV.YM r,by go_num,by rw[N.out];go_num,by omega,by omega,by omega,A9,Af,λt ht=>absurd ht (Nat.not_lt_zero _),λt h1 h2=>by omega⟩
 case round=>
  obtain⟨i,j,rfl,rfl,hij,hjn,hg,hb,hB,i1,i2⟩:=hrel;have hz:=hb.size;(have hN:(j:Int)<=1073741824-r+1:=by have:=N.out;omega);have I1:=Hd i1;have I2:=Hd i2;clear i1 i2;have A8F:=AB hB 0 rfl;have A83:=AE hB 0;have Acs:=AB hB 1 rfl;have Ac9:=AE hB 1;have Acr:=AB hB 2 rfl;have Ac8:=AE hB 2;have Acp:=AB hB 3 rfl;have Ac7:=AE hB 3;have Aco:=AB hB 4 rfl;have Ac6:=AE hB 4;have lB:=BG hB
  by_cases EK:i<j
  ·obtain⟨m,hmd⟩:∃m:Nat,m=i+(j-i-1)/2:=⟨_,rfl⟩;(have him:i<=m:=by omega);(have hmj:m<j:=by omega);(have hm:r-1+(i:Int)+(r+(j:Int)-(r-1+(i:Int)))/2-r=(m:Int):=by omega);have L:=Hd (λW=>A2M d r lo hi (m:Int) (r-1+(i:Int)+(r+(j:Int)-(r-1+(i:Int)))/2) true W h0 h1 l0 Ft r0 r1 Ft Ft hm);have hm2:=Hd hm;clear hm hmd
   cases hp:AV.oJ d lo x m
   ·have HP:=Hd hp;(have wV:AV.YW lo d (m:Int)<x:=by unfold AV.oJ at hp;have:=of_decide_eq_false hp;omega);clear hp;go_wp2_with fail;refine(L.out _).mono ?_;rintro e w1 ⟨rfl,BX⟩;have IJ:=BX.size;have Q6:=AH hB BX lB;go_wp2_with fail;go_roundg (j-(m+1))
    case rel=>
     refine⟨m+1,j,?_,rfl,by omega,hjn,by omega,A9,Af,λt ht=> ?_,I2.out⟩
     ·have:=hm2.out;go_num
     ·cases hpt:AV.oJ d lo x t with
      |false=>rfl
      |true=>rw[M.out t m Ft hpt] at HP;exact absurd HP.out Fu
    case measure=>omega
   ·have HP:=Hd hp;(have wV:x<=AV.YW lo d (m:Int):=by unfold AV.oJ at hp;exact Z8 hp);clear hp;go_wp2_with fail;refine(L.out _).mono ?_;rintro e w1 ⟨rfl,BX⟩;have IJ:=BX.size;have Q6:=AH hB BX lB;go_wp2_with fail;go_roundg (m-i)
    case rel=>refine⟨i,m,rfl,?_,by omega,by omega,by omega,A9,Af,I1.out,λt h1 h2=>M.out m t h1 HP.out⟩;have:=hm2.out;go_num
    case measure=>omega
  ·(obtain rfl:i=j:=by omega);have EM:=Hd (E1.out i hjn I1.out I2.out)
   by_cases hjn2:i=AV.YM r
   ·(have ag:1073741824<r+(i:Int):=by have:=N.out;omega);obtain⟨v1,v2⟩:=E2.out (by rw[EM.out,hjn2]);have V1:=Hd v1;have V2:=Hd v2;have H:=Hd hjn2;clear v1 v2 hjn2;exact Iu
   ·(have hle:r+(i:Int)<=1073741824:=by have:=N.out;omega);obtain⟨v1,v2⟩:=E3.out i Ft EM.out;have V1:=Hd v1;have V2:=Hd v2;clear v1 v2;exact Iu
theorem uW(d r:Int)(s:Bool)(lo hi x:Int)(w:World)(c:AV.Po d r lo hi):
  Calls prog 169 #[.agg #[Iv d,Iv r,.bool s,Iv lo,Iv hi],Iv x] w (IL (.tuple #[Iv (AV.iB d r s lo x),Iv (AV.fA d r s lo x)]) w):=by
 cases h:AV.Rj x 0 3600000 with
 |false=>refine(uV d r s lo hi x w h).mono ?_;exact Iy
 |true=>
  cases s with
  |false=>refine(pG d r lo hi x w (AV.EP.1 h)).mono ?_;exact Iy
  |true=>exact pF d r lo hi x w c (AV.EP.1 h)
end Ck
end
section
set_option maxRecDepth 512
namespace Ck
open Go.RowKit
def ai(lo hi d l:Int):Bool:=AV.vB lo hi&&AV.Rj d 0 100000&&AV.Rj l 0 1073741824
theorem A5O{lo hi d l:Int}(h1:AV.vB lo hi=true)(h2:AV.Rj d 0 100000=true)(h3:(!AV.Rj l 0 1073741824)=false):ai lo hi d l=true:=by simp_all [ai]
def GLo(lo hi d l:Int):Int:=if ai lo hi d l then AV.Ti lo hi d l else 0
def GHi(lo hi d l:Int):Int:=if ai lo hi d l then AV.PK hi d l else 0
def GE(lo hi d l:Int):Int:=if ai lo hi d l then AV.rE hi d l else 2
set_option maxRecDepth 100000 in
theorem vD(lo hi d l:Int)(w:World):
  Calls prog 122 #[.agg #[Iv lo,Iv hi],Iv d,Iv l] w (IL (.tuple #[.agg #[Iv (GLo lo hi d l),Iv (GHi lo hi d l)],Iv (GE lo hi d l)]) w):=by
 by_cases h:ai lo hi d l
 ·have e1:=Hd (show GLo lo hi d l=AV.Ti lo hi d l by rw[GLo,AW h]);have e2:=Hd (show GHi lo hi d l=AV.PK hi d l by rw[GHi,AW h]);have e3:=Hd (show GE lo hi d l=AV.rE hi d l by rw[GE,AW h]);simp only[ai,bY,AV.EP,AV.aY] at h;obtain⟨⟨⟨de,nk,qH⟩,hd0,x8⟩,hl0,hl1⟩:=h;have V:=Hd (show ∀W:World,Calls prog 149 #[.agg #[Iv lo,Iv hi]] W (IL (.bool true) W) from λW=>(EJ lo hi W).mono λe w' ⟨h1,h2⟩=>⟨by rw[h1,AV.aY.2 ⟨de,nk,qH⟩],h2⟩);have a2:=AV.A10 l d hl0 hd0 x8;have E4:=Hd (AV.A38 l d hd0 x8);have E5:=Hd (show(-(l+1)*1000000)/(1000000-d)= -(((l+1)*1000000+(1000000-d)-1)/(1000000-d)) by rw[<-E4.out];omega);(have a4: -(2*l+3)<=(-(l+1)*1000000)/(1000000-d)/\(-(l+1)*1000000)/(1000000-d)<=-(l+1):=by rw[E5.out];omega);have c1:=Hd (show hi-(-(l+1)*1000000)/(1000000-d)<=1073741824->AV.Ti lo hi d l=AV.YW lo d l/\AV.PK hi d l=hi-(-(l+1)*1000000)/(1000000-d)/\AV.rE hi d l=0 by
   rw[E5.out];intro h;(have h':AV.jv hi d l<=1073741824:=by simp only[AV.jv,AV.vp];omega);exact⟨by rw[AV.Ti,AW h'],by rw[AV.PK,AW h'];simp only[AV.jv,AV.vp];omega,by rw[AV.rE,AW h']⟩)
  have c2:=Hd (show 1073741824<hi-(-(l+1)*1000000)/(1000000-d)->AV.Ti lo hi d l=0/\AV.PK hi d l=0/\AV.rE hi d l=3 by
   rw[E5.out];intro h;(have h':¬AV.jv hi d l<=1073741824:=by simp only[AV.jv,AV.vp];omega);exact⟨by rw[AV.Ti,AO h'],by rw[AV.PK,AO h'],by rw[AV.rE,AO h']⟩)
  by_cases hl:0<l
  ·have a1:=AV.lo_le l d hl hd0 x8;have c3:=Hd (show AV.YW lo d l=lo+(l-1)*1000000/(1000000+d) by rw[AV.YW,AW Ft];rfl);go_enter func122,ntmps122;go_wp2_with fail;refine(V.out _).mono ?_;rintro e w1 ⟨rfl,hb⟩;(refine Ks ?_;intro PH Rp PF Ro PD Rn Pz Rm);(try simp[go_sem] at PH Rp PF Ro PD Rn Pz Rm);(have hz:w.heap.size+1<w1.heap.size:=by have:=hb.size;simp at this;omega);go_wp2_with (first|(go_at_call 123;refine(YZ _ _ _ _ Ft).mono ?_;rintro e w' ⟨rfl,rfl⟩));go_region;go_wp2_with fail;(refine K31 ?_;intro k1 k2 k3 k4 k5);go_region_law (first|(go_simp;go_at_call 124;refine(dO _ _ _ Dh Dh).mono ?_;rintro e w' ⟨rfl,rfl⟩))
   all_goals clear k1 k2 k3 k4 k5
   go_wp2_with fail
   all_goals first|(obtain⟨d1,d2,d3⟩:=c1.out Ft;refine IT (v:= .tuple #[.agg #[Iv (lo+(l-1)*1000000/(1000000+d)),Iv (hi-(-(l+1)*1000000)/(1000000-d))],Iv 0]) ?_ rfl ⟨Qf (c3.out.symm.trans (d1.symm.trans e1.out.symm)) (d2.symm.trans e2.out.symm) (d3.symm.trans e3.out.symm),?_⟩;(· simp[results,results122,go_sem,PH,PF,PD,Pz,hz]);(· exact A9))|(obtain⟨d1,d2,d3⟩:=c2.out Ft;refine IT (v:= .tuple #[.agg #[Iv 0,Iv 0],Iv 3]) ?_ rfl ⟨Qf (d1.symm.trans e1.out.symm) (d2.symm.trans e2.out.symm) (d3.symm.trans e3.out.symm),?_⟩;(· simp[results,results122,go_sem,PH,PF,PD,Pz,hz]);(· exact A9))
  ·have c3:=Hd (show AV.YW lo d l=lo by rw[AV.YW,AO Ft]);go_enter func122,ntmps122;go_wp2_with fail;refine(V.out _).mono ?_;rintro e w1 ⟨rfl,hb⟩;(refine Ks ?_;intro PH Rp PF Ro PD Rn Pz Rm);(try simp[go_sem] at PH Rp PF Ro PD Rn Pz Rm);(have hz:w.heap.size+1<w1.heap.size:=by have:=hb.size;simp at this;omega);go_wp2_with (first|(go_at_call 123;refine(YZ _ _ _ _ Ft).mono ?_;rintro e w' ⟨rfl,rfl⟩));(refine K31 ?_;intro k1 k2 k3 k4 k5);go_region_law (first|(go_simp;go_at_call 124;refine(dO _ _ _ Dh Dh).mono ?_;rintro e w' ⟨rfl,rfl⟩))
   all_goals clear k1 k2 k3 k4 k5
   go_wp2_with fail
   all_goals first|(obtain⟨d1,d2,d3⟩:=c1.out Ft;refine IT (v:= .tuple #[.agg #[Iv (lo),Iv (hi-(-(l+1)*1000000)/(1000000-d))],Iv 0]) ?_ rfl ⟨Qf (c3.out.symm.trans (d1.symm.trans e1.out.symm)) (d2.symm.trans e2.out.symm) (d3.symm.trans e3.out.symm),?_⟩;(· simp[results,results122,go_sem,PH,PF,PD,Pz,hz]);(· exact A9))|(obtain⟨d1,d2,d3⟩:=c2.out Ft;refine IT (v:= .tuple #[.agg #[Iv 0,Iv 0],Iv 3]) ?_ rfl ⟨Qf (d1.symm.trans e1.out.symm) (d2.symm.trans e2.out.symm) (d3.symm.trans e3.out.symm),?_⟩;(· simp[results,results122,go_sem,PH,PF,PD,Pz,hz]);(· exact A9))
 ·have e1:=Hd (show GLo lo hi d l=0 by rw[GLo,AO h]);have e2:=Hd (show GHi lo hi d l=0 by rw[GHi,AO h]);have e3:=Hd (show GE lo hi d l=2 by rw[GE,AO h]);have H:=Hd h;clear h;go_enter func122,ntmps122;go_wp2_with fail;refine(EJ _ _ _).mono ?_;rintro e w1 ⟨rfl,hb⟩;obtain⟨hc,hf⟩:=BO hb;have hz:w.heap.size+1<w1.heap.size:=(by have:=hb.size;simp at this;omega);have a:True:=trivial;go_wp2_with (first|(go_at_call 123;refine(iA _ _ _ _).mono ?_;rintro e w' ⟨rfl,rfl⟩))
  all_goals first|(refine IT (v:= .tuple #[.agg #[Iv 0,Iv 0],Iv 2]) ?_ rfl ⟨Qf e1.out.symm e2.out.symm e3.out.symm,?_⟩;(· simp[results,results122,go_sem,hc,hz]);(· exact A9))|skip
  all_goals(exfalso;exact absurd (A5O ‹_› ‹_› ‹_›) H.out)
end Ck
end
section
namespace Ck
open Go.RowKit
def xR(al ah bl bh:Int):Bool:=AV.vB al ah&&AV.vB bl bh
def mE(al ah bl bh:Int):Int:=if xR al ah bl bh then if min ah bh<max al bl then 10 else 0 else 2
def mLo(al ah bl bh:Int):Int:=if mE al ah bl bh=0 then max al bl else 0
def mHi(al ah bl bh:Int):Int:=if mE al ah bl bh=0 then min ah bh else 0
theorem A45{al ah bl bh:Int}(h:xR al ah bl bh=false):mLo al ah bl bh=0/\mHi al ah bl bh=0/\mE al ah bl bh=2:=by simp[mLo,mHi,mE,h]
theorem tm{al ah bl bh:Int}(h:xR al ah bl bh=true)(v:min ah bh<max al bl):mLo al ah bl bh=0/\mHi al ah bl bh=0/\mE al ah bl bh=10:=by simp[mLo,mHi,mE,h,v]
theorem A5h{al ah bl bh:Int}(h:xR al ah bl bh=true)(v:max al bl<=min ah bh):mLo al ah bl bh=max al bl/\mHi al ah bl bh=min ah bh/\mE al ah bl bh=0:=by
 (have:¬min ah bh<max al bl:=by omega);simp only[mLo,mHi,mE,h,AO this,WV];simp
theorem Z7(al ah bl bh:Int)(w:World):
  Calls prog 171 #[.agg #[Iv al,Iv ah],.agg #[Iv bl,Iv bh]] w (IL (.tuple #[.agg #[Iv (mLo al ah bl bh),Iv (mHi al ah bl bh)],Iv (mE al ah bl bh)]) w):=by
 cases h1:AV.vB al ah with
 |false=>obtain⟨e1,e2,e3⟩:=A45 (al:=al) (ah:=ah) (bl:=bl) (bh:=bh) (by simp[xR,h1]);have E1:=Hd e1;have E2:=Hd e2;have E3:=Hd e3;clear e1 e2 e3;have V:=Hd (λW:World=>h1▸EJ al ah W);clear h1;go_enter func171,ntmps171;go_wp2_with fail;refine(V.out _).mono ?_;rintro e w1 ⟨rfl,hb⟩;have hz:=hb.size;simp at hz;(refine Ks ?_;intro PH Rp PF Ro PD Rn Pz Rm);(refine K16 ?_;intro dX dN dW dM);(try simp[go_sem] at PH Rp PF Ro PD Rn Pz Rm dX dN dW dM);exact Ja
 |true=>
  have V:=Hd (λW:World=>h1▸EJ al ah W)
  cases h2:AV.vB bl bh with
  |false=>obtain⟨e1,e2,e3⟩:=A45 (al:=al) (ah:=ah) (bl:=bl) (bh:=bh) (by simp[xR,h2]);have E1:=Hd e1;have E2:=Hd e2;have E3:=Hd e3;clear e1 e2 e3;have V2:=Hd (λW:World=>h2▸EJ bl bh W);clear h1 h2;go_enter func171,ntmps171;go_wp2_with fail;refine(V.out _).mono ?_;rintro e w1 ⟨rfl,hb⟩;have hz:=hb.size;simp at hz;(refine Ks ?_;intro PH Rp PF Ro PD Rn Pz Rm);(refine K16 ?_;intro dX dN dW dM);(try simp[go_sem] at PH Rp PF Ro PD Rn Pz Rm dX dN dW dM);go_wp2_with fail;refine(V2.out _).mono ?_;rintro e w2 ⟨rfl,CB⟩;have Ot:=CB.size;(try simp at Ot);(refine K0B ?_;intro om nX oh nW og nV oe nU od nT oa nS);(try simp[go_sem] at om nX oh nW og nV oe nU od nT oa nS);exact Ja
  |true=>
   have V2:=Hd (λW:World=>h2▸EJ bl bh W);have C1:=Hd (tm (al:=al) (ah:=ah) (bl:=bl) (bh:=bh) (by simp[xR,h1,h2]));have C2:=Hd (A5h (al:=al) (ah:=ah) (bl:=bl) (bh:=bh) (by simp[xR,h1,h2]));clear h1 h2
   rcases ZY al bl with n1|n1<;>rcases ZY bh ah with n2|n2<;>rcases ZY (min ah bh) (max al bl) with hv|hv
   all_goals
    go_enter func171,ntmps171;go_wp2_with fail;refine(V.out _).mono ?_;rintro e w1 ⟨rfl,hb⟩;have hz:=hb.size;simp at hz;(refine Ks ?_;intro PH Rp PF Ro PD Rn Pz Rm);(refine K16 ?_;intro dX dN dW dM);(try simp[go_sem] at PH Rp PF Ro PD Rn Pz Rm dX dN dW dM);go_wp2_with fail;refine(V2.out _).mono ?_;rintro e w2 ⟨rfl,CB⟩;have Ot:=CB.size;(try simp at Ot);(refine K0B ?_;intro om nX oh nW og nV oe nU od nT oa nS);(try simp[go_sem] at om nX oh nW og nV oe nU od nT oa nS);(have AbC:w.heap.size<w2.heap.size:=by omega);(have AbB:w.heap.size+1<w2.heap.size:=by omega);(have AbA:w.heap.size+1+1<w2.heap.size:=by omega);go_wp2_with fail;first|(obtain⟨d1,d2,d3⟩:=C1.out hv;refine IT (v:= .tuple #[.agg #[Iv 0,Iv 0],Iv 10]) ?_ rfl ⟨Qf d1.symm d2.symm d3.symm,A9⟩;(simp[results,results171,go_sem, *]<;>fail))|(obtain⟨d1,d2,d3⟩:=C2.out hv;refine IT (v:= .tuple #[.agg #[Iv al,Iv ah],Iv 0]) ?_ rfl ⟨Qf (Xh ?_ d1.symm) (Xh ?_ d2.symm) d3.symm,A9⟩<;>first|omega|(simp[results,results171,go_sem, *]<;>fail))|(obtain⟨d1,d2,d3⟩:=C2.out hv;refine IT (v:= .tuple #[.agg #[Iv al,Iv bh],Iv 0]) ?_ rfl ⟨Qf (Xh ?_ d1.symm) (Xh ?_ d2.symm) d3.symm,A9⟩<;>first|omega|(simp[results,results171,go_sem, *]<;>fail))|(obtain⟨d1,d2,d3⟩:=C2.out hv;refine IT (v:= .tuple #[.agg #[Iv bl,Iv ah],Iv 0]) ?_ rfl ⟨Qf (Xh ?_ d1.symm) (Xh ?_ d2.symm) d3.symm,A9⟩<;>first|omega|(simp[results,results171,go_sem, *]<;>fail))|(obtain⟨d1,d2,d3⟩:=C2.out hv;refine IT (v:= .tuple #[.agg #[Iv bl,Iv bh],Iv 0]) ?_ rfl ⟨Qf (Xh ?_ d1.symm) (Xh ?_ d2.symm) d3.symm,A9⟩<;>first|omega|(simp[results,results171,go_sem, *]<;>fail))
theorem Wy(lo hi d l:Int)(w:World):
  Calls prog 89 #[.agg #[Iv lo,Iv hi],Iv d,Iv l] w (IL (.tuple #[.agg #[Iv (if 1073741824<l then 0 else GLo lo hi d l),Iv (if 1073741824<l then 0 else GHi lo hi d l)],Iv (if 1073741824<l then 3 else GE lo hi d l)]) w):=by
 by_cases h:1073741824<l
 ·rw[AW h,AW h,AW h];go_enter func89,ntmps89;go_wp2_with fail;refine IT (v:= .tuple #[.agg #[Iv 0,Iv 0],Iv 3]) ?_ rfl ⟨rfl,A9⟩;simp[results,results89,go_sem]
 ·rw[AO h,AO h,AO h];go_enter func89,ntmps89;go_wp2_with fail;refine(vD _ _ _ _ _).mono ?_;rintro e w1 ⟨rfl,hb⟩;have hz:=hb.size;simp at hz;(refine Ks ?_;intro PH Rp PF Ro PD Rn Pz Rm);(try simp[go_sem] at PH Rp PF Ro PD Rn Pz Rm);go_wp2_with fail;refine IT (v:= .tuple #[.agg #[Iv (GLo lo hi d l),Iv (GHi lo hi d l)],Iv (GE lo hi d l)]) ?_ rfl ⟨rfl,A9⟩;simp[results,results89,go_sem, *]
theorem A00(d:Int)(w:World)(h:0<=d/\d<=100000):
  Calls prog 109 #[Iv d] w (IL (.tuple #[.agg #[Iv d,Iv 0,.bool false,Iv 0,Iv 0],Iv 0]) w):=by
 go_enter func109,ntmps109;go_wp2_with (go_at_call 123;refine(YZ _ _ _ _ h).mono ?_;rintro e w' ⟨rfl,rfl⟩);refine IT (v:= .tuple #[.agg #[Iv d,Iv 0,.bool false,Iv 0,Iv 0],Iv 0]) ?_ rfl ⟨rfl,A9⟩;simp[results,results109,go_sem]
end Ck
namespace Ck
open Go.RowKit
theorem Yv(a g k h:Int)(w:World):
  Calls prog 170 #[.agg #[Iv a,Iv g,Iv k,Iv h]] w (IL (.bool (AV.XL a g k h)) w):=by
 have x':(a< -1073741824)\/(-1073741824<=a/\h<a)\/(-1073741824<=a/\a<=h/\1073741824<h)\/(-1073741824<=a/\a<=h/\h<=1073741824/\g<0)\/(-1073741824<=a/\a<=h/\h<=1073741824/\0<=g/\k<g)\/(-1073741824<=a/\a<=h/\h<=1073741824/\0<=g/\g<=k):=by omega
 rcases x' with x|⟨x1,x2⟩|⟨x1,x2,x3⟩|⟨x1,x2,x3,x4⟩|⟨x1,x2,x3,x4,x5⟩|⟨x1,x2,x3,x4,x5⟩
 all_goals
  go_enter func170,ntmps170;go_wp2_with fail;go_ret;exact⟨CU (by simp[AV.XL];omega),A9⟩
theorem zX(d r lo hi x:Int)(w:World):
  Calls prog 44 #[.agg #[Iv d,Iv r,.bool false,Iv lo,Iv hi],Iv x] w (IL (.tuple #[.agg #[Iv 0,Iv 0],Iv 9]) w):=by
 go_enter func44,ntmps44;go_wp2_with fail;refine IT (v:= .tuple #[.agg #[Iv 0,Iv 0],Iv 9]) ?_ rfl ⟨rfl,A9⟩;simp[results,results44,go_sem]
theorem vA(d r lo hi x:Int)(w:World)(h:¬(r<=x/\x<=1073741824)):
  Calls prog 44 #[.agg #[Iv d,Iv r,.bool true,Iv lo,Iv hi],Iv x] w (IL (.tuple #[.agg #[Iv 0,Iv 0],Iv 3]) w):=by
 (have h':x<r\/(r<=x/\1073741824<x):=by omega);clear h
 rcases h' with h|⟨h,h2⟩
 all_goals
  go_enter func44,ntmps44;go_wp2_with fail;refine IT (v:= .tuple #[.agg #[Iv 0,Iv 0],Iv 3]) ?_ rfl ⟨rfl,A9⟩;simp[results,results44,go_sem]
theorem sF{lo hi d l:Int}(l0:0<=lo)(l1:lo<=hi)(l2:hi<=1073741824)(d0:0<=d)(d1:d<=100000)(y0:0<=l):
  (if 1073741824<l then 0 else GLo lo hi d l)=AV.Ti lo hi d l/\(if 1073741824<l then 0 else GHi lo hi d l)=AV.PK hi d l/\(if 1073741824<l then 3 else GE lo hi d l)=AV.rE hi d l:=by
 by_cases h:1073741824<l
 ·have:=AV.A3Z d l y0 d0 d1;(have g:¬AV.jv hi d l<=1073741824:=by unfold AV.jv;omega);simp[h,AV.Ti,AV.PK,AV.rE,g]
 ·(have g:ai lo hi d l=true:=by simp[ai,AV.aY,AV.EP];omega);simp[h,GLo,GHi,GE,g]
theorem A2v(d r lo hi x:Int)(w:World)(c:AV.Po d r lo hi)(l0:0<=lo)(h:r<=x/\x<=1073741824):
  Calls prog 44 #[.agg #[Iv d,Iv r,.bool true,Iv lo,Iv hi],Iv x] w λe w'=>e= .returned (.tuple #[.agg #[Iv (AV.Ti lo hi d (x-r)),Iv (AV.PK hi d (x-r))],Iv (AV.rE hi d (x-r))])/\Below w.heap.size w w':=by
 obtain⟨c1,c2,c3,c4,c5,c6,c7⟩:=c;obtain⟨e1,e2,e3⟩:=sF (lo:=lo) (hi:=hi) (d:=d) (l:=x-r) l0 c6 c7 c1 c2 Ft;have R:=Hd (λW:World=>Wy lo hi d (x-r) W);rw[e1,e2,e3] at R;clear e1 e2 e3;go_enter func44,ntmps44;go_wp2_with fail;refine(R.out _).mono ?_;rintro e w1 ⟨rfl,hb⟩;have hz:=hb.size;simp at hz;(refine K4p ?_;intro PH Rp PF Ro);have A8o:=(BO hb).1 (w.heap.size) 2 Cm;have A7M:=(BO hb).2 (w.heap.size) 2 Cm;have A8n:=(BO hb).1 (w.heap.size) 3 Cm;have A7L:=(BO hb).2 (w.heap.size) 3 Cm;have A8m:=(BO hb).1 (w.heap.size) 4 Cm;have A7K:=(BO hb).2 (w.heap.size) 4 Cm;(refine K4o ?_;intro PD Rn Pz Rm);(try simp[go_sem] at PH Rp PF Ro A8o A7M A8n A7L A8m A7K PD Rn Pz Rm);go_wp2_with fail;refine IT (v:= .tuple #[.agg #[Iv (AV.Ti lo hi d (x-r)),Iv (AV.PK hi d (x-r))],Iv (AV.rE hi d (x-r))]) ?_ rfl ⟨rfl,A9⟩;simp[results,results44,go_sem, *]
theorem sJ(d r:Int)(s:Bool)(lo hi x:Int)(w:World)(c:AV.Po d r lo hi)(l0:s=true->0<=lo):
  Calls prog 44 #[.agg #[Iv d,Iv r,.bool s,Iv lo,Iv hi],Iv x] w (IL (.tuple #[.agg #[Iv (aLo d r s lo hi x),Iv (ue d r s hi x)],Iv (aE d r s hi x)]) w):=by
 cases s with
 |false=>refine(zX d r lo hi x w).mono ?_;rintro e w' ⟨rfl,hb⟩;exact⟨by simp[aLo,ue,aE,aOk],hb⟩
 |true=>
  by_cases h:r<=x/\x<=1073741824
  ·refine(A2v d r lo hi x w c (l0 rfl) h).mono ?_;exact Li
  ·refine(vA d r lo hi x w h).mono ?_;exact Lk
end Ck
end
end Go.Proofs.YtdocdgcdldpagaaGreat

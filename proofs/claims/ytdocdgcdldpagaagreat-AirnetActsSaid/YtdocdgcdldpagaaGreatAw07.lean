import Derived.Test.YtdocdgcdldpagaaGreatAw06
open Go.Proofs.Tryz
namespace Go.Proofs.YtdocdgcdldpagaaGreat
set_option maxHeartbeats 64000000
set_option maxRecDepth 100000
set_option linter.all false
section
open RowKit
set_option maxRecDepth 512
namespace AQ
def uk(l:List Int)(i:Nat):Int:=if dE l=0 then l.getD i 0 else 0
def us(l:List Int):Int:=if dE l=0 then dS l else 0
def ud(l:List Int):List Int:=if dE l=0 then dd l else []
theorem A1v{r:List Int}(h:10+dm r<=r.length):(dd r).length=dm r:=by rw[dd,Ul,Xu];omega
theorem A1x{l:List Int}(h:dE l=0):l.length=10+dm l:=by
 unfold dE at h
 by_cases h1:l.length<10
 ·rw[AW h1] at h;omega
 ·rw[AO h1] at h
  by_cases h2:¬(l.getD 0 0=213/\l.getD 1 0=76/\l.getD 7 0<=64)
  ·rw[AW h2] at h;omega
  ·rw[AO h2] at h
   by_cases h3:l.length<10+dm l
   ·rw[AW h3] at h;omega
   ·rw[AO h3] at h
    by_cases h4:10+dm l<l.length
    ·rw[AW h4] at h;omega
    ·omega
end AQ
def A1O(w:World)(l:List Int)(e:Ending)(w':World):Prop:=
 ∃A cap,e= .returned (.tuple #[.agg #[Iv (AQ.uk l 2),Iv (AQ.uk l 3),Iv (AQ.uk l 4),Iv (AQ.us l),.slice A (AQ.ud l).length cap],Iv (AQ.dE l)])/\Ow w' w.heap.size A (AQ.ud l).length cap (AQ.ud l)/\Below w.heap.size w w'
theorem gV{w w':World}{l:List Int}{e:Ending}(h:Vr w l e w'):A1O w l e w':=by
 rcases h with⟨h0,he,hb⟩|⟨h0,A,cap,he,ho,hb⟩
 ·refine⟨none,0,?_,?_,hb⟩
  ·rw[he];simp[AQ.uk,AQ.us,AQ.ud,h0]
  ·simp only[AQ.ud,h0,fO];exact Ow.nil _ _
 ·have hl:(AQ.dd l).length=AQ.dm l:=AQ.A1v (by have:=AQ.A1x h0;omega);refine⟨A,cap,?_,?_,hb⟩
  ·rw[he];simp[AQ.uk,AQ.us,AQ.ud,h0,hl]
  ·simp only[AQ.ud,h0,WV];rw[hl];exact ho
theorem A3r(A:Option Addr)(n cap:Nat)(l:List Int)(w:World)(hn:n<=140737488355328)(DT:n<=cap)(GC:cap<=9223372036854775807)(h:Rd w w.heap.size A n l):Calls prog 132 #[.slice A n cap] w λe w'=>A1O w l e w':=
 (A3s A n cap l w hn DT GC h).mono λe w'=>gV
theorem zO(A:Option Addr)(n cap:Nat)(l:List Int)(w:World)(hn:n<=140737488355328)(DT:n<=cap)(GC:cap<=9223372036854775807)(h:Rd w w.heap.size A n l):Calls prog 85 #[.slice A n cap] w λe w'=>A1O w l e w':=
 (zP A n cap l w hn DT GC h).mono λe w'=>gV
end
section
set_option maxRecDepth 512
namespace AN
open Go.RowKit
abbrev Q7:=Int×List Int
def ins(m:Q7):List Q7->List Q7
 |[]=>[m]
 |a::l=>if a.1<=m.1 then a::ins m l else m::a::l
theorem j9{m a:Q7}(l:List Q7)(h:a.1<=m.1):ins m (a::l)=a::ins m l:=by simp only[ins,AW h]
theorem qD{m a:Q7}(l:List Q7)(h:¬a.1<=m.1):ins m (a::l)=m::a::l:=by simp only[ins,AO h]
def OG(u:List Q7):List Q7:=u.foldl (λl m=>ins m l) []
def Pm(l:List Q7):Prop:=l.Pairwise (λa b=>a.1<=b.1)
theorem cY(m:Q7):∀l,(ins m l).length=l.length+1
 |[]=>rfl
 |a::l=>by
  unfold ins;split
  ·simp[cY m l]
  ·simp
theorem iY{m x:Q7}:∀{l},x∈ins m l↔x=m\/x∈l
 |[]=>by simp[ins]
 |a::l=>by
  unfold ins;split
  ·simp only[fU,iY (l:=l)];constructor
   ·rintro(h|h|h)<;>simp[h]
   ·rintro(h|h|h)<;>simp[h]
  ·simp only[fU]
theorem QU(u:List Q7)(m:Q7):OG (u++[m])=ins m (OG u):=by simp[OG,pV]
theorem Y4{P:List Q7->Prop}(h0:P [])(h1:∀u m,P u->P (u++[m]))(u:List Q7):P u:=by
 suffices ∀v:List Q7,P v.reverse by simpa using this u.reverse
 intro v
 induction v with
 |nil=>simpa using h0
 |cons m v ih=>simpa using h1 _ m ih
theorem JU(u:List Q7):(OG u).length=u.length:=by
 refine Y4 (P:=λu=>(OG u).length=u.length) rfl ?_ u;intro u m h;rw[QU,cY,h];simp
theorem iX{x:Q7}{u:List Q7}:x∈OG u↔x∈u:=by
 refine Y4 (P:=λu=>x∈OG u↔x∈u) (by simp[OG]) ?_ u;intro u m h;rw[QU,iY,h];simp[or_comm]
theorem bk{m:Q7}:∀{l},Pm l->Pm (ins m l)
 |[],_=>by simp[ins,Pm]
 |a::l,h=>by
  unfold Pm at h⊢;rw[mf] at h;unfold ins;split
  ·rename_i hc
   rw[mf];refine⟨λb hb=> ?_,bk (l:=l) h.2⟩
   rcases iY.1 hb with rfl|hb
   ·exact hc
   ·exact h.1 b hb
  ·rename_i hc
   rw[mf,mf];refine⟨λb hb=> ?_,h.1,h.2⟩
   rcases List.mem_cons.1 hb with rfl|hb
   ·omega
   ·have:=h.1 b hb;omega
theorem QI(u:List Q7):Pm (OG u):=by
 refine Y4 (P:=λu=>Pm (OG u)) (by simp[OG,Pm]) ?_ u;intro u m h;rw[QU];exact bk h
theorem dL(p:Q7->Bool){m:Q7}:∀{l},Pm l->(ins m l).filter p=if p m then ins m (l.filter p) else l.filter p
 |[],_=>by simp[ins,eR]
 |a::l,h=>by
  have h':=h;unfold Pm at h;rw[mf] at h
  by_cases hc:a.1<=m.1
  ·rw[j9 _ hc,eR,dL p (l:=l) h.2,eR]
   by_cases ha:p a=true
   ·rw[AW ha,AW ha]
    by_cases hm:p m=true
    ·rw[AW hm,AW hm,j9 _ hc]
    ·rw[AO hm,AO hm]
   ·rw[AO ha,AO ha]
  ·rw[qD _ hc];have hl:∀b∈(a::l).filter p,m.1<b.1:=by
    intro b hb;rw[List.mem_filter] at hb
    rcases List.mem_cons.1 hb.1 with rfl|hb'
    ·omega
    ·have:=h.1 b hb';omega
   have e:ins m ((a::l).filter p)=m::(a::l).filter p:=by
    generalize(a::l).filter p=q at hl
    cases q with
    |nil=>rfl
    |cons c q=>rw[qD _ (by have:=hl c Fu;omega)]
   rw[e,eR]
theorem dK(p:Q7->Bool)(u:List Q7):OG (u.filter p)=(OG u).filter p:=by
 refine Y4 (P:=λu=>OG (u.filter p)=(OG u).filter p) rfl ?_ u;intro u m h;rw[QU,dL p (QI u),pX]
 by_cases hm:p m=true
 ·rw[AW hm,<-h];simp[eR,hm,QU]
 ·rw[AO hm,<-h];simp[eR,hm]
theorem A0J{m:Q7}:∀{l:List Q7}{i:Nat},i<=l.length->(∀j (h:j<l.length),j<i->l[j].1<=m.1)->(∀(h:i<l.length),m.1<l[i].1)->ins m l=l.take i++m::l.drop i
 |[],i,hi,_,_=>by(have:i=0:=by simpa using hi);subst this;rfl
 |a::l,0,_,_,h2=>by have h3:m.1<a.1:=h2 Fu;rw[qD _ Ft];rfl
 |a::l,i+1,hi,h1,h2=>by have h0:a.1<=m.1:=h1 0 Fu Ft;rw[j9 _ h0,A0J (l:=l) (i:=i) F3 (λj hj Yp=>h1 (j+1) (by simpa using hj) Ft) (λh=>h2 F7)];rfl
theorem ng{m:Q7}{l:List Q7}(hs:Pm l){i:Nat}(hi:i<=l.length)(h1:∀(h:0<i),(l[i-1]'Ft).1<=m.1)(h2:∀j (h:j<l.length),i<=j->m.1<l[j].1):ins m l=l.take i++m::l.drop i:=by
 refine A0J hi (λj hj Yp=> ?_) (λh=>h2 i h (Lr _));have h0:=h1 Ft
 rcases Oj j (i-1) with h|h
 ·have:=List.pairwise_iff_getElem.1 hs j (i-1) hj Ft h;omega
 ·(have:j=i-1:=by omega);subst this;exact h0
theorem A3x{l:List Q7}(hs:Pm l){k:Nat}{t:Int}(hk:k<=l.length)(h1:∀j (h:j<l.length),j<k->l[j].1<=t)(h2:∀(h:k<l.length),t<l[k].1):
  l.filter (λm=>decide (m.1<=t))=l.take k/\l.filter (λm=>decide (t<m.1))=l.drop k:=by
 (have hA:∀x∈l.take k,x.1<=t:=by intro x hx;obtain⟨j,hj,rfl⟩:=mC hx;rw[List.getElem_take];exact h1 j _ (by simp at hj;omega));have hB:∀x∈l.drop k,t<x.1:=by
  intro x hx;obtain⟨j,hj,rfl⟩:=mC hx;rw[List.getElem_drop];simp at hj;have h0:=h2 Ft
  rcases mg j with h|h
  ·subst h;simpa using h0
  ·have:=List.pairwise_iff_getElem.1 hs k (k+j) Ft Ft Ft;omega
 constructor
 ·conv=>lhs;rw[<-List.take_append_drop k l]
  rw[pX,List.filter_eq_self.2 (λx hx=>by simpa using hA x hx),List.filter_eq_nil_iff.2 (λx hx=>by have:=hB x hx;simp;omega),List.append_nil]
 ·conv=>lhs;rw[<-List.take_append_drop k l]
  rw[pX,List.filter_eq_nil_iff.2 (λx hx=>by have:=hA x hx;simp;omega),List.filter_eq_self.2 (λx hx=>by simpa using hB x hx),List.nil_append]
structure Ru where
 BY:Int
 AY:Int
 least:Int
 BU:Int
 seed:Int
def MP(r:Ru):Bool:=decide ((0<=r.BY/\r.BY<=1000)/\(0<=r.AY/\r.AY<=1000)/\(0<=r.least/\r.least<=r.BU)/\r.BU<=60000/\0<=r.seed)
theorem OE{r:Ru}:MP r=true↔((0<=r.BY/\r.BY<=1000)/\(0<=r.AY/\r.AY<=1000)/\(0<=r.least/\r.least<=r.BU)/\r.BU<=60000/\0<=r.seed):=by unfold MP;exact pY
structure St where
 x:Int
 now:Int
 u:List Q7
 BB:Int
 lost:Int
 P9:Int
def nx(x:Int):Int:=IntKind.u64.wrap (6364136223846793005*x+1442695040888963407)
def dr(x:Int):Int:=nx x/8589934592
theorem cN(x:Int):0<=nx x/\nx x<=18446744073709551615:=by unfold nx;rw[my];omega
theorem gU(x:Int):0<=dr x/\dr x<=2147483647:=by have:=cN x;unfold dr;omega
def put(r:Ru)(s:St)(b:List Int):St:={s with x:=nx s.x,u:=s.u++[(s.now+r.least+dr s.x%(r.BU-r.least+1),b)]}
def IC(s:St)(now:Int)(n:Nat):Int:=if ¬(1<=n/\n<=128) then 2 else if ¬(s.now<=now/\now<=1073741824) then 3 else if 999<=s.u.length then 7 else 0
def Te(s:St)(now:Int):St:={s with now:=now,BB:=s.BB+1,x:=nx s.x}
def XY(r:Ru)(s:St):Bool:=decide (dr s.x%1000<r.BY)
def TS(r:Ru)(s:St)(now:Int)(b:List Int):St:=put r (Te s now) b
def VM(r:Ru)(s:St):Bool:=decide (dr s.x%1000<r.AY)
def br(r:Ru)(s:St)(b:List Int):St:=put r {s with x:=nx s.x,P9:=s.P9+1} b
def send(r:Ru)(s:St)(now:Int)(b:List Int):St:=
 if IC s now b.length=0 then
  if XY r s then{Te s now with lost:=s.lost+1}
  else if VM r (TS r s now b) then br r (TS r s now b) b else{TS r s now b with x:=nx (TS r s now b).x}
 else s
def FU(s:St)(now:Int):Int:=if s.now<=now/\now<=1073741824 then 0 else 3
def Vo(s:St)(now:Int):List Q7:=if FU s now=0 then OG (s.u.filter (λm=>decide (m.1<=now))) else []
def recv(s:St)(now:Int):St:=if FU s now=0 then{s with now:=now,u:=s.u.filter (λm=>decide (now<m.1))} else s
def TZ(s:St):Int:=match OG s.u with|[]=>0|m::_=>m.1
def U0(s:St):Int:=if s.u.length=0 then 9 else 0
def MOk(m:Q7):Prop:=0<=m.1/\m.1<=1073801824/\By m.2/\m.2.length<=128
def Inv(s:St):Prop:=(0<=s.x/\s.x<=18446744073709551615)/\(0<=s.now/\s.now<=1073741824)/\s.u.length<=1000/\(∀m∈s.u,MOk m)/\(0<=s.BB/\s.BB<=1000000000000000)/\(0<=s.lost/\s.lost<=s.BB)/\(0<=s.P9/\s.P9<=s.BB)
def new(r:Ru):St:=⟨r.seed,0,[],0,0,0⟩
end AN
end
section
open RowKit
attribute [local go_sem ↓] wp_at_zero wp_at_succ
def gi(m:AN.Q7):List Value:=[Iv m.1,.string (strOfNums m.2)]
def FN(l:List AN.Q7):List Value:=l.flatMap gi
theorem Tn(m:AN.Q7)(l:List AN.Q7):FN (m::l)=Iv m.1:: .string (strOfNums m.2)::FN l:=rfl
theorem eY(l k:List AN.Q7):FN (l++k)=FN l++FN k:=A0a
theorem U1:∀(l:List AN.Q7)(j:Nat)(h:j<l.length),(FN l)[j*2]?=some (Iv l[j].1)/\(FN l)[j*2+1]?=some (.string (strOfNums l[j].2))
 |m::l,0,h=>⟨rfl,rfl⟩
 |m::l,j+1,h=>by have:=U1 l j F7;rw[Tn,show(j+1)*2=j*2+1+1 by omega];simpa using this
theorem ZF:∀(l:List AN.Q7)(j:Nat),(FN l).take (j*2)=FN (l.take j)
 |[],j=>by simp[FN]
 |m::l,0=>by simp[FN]
 |m::l,j+1=>by rw[Tn,show(j+1)*2=j*2+1+1 by omega,List.take_succ_cons,List.take_succ_cons,ZF l j,List.take_succ_cons,Tn]
theorem VZ:∀(l:List AN.Q7)(j:Nat),(FN l).drop (j*2)=FN (l.drop j)
 |[],j=>by simp[FN]
 |m::l,0=>by simp[FN]
 |m::l,j+1=>by rw[Tn,show(j+1)*2=j*2+1+1 by omega,mh,mh,VZ l j,mh]
theorem Uq(l:List AN.Q7):∀v∈FN l,v.oneCell'=true:=by
 intro v hv;simp only[FN,List.mem_flatMap] at hv;obtain⟨m,_,hm⟩:=hv;simp[gi] at hm
 rcases hm with rfl|rfl<;>rfl
def lkl(r:AN.Ru)(s:AN.St)(A:Option Addr)(c:Nat):List Value:=[.bool true,Iv r.BY,Iv r.AY,Iv r.least,Iv r.BU,Iv r.seed,.int .u64 s.x,Iv s.now,.slice A s.u.length c,Iv s.BB,Iv s.lost,Iv s.P9]
structure EO(w:World)(base b:Nat)(A:Option Addr)(c:Nat)(r:AN.Ru)(s:AN.St):Prop where
 BM:w.heap[b]?=some (.cells (lkl r s A c).toArray 172 (0,0))
 row:Row w base 175 2 A s.u.length c (FN (AN.OG s.u))
 ge:base<=b
def Xn(b:Nat)(A:Option Addr)(i:Nat):Prop:=i=b\/AK A=some i
section
variable{w w':World}{base b c:Nat}{A:Option Addr}{r:AN.Ru}{s:AN.St}
theorem EO.ne(h:EO w base b A c r s){g:Nat}(hg:AK A=some g):g≠b:=by
 rintro rfl
 rcases h.row.2 with⟨rfl,_⟩|⟨g',o,cur,rfl,_,hh,_⟩
 ·cases hg
 ·simp[AK] at hg;subst hg;rw[h.BM] at hh;injection hh with hh;injection hh with _ ht;exact absurd ht Fj
theorem EO.lt(h:EO w base b A c r s):b<w.heap.size:=BG h.BM
theorem EO.kept{S:Nat->Prop}(h:EO w base b A c r s)(k:AG S w w')(hS:∀i,Xn b A i->¬S i):EO w' base b A c r s:=
 ⟨AR h.BM k (hS b (.inl rfl)),h.row.kept k (λg hg=>hS g (.inr hg)),h.ge⟩
theorem EO.below{B:Nat}(h:EO w base b A c r s)(k:Below B w w')(hB:w.heap.size<=B):EO w' base b A c r s:=
 h.kept (S:=λ_=>False) ⟨k.os,k.tape,k.output,k.size,λi hi _=>k.block i Ft⟩ (λ_ _ h=>h)
theorem EO.alloc(h:EO w base b A c r s)(o:Obj):EO (w.alloc o) base b A c r s:=⟨AI h.BM o,h.row.alloc o,h.ge⟩
theorem EO.drew(h:EO w base b A c r s):EO w.drew base b A c r s:=⟨h.BM,h.row,h.ge⟩
theorem EO.drewN(h:EO w base b A c r s)(k:Nat):EO (w.drewN k) base b A c r s:=⟨h.BM,h.row,h.ge⟩
theorem EO.FY(h:EO w base b A c r s){p:Addr}(hp:∀i,Xn b A i->i≠p.block)(u:Value):EO (w.setCell p u) base b A c r s:=
 ⟨CV h.BM (hp b (.inl rfl)) u,h.row.FY (λg hg=>hp g (.inr hg)) u,h.ge⟩
theorem EO.two(h:EO w base b A c r s):∀i,Xn b A i->i<w.heap.size:=by
 rintro i (rfl|hi)
 ·exact h.lt
 ·exact(h.row.lt hi).2
theorem EO.TD(h:EO w base b A c r s):∀i,Xn b A i->base<=i:=by
 rintro i (rfl|hi)
 ·exact h.ge
 ·exact(h.row.lt hi).1
end
theorem II(b:Nat)(cs:List Value)(w:World)(h:w.heap[b]?=some (.cells cs.toArray 172 (0,0)))(h0:cs[0]?=some (.bool true)):
  Calls prog 128 #[Pt b] w (LP (.bool false) w):=by
 exact Mx
theorem gd(b:Nat)(cs:List Value)(w:World)(h:w.heap[b]?=some (.cells cs.toArray 172 (0,0)))(h0:cs[0]?=some (.bool false)):
  Calls prog 128 #[Pt b] w (LP (.bool true) w):=by
 exact Mx
theorem A0n(x:Int):IntKind.u64.wrap (IntKind.u64.wrap (6364136223846793005*x)+1442695040888963407)=AN.nx x:=by
 unfold AN.nx;simp only[my];omega
theorem A1s(b:Nat)(x oK:Int)(w:World)(hc:w.cell? (Ad b 6)=some (.int .u64 x))(hf:w.frozen? (Ad b 6)=false)(hl:0<oK)(hl2:oK<=1000000):
  Calls prog 152 #[Pt b,Iv oK] w λe w'=>e= .returned (Iv (AN.dr x%oK))/\w'=w.setCell (Ad b 6) (.int .u64 (AN.nx x)):=by
 have N:=Hd (A0n x);go_enter func152,ntmps152;go_wp2_with fail;go_ret;rw[N.out];refine⟨JL ?_,rfl⟩;have:=AN.gU x;unfold AN.dr at this⊢;rw[IntWalk.wrap64_in _ ⟨by omega,by omega⟩,vH this.1]
theorem tT(base b c:Nat)(A:Option Addr)(r:AN.Ru)(s:AN.St)(oK:Int)(w:World)(h:EO w base b A c r s)(hl:0<oK)(hl2:oK<=1000000):
  Calls prog 152 #[Pt b,Iv oK] w λe w'=>e= .returned (Iv (AN.dr s.x%oK))/\w'=w.setCell (Ad b 6) (.int .u64 (AN.nx s.x))/\EO w' base b A c r {s with x:=AN.nx s.x}:=by
 refine(A1s b s.x oK w (AB h.BM 6 rfl) (AE h.BM 6) hl hl2).mono ?_;rintro e w' ⟨rfl,rfl⟩;refine⟨rfl,rfl,?_,h.row.FY (λg hg=>h.ne hg) _,h.ge⟩;have:=AP h.BM 6 (.int .u64 (AN.nx s.x));exact Ik
theorem qv(r:AN.Ru)(s:AN.St)(m:AN.Q7){i:Nat}(hi:i<=s.u.length)(h1:∀(h:0<i),∀x,(AN.OG s.u)[i-1]?=some x->x.1<=m.1)(h2:∀j x,(AN.OG s.u)[j]?=some x->i<=j->m.1<x.1):
  (FN (AN.OG s.u)).take (i*2)++(gi m++(FN (AN.OG s.u)).drop (i*2))=FN (AN.OG (s.u++[m])):=by
 rw[AN.QU,AN.ng (AN.QI s.u) (i:=i) (by rw[AN.JU];exact hi) (λh=>h1 h _ (Gg Dj)) (λj h hj=>h2 j _ (Gg h) hj),
  ZF,VZ,eY]
 rfl
def ug(base b:Nat)(A:Option Addr)(r:AN.Ru)(s:AN.St)(w:World)(e:Ending)(w':World):Prop:=
 e= .returned (.tuple #[])/\∃A' c',EO w' base b A' c' r s/\AG (Xn b A) w w'/\(AK A'=AK A\/∃g,AK A'=some g/\w.heap.size<=g)
def A6w(base b c:Nat)(A:Option Addr)(r:AN.Ru)(s:AN.St)(t:Int)(d:List Int)(w:World)(v:Value)(wx:World):Prop:=
 v=Pt w.heap.size/\EO wx base b A c r {s with x:=AN.nx s.x}/\wx.heap[w.heap.size]?=some (.cells #[Iv t,.string (strOfNums d)] 175 (0,0))/\AG (Xn b A) w wx
theorem fX(base b c c':Nat)(A A':Option Addr)(r:AN.Ru)(s:AN.St)(d:List Int)(t:Int)(i:Nat)(w wc W w4:World)(eH:EO wc base b A c r {s with x:=AN.nx s.x})(aM:AG (Xn b A) w wc)(hKW:AG (Xn b A) wc W)
  (hTE:s.now+r.least+AN.dr s.x%(r.BU-r.least+1)=t)(hB4:w4.heap[b]?=some (.cells (lkl r {s with x:=AN.nx s.x} A c).toArray 172 (0,0)))
  (kj:Row w4 base 175 2 A' (s.u.length+1) c' ((FN (AN.OG s.u)).take (i*2)++(gi (t,d)++(FN (AN.OG s.u)).drop (i*2))))(hG4:W.grownBy w4 (AK A))
  (JV:AK A'=AK A\/∃g,AK A'=some g/\W.heap.size<=g)(hi:i<=s.u.length)(h1:∀(h:0<i),∀x,(AN.OG s.u)[i-1]?=some x->x.1<=t)(h2:∀j x,(AN.OG s.u)[j]?=some x->i<=j->t<x.1):
  ug base b A r (AN.put r s d) w (.returned (.tuple #[])) (w4.setCell (Ad b 8) (.slice A' (s.u.length+1) c')):=by
 have LX:∀g,AK A'=some g->g≠b:=by
  intro g hg
  rcases JV with h|⟨g',h,jj⟩
  ·exact eH.ne (by rw[<-h];exact hg)
  ·rw[h] at hg;injection hg with hg;have:=eH.lt;have:=hKW.size;omega
 rw[qv r s (t,d) hi h1 h2] at kj;(have A0U:AN.put r s d={s with x:=AN.nx s.x,u:=s.u++[(t,d)]}:=by unfold AN.put;rw[hTE]);have X1:=AP hB4 8 (.slice A' (s.u.length+1) c');rw[Q8] at X1;refine⟨rfl,A',c',⟨?_,?_,eH.ge⟩,?_,?_⟩
 ·rw[A0U];simpa[lkl] using X1
 ·rw[A0U];simpa using kj.FY (p:=(Ad b 8)) (λg hg=>LX g hg) _
 ·refine((aM.trans hKW (λ_ _ h=>h)).trans (AG.JK hG4 (S:=Xn b A) (λg hg=> .inr hg)) (λ_ _ h=>h)).setCell (.inl (Or.inl rfl)) _
 ·rcases JV with h|⟨g,h,jj⟩
  ·exact .inl h
  ·exact .inr ⟨g,h,by have:=aM.size;have:=hKW.size;omega⟩
theorem gv(base b c:Nat)(A:Option Addr)(r:AN.Ru)(s:AN.St)(d:List Int)(w:World)(h:EO w base b A c r s)(hr:AN.MP r=true)(hs:AN.Inv s)(hn:s.u.length<1000)(BJ:base<=w.heap.size):
  Calls prog 153 #[Pt b,.string (strOfNums d)] w (ug base b A r (AN.put r s d) w):=by
 rw[AN.OE] at hr;obtain⟨⟨r1,r2⟩,⟨r3,r4⟩,⟨r5,r6⟩,r7,r8⟩:=hr;obtain⟨⟨x1,x2⟩,⟨n1,n2⟩,hu,hm,_⟩:=hs;obtain⟨d1,d2⟩:=AN.gU s.x;have hD:=Hd (λ(W:World)(hW:EO W base b A c r s)=>tT base b c A r s (r.BU-r.least+1) W hW Ft Ft);have LY:=sN (AN.dr s.x) (show r.BU-r.least+1≠0 by omega);have Zi:=sU (AN.dr s.x) (show 0<r.BU-r.least+1 by omega);obtain⟨at_,JV⟩:=BN (AN.dr s.x%(r.BU-r.least+1));rw[<-JV] at LY Zi;have HA:=Hd JV;rw[<-JV] at hD;have HM:=Hd hm;have HU:=Hd hu;clear JV hm x1 x2 d1 d2 hu;have hL:=h;have hB:=h.BM;have EK:=h.lt;have c7:w.cell? (Ad b 7)=some (Iv s.now):=AB hB 7 rfl;have c3:w.cell? (Ad b 3)=some (Iv r.least):=AB hB 3 rfl;have c4:w.cell? (Ad b 4)=some (Iv r.BU):=AB hB 4 rfl;have HL:=Hd hL;clear hL h hB;have HT:=Hd HL.out.two;go_enter func153,ntmps153;go_upto_region 0 with fail;go_cut[4] (λs4 wx=>A6w base b c A r s (s.now+r.least+at_) d w s4 wx)
 case first=>
  have wa:=GF (s.now+r.least) Ft;have wb:=GF (r.BU-r.least) Ft;have wc:=GF (r.BU-r.least+1) Ft;have wd:=GF (s.now+r.least+at_) Ft;go_region_held3 (λw'=>w'.cell? ⟨b,7,none⟩=some (Iv s.now)/\w'.cell? ⟨b,3,none⟩=some (Iv r.least)/\w'.cell? ⟨b,4,none⟩=some (Iv r.BU)) (first|(refine⟨?_,?_,?_⟩<;>simp[go_sem, *];done)|go_keep) (first|(go_at_call 152;refine(hD.out _ (by first|exact HL.out|exact HL.out.drew|exact HL.out.alloc _|exact HL.out.drew.alloc _|exact(HL.out.alloc _).drew)).mono ?_;rintro e w2 ⟨rfl,hw2,eH⟩;have HW2:=Hd hw2;have X8:=Hd eH;have d7:w2.cell? (Ad b 7)=some (Iv s.now):=AB eH.BM 7 rfl;have d3:w2.cell? (Ad b 3)=some (Iv r.least):=AB eH.BM 3 rfl;have d4:w2.cell? (Ad b 4)=some (Iv r.BU):=AB eH.BM 4 rfl;try(have hN:w2.heap[w.heap.size]?=some (.cells #[Iv 0,.string ⟨#[]⟩] 175 (0,0)):=(by rw[hw2];refine CV ?_ Fp _;first|exact AM _ _|exact BK _ _ _ Fu);have e0:=AB (l:=[Iv 0,.string ⟨#[]⟩]) hN 0 rfl;have e1:=AB (l:=[Iv 0,.string ⟨#[]⟩]) hN 1 rfl;have g0:=AE hN 0;have g1:=AE hN 1);clear hw2 eH))
  all_goals(go_wp2_with fail;go_meet)
  all_goals refine⟨rfl,?_,?_,?_⟩
  ·have h2:=X8.out;rw[HW2.out] at h2;first|exact h2.alloc _|exact(h2.alloc _).drew
  ·exact BK _ _ _ Fu
  ·exact Ae
  ·refine EO.FY (EO.FY X8.out ?_ _) ?_ _<;>(intro i hi;have:=HT.out i hi;simp;omega)
  ·exact(AP (AP hN 0 _) 1 _).trans Fu
  ·rw[HW2.out];exact Ae
 case rest=>
  obtain⟨rfl,eH,xc,aM⟩:=hcut;obtain⟨t,ht⟩:=BN (s.now+r.least+at_);rw[<-ht] at xc;have HTE:=Hd (show s.now+r.least+AN.dr s.x%(r.BU-r.least+1)=t by rw[ht,HA.out]);clear ht LY Zi hD HA;have c8:wc.cell? (Ad b 8)=some (.slice A s.u.length c):=AB eH.BM 8 rfl;have f8:=AE eH.BM 8;have cm:wc.cell? (Ad w.heap.size 0)=some (Iv t):=AB (l:=[Iv t,.string (strOfNums d)]) xc 0 rfl;have cn:wc.cell? (Ad w.heap.size 1)=some (.string (strOfNums d)):=AB (l:=[Iv t,.string (strOfNums d)]) xc 1 rfl;have wO:=aM.size;have X8:=Hd eH;have HM2:=Hd xc;have T0:=Hd aM;clear eH xc aM c7 c3 c4 HL;go_wp2_with fail;go_loopw[5] (λv wr=>∃i q:Nat,v=Iv i/\i<=s.u.length/\wr=wc.drewN q/\Hid (∀j x,(AN.OG s.u)[j]?=some x->i<=j->t<x.1)) (λv _=>(intOf v).toNat)
  case atStart=>exact⟨s.u.length,0,by go_num,Lr _,rfl,Hd (λj x hx hj=>by rw[R3 (by rw[AN.JU];exact hj)] at hx;cases hx)⟩
  case round=>
   obtain⟨i,q,rfl,hi,rfl,HI⟩:=hrel
   rcases mg i with h0|h0
   ·subst h0;go_wp2_with fail;go_quiet (fail);go_wp2_with fail;have HIE:=Hd (show ∀(h:0<0),∀x,(AN.OG s.u)[0-1]?=some x->x.1<=t from(λh=>absurd h Ft));have A6C:=Hd (λ(W:World)(vb:Nat)(hW:Row W base 175 2 A s.u.length c (FN (AN.OG s.u)))(hv:W.heap[vb]?=some (.cells #[Iv t,.string (strOfNums d)] 175 (0,0)))(LX:wc.heap.size<=vb)(hb:base<=W.heap.size)=>tu A s.u.length c 0 (FN (AN.OG s.u)) (gi (t,d)) vb base W hW Ft Ft hv rfl (Uq [(t,d)]) (Uq _) (λe=>by have:=(X8.out.row.lt e).2;omega) hb);have az:=X8.out.row;have xc:=HM2.out;have YU:=X8.out.BM;have A5l:=BG xc;have jl:=X8.out.lt;have HNE:=Hd (show some w.heap.size≠AK A from λe=>absurd (HT.out _ (.inr e.symm)) Ft);have ZT:=Hd HI.out;clear HI;(have al8:∀k ob,((wc.drewN k).alloc ob).cell? (Ad b 8)=some (.slice A s.u.length c):=λk ob=>(td ob b 8 jl).trans c8);(refine K2x ?_;intro alm aln);go_region_law (first|(go_simp;go_at_call 172;refine(A6C.out _ _ Am Af Cm Cm).mono ?_;rintro e w4 ⟨A',c',rfl,nm,VH,Wm⟩;have QP:=VH.size;try simp at QP;have GA:w4.heap[b]?=some (.cells (lkl r {s with x:=AN.nx s.x} A c).toArray 172 (0,0)):=(VH.block b Cm Bh).trans Af;have hM4:w4.heap[w.heap.size]?=some (.cells #[Iv t,.string (strOfNums d)] 175 (0,0)):=(VH.block w.heap.size Cm HNE.out).trans Af;have dm:=AB (l:=[Iv t,.string (strOfNums d)]) hM4 0 rfl;have dn:=AB (l:=[Iv t,.string (strOfNums d)]) hM4 1 rfl;have d8:w4.cell? (Ad b 8)=some (.slice A s.u.length c):=AB GA 8 rfl;have f84:=AE GA 8;have Qo:=Hd GA;have HR4:=Hd nm;have yl:=Hd VH;have A3X:=Hd Wm;clear GA nm VH Wm))
    all_goals(go_end0;exact fX base b c _ A _ r s d t 0 w wc _ w4 X8.out T0.out Ae HTE.out Qo.out HR4.out yl.out A3X.out Ft HIE.out ZT.out)
   ·(have qQ:(0:Int)<(i:Int):=by omega);obtain⟨x,hx⟩:∃x,(AN.OG s.u)[i-1]?=some x:=⟨_,Gg Dj⟩;obtain⟨g,o,cur,rfl,XO,XA,hgg,hgn,hgc,hgf,ag,y9,hgz⟩:=X8.out.row.some_ (show 0<s.u.length by omega);have c5:wc.cell? (Ad g (o+(i-1)*2))=some (Iv x.1):=y9 _ _ ((U1 (AN.OG s.u) (i-1) Dj).1.trans (by rw[Gg Dj] at hx;injection hx with hx;rw[hx]));(have i1:(0:Int)<=(i:Int)-1:=by omega);(have i2:(i:Int)-1<(s.u.length:Int):=by omega);(have i3:((i:Int)-1).toNat=i-1:=by omega);have i4:=GF ((i:Int)-1) Ft;have HXX:=Hd hx;have HGT:=Hd ag;clear hx ag y9 hgz hgg
    by_cases htx:t<x.1
    ·go_wp2_with fail;go_quiet (fail);go_wp2_with fail;go_roundw
     case rel=>exact⟨i-1,_,by go_num,by omega,rfl,Hd (λj y hy hj=>by
      rcases Oj j i with h|h
      ·(obtain rfl:j=i-1:=by omega);rw[HXX.out] at hy;injection hy with hy;rw[<-hy];exact htx
      ·exact HI.out j y hy h)⟩
     case measure=>simp[intOf];omega
    ·go_wp2_with fail;go_quiet (fail);go_wp2_with fail;have HIE:=Hd (show ∀(h:0<i),∀x,(AN.OG s.u)[i-1]?=some x->x.1<=t from(λh y hy=>by rw[HXX.out] at hy;injection hy with hy;rw[<-hy];omega));have A6C:=Hd (λ(W:World)(vb:Nat)(hW:Row W base 175 2 (some (Ad g o)) s.u.length c (FN (AN.OG s.u)))(hv:W.heap[vb]?=some (.cells #[Iv t,.string (strOfNums d)] 175 (0,0)))(LX:wc.heap.size<=vb)(hb:base<=W.heap.size)=>tu (some (Ad g o)) s.u.length c i (FN (AN.OG s.u)) (gi (t,d)) vb base W hW Ft Ft hv rfl (Uq [(t,d)]) (Uq _) (λe=>by have:=(X8.out.row.lt e).2;omega) hb);have az:=X8.out.row;have xc:=HM2.out;have YU:=X8.out.BM;have A5l:=BG xc;have jl:=X8.out.lt;have HNE:=Hd (show some w.heap.size≠AK (some (Ad g o)) from λe=>absurd (HT.out _ (.inr e.symm)) Ft);have ZT:=Hd HI.out;clear HI;(have al8:∀k ob,((wc.drewN k).alloc ob).cell? (Ad b 8)=some (.slice (some (Ad g o)) s.u.length c):=λk ob=>(td ob b 8 jl).trans c8);(refine K2x ?_;intro alm aln);go_region_law (first|(go_simp;go_at_call 172;refine(A6C.out _ _ Am Af Cm Cm).mono ?_;rintro e w4 ⟨A',c',rfl,nm,VH,Wm⟩;have QP:=VH.size;try simp at QP;have GA:w4.heap[b]?=some (.cells (lkl r {s with x:=AN.nx s.x} (some (Ad g o)) c).toArray 172 (0,0)):=(VH.block b Cm Bh).trans Af;have hM4:w4.heap[w.heap.size]?=some (.cells #[Iv t,.string (strOfNums d)] 175 (0,0)):=(VH.block w.heap.size Cm HNE.out).trans Af;have dm:=AB (l:=[Iv t,.string (strOfNums d)]) hM4 0 rfl;have dn:=AB (l:=[Iv t,.string (strOfNums d)]) hM4 1 rfl;have d8:w4.cell? (Ad b 8)=some (.slice (some (Ad g o)) s.u.length c):=AB GA 8 rfl;have f84:=AE GA 8;have Qo:=Hd GA;have HR4:=Hd nm;have yl:=Hd VH;have A3X:=Hd Wm;clear GA nm VH Wm))
     all_goals(go_end0;exact fX base b c _ (some (Ad g o)) _ r s d t i w wc _ w4 X8.out T0.out Ae HTE.out Qo.out HR4.out yl.out A3X.out Ft HIE.out ZT.out)
end
section
open RowKit
theorem ZG(n a b:Int)(w:World):
  Calls prog 74 #[Iv n,Iv a,Iv b] w (LP (.bool (AQ.Rj n a b)) w):=by
 by_cases h:a<=n
 all_goals
  go_enter func74,ntmps74;exact Jt
theorem Rh(n a b:Int)(w:World)(h:a<=n/\n<=b):
  Calls prog 74 #[Iv n,Iv a,Iv b] w (LP (.bool true) w):=
 (ZG n a b w).mono λe w' ⟨h1,h2⟩=>⟨by rw[h1,AQ.EP.2 h],h2⟩
theorem Ur(n a b:Int)(w:World)(h:¬(a<=n/\n<=b)):
  Calls prog 74 #[Iv n,Iv a,Iv b] w (LP (.bool false) w):=
 (ZG n a b w).mono λe w' ⟨h1,h2⟩=>⟨by rw[h1,AQ.SB.2 h],h2⟩
theorem tp(n a b:Int)(w:World):
  Calls prog 76 #[Iv n,Iv a,Iv b] w (LP (.bool (AQ.Rj n a b)) w):=by
 by_cases h:a<=n
 all_goals
  go_enter func76,ntmps76;exact Jt
theorem A2L(n a b:Int)(w:World)(h:a<=n/\n<=b):
  Calls prog 76 #[Iv n,Iv a,Iv b] w (LP (.bool true) w):=
 (tp n a b w).mono λe w' ⟨h1,h2⟩=>⟨by rw[h1,AQ.EP.2 h],h2⟩
theorem A5i(n a b:Int)(w:World)(h:¬(a<=n/\n<=b)):
  Calls prog 76 #[Iv n,Iv a,Iv b] w (LP (.bool false) w):=
 (tp n a b w).mono λe w' ⟨h1,h2⟩=>⟨by rw[h1,AQ.SB.2 h],h2⟩
def rul(r:AN.Ru):List Value:=[Iv r.BY,Iv r.AY,Iv r.least,Iv r.BU,Iv r.seed]
theorem fx(r:AN.Ru):(¬(0<=r.BY/\r.BY<=1000)/\AN.MP r=false)\/((0<=r.BY/\r.BY<=1000)/\¬(0<=r.AY/\r.AY<=1000)/\AN.MP r=false)\/
  ((0<=r.BY/\r.BY<=1000)/\(0<=r.AY/\r.AY<=1000)/\¬(0<=r.least/\r.least<=r.BU)/\AN.MP r=false)\/((0<=r.BY/\r.BY<=1000)/\(0<=r.AY/\r.AY<=1000)/\(0<=r.least/\r.least<=r.BU)/\60000<r.BU/\AN.MP r=false)\/
  ((0<=r.BY/\r.BY<=1000)/\(0<=r.AY/\r.AY<=1000)/\(0<=r.least/\r.least<=r.BU)/\r.BU<=60000/\r.seed<0/\AN.MP r=false)\/((0<=r.BY/\r.BY<=1000)/\(0<=r.AY/\r.AY<=1000)/\(0<=r.least/\r.least<=r.BU)/\r.BU<=60000/\0<=r.seed/\AN.MP r=true):=by
 have no:∀p:Prop,(¬((0<=r.BY/\r.BY<=1000)/\(0<=r.AY/\r.AY<=1000)/\(0<=r.least/\r.least<=r.BU)/\r.BU<=60000/\0<=r.seed))->AN.MP r=false:=λ_ h=>by
  cases hv:AN.MP r
  ·rfl
  ·exact absurd (AN.OE.1 hv) h
 by_cases a:0<=r.BY/\r.BY<=1000
 ·right
  by_cases b:0<=r.AY/\r.AY<=1000
  ·right
   by_cases c:0<=r.least/\r.least<=r.BU
   ·right
    by_cases d:60000<r.BU
    ·exact .inl ⟨a,b,c,d,no True Ft⟩
    ·right
     by_cases e:r.seed<0
     ·exact .inl ⟨a,b,c,by omega,e,no True Ft⟩
     ·exact .inr ⟨a,b,c,by omega,by omega,AN.OE.2 ⟨a,b,c,by omega,by omega⟩⟩
   ·exact .inl ⟨a,b,c,no True (λh=>c h.2.2.1)⟩
  ·exact .inl ⟨a,b,no True (λh=>b h.2.1)⟩
 ·exact .inl ⟨a,no True (λh=>a h.1)⟩
theorem Xx(r:AN.Ru)(w:World):
  Calls prog 33 #[.agg (rul r).toArray] w (IL (.bool (AN.MP r)) w):=by
 obtain⟨lo,tw,le,mo,se⟩:=r
 rcases fx ⟨lo,tw,le,mo,se⟩ with⟨h1,E⟩|⟨h1,h2,E⟩|⟨h1,h2,h3,E⟩|⟨h1,h2,h3,h4,E⟩|⟨h1,h2,h3,h4,h5,E⟩|⟨h1,h2,h3,h4,h5,E⟩
 all_goals
  have HE:=Hd E;clear E;simp only[rul] at*;(try dsimp only at h1);(try dsimp only at h2);(try dsimp only at h3);(try dsimp only at h3');(try dsimp only at h4);(try dsimp only at h5);go_enter func33,ntmps33;go_wp2_with (first|(refine(Rh _ _ _ _ Ft).mono ?_;rintro e w' ⟨rfl,rfl⟩)|(refine(Ur _ _ _ _ Ft).mono ?_;rintro e w' ⟨rfl,rfl⟩));go_ret;exact⟨CU Bp,A9⟩
theorem QX(r:AN.Ru)(w:World):
  Calls prog 36 #[.agg (rul r).toArray] w (IL (.bool (AN.MP r)) w):=by
 obtain⟨lo,tw,le,mo,se⟩:=r
 rcases fx ⟨lo,tw,le,mo,se⟩ with⟨h1,E⟩|⟨h1,h2,E⟩|⟨h1,h2,h3,E⟩|⟨h1,h2,h3,h4,E⟩|⟨h1,h2,h3,h4,h5,E⟩|⟨h1,h2,h3,h4,h5,E⟩
 case inr.inr.inl=>
  by_cases h0:0<=le
  ·(have h3':mo<le:=by simp only at h3;omega);clear h3;exact Hc
  ·(have h3':le<0:=by omega);clear h3 h0;exact Hc
 all_goals
  exact Hc
def jM(r:AN.Ru)(w:World)(e:Ending)(w':World):Prop:=
 ∃b,e= .returned (.tuple #[Pt b,Iv 0])/\EO w' w.heap.size b none 0 r (AN.new r)/\Below w.heap.size w w'
theorem mW(r:AN.Ru)(w:World)(hv:AN.MP r=true)(hse:r.seed<=9223372036854775807):
  Calls prog 65 #[.agg (rul r).toArray] w (jM r w):=by
 have V:=Hd (λW:World=>hv▸Xx r W);rw[AN.OE] at hv;obtain⟨_,_,_,_,h5⟩:=hv;obtain⟨lo,tw,le,mo,se⟩:=r;simp only[rul] at*;(have hw:IntKind.u64.wrap se=se:=by rw[my];omega);go_enter func65,ntmps65;go_wp2_with fail;refine(V.out _).mono ?_;rintro e w1 ⟨rfl,BX⟩;have IJ:=BX.size;(try simp at IJ);(refine K3F ?_;intro h1);have BH:=OH h1;have la:=BG h1;go_wp2_with fail;go_ret2;refine⟨w1.heap.size,rfl,⟨AM _ _,Row.nil _ _ _ _,by omega⟩,A9⟩
end
section
set_option maxRecDepth 512
namespace AN
open Go.RowKit
theorem aH{r:Ru}(h:MP r=true)(h2:r.seed<=9223372036854775807):Inv (new r):=by
 rw[OE] at h;refine⟨⟨h.2.2.2.2,?_⟩,by unfold new;simp,by simp[new],by simp[new],by simp[new],by simp[new],by simp[new]⟩;show r.seed<=_;omega
theorem Zd{s:St}{now:Int}(h:Inv s)(hn:s.now<=now/\now<=1073741824)(hs:s.BB<1000000000000000):Inv (Te s now):=by
 obtain⟨h1,h2,h3,h4,h5,h6,h7⟩:=h;refine⟨cN _,?_,h3,h4,?_,?_,?_⟩<;>simp only[Te]<;>omega
theorem A76{s:St}(h:Inv s)(x:Int):Inv {s with x:=nx x}:=⟨cN _,h.2⟩
theorem aG{r:Ru}{s:St}{b:List Int}(hr:MP r=true)(h:Inv s)(hb:By b)(hl:b.length<=128)(hu:s.u.length<1000):Inv (put r s b):=by
 rw[OE] at hr;obtain⟨h1,h2,h3,h4,h5⟩:=h;refine⟨cN _,h2,?_,?_,h5⟩
 ·simp only[put,TW,List.length_cons,List.length_nil];omega
 ·intro m hm;simp only[put,List.mem_append,List.mem_singleton] at hm
  rcases hm with hm|rfl
  ·exact h4 m hm
  ·have e1:=sN (dr s.x) (show r.BU-r.least+1≠0 by omega);have e2:=sU (dr s.x) (show 0<r.BU-r.least+1 by omega);exact⟨by simp only;omega,by simp only;omega,hb,hl⟩
theorem l4{s:St}{now:Int}{n:Nat}(h:IC s now n=0):(1<=n/\n<=128)/\(s.now<=now/\now<=1073741824)/\s.u.length<999:=by
 unfold IC at h
 by_cases h1:1<=n/\n<=128
 ·rw[AO F4] at h
  by_cases h2:s.now<=now/\now<=1073741824
  ·rw[AO F5] at h
   rcases Oj s.u.length 999 with h3|h3
   ·exact⟨h1,h2,h3⟩
   ·rw[AW h3] at h;omega
  ·rw[AW h2] at h;omega
 ·rw[AW h1] at h;omega
theorem wK{r:Ru}{s:St}{b:List Int}(hr:MP r=true)(h:Inv s)(hb:By b)(hl:b.length<=128)(hu:s.u.length<1000)(hd:s.P9<s.BB):Inv (br r s b):=by
 refine aG hr ?_ hb hl hu;obtain⟨h1,h2,h3,h4,h5,h6,h7⟩:=h;exact⟨cN _,h2,h3,h4,h5,h6,by constructor<;>simp only<;>omega⟩
theorem A0F{r:Ru}{s:St}{now:Int}{b:List Int}(hr:MP r=true)(h:Inv s)(hb:By b)(hs:s.BB<1000000000000000):Inv (send r s now b):=by
 unfold send
 by_cases he:IC s now b.length=0
 ·rw[AW he];obtain⟨h1,h2,h3⟩:=l4 he;have i0:=Zd h h2 hs;have i1:Inv (TS r s now b):=aG hr i0 hb h1.2 (show s.u.length<1000 by omega);split
  ·obtain⟨a1,a2,a3,a4,a5,a6,a7⟩:=i0;obtain⟨b1,b2,b3,b4,b5,b6,b7⟩:=h;refine⟨a1,a2,a3,a4,a5,?_,a7⟩;simp only[Te];omega
  ·split
   ·refine wK hr i1 hb h1.2 ?_ ?_
    ·simp only[TS,put,Te,TW,List.length_cons,List.length_nil];omega
    ·obtain⟨b1,b2,b3,b4,b5,b6,b7⟩:=h;simp only[TS,put,Te];omega
   ·exact A76 i1 _
 ·rw[AO he];exact h
theorem Wg{s:St}{now:Int}(h:Inv s):Inv (recv s now):=by
 unfold recv;split
 ·rename_i he
  obtain⟨h1,h2,h3,h4,h5⟩:=h;have hn:s.now<=now/\now<=1073741824:=by
   unfold FU at he;split at he
   ·assumption
   ·omega
  refine⟨h1,by simp only;omega,Lt (A0d _ _) h3,λm hm=>h4 m (List.mem_filter.1 hm|>.1),h5⟩
 ·exact h
end AN
end
section
open RowKit
attribute [local go_sem ↓] wp_at_zero wp_at_succ
def VC(base b:Nat)(A:Option Addr)(r:AN.Ru)(s':AN.St)(w w':World):Prop:=
 ∃A' c',EO w' base b A' c' r s'/\AG (Xn b A) w w'/\(AK A'=AK A\/∃g,AK A'=some g/\w.heap.size<=g)
def ep(base b:Nat)(A:Option Addr)(r:AN.Ru)(s':AN.St)(x:Int)(w:World)(e:Ending)(w':World):Prop:=e= .returned (Iv x)/\VC base b A r s' w w'
theorem EO.A6L{w:World}{base b c:Nat}{A:Option Addr}{r:AN.Ru}{s:AN.St}(h:EO w base b A c r s)(x:Int):EO (w.setCell (Ad b 7) (Iv x)) base b A c r {s with now:=x}:=by
 refine⟨?_,h.row.FY (λg hg=>h.ne hg) _,h.ge⟩;have:=AP h.BM 7 (Iv x);exact Ik
theorem EO.A93{w:World}{base b c:Nat}{A:Option Addr}{r:AN.Ru}{s:AN.St}(h:EO w base b A c r s)(x:Int):EO (w.setCell (Ad b 9) (Iv x)) base b A c r {s with BB:=x}:=by
 refine⟨?_,h.row.FY (λg hg=>h.ne hg) _,h.ge⟩;have:=AP h.BM 9 (Iv x);exact Ik
theorem EO.A6O{w:World}{base b c:Nat}{A:Option Addr}{r:AN.Ru}{s:AN.St}(h:EO w base b A c r s)(x:Int):EO (w.setCell (Ad b 10) (Iv x)) base b A c r {s with lost:=x}:=by
 refine⟨?_,h.row.FY (λg hg=>h.ne hg) _,h.ge⟩;have:=AP h.BM 10 (Iv x);exact Ik
theorem EO.A6N{w:World}{base b c:Nat}{A:Option Addr}{r:AN.Ru}{s:AN.St}(h:EO w base b A c r s)(x:Int):EO (w.setCell (Ad b 11) (Iv x)) base b A c r {s with P9:=x}:=by
 refine⟨?_,h.row.FY (λg hg=>h.ne hg) _,h.ge⟩;have:=AP h.BM 11 (Iv x);exact Ik
theorem A1r(base b c:Nat)(A:Option Addr)(r:AN.Ru)(s:AN.St)(oK:Int)(w:World)(h:EO w base b A c r s)(hl:0<oK)(hl2:oK<=1000000):
  Calls prog 152 #[Pt b,Iv oK] w λe w'=>e= .returned (Iv (AN.dr s.x%oK))/\EO w' base b A c r {s with x:=AN.nx s.x}/\AG (Xn b A) w w':=by
 refine(tT base b c A r s oK w h hl hl2).mono ?_;rintro e w' ⟨rfl,rfl,h2⟩;exact⟨rfl,h2,Ae⟩
theorem VC.same{base b c:Nat}{A:Option Addr}{r:AN.Ru}{s:AN.St}{w w':World}(h:EO w' base b A c r s)(k:AG (Xn b A) w w'):VC base b A r s w w':=⟨A,c,h,k,.inl rfl⟩
theorem Wv{b:Nat}{A A':Option Addr}{n:Nat}(h:AK A'=AK A\/∃g,AK A'=some g/\n<=g):∀i,i<n->Xn b A' i->Xn b A i:=by
 rintro i hi (rfl|Uu)
 ·exact .inl rfl
 ·rcases h with h|⟨g,h,hg⟩
  ·exact .inr (by rw[<-h];exact Uu)
  ·rw[h] at Uu;injection Uu with Uu;omega
theorem tk{A A1 A2:Option Addr}{n n1:Nat}(h1:AK A1=AK A\/∃g,AK A1=some g/\n<=g)(h2:AK A2=AK A1\/∃g,AK A2=some g/\n1<=g)(hn:n<=n1):AK A2=AK A\/∃g,AK A2=some g/\n<=g:=by
 rcases h2 with h2|⟨g,h2,hg⟩
 ·rw[h2];exact h1
 ·exact .inr ⟨g,h2,by omega⟩
theorem VC.trans{base b:Nat}{A A1:Option Addr}{r r':AN.Ru}{s2:AN.St}{w w1 w2:World}(k:AG (Xn b A) w w1)(JV:AK A1=AK A\/∃g,AK A1=some g/\w.heap.size<=g)(h:VC base b A1 r s2 w1 w2):VC base b A r s2 w w2:=by
 obtain⟨A2,c2,h2,k2,Zi⟩:=h;exact⟨A2,c2,h2,k.trans k2 (Wv JV),tk JV Zi k.size⟩
theorem Rd.kept{S:Nat->Prop}{w w':World}{B:Nat}{A:Option Addr}{n:Nat}{l:List Int}(h:Rd w B A n l)(k:AG S w w')(hB:B<=w.heap.size)(hS:∀a,A=some a->¬S a.block):Rd w' B A n l:=
 ⟨h.1,h.2.1,λhn=>by
  obtain⟨b,o,e,hb,hc⟩:=h.2.2 hn;exact⟨b,o,e,hb,λi hi=>(Cb (k.block b Ft (hS _ e))).trans (hc i hi)⟩⟩
theorem A2b(base b c:Nat)(A:Option Addr)(r:AN.Ru)(s:AN.St)(now:Int)(D:Option Addr)(n cap:Nat)(w:World)(h:EO w base b A c r s)(hn:n<=140737488355328)(he:AN.IC s now n≠0):
  Calls prog 130 #[Pt b,Iv now,.slice D n cap] w (LP (Iv (AN.IC s now n)) w):=by
 (refine K2M ?_;intro N c7);have c8:w.cell? (Ad b 8)=some (.slice A s.u.length c):=AB h.BM 8 rfl;clear h
 by_cases h1:1<=n/\n<=128
 ·by_cases h2:s.now<=now/\now<=1073741824
  ·by_cases h3:999<=s.u.length
   ·have E:=Hd (show AN.IC s now n=7 by unfold AN.IC;rw[AO F4,AO F5,AW h3]);clear he;go_enter func130,ntmps130;go_wp2_with (first|(refine N.out.mono ?_;rintro e w' ⟨rfl,rfl⟩)|(refine(Rh _ _ _ _ Ft).mono ?_;rintro e w' ⟨rfl,rfl⟩));go_ret;exact⟨JL E.out.symm,rfl⟩
   ·exact absurd (by unfold AN.IC;rw[AO F4,AO F5,AO h3]) he
  ·have E:=Hd (show AN.IC s now n=3 by unfold AN.IC;rw[AO F4,AW h2]);clear he;go_enter func130,ntmps130;go_wp2_with (first|(refine N.out.mono ?_;rintro e w' ⟨rfl,rfl⟩)|(refine(Rh _ _ _ _ Ft).mono ?_;rintro e w' ⟨rfl,rfl⟩)|(refine(Ur _ _ _ _ Ft).mono ?_;rintro e w' ⟨rfl,rfl⟩));go_ret;exact⟨JL E.out.symm,rfl⟩
 ·have E:=Hd (show AN.IC s now n=2 by unfold AN.IC;rw[AW h1]);clear he;go_enter func130,ntmps130;go_wp2_with (first|(refine N.out.mono ?_;rintro e w' ⟨rfl,rfl⟩)|(refine(Ur _ _ _ _ Ft).mono ?_;rintro e w' ⟨rfl,rfl⟩));go_ret;exact⟨JL E.out.symm,rfl⟩
theorem yU(base b c:Nat)(A:Option Addr)(r:AN.Ru)(s:AN.St)(now:Int)(D:Option Addr)(n cap:Nat)(d:List Int)(w:World)(h:EO w base b A c r s)(hr:AN.MP r=true)(hs:AN.Inv s)(Wi:s.BB<1000000000000000)(BJ:base<=w.heap.size)
  (hd:Rd w w.heap.size D n d)(hD:∀a,D=some a->¬Xn b A a.block)(he:AN.IC s now n=0):
  Calls prog 130 #[Pt b,Iv now,.slice D n cap] w (ep base b A r (AN.send r s now d) 0 w):=by
 have GZ:=hd.1;have h1:1<=n/\n<=128:=by
  by_cases h1:1<=n/\n<=128
  ·exact h1
  ·unfold AN.IC at he;rw[AW h1] at he;omega
 have h2:s.now<=now/\now<=1073741824:=by
  by_cases h2:s.now<=now/\now<=1073741824
  ·exact h2
  ·unfold AN.IC at he;rw[AO F4,AW h2] at he;omega
 have h3:s.u.length<999:=by
  rcases Oj s.u.length 999 with h3|h3
  ·exact h3
  ·unfold AN.IC at he;rw[AO F4,AO F5,AW h3] at he;omega
 (refine K2M ?_;intro N c7);have f7:=AE h.BM 7;have c8:w.cell? (Ad b 8)=some (.slice A s.u.length c):=AB h.BM 8 rfl;have c9:w.cell? (Ad b 9)=some (Iv s.BB):=AB h.BM 9 rfl;have f9:=AE h.BM 9;have HL:=Hd h;have HR:=Hd hr;have HS:=Hd hs;have HD:=Hd hd;have HDN:=Hd hD;have HE:=Hd (show AN.IC s now d.length=0 by rw[GZ];exact he);obtain⟨_,⟨n1,n2⟩,_,_,⟨s1,s2⟩,⟨l1,l2⟩,d1,d2⟩:=hs;rw[AN.OE] at hr;obtain⟨⟨r1,r2⟩,⟨r3,r4⟩,_⟩:=hr;clear h hd hD he GZ;go_enter func130,ntmps130;go_wp2_with (first|(refine N.out.mono ?_;rintro e w' ⟨rfl,rfl⟩)|(refine(Rh _ _ _ _ Ft).mono ?_;rintro e w' ⟨rfl,rfl⟩));obtain⟨W1,YT⟩:∃W:World,W=(w.setCell (Ad b 7) (Iv now)).setCell (Ad b 9) (Iv (s.BB+1)):=⟨_,rfl⟩;rw[<-YT];(have hL1:EO W1 base b A c r {s with now:=now,BB:=s.BB+1}:=by rw[YT];exact(HL.out.A6L now).A93 (s.BB+1));(have hK1:AG (Xn b A) w W1:=by rw[YT];exact Ae);have IJ:=hK1.size;have HL1:=Hd hL1;have eL:=Hd hK1;have k1:W1.cell? (Ad b 1)=some (Iv r.BY):=AB hL1.BM 1 rfl;clear YT hL1 hK1 c7 f7 c8 c9 f9;have hDR:=Hd (λ(W:World)(hW:EO W base b A c r {s with now:=now,BB:=s.BB+1})=>A1r base b c A r {s with now:=now,BB:=s.BB+1} 1000 W hW Ft Ft);obtain⟨v,hv⟩:=BN (AN.dr s.x%1000);simp only[<-hv] at hDR;have HV:=Hd hv;clear hv
 by_cases hlost:v<r.BY
 ·have HLO:=Hd (show AN.XY r s=true by unfold AN.XY;rw[<-HV.out];exact IU hlost);go_region_held3 (λw'=>w'.cell? ⟨b,1,none⟩=some (Iv r.BY)) (first|(simp[go_sem, *];done)|go_keep) (first|(go_at_call 152;refine(hDR.out _ Cx).mono ?_;rintro e w2 ⟨rfl,eH,aM⟩;have k2:w2.cell? (Ad b 1)=some (Iv r.BY):=AB eH.BM 1 rfl;have X8:=Hd eH;have T0:=Hd (show AG (Xn b A) W1 w2 from⟨aM.os,aM.tape,aM.output,aM.size,aM.block⟩);clear eH aM));have Zt:w2.cell? (Ad b 10)=some (Iv s.lost):=AB X8.out.BM 10 rfl;have f10:=AE X8.out.BM 10;go_wp2_with fail;go_ret;refine⟨rfl,VC.same (c:=c) ?_ ?_⟩
  ·have e:AN.send r s now d={s with now:=now,BB:=s.BB+1,x:=AN.nx s.x,lost:=s.lost+1}:=by
    unfold AN.send;rw[AW HE.out,AW HLO.out];rfl
   rw[e];exact X8.out.A6O (s.lost+1)
  ·exact(eL.out.trans T0.out (λ_ _ h=>h)).setCell (.inl (Or.inl rfl)) _
 ·have HLO:=Hd (show AN.XY r s=false by unfold AN.XY;rw[<-HV.out];exact ME hlost);have ZT:=Hd (AN.Zd HS.out h2 Wi);have HI3:=Hd (show AN.Inv (AN.TS r s now d) from AN.aG HR.out ZT.out HD.out.2.1 (by rw[HD.out.1];exact h1.2) (show s.u.length<1000 by omega));go_region_held3 (λw'=>w'.cell? ⟨b,1,none⟩=some (Iv r.BY)) (first|(simp[go_sem, *];done)|go_keep) (first|(go_at_call 152;refine(hDR.out _ Cx).mono ?_;rintro e w2 ⟨rfl,eH,aM⟩;have k2:w2.cell? (Ad b 1)=some (Iv r.BY):=AB eH.BM 1 rfl;have X8:=Hd eH;have T0:=Hd (show AG (Xn b A) W1 w2 from⟨aM.os,aM.tape,aM.output,aM.size,aM.block⟩);clear eH aM));have HKA:=Hd (eL.out.trans T0.out (λ_ _ h=>h));have xT:=HKA.out.size;have cv:=yJ (HD.out.kept HKA.out (Lr _) HDN.out) cap;have hL2':EO w2 base b A c r (AN.Te s now):=X8.out;have HP:=Hd (gv base b c A r (AN.Te s now) d w2 hL2' HR.out ZT.out (show s.u.length<1000 by omega) Ft);clear hL2' k1 k2 HL1 eL T0 X8 hDR;go_wp2_with (go_at_call 153;refine HP.out.mono ?_;rintro e w3 ⟨rfl,A3,c3,hL3,kl,jm⟩);clear cv;obtain⟨s3,hs3⟩:=BN (AN.TS r s now d);(have hL3':EO w3 base b A3 c3 r s3:=by rw[hs3];exact hL3);have ZI:=kl.size;(have hu3:s3.u.length=s.u.length+1:=by rw[hs3];simp[AN.TS,AN.put,AN.Te]);(have hd3:s3.P9=s.P9/\s3.BB=s.BB+1:=by rw[hs3];exact⟨rfl,rfl⟩);(have hI3:AN.Inv s3:=by rw[hs3];exact HI3.out);have HS3:=Hd (show AN.send r s now d=if AN.VM r s3 then AN.br r s3 d else{s3 with x:=AN.nx s3.x} by
   unfold AN.send;rw[AW HE.out,AO (by rw[HLO.out];simp),hs3])
  clear hs3;have HL3:=Hd hL3';have pa:=Hd (HKA.out.trans kl (λ_ _ h=>h));have jm:AK A3=AK A\/∃g,AK A3=some g/\w.heap.size<=g:=jm.imp id (λ⟨g,h,hg⟩=>⟨g,h,by omega⟩);have A92:=Hd jm;have HTW:=Hd (Wv (b:=b) jm);have HI3':=Hd hI3;have HU3:=Hd hu3;have HD3:=Hd hd3;clear hL3 hL3' kl jm HP ZT hI3 hu3 hd3;have k2:w3.cell? (Ad b 2)=some (Iv r.AY):=AB HL3.out.BM 2 rfl;have hDR:=Hd (λ(W:World)(hW:EO W base b A3 c3 r s3)=>A1r base b c3 A3 r s3 1000 W hW Ft Ft);obtain⟨v3,qH⟩:=BN (AN.dr s3.x%1000);simp only[<-qH] at hDR;have HV3:=Hd qH;clear qH
  by_cases htw:v3<r.AY
  ·have HTT:=Hd (show AN.VM r s3=true by unfold AN.VM;rw[<-HV3.out];exact IU htw);go_region_held3 (λw'=>w'.cell? ⟨b,2,none⟩=some (Iv r.AY)) (first|(simp[go_sem, *];done)|go_keep) (first|(go_at_call 152;refine(hDR.out _ Cw).mono ?_;rintro e w4 ⟨rfl,hL4,xf⟩;have k3:w4.cell? (Ad b 2)=some (Iv r.AY):=AB hL4.BM 2 rfl;have HL4:=Hd hL4;have HK4:=Hd (show AG (Xn b A3) w3 w4 from⟨xf.os,xf.tape,xf.output,xf.size,xf.block⟩);clear hL4 xf));have PR:w4.cell? (Ad b 11)=some (Iv s3.P9):=AB HL4.out.BM 11 rfl;have f11:=AE HL4.out.BM 11;have HKB:=Hd (pa.out.trans (S':=Xn b A3) HK4.out HTW.out);(have hdb:0<=s3.P9/\s3.P9<=1000000000000000:=by have:=HI3'.out;obtain⟨_,_,_,_,a,b',c'⟩:=this;omega);have HL5:=Hd (HL4.out.A6N (s3.P9+1));have HKC:=Hd (HKB.out.setCell (p:=(Ad b 11)) (.inl (Or.inl rfl)) (Iv (s3.P9+1)));have qG:=HKC.out.size;have cv5:=yJ (HD.out.kept HKC.out (Lr _) HDN.out) cap;have HI5:=Hd (show AN.Inv {s3 with x:=AN.nx s3.x,P9:=s3.P9+1} from by
    obtain⟨a1,a2,a3,a4,a5,a6,a7⟩:=HI3'.out;obtain⟨e1,e2⟩:=HD3.out;exact⟨AN.cN _,a2,a3,a4,a5,a6,by constructor<;>simp only<;>omega⟩)
   have HP:=Hd (λ(W:World)(hW:EO W base b A3 c3 r {s3 with x:=AN.nx s3.x,P9:=s3.P9+1})(tx:base<=W.heap.size)=>gv base b c3 A3 r {s3 with x:=AN.nx s3.x,P9:=s3.P9+1} d W hW HR.out HI5.out (show s3.u.length<1000 by rw[HU3.out];omega) tx);go_wp2_with (go_at_call 153;refine(HP.out _ HL5.out Ft).mono ?_;rintro e w6 ⟨rfl,A6,c6,hL6,hK6,A9y⟩);go_ret;refine⟨rfl,A6,c6,?_,HKC.out.trans hK6 HTW.out,tk A92.out A9y Ft⟩;rw[HS3.out,AW HTT.out];exact hL6
  ·have HTT:=Hd (show AN.VM r s3=false by unfold AN.VM;rw[<-HV3.out];exact ME htw);go_region_held3 (λw'=>w'.cell? ⟨b,2,none⟩=some (Iv r.AY)) (first|(simp[go_sem, *];done)|go_keep) (first|(go_at_call 152;refine(hDR.out _ Cw).mono ?_;rintro e w4 ⟨rfl,hL4,xf⟩;have k3:w4.cell? (Ad b 2)=some (Iv r.AY):=AB hL4.BM 2 rfl;have HL4:=Hd hL4;have HK4:=Hd (show AG (Xn b A3) w3 w4 from⟨xf.os,xf.tape,xf.output,xf.size,xf.block⟩);clear hL4 xf));go_wp2_with fail;go_ret;refine⟨rfl,A3,c3,?_,pa.out.trans (S':=Xn b A3) HK4.out HTW.out,A92.out.imp id (λ⟨g,h,hg⟩=>⟨g,h,by omega⟩)⟩;rw[HS3.out,AO (by rw[HTT.out];simp)];exact HL4.out
namespace AN
theorem XV{m:Q7}:∀{l:List Q7},(∀x∈l,x.1<=m.1)->ins m l=l++[m]
 |[],_=>rfl
 |a::l,h=>by rw[j9 _ (h a Fu),XV (l:=l) (λx hx=>h x (by simp[hx]))];rfl
theorem Xe{l:List Q7}(h:Pm l):OG l=l:=by
 refine Y4 (P:=λl=>Pm l->OG l=l) (λ_=>rfl) ?_ l h;intro u m ih hs;unfold Pm at hs;rw[List.pairwise_append] at hs;rw[QU,ih hs.1,XV (λx hx=>hs.2.2 x hx m Fu)]
theorem kX{l:List Q7}(h:Pm l)(k:Nat):Pm (l.drop k):=List.Pairwise.sublist (List.drop_sublist k l) h
def at_(s:St)(now:Int)(k:Nat):St:={s with now:=now,u:=(OG s.u).drop k}
theorem ea(s:St)(now:Int)(k:Nat):OG (at_ s now k).u=(OG s.u).drop k:=Xe (kX (QI _) k)
theorem at_len(s:St)(now:Int)(k:Nat):(at_ s now k).u.length=s.u.length-k:=by simp[at_,JU]
end AN
theorem mcells_at?{l:List AN.Q7}{j:Nat}{m:AN.Q7}(h:l[j]?=some m):(FN l)[j*2]?=some (Iv m.1)/\(FN l)[j*2+1]?=some (.string (strOfNums m.2)):=by
 have hj:j<l.length:=by
  rcases Oj j l.length with h'|h'
  ·exact h'
  ·rw[R3 h'] at h;cases h
 rw[Gg hj] at h;injection h with h;subst h;exact U1 l j hj
theorem EO.kG{w:World}{base b c:Nat}{A:Option Addr}{r:AN.Ru}{s:AN.St}{u:List AN.Q7}(h:EO w base b A c r s)(he:AN.OG u=AN.OG s.u):EO w base b A c r {s with u:=u}:=by
 (have hl:u.length=s.u.length:=by rw[<-AN.JU u,he,AN.JU]);refine⟨?_,?_,h.ge⟩
 ·have:=h.BM;unfold lkl at this⊢;simp only[hl];exact this
 ·have:=h.row;simp only[hl,he];exact this
theorem wG(base b c:Nat)(A:Option Addr)(r:AN.Ru)(s:AN.St)(now:Int)(w:World)(h:EO w base b A c r s)(he:AN.FU s now≠0):
  Calls prog 131 #[Pt b,Iv now] w (LP (.tuple #[.slice none 0 0,Iv 3]) w):=by
 (refine K2M ?_;intro N c7);(have Yo:¬(s.now<=now/\now<=1073741824):=λhh=>he (by unfold AN.FU;rw[AW hh]));clear h he;go_enter func131,ntmps131;go_wp2_with (first|(refine N.out.mono ?_;rintro e w' ⟨rfl,rfl⟩)|(refine(Ur _ _ _ _ Yo).mono ?_;rintro e w' ⟨rfl,rfl⟩));exact J9
def ox(base b:Nat)(A:Option Addr)(r:AN.Ru)(s:AN.St)(now:Int)(w:World)(e:Ending)(w':World):Prop:=
 ∃oA n oc,e= .returned (.tuple #[.slice oA n oc,Iv 0])/\Rb w' w.heap.size w'.heap.size oA n ((AN.Vo s now).map (·.2))/\VC base b A r (AN.recv s now) w w'
def uf(base b:Nat)(A:Option Addr)(r:AN.Ru)(s:AN.St)(now:Int)(w:World)(v:Value)(wr:World):Prop:=
 ∃(k:Nat)(A1:Option Addr)(c1:Nat)(oA:Option Addr)(oc:Nat)(rl:List oV),v= .slice oA k oc/\k<=s.u.length/\(∀j (h:j<(AN.OG s.u).length),j<k->(AN.OG s.u)[j].1<=now)/\
  EO wr base b A1 c1 r (AN.at_ s now k)/\AK A1=AK A/\AG (Xn b A) w wr/\Row wr w.heap.size 47 1 oA k oc (WU rl)/\JN wr w.heap.size wr.heap.size rl/\(∀x∈rl,∀a,x.A=some a->a.block<wr.heap.size/\AK oA≠some a.block)/\rl.map (·.d)=((AN.OG s.u).take k).map (·.2)
theorem dY:(prog.info? 47).map (λi=>(i.zero,i.size,i.bytes))=some (some (.slice none 0 0),1,24):=by kernel_rfl
theorem bN(base b:Nat)(A:Option Addr)(r:AN.Ru)(s:AN.St)(now:Int)(w wr:World)(k:Nat)(A1:Option Addr)(c1:Nat)(oA:Option Addr)(oc:Nat)(rl:List oV)(he:AN.FU s now=0)(hk:k<=s.u.length)
  (h1:∀j (h:j<(AN.OG s.u).length),j<k->(AN.OG s.u)[j].1<=now)(h2:∀(h:k<(AN.OG s.u).length),now<(AN.OG s.u)[k].1)(hL:EO wr base b A1 c1 r (AN.at_ s now k))(hA:AK A1=AK A)(hK:AG (Xn b A) w wr)
  (hR:Row wr w.heap.size 47 1 oA k oc (WU rl))(hG:JN wr w.heap.size wr.heap.size rl)(hm:rl.map (·.d)=((AN.OG s.u).take k).map (·.2)):
  ox base b A r s now w (.returned (.tuple #[.slice oA k oc,Iv 0])) wr:=by
 obtain⟨f1,f2⟩:=AN.A3x (AN.QI s.u) (k:=k) (t:=now) (by rw[AN.JU];exact hk) h1 h2;refine⟨oA,k,oc,rfl,⟨rl,?_,TG.cM hR,hG,λa ha _=>(hR.lt (g:=a.block) (by rw[ha];rfl)).1⟩,A1,c1,?_,hK,.inl hA⟩
 ·rw[hm];unfold AN.Vo;rw[AW he,AN.dK,f1]
 ·have e:AN.recv s now={AN.at_ s now k with u:=s.u.filter (λm=>decide (now<m.1))}:=by
   unfold AN.recv;rw[AW he];rfl
  rw[e];exact hL.kG (by rw[AN.dK,f2,AN.ea])
theorem vw(base b:Nat)(A:Option Addr)(r:AN.Ru)(s:AN.St)(now:Int)(w w4:World)(k:Nat)(A1 A2:Option Addr)(c1:Nat)(oA:Option Addr)(oc:Nat)(rl:List oV)(m:AN.Q7)(x:oV)(hx:x.d=m.2)(hb:base<=b)(jl:b<w.heap.size)
  (IY:(AN.OG s.u)[k]?=some m)(GK:m.1<=now)(h1:∀j (h:j<(AN.OG s.u).length),j<k->(AN.OG s.u)[j].1<=now)
  (hB4:w4.heap[b]?=some (.cells (lkl r (AN.at_ s now k) A1 c1).toArray 172 (0,0)))(hW4:Row w4 base 175 2 A1 (s.u.length-k) c1 (FN ((AN.OG s.u).drop k)))(hA2:A2=if c1=1 then A1 else A1.map (·.add (1*2)))(cx lx:Nat)(hcx:cx=c1-1)(hlx:lx=s.u.length-k-1)
  (hAb:∀g,AK A1=some g->g≠b)(hA:AK A1=AK A)(hK:AG (Xn b A) w w4)(hR:Row w4 w.heap.size 47 1 oA (k+1) oc (WU (rl++[x])))(hG:JN w4 w.heap.size w4.heap.size (rl++[x]))(hX:∀y∈rl++[x],∀a,y.A=some a->a.block<w4.heap.size/\AK oA≠some a.block)(hm:rl.map (·.d)=((AN.OG s.u).take k).map (·.2)):
  uf base b A r s now w (.slice oA (k+1) oc) (w4.setCell (Ad b 8) (.slice A2 lx cx)):=by
 (subst hcx;subst hlx);have hkl:k<(AN.OG s.u).length:=by
  rcases Oj k (AN.OG s.u).length with h'|h'
  ·exact h'
  ·rw[R3 h'] at IY;cases IY
 have hkl':=hkl;rw[AN.JU] at hkl';have x9:AK A2=AK A1:=by
  rw[hA2];split
  ·rfl
  ·cases A1 with
   |none=>rfl
   |some a=>simp[AK,Vd]
 have hcut:=hW4.cut (k:=1) Ft;rw[<-hA2] at hcut;(have hdr:(FN ((AN.OG s.u).drop k)).drop (1*2)=FN ((AN.OG s.u).drop (k+1)):=by rw[VZ,List.drop_drop]);rw[hdr] at hcut;have X1:=AP hB4 8 (.slice A2 (s.u.length-k-1) (c1-1));rw[Q8] at X1;(have VF:s.u.length-k-1=(AN.at_ s now (k+1)).u.length:=by rw[AN.at_len];omega);refine⟨k+1,A2,c1-1,oA,oc,rl++[x],rfl,by omega,?_,⟨?_,?_,hb⟩,x9.trans hA,hK.setCell (.inl (Or.inl rfl)) _,hR.FY (λg hg=> ?_) _,?_,by simpa using hX,?_⟩
 ·intro j hj hjk
  rcases Oj j k with h|h
  ·exact h1 j hj h
  ·(obtain rfl:j=k:=by omega);rw[Gg hj] at IY;injection IY with e;rw[e];exact GK
 ·rw[VF] at X1⊢;simpa[lkl,AN.at_] using X1
 ·rw[AN.ea,<-VF];exact hcut.FY (p:=(Ad b 8)) (λg hg=>hAb g (by rw[<-x9];exact hg)) _
 ·have:=(hR.lt hg).1;show g≠b;omega
 ·refine(hG.IE (S:=λi=>i=b) ((AG.refl (λi=>i=b) w4).setCell (p:=(Ad b 8)) (.inl rfl) _) (Lr _) (λi hi _=>by omega)).more Fu
 ·rw[bW,hm,sS,IY];simp[hx]
theorem zC(base b c:Nat)(A:Option Addr)(r:AN.Ru)(s:AN.St)(now:Int)(w:World)(h:EO w base b A c r s)(hs:AN.Inv s)(BJ:base<=w.heap.size)(he:AN.FU s now=0):
  Calls prog 131 #[Pt b,Iv now] w (ox base b A r s now w):=by
 obtain⟨i0,OU,RR,IJ,Ot⟩:=MQ dY;(refine K2M ?_;intro N c7);have f7:=AE h.BM 7;have A79:s.now<=now/\now<=1073741824:=by
  unfold AN.FU at he;split at he
  ·assumption
  ·omega
 have HL:=Hd h;have HS:=Hd hs;have HT:=Hd h.two;have HE:=Hd he;have EK:=h.lt;have hun:=hs.2.2.1;clear h he hs;go_enter func131,ntmps131;go_wp2_with (first|(refine N.out.mono ?_;rintro e w' ⟨rfl,rfl⟩)|(refine(Rh _ _ _ _ A79).mono ?_;rintro e w' ⟨rfl,rfl⟩));have hL0:EO (w.setCell (Ad b 7) (Iv now)) base b A c r (AN.at_ s now 0):=(HL.out.A6L now).kG (by simp[AN.Xe (AN.QI s.u)]);have HL0:=Hd hL0;clear hL0;go_loopw[6] (λv wr=>uf base b A r s now w v wr) (λv _=>match v with| .slice _ k _=>s.u.length-k|_=>0)
 case atStart=>exact⟨0,A,c,none,0,[],rfl,Pe _,λj _ hj=>absurd hj Ft,HL0.out,rfl,Ae,Row.nil _ _ _ _,JN.nil _ _ _,(λx hx=>by cases hx),rfl⟩
 case round=>
  obtain⟨k,A1,c1,oA,oc,rl,rfl,hk,hle,hL,hA,hK,hR,hG,hX,hm⟩:=hrel;clear c7 f7;have VE:=hK.size;have c8:wr.cell? (Ad b 8)=some (.slice A1 (AN.at_ s now k).u.length c1):=AB hL.BM 8 rfl;rw[AN.at_len] at c8;have f8:=AE hL.BM 8;have ZS:=Hd hL;have HLE:=Hd hle;have HA:=Hd hA;have HK:=Hd hK;have HR:=Hd hR;have HG:=Hd hG;have HM:=Hd hm;have HX:=Hd hX;clear hL hle hA hK hR hG hX hm HL0
  rcases Oj k s.u.length with hkl|hkl
  ·(have hks:k<(AN.OG s.u).length:=by rw[AN.JU];exact hkl);obtain⟨g,o,cur,rfl,XO,XA,hgg,hgn,hgc,hgf,ag,y9,hgz⟩:=ZS.out.row.some_ (by rw[AN.at_len];omega);obtain⟨m,IY⟩:∃m,(AN.OG s.u)[k]?=some m:=⟨_,Gg hks⟩;have hx:=mcells_at? (l:=(AN.OG s.u).drop k) (j:=0) (m:=m) (by rw[TF];simpa using IY);have cx:wr.cell? (Ad g o)=some (Iv m.1):=y9 0 _ (by rw[AN.ea];exact hx.1);have cy:wr.cell? (Ad g (o+1))=some (.string (strOfNums m.2)):=y9 1 _ (by rw[AN.ea];exact hx.2);have A2W:AN.MOk m:=HS.out.2.2.2.1 _ (AN.iX.1 (pZ IY));have HKS:=Hd hks;have HMK:=Hd IY;(have z1:(0:Int)<((s.u.length-k:Nat):Int):=by omega);rw[AN.at_len] at hgn;clear hgg ag y9 hgz hx IY hks
   by_cases GK:m.1<=now
   ·obtain⟨w2,c2,hcv,WZ,CB,A0M,XC,A9u⟩:=rz m.2 A2W.2.2.1 wr (by have:=A2W.2.2.2;omega);have oB:=Hd (show Row wr base 175 2 (some (Ad g o)) (s.u.length-k) c1 (FN ((AN.OG s.u).drop k)) by have:=ZS.out.row;rw[AN.ea,AN.at_len] at this;exact this);have X8:=ZS.out;have A7x:=ZS.out.lt;have hgr:=HR.out;(have hob:∀g',AK oA=some g'->w.heap.size<=g':=λg' Yq=>(HR.out.lt Yq).1);have HOB:=Hd hob;have NB:=Hd CB;have Xo:=Hd WZ;have HMO:=Hd A2W;(have eF:1<=c1:=by omega);(have AbD:wr.heap.size+1<=w2.heap.size:=by omega);clear X8 hgr hob CB WZ A2W A0M
    by_cases hc11:c1=1
    all_goals
     go_wp2_with (at_builtin;refine JE rfl (.tmp 37) (.tmp 46) _ rfl w.heap.size 47 i0 _ 1 24 underlying143 OU RR IJ Ot rfl oA k oc (WU rl) rfl ((HR.out.below NB.out (Lr _)).alloc _) (Ad w2.heap.size 0) 1 1 [rbc ⟨some (Ad wr.heap.size 0),c2,m.2⟩] rfl rfl (λj u hu=>by rw[CP,PL];exact AB (AM _ _) j hu) (ma [_]) Ft Ee Ft Fp ?_;intro oA' oc' w4 Wk VH Wm;(have QP:=VH.size;try simp at QP);have GA:w4.heap[b]?=some (.cells (lkl r (AN.at_ s now k) (some (Ad g o)) c1).toArray 172 (0,0)):=(VH.block b Fp (λe=>by have:=HOB.out b e.symm;omega)).trans ((bX w2 _ b Ft).trans ((NB.out.block b A7x).trans ZS.out.BM));have d8:w4.cell? (Ad b 8)=some (.slice (some (Ad g o)) (AN.at_ s now k).u.length c1):=AB GA 8 rfl;rw[AN.at_len] at d8;have f84:=AE GA 8;have hkw:AG (λi=>AK oA=some i) wr w4:=((AG.AS NB.out).alloc _).trans (AG.JK VH (S:=λi=>AK oA=some i) (λg h=>h)) (λ_ _ h=>h);have xL:=Hd hkw;have A3X:=Hd Wm;have AbE:wr.heap.size+1<=w4.heap.size:=Ft;have eE:AG (λi=>AK oA=some i) w2 w4:=((AG.refl _ w2).alloc _).trans (AG.JK VH (S:=λi=>AK oA=some i) (λg h=>h)) (λ_ _ h=>h);have HK4:=Hd eE;have nL:AK oA'=AK oA\/AK oA'=some (w2.heap.size+1):=(by simpa using Wm);have A91:=Hd nL;clear hkw Wm eE nL;have Qo:=Hd GA;have yl:=Hd VH;have HO4:=Hd Wk;clear GA VH Wk);go_roundw
     case rel=>
      (have hdn:∀a,(some (Ad wr.heap.size 0):Option Addr)=some a->a.block=wr.heap.size:=λa ha=>by injection ha with ha;rw[<-ha]);(have jh:AK oA≠some wr.heap.size:=λe=>by have:=(HR.out.lt e).2;omega);refine vw base b A r s now w w4 k (some (Ad g o)) _ c1 oA' oc' rl m ⟨some (Ad wr.heap.size 0),c2,m.2⟩ rfl ZS.out.ge EK HMK.out GK HLE.out Qo.out (oB.out.kept xL.out (λg' Yq e=> ?_)) (by first|rw[AW hc11]|(rw[AO hc11];simp[CP])) _ _ Ft Ft (λg' Yq=>ZS.out.ne Yq) HA.out (HK.out.trans xL.out (λi hi e=>absurd (HOB.out i e) Ft)) (by rw[fM];exact HO4.out) ?_ ?_ HM.out
      ·have h1:=HT.out g' (.inr (by rw[<-HA.out];exact Yq));have h2:=HOB.out g' e;omega
      ·refine JN.snoc ((HG.out.kept xL.out (Lr _) (λx hx a ha=>(HX.out x hx a ha).2)).more Ft) ⟨?_,λa ha=>by rw[hdn a ha];omega,XC,A9u,λh=>by cases h⟩;exact((Xo.out.kept HK4.out Ft (λa ha e=>by rw[hdn a ha] at e;exact jh e))).more Ft
      ·intro y hy a ha
       rcases List.mem_append.1 hy with hy|hy
       ·obtain⟨g1,g2⟩:=HX.out y hy a ha;refine⟨by omega,λe=> ?_⟩
        rcases A91.out with h5|h5
        ·exact g2 Eg
        ·rw[h5] at e;injection e with e;omega
       ·rw[List.mem_singleton.1 hy] at ha;rw[hdn a ha];refine⟨by omega,λe=> ?_⟩
        rcases A91.out with h5|h5
        ·exact jh Eg
        ·rw[h5] at e;injection e with e;omega
     case measure=>simp;omega
   ·go_wp2_with fail;go_ret2;refine bN base b A r s now w wr k _ _ oA oc rl HE.out Ft HLE.out (λh=>by have e:=HMK.out;rw[Gg h] at e;injection e with e;rw[e];omega) ZS.out HA.out HK.out HR.out HG.out HM.out
  ·(obtain rfl:k=s.u.length:=by omega);rw[Nat.sub_self] at c8;go_wp2_with fail;go_ret2;refine bN base b A r s now w wr _ _ _ oA oc rl HE.out (Lr _) HLE.out (λh=>absurd h Dj) ZS.out HA.out HK.out HR.out HG.out HM.out
theorem sx{r:AN.Ru}{s:AN.St}{now:Int}{d:List Int}(h:AN.IC s now d.length≠0):AN.send r s now d=s:=by unfold AN.send;rw[AO h]
theorem yV(base b c:Nat)(A:Option Addr)(r:AN.Ru)(s:AN.St)(now:Int)(D:Option Addr)(n cap:Nat)(d:List Int)(w:World)(h:EO w base b A c r s)(hr:AN.MP r=true)(hs:AN.Inv s)(Wi:s.BB<1000000000000000)(BJ:base<=w.heap.size)
  (hn:n<=140737488355328)(hd:Rd w w.heap.size D n d)(hD:∀a,D=some a->¬Xn b A a.block):
  Calls prog 130 #[Pt b,Iv now,.slice D n cap] w (ep base b A r (AN.send r s now d) (AN.IC s now n) w):=by
 by_cases he:AN.IC s now n=0
 ·rw[he];exact yU base b c A r s now D n cap d w h hr hs Wi BJ hd hD he
 ·refine(A2b base b c A r s now D n cap w h hn he).mono ?_;rintro e w' ⟨rfl,rfl⟩;refine⟨rfl,?_⟩;rw[sx (by rw[hd.1];exact he)];exact VC.same h (AG.refl _ _)
def xP(s:AN.St)(now k f t q:Int)(n:Nat):Int:=if AQ.vd k f t q n=true then AN.IC s now (n+10) else 2
def ez(r:AN.Ru)(s:AN.St)(now k f t q:Int)(d:List Int):AN.St:=if AQ.vd k f t q d.length=true then AN.send r s now (AQ.enc k f t q d) else s
theorem fF(base b c:Nat)(A:Option Addr)(r:AN.Ru)(s:AN.St)(now:Int)(k f t q:Int)(D:Option Addr)(n cap:Nat)(d:List Int)(w:World)(h:EO w base b A c r s)(hr:AN.MP r=true)(hs:AN.Inv s)(Wi:s.BB<1000000000000000)(BJ:base<=w.heap.size)
  (hn:n<=140737488355328)(hd:Rd w w.heap.size D n d):
  Calls prog 101 #[Pt b,Iv now,.agg #[Iv k,Iv f,Iv t,Iv q,.slice D n cap]] w (ep base b A r (ez r s now k f t q d) (xP s now k f t q n) w):=by
 have HT:=Hd h.two;have HL:=Hd h;have GZ:=hd.1;have N:=Hd (λ(W:World)(hW:EO W base b A c r s)=>II b _ W hW.BM rfl);have EK:=h.lt
 cases hv:AQ.vd k f t q n
 ·have EN:=Hd (λW:World=>A68 k f t q D n cap W hn hv);have E1:=Hd (show xP s now k f t q n=2 by unfold xP;rw[AO (by rw[hv];simp)]);have E2:=Hd (show ez r s now k f t q d=s by unfold ez;rw[AO (by rw[GZ,hv];simp)]);clear hv h hd hs hr GZ;go_enter func101,ntmps101;go_wp2_with fail;refine(N.out _ (HL.out.alloc _)).mono ?_;rintro e w' ⟨rfl,rfl⟩;go_wp2_with fail;refine(EN.out _).mono ?_;rintro e w1 ⟨rfl,BX⟩;have IJ:=BX.size;(try simp at IJ);go_wp2_with fail;go_ret;rw[E1.out,E2.out];(refine K1z ?_;intro hB);exact⟨rfl,VC.same (HL.out.below hB (Lr _)) (AG.AS hB)⟩
 ·have QK:n<=64:=(AQ.Xc hv).2.2.2.2;have EN:=Hd (λ(W:World)(hW:Rd W W.heap.size D n d)=>A3q k f t q D n cap d W hv hW);have E1:=Hd (show xP s now k f t q n=AN.IC s now (n+10) by unfold xP;rw[AW hv]);have E2:=Hd (show ez r s now k f t q d=AN.send r s now (AQ.enc k f t q d) by unfold ez;rw[AW (by rw[GZ];exact hv)]);have HD:=Hd hd;have HS:=Hd hs;have HR:=Hd hr;clear hv h hd hs hr GZ;go_enter func101,ntmps101;go_wp2_with fail;refine(N.out _ (HL.out.alloc _)).mono ?_;rintro e w' ⟨rfl,rfl⟩;go_wp2_with fail;refine(EN.out _ ((HD.out.alloc (Lr _) _).more Fu)).mono ?_;rintro e w1 ⟨A',IA,rfl,hO,BX⟩;have IJ:=BX.size;(try simp at IJ);(refine K1z ?_;intro hB);have HB:=Hd hB;have HO:=Hd hO;have hA':∀a,A'=some a->w.heap.size+1<=a.block:=by
   intro a ha
   rcases HO.out.form with⟨h1,_⟩|⟨g,h1,h2,_⟩
   ·rw[h1] at ha;cases ha
   ·rw[h1] at ha;injection ha with ha;rw[<-ha];simpa using h2
  have HA:=Hd hA';clear BX hB hO hA';go_wp2_with fail;refine(yV base b c A r s now A' (n+10) IA (AQ.enc k f t q d) w1 (HL.out.below HB.out (Lr _)) HR.out HS.out Wi Ft Ft HO.out.rd (λa ha hT=>by have:=HA.out a ha;have:=HT.out _ hT;omega)).mono ?_;rintro e w2 ⟨rfl,hTo⟩;have HTo:=Hd hTo;clear hTo;go_wp2_with fail;go_ret;rw[E1.out,E2.out];exact⟨rfl,VC.trans (r':=r) (AG.AS HB.out) (.inl rfl) HTo.out⟩
end
end Go.Proofs.YtdocdgcdldpagaaGreat

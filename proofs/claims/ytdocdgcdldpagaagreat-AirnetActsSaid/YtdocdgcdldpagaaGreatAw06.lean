import Derived.Test.YtdocdgcdldpagaaGreatAw05
open Go.Proofs.Tryz
namespace Go.Proofs.YtdocdgcdldpagaaGreat
set_option maxHeartbeats 64000000
set_option maxRecDepth 100000
set_option linter.all false
section
open RowKit Shelf
attribute [local go_sem] Oper.semAt_some
set_option maxRecDepth 512
def KpC(p q r:Nat)(A B:World):Prop:=Below p A B/\B.heap[q]?=A.heap[q]?/\B.heap[r]?=A.heap[r]?
theorem KpC.t{p q r:Nat}{A B C:World}(h:KpC p q r A B)(k:KpC p q r B C):KpC p q r A C:=⟨h.1.trans k.1,k.2.1.trans h.2.1,k.2.2.trans h.2.2⟩
theorem xx(A:Option Addr)(n cap:Nat)(w:World):Calls prog 176 #[.slice A n cap,Iv 4] w
  λe w'=>e= .returned (.func (.func 182) #[] #[Pt w.heap.size,Pt (w.heap.size+1)])/\w'=(w.alloc (.cells #[.slice A n cap] 47)).alloc (.cells #[Iv 4] 3):=by
 go_enter func176,ntmps176;exact He
theorem A1m(m k:Nat)(h:k<m):(List.finRange m).take (k+1)=(List.finRange m).take k++[⟨k,h⟩]:=by
 rw[eV F7];simp
set_option maxRecDepth 100000 in
theorem A6b(n l p q r:Nat)(A:Option Addr)(b o m cap:Nat)(hm:4*m<=140737488355328)(DT:4*m<=cap)(GC:cap<=9223372036854775807)(hA:0<m->A=some (Ad b o))(J Jx:List (Fin m)->World->Prop)
  (hY:∀pre x W,J pre W->pre.length<m->YieldAt Fence.wide (n-1) prog l #[.slice (some (Ad b (o+4*x.1))) 4 4] W λe W'=>
   (e= .returned (.bool true)/\J (pre++[x]) W'/\KpC p q r W W')\/(e= .returned (.bool false)/\Jx (pre++[x]) W'))
  (W:World)(hq:W.heap[q]?=some (.cells #[.slice A (4*m) cap] 47 (0,0)))(hr:W.heap[r]?=some (.cells #[Iv 4] 3 (0,0)))(h0:J [] W)
  (hJ:∀s W,J s W->J s W.drew):
  CallsIn Fence.wide n prog 182 #[.func (.yield l) #[] #[],Pt q,Pt r] W λe W'=>(∃v,e= .returned v)/\
   ((∃ys,ys=List.finRange m/\J ys W')\/(∃pre,pre<+:List.finRange m/\Jx pre W')):=by
 refine callsIn_of_wp func182 rfl trivial ?_ rfl;simp only[ntmps182,cf,List.length_cons,List.length_nil,Nat.reduceAdd,Nat.reduceSub,A01,Array.replicate_zero,mA,mD,List.nil_append,List.cons_append];gi_wp2;gi_loopw [4] (λi wr=>∃k:Nat,k<=m/\i=Iv ((4*k:Nat):Int)/\J ((List.finRange m).take k) wr/\wr.heap[q]?=some (.cells #[.slice A (4*m) cap] 47 (0,0))/\wr.heap[r]?=some (.cells #[Iv 4] 3 (0,0)))
  (λi _=>4*m-(intOf i).toNat)
 case atStart=>exact⟨0,Pe _,rfl,h0,hq,hr⟩
 case round=>
  obtain⟨k,hk,rfl,hJs,hq1,hr1⟩:=hrel;have cq:=AB (l:=[_]) hq1 0 rfl;have cr:=AB (l:=[_]) hr1 0 rfl
  by_cases EK:k<m
  ·have eA:=hA Ft;subst eA;(have e1:(4*(k:Int))<4*(m:Int):=by omega);(have e2:(0:Int)<=4*(k:Int):=by omega);(have e3:(4*(m:Int))<=(cap:Int):=by omega);have ht:=A1m m k EK;obtain⟨fn,tmps,assign,body,hy,hR⟩:=hY _ ⟨k,EK⟩ wr.drew (hJ _ _ hJs) Fp;have HR:=Hd hR;have HT:=Hd ht;clear hR ht;dsimp only at hy;gi_wp2;refine wpIn_wide.2 ?_;go_region_held3 (λw'=>w'.cell? ⟨q,0,none⟩=some (.slice (some ⟨b,o,none⟩) (4*m) cap)/\w'.cell? ⟨r,0,none⟩=some (Iv 4)) (refine⟨?_,?_⟩<;>(first|(with_reducible assumption)|(simp only[World.cell?_drew];with_reducible assumption))) (first|fail);gi_wp2;refine⟨λh=>(by simp[Fence.wide] at h),HR.out.mono ?_⟩;rintro e W3 (⟨rfl,hJ3,af⟩|⟨rfl,A5I⟩)
   ·have hq3:=af.2.1.trans (show wr.drew.heap[q]?=_ from hq1);have hr3:=af.2.2.trans (show wr.drew.heap[r]?=_ from hr1);have dq:=AB (l:=[_]) hq3 0 rfl;have dr:=AB (l:=[_]) hr3 0 rfl;clear cq cr;gi_wp2;go_roundw
    case rel=>exact⟨k+1,by omega,by simp;omega,by rw[HT.out];exact hJ3,hq3,hr3⟩
    case measure=>simp[intOf];omega
   ·gi_wp2;refine IT (bT rfl _ _ _) rfl ?_;exact⟨⟨_,rfl⟩,.inr ⟨_,by rw[<-HT.out];exact List.take_prefix _ _,A5I⟩⟩
  ·(obtain rfl:k=m:=by omega);gi_wp2;go_end0;exact⟨⟨_,rfl⟩,.inl ⟨_,by rw[R8 Fu],hJs⟩⟩
namespace AQ
def OX(l:List Int)(k:Nat):Int:=((l.getD (4*k) 0*256+l.getD (4*k+1) 0)*256+l.getD (4*k+2) 0)*256+l.getD (4*k+3) 0
def gn(l:List Int)(m:Nat):List Int:=(List.range m).map (OX l)
theorem js(l:List Int)(m:Nat):(gn l m).length=m:=by simp[gn]
theorem A3a(l:List Int)(m:Nat):gn l (m+1)=gn l m++[OX l m]:=by simp[gn,List.range_succ]
theorem aN{l:List Int}(h:By l)(k:Nat):0<=OX l k/\OX l k<=4294967295:=by
 have a:=h.at_ (4*k);have b:=h.at_ (4*k+1);have c:=h.at_ (4*k+2);have d:=h.at_ (4*k+3);unfold OX;omega
theorem A18{l:List Int}(h:By l)(m:Nat):I64 (gn l m):=by
 intro x hx;simp only[gn,cz] at hx;obtain⟨k,_,rfl⟩:=hx;have:=aN h k;omega
set_option maxRecDepth 100000 in
theorem or4(x0 x1 x2 x3:Int)(h0:0<=x0/\x0<256)(h1:0<=x1/\x1<256)(h2:0<=x2/\x2<256)(h3:0<=x3/\x3<256):
  bits .or .i64 (x0*16777216) (x1*65536)=x0*16777216+x1*65536/\bits .or .i64 (x0*16777216+x1*65536) (x2*256)=x0*16777216+x1*65536+x2*256/\
  bits .or .i64 (x0*16777216+x1*65536+x2*256) x3=((x0*256+x1)*256+x2)*256+x3:=by
 have key:∀(a c s:Nat),a<4294967296->c<2^s->s<=24->a%2^s=0->bits .or .i64 (a:Int) (c:Int)=((a+c:Nat):Int):=by
  intro a c s ha hc hs hm;have hc':c<2^24:=Sv hc (Nat.pow_le_pow_right Fj hs);show IntKind.i64.wrap ((BitVec.ofInt 64 (a:Int)|||BitVec.ofInt 64 (c:Int)).toNat:Int)=_;rw[BitVec.toNat_or,Oo 64 _ Ft,Oo 64 c Ft];(have e:a=(a/2^s)<<<s:=by rw[mz];have:=Nat.div_add_mod a (2^s);rw[hm,Nat.mul_comm] at this;omega);have:a|||c=a+c:=by
   conv=>lhs;rw[e]
   rw[<-Nat.shiftLeft_add_eq_or_of_lt hc,<-e]
  rw[this,sQ];omega
 obtain⟨a,rfl⟩:∃a:Nat,x0=a:=⟨x0.toNat,by omega⟩;obtain⟨b,rfl⟩:∃a:Nat,x1=a:=⟨x1.toNat,by omega⟩;obtain⟨c,rfl⟩:∃a:Nat,x2=a:=⟨x2.toNat,by omega⟩;obtain⟨d,rfl⟩:∃a:Nat,x3=a:=⟨x3.toNat,by omega⟩;refine⟨?_,?_,?_⟩
 ·have:=key (a*16777216) (b*65536) 24 Ft Ft Ft Ft;simpa using this
 ·have:=key (a*16777216+b*65536) (c*256) 16 Ft Ft Ft Ft;simpa using this
 ·have:=key (a*16777216+b*65536+c*256) d 8 Ft Ft Ft Ft;(have h:((a*16777216+b*65536+c*256:Nat):Int)=(a:Int)*16777216+(b:Int)*65536+(c:Int)*256:=by simp);rw[h] at this;rw[this];clear h this key;simp only[Int.natCast_add,Int.natCast_mul];generalize(a:Int)=A;generalize(b:Int)=B;generalize(c:Int)=C;generalize(d:Int)=D;simp only[Int.add_mul,Int.mul_assoc];rfl
end AQ
def Oi(w:World)(base:Nat)(A:Option Addr)(n cap:Nat)(l:List Int):Prop:=w.ownsRow base 3 1 (.slice A n cap) n (iv l)/\I64 l
theorem nh:(prog.info? 3).map (λi=>(i.zero,i.size,i.bytes))=some (some (Iv 0),1,8):=by kernel_rfl
theorem A3N{w:World}{base:Nat}{v:Value}{n:Nat}{xs:List Value}{e:TypeId}(h:w.ownsRow (base+3) e 1 v n xs):w.ownsRow base e 1 v n xs:=by
 refine⟨h.1,?_⟩
 rcases h.2 with e|⟨g,c,cur,e,hb',rest⟩
 ·exact .inl e
 ·exact .inr ⟨g,c,cur,e,by omega,rest⟩
def iu(w:World)(n:Nat)(many:Int)(l:List Int)(e:Ending)(w':World):Prop:=
 ((
  many<0/\e= .returned (.tuple #[.slice none 0 0,Iv 2]))\/(0<=many/\(n:Int)/4<many/\e= .returned (.tuple #[.slice none 0 0,Iv 4]))\/(0<=many/\4*many<(n:Int)/\many<=(n:Int)/4/\e= .returned (.tuple #[.slice none 0 0,Iv 5]))
  \/((n:Int)=4*many/\∃A' IA,e= .returned (.tuple #[.slice A' many.toNat IA,Iv 0])/\Oi w' w.heap.size A' many.toNat IA (AQ.gn l many.toNat)))/\Below w.heap.size w w'
theorem A3b(A:Option Addr)(n cap:Nat)(many:Int)(l:List Int)(w:World)(hn:n<=140737488355328)(hm: -9223372036854775808<=many/\many<=9223372036854775807)(h:¬(n:Int)=4*many):
  Calls prog 164 #[.slice A n cap,Iv many] w λe w'=>iu w n many l e w':=by
 obtain⟨eD,oQ⟩:=hm
 rcases ZY many 0 with h1|h1
 ·clear h;go_enter func164,ntmps164;go_wp2_with fail;go_ret2;exact⟨.inl ⟨h1,rfl⟩,A9⟩
 rcases ZY ((n:Int)/4) many with h2|h2
 ·clear h;go_enter func164,ntmps164;go_wp2_with fail;go_ret2;exact⟨.inr (.inl ⟨h1,h2,rfl⟩),A9⟩
 ·(have h3:4*many<(n:Int):=by omega);clear h;go_enter func164,ntmps164;exact Ll
theorem A1a{B0 p m:Nat}{l:List Int}{w W w2:World}{A1 A2:Option Addr}{OC S3 k:Nat}{pre:List (Fin m)}{hk:k<m}{y:Int}{X:Obj}{M:Nat}(hB:Below p w W)(hz:M<=W.heap.size)(hM:M=p+3)(hp:p<=W.heap.size)
  (hv:Boxed W p 26 (.slice A1 pre.length OC))(CF:W.ownsRow (p+3) 3 1 (.slice A1 pre.length OC) pre.length (iv (pre.map λx=>AQ.OX l x.1)))
  (GQ:((W.alloc X).drew).grownBy w2 (Value.slice A1 pre.length OC).ownBlock)(CE:w2.ownsRow (p+3) 3 1 (.slice A2 (pre.length+1) S3) (pre.length+1) (iv (pre.map λx=>AQ.OX l x.1)++[Iv y]))
  (he:AQ.OX l k=y):
  KeepsFrom B0 W (w2.setCell (Ad p 0) (.slice A2 (pre.length+1) S3))/\KpC p (p+1) (p+2) W (w2.setCell (Ad p 0) (.slice A2 (pre.length+1) S3))/\
  (∃v,Boxed (w2.setCell (Ad p 0) (.slice A2 (pre.length+1) S3)) p 26 v/\(w2.setCell (Ad p 0) (.slice A2 (pre.length+1) S3)).ownsRow (p+3) 3 1 v (pre++[(⟨k,hk⟩:Fin m)]).length (iv ((pre++[(⟨k,hk⟩:Fin m)]).map λx:Fin m=>AQ.OX l x.1))/\True)/\
   Below p w (w2.setCell (Ad p 0) (.slice A2 (pre.length+1) S3))/\M<=(w2.setCell (Ad p 0) (.slice A2 (pre.length+1) S3)).heap.size:=by
 (have LX:∀q,q<p+3->some q≠(Value.slice A1 pre.length OC).ownBlock:=λq hq e=>by have:=(CF.lt _ e.symm).1;omega);(have X1:∀q,q<p+3->q<W.heap.size->w2.heap[q]?=W.heap[q]?:=λq hq ny=>(GQ.block q Fp (LX q hq)).trans (bX W X q ny));have de:Boxed w2 p 26 (.slice A1 pre.length OC):=(X1 p Ft hv.lt).trans hv;have A5C:Below p W (w2.setCell (Ad p 0) (.slice A2 (pre.length+1) S3)):=
  (Xt (w:=(W.alloc X).drew) (Yc ((QZ p W).alloc hp X)) GQ Fp (λg hg=>by have:=(CF.lt g hg).1;omega)).setCell (p:=(Ad p 0)) (Lr _) _
 refine⟨?_,⟨A5C,?_,?_⟩,⟨_,de.set _,?_,trivial⟩,hB.trans A5C,?_⟩
 ·(refine KeepsOthers.from ?_ _);refine((((KeepsOthers.alloc W X).trans (⟨Lr _,λ_ _ h _=>h⟩:KeepsOthers (W.alloc X) (W.alloc X).drew)).trans (KeepsOthers.of_grownBy GQ λj o ej hj=> ?_)).trans (KeepsOthers.setCell _ _ _))
  rcases(sV (mF CF X)).2 with⟨e2,_⟩|⟨g,cap,cur,e2,_,XO,_⟩
  ·rw[e2] at ej;simp[Value.ownBlock] at ej
  ·rw[e2] at ej;(obtain rfl:g=j:=by simpa[Value.ownBlock] using ej);rw[XO] at hj
   cases hj;rfl
 ·exact(iN w2 (Ad p 0) _ (p+1) Fu).trans (X1 _ Ft Ft)
 ·exact(iN w2 (Ad p 0) _ (p+2) Fu).trans (X1 _ Ft Ft)
 ·have h2:w2.ownsRow (p+3) 3 1 (.slice A2 (pre.length+1) S3) (pre++[(⟨k,hk⟩:Fin m)]).length (iv ((pre++[(⟨k,hk⟩:Fin m)]).map λx:Fin m=>AQ.OX l x.1)):=by
   (have e1:iv ((pre++[(⟨k,hk⟩:Fin m)]).map λx:Fin m=>AQ.OX l x.1)=iv (pre.map λx=>AQ.OX l x.1)++[Iv y]:=by simp[iv,he]);rw[e1,TW];exact CE
  refine h2.kept (grownBy_setCell' w2 p _) (.inr λe=> ?_);have:=(h2.lt _ e).1;omega
 ·have:=A5C.size;omega
set_option maxRecDepth 100000 in
set_option maxHeartbeats 1000000 in
theorem A5N(n:Nat)(hn:3<=n)(A:Option Addr)(b o m cap:Nat)(l:List Int)(w:World)(hm:8*m<=140737488355328)(DT:4*m<=cap)(GC:cap<=9223372036854775807)(h:Rd w w.heap.size A (4*m) l)(hA:0<m->A=some (Ad b o)):
  CallsIn Fence.wide n prog 164 #[.slice A (4*m) cap,Iv m] w λe w'=>∃A' IA,e= .returned (.tuple #[.slice A' m IA,Iv 0])/\Oi w' w.heap.size A' m IA (AQ.gn l m)/\Below w.heap.size w w':=by
 obtain⟨i0,OU,RR,IJ,Ot⟩:=MQ nh;have HH:=Hd h;clear h;have HC:=Hd (λW=>xx A (4*m) cap W);refine A09 func164 rfl trivial ?_ rfl;simp only[ntmps164,cf,List.length_cons,List.length_nil,Nat.reduceAdd,Nat.reduceSub,A01,Array.replicate_zero,mA,mD,List.nil_append,List.cons_append];gi_wp2
 trace "0"
 refine⟨trivial,λhh=>(by simp[Fence.wide] at hh),callsIn_wide.2 ((HC.out _).mono ?_)⟩;rintro e w' ⟨rfl,rfl⟩;gi_wp2;obtain⟨W0,jn⟩:∃W0:World,W0=((w.alloc (.cells #[.slice none 0 0] 26)).alloc (.cells #[.slice A (4*m) cap] 47)).alloc (.cells #[Iv 4] 3):=⟨_,rfl⟩;(have z0:W0.heap.size=w.heap.size+3:=by rw[jn];simp);(have q0:W0.heap[w.heap.size]?=some (.cells #[.slice none 0 0] 26 (0,0)):=by rw[jn];exact AI (AI (AM _ _) _) _);(have q1:W0.heap[w.heap.size+1]?=some (.cells #[.slice A (4*m) cap] 47 (0,0)):=by rw[jn];exact AI (BK _ _ _ Fu) _);(have q2:W0.heap[w.heap.size+2]?=some (.cells #[Iv 4] 3 (0,0)):=by rw[jn];exact BK _ _ _ Fu);(have B0:Below w.heap.size w W0:=by rw[jn];exact(((IH w).alloc (Lr _) _).alloc Fu _).alloc Fp _);rw[<-jn];clear jn;have Vw:SeqStopsK Fence.wide (n-1) prog 182 #[Pt (w.heap.size+1),Pt (w.heap.size+1+1)] (λx:Fin m=> #[Value.slice (some (Ad b (o+4*x.1))) 4 4]) (KpC w.heap.size (w.heap.size+1) (w.heap.size+2)) (λys=>ys=List.finRange m) (λpre=>pre<+:List.finRange m) m W0:=
  λl J Jx W hW hJ hJx hY h0=>A6b (n-1) l w.heap.size (w.heap.size+1) (w.heap.size+2) A b o m cap Ft DT GC hA J Jx hY W (AH q1 hW Ft) (AH q2 hW Ft) h0 (λs V hs=>hJ s V V.drew none hs (Z9 (World.grownBy.refl _ _)) (λr e=>by cases e))
 have h1:1<=n:=by omega
 trace "1"
 refine wpIn_rangeFunc_ownG (F:=Fence.wide) rfl h1 (gf:=182) (lb:= #[Pt (w.heap.size+1),Pt (w.heap.size+1+1)]) ?hg trivial ?eg
  Vw ?hKt ?hKb ?hb0 ?hps
  (λpre W=>(∃v,Boxed W w.heap.size 26 v/\W.ownsRow (w.heap.size+3) 3 1 v pre.length (iv (pre.map λx=>AQ.OX l x.1))/\True)/\Below w.heap.size w W/\W0.heap.size<=W.heap.size)
  (λ_ _ _=>False)
  ?hI ?hIx ?h0
  (λx=>{tmps:= #[.slice A (4*m) cap,Iv m,undef,undef,.slice none 0 0,Iv 0,Pt w.heap.size,.slice (some (Ad b (o+4*x.1))) 4 4,
   .bool (decide ((m:Int)<0)),Iv m,.bool (decide ((m:Int)<0)),.bool false,.slice A (4*m) cap,Iv (4*(m:Int)),Iv m,Iv m,.bool false,.bool false,.slice A (4*m) cap,Iv (4*(m:Int)),
   Iv m,Iv (4*(m:Int)),.bool false,.slice A (4*m) cap,.func (.func 182) #[] #[Pt (w.heap.size+1),Pt (w.heap.size+1+1)],.slice (some (Ad b (o+4*x.1))) 4 4,
   undef,undef,undef,undef,undef,undef,undef,undef,undef,undef,undef,undef,undef,undef,undef,undef,undef,undef,undef,undef,undef,undef,undef,undef,undef,undef],defers:=[]}) ?assign ?body ?done ?stop
 trace "hg"
 case hg=>rfl
 trace "eg"
 case eg=>exact enters_of func182 Ff rfl
 trace "hKt"
 case hKt=>exact λh k=>KpC.t h k
 trace "hKb"
 case hKb=>exact λW l o o' hl h h1 h2=>⟨belowK_b (w:=W0) Ft W l o o' hl h h1 h2,qa Ft,qa Ft⟩
 trace "hb0"
 case hb0=>exact QZ _ _
 trace "hps"
 case hps=>exact λ_=>rfl
 trace "hI"
 case hI=>
  have hO:=holdsRow_own (w.heap.size+3) w.heap.size 26 3 1 (λpre:List (Fin m)=>pre.length) (λpre=>iv (pre.map λx=>AQ.OX l x.1)) (λ_ _=>True);(have hO':=Own.from hO W0.heap.size);have hBl:=sM (β:=List (Fin m)) (n₀:=w.heap.size) (B:=W0.heap.size) (w₀:=w) (Lr _) Ft
  trace "hI2"
  intro s A B row hs hg hr;exact⟨hO' s A B row hs.1 hg hr,hBl s A B row hs.2.1 hg hr,Lt hs.2.2 hg.size⟩
 trace "hIx"
 case hIx=>exact λ_ _ _ _ _ hs _ _=>hs
 trace "h0"
 case h0=>exact⟨⟨_,q0,by simpa[iv] using Ta W0 (w.heap.size+3) _ _,trivial⟩,B0,Lr _⟩
 trace "assign"
 case assign=>intro l x W K hK;gi_wp2;exact hK
 case stop=>rintro D c pre W _ _ h _;exact h.elim
 case body=>
  rintro l' pre ⟨k,hk⟩ W ⟨⟨v,hv,CF,_⟩,hB,A77⟩ AbF;obtain⟨A1,OC,rfl⟩:=Ps CF;have eA:=hA Ft;subst eA;have HR:=HH.out.below hB (Lr _);obtain⟨b',o',e',QQ,GG⟩:=HR.2.2 Ft;(injection e' with e';injection e' with eb eo;subst eb;subst eo);have c0:=GG (4*k) Ft;have c1:=GG (4*k+1) Ft;rw[<-TE] at c1;have c2:=GG (4*k+2) Ft;rw[<-TE] at c2;have c3:=GG (4*k+3) Ft;rw[<-TE] at c3;have MB:=HH.out.2.1;have b0:=MB.at_ (4*k);have b1:=MB.at_ (4*k+1);have b2:=MB.at_ (4*k+2);have b3:=MB.at_ (4*k+3);have EG:=Hd (show AQ.OX l k=((l.getD (4*k) 0*256+l.getD (4*k+1) 0)*256+l.getD (4*k+2) 0)*256+l.getD (4*k+3) 0 from rfl);generalize l.getD (4*k) 0=x0 at c0 b0 EG;generalize l.getD (4*k+1) 0=x1 at c1 b1 EG;generalize l.getD (4*k+2) 0=x2 at c2 b2 EG;generalize l.getD (4*k+3) 0=x3 at c3 b3 EG;obtain⟨w1,w2,w3⟩:=AQ.or4 x0 x1 x2 x3 b0 b1 b2 b3;have hcb:=hv.cell;have hfb:=hv.frozen;(refine K3a ?_;intro v0 v1 v2 v3);have u0:=GF (x0*16777216) Ft;have u1:=GF (x1*65536) Ft;have u2:=GF (x2*256) Ft;dsimp only;refine wpIn_block ?_;refine Y5 (S:=λw'=>w'.cell? (Ad b (o+4*k))=some (.int .u8 x0)/\w'.cell? (Ad b (o+4*k+1))=some (.int .u8 x1)/\w'.cell? (Ad b (o+4*k+2))=some (.int .u8 x2)/\w'.cell? (Ad b (o+4*k+3))=some (.int .u8 x3)) Ff Ff (by rintro⟨a,w,h⟩;exact h) ⟨c0,c1,c2,c3⟩ ?_;intro hHeld;refine GI (i:=1) (v:= ?_) rfl Ff Ff Ff (λ_ _ _ h=>h) (Or.inl ⟨by rfl,?_⟩) Fo ?_;rotate_left
  ·((intro w BS;(try dsimp only at BS);go_simp)<;>with_reducible rfl);(try simp only[Act.put,R2,R6,R7,Q8,P3,P0])
  refine GI (i:=2) (v:= ?_) rfl Ff Ff Ff (λ_ _ _ h=>h) (Or.inl ⟨by rfl,?_⟩) Fo ?_;rotate_left
  ·((intro w BS;(try dsimp only at BS);go_simp)<;>with_reducible rfl);(try simp only[Act.put,R2,R6,R7,Q8,P3,P0])
  refine GI (i:=3) (v:= ?_) rfl Ff Ff Ff (λ_ _ _ h=>h) (Or.inl ⟨by rfl,?_⟩) Fo ?_;rotate_left
  ·((intro w BS;(try dsimp only at BS);go_simp)<;>with_reducible rfl);(try simp only[Act.put,R2,R6,R7,Q8,P3,P0])
  refine GI (i:=4) (v:= ?_) rfl Ff Ff Ff (λ_ _ _ h=>h) (Or.inl ⟨by rfl,?_⟩) Fo ?_;rotate_left
  ·((intro w BS;(try dsimp only at BS);go_simp)<;>with_reducible rfl);(try simp only[Act.put,R2,R6,R7,Q8,P3,P0])
  refine GI (i:=5) (v:= ?_) rfl Ff Ff Ff (λ_ _ _ h=>h) (Or.inl ⟨by rfl,?_⟩) Fo ?_;rotate_left
  ·((intro w BS;(try dsimp only at BS);go_simp)<;>with_reducible rfl);(try simp only[Act.put,R2,R6,R7,Q8,P3,P0])
  refine GI (i:=6) (v:= ?_) rfl Ff Ff Ff (λ_ _ _ h=>h) (Or.inl ⟨by rfl,?_⟩) Fo ?_;rotate_left
  ·((intro w BS;(try dsimp only at BS);go_simp)<;>with_reducible rfl);(try simp only[Act.put,R2,R6,R7,Q8,P3,P0])
  refine GI (i:=7) (v:= ?_) rfl Ff Ff Ff (λ_ _ _ h=>h) (Or.inl ⟨by rfl,?_⟩) Fo ?_;rotate_left
  ·((intro w BS;(try dsimp only at BS);go_simp)<;>with_reducible rfl);(try simp only[Act.put,R2,R6,R7,Q8,P3,P0])
  refine GI (i:=8) (v:= ?_) rfl Ff Ff Ff (λ_ _ _ h=>h) (Or.inl ⟨by rfl,?_⟩) Fo ?_;rotate_left
  ·((intro w BS;(try dsimp only at BS);go_simp)<;>with_reducible rfl);(try simp only[Act.put,R2,R6,R7,Q8,P3,P0])
  refine GI (i:=9) (v:= ?_) rfl Ff Ff Ff (λ_ _ _ h=>h) (Or.inl ⟨by rfl,?_⟩) Fo ?_;rotate_left
  ·((intro w BS;(try dsimp only at BS);go_simp)<;>with_reducible rfl);(try simp only[Act.put,R2,R6,R7,Q8,P3,P0])
  refine GI (i:=10) (v:= ?_) rfl Ff Ff Ff (λ_ _ _ h=>h) (Or.inl ⟨by rfl,?_⟩) Fo ?_;rotate_left
  ·((intro w BS;(try dsimp only at BS);go_simp)<;>with_reducible rfl);(try simp only[Act.put,R2,R6,R7,Q8,P3,P0])
  refine GI (i:=11) (v:= ?_) rfl Ff Ff Ff (λ_ _ _ h=>h) (Or.inl ⟨by rfl,?_⟩) Fo ?_;rotate_left
  ·((intro w BS;(try dsimp only at BS);go_simp)<;>with_reducible rfl);(try simp only[Act.put,R2,R6,R7,Q8,P3,P0])
  refine GI (i:=12) (v:= ?_) rfl Ff Ff Ff (λ_ _ _ h=>h) (Or.inl ⟨by rfl,?_⟩) Fo ?_;rotate_left
  ·((intro w BS;(try dsimp only at BS);go_simp)<;>with_reducible rfl);(try simp only[Act.put,R2,R6,R7,Q8,P3,P0])
  refine GI (i:=13) (v:= ?_) rfl Ff Ff Ff (λ_ _ _ h=>h) (Or.inl ⟨by rfl,?_⟩) Fo ?_;rotate_left
  ·((intro w BS;(try dsimp only at BS);go_simp)<;>with_reducible rfl);(try simp only[Act.put,R2,R6,R7,Q8,P3,P0])
  refine GI (i:=14) (v:= ?_) rfl Ff Ff Ff (λ_ _ _ h=>h) (Or.inl ⟨by rfl,?_⟩) Fo ?_;rotate_left
  ·((intro w BS;(try dsimp only at BS);go_simp)<;>with_reducible rfl);(try simp only[Act.put,R2,R6,R7,Q8,P3,P0])
  refine GI (i:=15) (v:= ?_) rfl Ff Ff Ff (λ_ _ _ h=>h) (Or.inl ⟨by rfl,?_⟩) Fo ?_;rotate_left
  ·((intro w BS;(try dsimp only at BS);go_simp)<;>with_reducible rfl);(try simp only[Act.put,R2,R6,R7,Q8,P3,P0])
  refine GI (i:=16) (v:= ?_) rfl Ff Ff Ff (λ_ _ _ h=>h) (Or.inl ⟨by rfl,?_⟩) Fo ?_;rotate_left
  ·((intro w BS;(try dsimp only at BS);go_simp)<;>with_reducible rfl);(try simp only[Act.put,R2,R6,R7,Q8,P3,P0])
  refine GI (i:=17) (v:= ?_) rfl Ff Ff Ff (λ_ _ _ h=>h) (Or.inl ⟨by rfl,?_⟩) Fo ?_;rotate_left
  ·((intro w BS;(try dsimp only at BS);go_simp)<;>with_reducible rfl);(try simp only[Act.put,R2,R6,R7,Q8,P3,P0])
  refine GI (i:=18) (v:= ?_) rfl Ff Ff Ff (λ_ _ _ h=>h) (Or.inl ⟨by rfl,?_⟩) Fo ?_;rotate_left
  ·((intro w BS;(try dsimp only at BS);go_simp)<;>with_reducible rfl);(try simp only[Act.put,R2,R6,R7,Q8,P3,P0])
  refine GI (i:=19) (v:= ?_) rfl Ff Ff Ff (λ_ _ _ h=>h) (Or.inl ⟨by rfl,?_⟩) Fo ?_;rotate_left
  ·((intro w BS;(try dsimp only at BS);go_simp)<;>with_reducible rfl);(try simp only[Act.put,R2,R6,R7,Q8,P3,P0])
  refine GI (i:=20) (v:= ?_) rfl Ff Ff Ff (λ_ _ _ h=>h) (Or.inl ⟨by rfl,?_⟩) Fo ?_;rotate_left
  ·((intro w BS;(try dsimp only at BS);go_simp)<;>with_reducible rfl);(try simp only[Act.put,R2,R6,R7,Q8,P3,P0])
  refine GI (i:=21) (v:= ?_) rfl Ff Ff Ff (λ_ _ _ h=>h) (Or.inl ⟨by rfl,?_⟩) Fo ?_;rotate_left
  ·((intro w BS;(try dsimp only at BS);go_simp)<;>with_reducible rfl);(try simp only[Act.put,R2,R6,R7,Q8,P3,P0])
  refine GI (i:=22) (v:= ?_) rfl Ff Ff Ff (λ_ _ _ h=>h) (Or.inl ⟨by rfl,?_⟩) Fo ?_;rotate_left
  ·((intro w BS;(try dsimp only at BS);go_simp)<;>with_reducible rfl);(try simp only[Act.put,R2,R6,R7,Q8,P3,P0])
  clear v0 v1 v2 v3 u0 u1 u2 w1 w2 w3;have hbp:=(EG.out▸AQ.aN MB k:0<=((x0*256+x1)*256+x2)*256+x3/\((x0*256+x1)*256+x2)*256+x3<=4294967295);generalize hy:((x0*256+x1)*256+x2)*256+x3=y at*;have HY:=Hd hy;clear hy;have tx:=hB.size;(have hbW:b<W.heap.size:=by omega);have hpW:w.heap.size<W.heap.size:=hv.lt;refine OI (rs:=[0,23]) Ff Fu ?_;refine NH rfl (λK hK=> ?_) (NH rfl (λK hK=> ?_) Pd)
  ·go_simp;refine hK.out _ _ ⟨c0,c1,c2,c3⟩ (λhHeld=> ?_);clear hK K;refine OI (rs:=[23]) Ff Fu ?_;exact Mg
  ·go_simp;refine hK.out _ _ Ah (λhHeld=> ?_);clear hK K;refine OI (rs:=[0]) Ff Fu ?_;exact Mg
 case done=>
  rintro D ys W hD rfl ⟨⟨v,hv,CF,_⟩,hB,A77⟩ hK;have hc:=hv.cell;obtain⟨A1,OC,rfl⟩:=Ps CF;gi_wp2;refine⟨by simp,.inl ⟨_,_,rfl,run_takeDeferred hK,?_⟩⟩;(have XP:(List.finRange m).length=m:=by simp);rw[XP] at CF;refine⟨.tuple #[.slice A1 m OC,Iv 0],by simp[results,results164,go_sem],A1,OC,rfl,⟨?_,AQ.A18 HH.out.2.1 m⟩,?_⟩
  ·have hx:List.map (λx:Fin m=>AQ.OX l x.1) (List.finRange m)=AQ.gn l m:=by
    apply List.ext_getElem
    ·simp[AQ.gn]
    ·intro i h1 h2;simp[AQ.gn]
   rw[hx] at CF;exact A3N (ownsRow_putObj CF _ hK rfl)
  ·exact hB.trans (belowK_b (w:=w) (Lr _) W D _ _ Ft hK rfl rfl)
theorem A3c(A:Option Addr)(n cap:Nat)(many:Int)(l:List Int)(w:World)(hn:n<=70368744177664)(DT:n<=cap)(GC:cap<=9223372036854775807)(hm: -9223372036854775808<=many/\many<=9223372036854775807)(h:Rd w w.heap.size A n l):
  Calls prog 164 #[.slice A n cap,Iv many] w λe w'=>iu w n many l e w':=by
 by_cases e:(n:Int)=4*many
 ·obtain⟨m,rfl⟩:∃m:Nat,many=m:=⟨many.toNat,by omega⟩;(obtain rfl:n=4*m:=by omega);have key:∀b o,(0<m->A=some (Ad b o))->Calls prog 164 #[.slice A (4*m) cap,Iv m] w λe w'=>iu w (4*m) m l e w':=λb o hA=>
   (callsIn_wide.1 (A5N 5 Fj A b o m cap l w Ft DT GC h hA)).mono λe' w' ⟨A',IA,h1,h2,h3⟩=>⟨.inr (.inr (.inr ⟨e,A',IA,h1,h2⟩)),h3⟩
  rcases mg m with h0|h0
  ·exact key 0 0 (λhh=>by omega)
  ·obtain⟨b,o,hA,_⟩:=h.2.2 Ft;exact key b o (λ_=>hA)
 ·exact A3b A n cap many l w Ft hm e
end
section
open RowKit
attribute [local go_sem ↓] wp_at_zero wp_at_succ
set_option maxRecDepth 512
theorem zy(A:Option Addr)(n cap:Nat)(many:Int)(l:List Int)(w:World)(hn:n<=140737488355328)(hm: -9223372036854775808<=many/\many<=9223372036854775807)(h:¬(n:Int)=4*many):
  Calls prog 145 #[.slice A n cap,Iv many] w λe w'=>iu w n many l e w':=by
 obtain⟨eD,oQ⟩:=hm
 rcases ZY many 0 with h1|h1
 ·clear h;go_enter func145,ntmps145;go_wp2_with fail;go_ret2;exact⟨.inl ⟨h1,rfl⟩,A9⟩
 rcases ZY ((n:Int)/4) many with h2|h2
 ·clear h;go_enter func145,ntmps145;go_wp2_with fail;go_ret2;exact⟨.inr (.inl ⟨h1,h2,rfl⟩),A9⟩
 ·(have h3:4*many<(n:Int):=by omega);(have z:((n:Int) !=4*many)=true:=by simpa using h);clear h;go_enter func145,ntmps145;exact Ll
set_option maxRecDepth 100000 in
theorem A2s(A:Option Addr)(m cap:Nat)(l:List Int)(w:World)(hm:8*m<=140737488355328)(h:Rd w w.heap.size A (4*m) l):
  Calls prog 145 #[.slice A (4*m) cap,Iv m] w λe w'=>∃A' IA,e= .returned (.tuple #[.slice A' m IA,Iv 0])/\Oi w' w.heap.size A' m IA (AQ.gn l m)/\Below w.heap.size w w':=by
 obtain⟨i0,OU,RR,IJ,Ot⟩:=MQ nh;have HH:=Hd h;clear h;go_enter func145,ntmps145;go_wp2_with fail;go_loopw[6,7] (λs6 s7 wr=>∃j:Nat,s7=Iv j/\j<=m/\wr.ownsRow w.heap.size 3 1 s6 j (iv (AQ.gn l j))/\Below w.heap.size w wr) (λ_ s7 _=>m-(intOf s7).toNat)
 case atStart=>exact⟨0,by go_num,by omega,by simpa[AQ.gn,iv] using Ta w w.heap.size _ 1,A9⟩
 case round=>
  obtain⟨j,rfl,hj,FZ,hB⟩:=hrel;obtain⟨A4,oq,rfl⟩:=Ps FZ;have VE:=hB.size
  by_cases EK:j<m
  ·have HR:=HH.out.below hB (Lr _);obtain⟨b,o,rfl,QQ,GG⟩:=HR.2.2 Ft;have c0:=GG (4*j) Ft;have c1:=GG (4*j+1) Ft;have c2:=GG (4*j+2) Ft;have c3:=GG (4*j+3) Ft;have MB:=HH.out.2.1;have b0:=MB.at_ (4*j);have b1:=MB.at_ (4*j+1);have b2:=MB.at_ (4*j+2);have b3:=MB.at_ (4*j+3);have EG:=Hd (show AQ.OX l j=((l.getD (4*j) 0*256+l.getD (4*j+1) 0)*256+l.getD (4*j+2) 0)*256+l.getD (4*j+3) 0 from rfl);have ES:=Hd (AQ.A3a l j);generalize l.getD (4*j) 0=x0 at c0 b0 EG;generalize l.getD (4*j+1) 0=x1 at c1 b1 EG;generalize l.getD (4*j+2) 0=x2 at c2 b2 EG;generalize l.getD (4*j+3) 0=x3 at c3 b3 EG;clear GG HR MB;(have qT:b<wr.heap.size:=by omega);go_upto_region 11 with fail;(refine K3a ?_;intro v0 v1 v2 v3);have u0:=GF (x0*256) Ft;have u1:=GF (x0*256+x1) Ft;have u2:=GF ((x0*256+x1)*256) Ft;have u3:=GF ((x0*256+x1)*256+x2) Ft;have u4:=GF (((x0*256+x1)*256+x2)*256) Ft;have u5:=GF (((x0*256+x1)*256+x2)*256+x3) Ft;have t0:=GF (4*(j:Int)) Ft;have t1:=GF (4*(j:Int)+1) Ft;have t2:=GF (4*(j:Int)+2) Ft;have t3:=GF (4*(j:Int)+3) Ft;(have n0:4*(j:Int)<4*(m:Int):=by omega);(have n1:4*(j:Int)+1<4*(m:Int):=by omega);(have n2:4*(j:Int)+2<4*(m:Int):=by omega);(have n3:4*(j:Int)+3<4*(m:Int):=by omega);(have p0:0<=4*(j:Int):=by omega);(have p1:0<=4*(j:Int)+1:=by omega);(have p2:0<=4*(j:Int)+2:=by omega);(have p3:0<=4*(j:Int)+3:=by omega);(have q0:(4*(j:Int)).toNat=4*j:=by omega);(have q1:(4*(j:Int)+1).toNat=4*j+1:=by omega);(have q2:(4*(j:Int)+2).toNat=4*j+2:=by omega);(have q3:(4*(j:Int)+3).toNat=4*j+3:=by omega);go_region_held3 (λw'=>w'.cell? ⟨b,o+4*j,none⟩=some (.int .u8 x0)/\w'.cell? ⟨b,o+(4*j+1),none⟩=some (.int .u8 x1)/\w'.cell? ⟨b,o+(4*j+2),none⟩=some (.int .u8 x2)/\w'.cell? ⟨b,o+(4*j+3),none⟩=some (.int .u8 x3)) (refine⟨?_,?_,?_,?_⟩<;>(repeat(first|(with_reducible assumption)|(with_reducible refine SQ ?_)|(with_reducible refine AX ?_)))) (first|(refine LH _ rfl (.tmp 25) (.tmp 59) _ rfl w.heap.size 3 i0 _ 1 8 underlying26 OU RR IJ Ot rfl Ft _ j _ rfl (sV (mF FZ _)) (wr.heap.size+1) (some (Ad wr.heap.size 0)) 1 1 [Iv (((x0*256+x1)*256+x2)*256+x3)] rfl (Reads.drew (Reads.new wr #[Iv (((x0*256+x1)*256+x2)*256+x3)] 3)) E9 Dk Ft Fp ?_;intro v1' w2 CE GQ LY;have NJ:w2.cell? (Ad b (o+4*j))=some (.int .u8 x0):=(Cb (GQ.block b Fp (λe=>by have:=(FZ.lt _ e.symm).1;omega))).trans (AX c0);have VG:w2.cell? (Ad b (o+(4*j+1)))=some (.int .u8 x1):=(Cb (GQ.block b Fp (λe=>by have:=(FZ.lt _ e.symm).1;omega))).trans (AX c1);have MU:w2.cell? (Ad b (o+(4*j+2)))=some (.int .u8 x2):=(Cb (GQ.block b Fp (λe=>by have:=(FZ.lt _ e.symm).1;omega))).trans (AX c2);have af:w2.cell? (Ad b (o+(4*j+3)))=some (.int .u8 x3):=(Cb (GQ.block b Fp (λe=>by have:=(FZ.lt _ e.symm).1;omega))).trans (AX c3)));clear v0 v1 v2 v3 u0 u1 u2 u3 u4 u5 t0 t1 t2 t3 n0 n1 n2 n3 p0 p1 p2 p3 q0 q1 q2 q3;go_wp2_with fail;go_roundw
   case rel=>refine⟨j+1,by go_num,by omega,?_,Xt (w:=((wr.alloc (.cells #[Iv (((x0*256+x1)*256+x2)*256+x3)] 3)).drew)) A9 GQ Fp (λg hg=>(FZ.lt g hg).1)⟩;rw[ES.out,EG.out];have hx:=CE;simp only[iv,bW,me,fS] at hx⊢;exact hx
   case measure=>simp[intOf];omega
  ·(obtain rfl:j=m:=by omega);have HO:=Hd (AQ.A18 HH.out.2.1 j);go_wp2_with fail;go_ret2;exact⟨A4,oq,rfl,⟨FZ,HO.out⟩,hB⟩
theorem zA(A:Option Addr)(n cap:Nat)(many:Int)(l:List Int)(w:World)(hn:n<=70368744177664)(hm: -9223372036854775808<=many/\many<=9223372036854775807)(h:Rd w w.heap.size A n l):
  Calls prog 145 #[.slice A n cap,Iv many] w λe w'=>iu w n many l e w':=by
 by_cases e:(n:Int)=4*many
 ·obtain⟨m,rfl⟩:∃m:Nat,many=m:=⟨many.toNat,by omega⟩;(obtain rfl:n=4*m:=by omega);exact(A2s A m cap l w Ft h).mono λe' w' ⟨A',IA,h1,h2,h3⟩=>⟨.inr (.inr (.inr ⟨e,A',IA,h1,h2⟩)),h3⟩
 ·exact zy A n cap many l w Ft hm e
end
section
open RowKit
set_option maxRecDepth 512
namespace AQ
def ai(n:Nat)(many:Int):Bool:=decide ((n:Int)=4*many)
def gL(l:List Int)(n:Nat)(many:Int):List Int:=if ai n many=true then gn l many.toNat else []
def gE(n:Nat)(many:Int):Int:=if many<0 then 2 else if(n:Int)/4<many then 4 else if 4*many<(n:Int) then 5 else 0
end AQ
def ew(w:World)(l:List Int)(n:Nat)(many:Int)(e:Ending)(w':World):Prop:=∃A cap,e= .returned (.tuple #[.slice A (AQ.gL l n many).length cap,Iv (AQ.gE n many)])/\Oi w' w.heap.size A (AQ.gL l n many).length cap (AQ.gL l n many)/\Below w.heap.size w w'
theorem gP{w w':World}{l:List Int}{n:Nat}{many:Int}{e:Ending}(h:iu w n many l e w'):ew w l n many e w':=by
 obtain⟨h|h|h|⟨h1,A,c,h2,h3⟩,hb⟩:=h
 ·refine⟨none,0,?_,?_,hb⟩
  ·(have ho:AQ.ai n many=false:=by simp[AQ.ai];omega);simp[AQ.gL,ho,AQ.gE,h]
  ·(have ho:AQ.ai n many=false:=by simp[AQ.ai];omega);simp only[AQ.gL,ho];exact L6
 ·(have ho:AQ.ai n many=false:=by simp[AQ.ai];omega);refine⟨none,0,?_,?_,hb⟩
  ·rw[h.2.2,show AQ.gE n many=4 by rw[AQ.gE,AO (by have:=h.1;omega),AW h.2.1],show AQ.gL l n many=[] by simp[AQ.gL,ho]];rfl
  ·simp only[AQ.gL,ho];exact L6
 ·(have ho:AQ.ai n many=false:=by simp[AQ.ai];omega);refine⟨none,0,?_,?_,hb⟩
  ·rw[h.2.2.2,show AQ.gE n many=5 by rw[AQ.gE,AO (by have:=h.1;omega),AO (by have:=h.2.2.1;omega),AW h.2.1],show AQ.gL l n many=[] by simp[AQ.gL,ho]];rfl
  ·simp only[AQ.gL,ho];exact L6
 ·(have ho:AQ.ai n many=true:=by simp[AQ.ai,h1]);refine⟨A,c,?_,?_,hb⟩
  ·rw[h2,AQ.gL,AW ho,AQ.gE,AO Ft,AO Ft,AO Ft,AQ.js]
  ·rw[AQ.gL,AW ho,AQ.js];exact h3
theorem tN(A:Option Addr)(n cap:Nat)(many:Int)(l:List Int)(w:World)(hn:n<=70368744177664)(DT:n<=cap)(GC:cap<=9223372036854775807)(hm: -9223372036854775808<=many/\many<=9223372036854775807)(h:Rd w w.heap.size A n l):
 Calls prog 164 #[.slice A n cap,Iv many] w λe w'=>ew w l n many e w':=(A3c A n cap many l w hn DT GC hm h).mono λe w'=>gP
theorem zu(A:Option Addr)(n cap:Nat)(many:Int)(l:List Int)(w:World)(hn:n<=70368744177664)(hm: -9223372036854775808<=many/\many<=9223372036854775807)(h:Rd w w.heap.size A n l):
 Calls prog 145 #[.slice A n cap,Iv many] w λe w'=>ew w l n many e w':=(zA A n cap many l w hn hm h).mono λe w'=>gP
theorem Oi.ri{w:World}{base:Nat}{A:Option Addr}{n cap:Nat}{l:List Int}(h:Oi w base A n cap l):Ri w w.heap.size A n l:=Ri.GR h.1 h.2
structure FV where
 x:Fr
 A:Option Addr
 cap:Nat
def FV.cells(v:FV):List Value:=[Iv v.x.k,Iv v.x.f,Iv v.x.t,Iv v.x.s,.slice v.A v.x.d.length v.cap]
theorem FV.dV:∀(vs:List FV)(i j:Nat)(h:i<vs.length),j<5->(vs.flatMap FV.cells)[i*5+j]?=(FV.cells vs[i])[j]?
 |[],i,j,h,_=>by simp at h
 |v::vs,0,j,h,hj=>by rw[iM,mj (by simp[FV.cells];omega)];simp
 |v::vs,i+1,j,h,hj=>by rw[iM,vI (by simp[FV.cells];omega)];rw[show(i+1)*5+j-(FV.cells v).length=i*5+j by simp[FV.cells];omega];rw[FV.dV vs i j F7 hj];simp
def IF(w:World)(base:Nat)(v:Value)(l:List Fr):Prop:=
 ∃vs:List FV,vs.map (·.x)=l/\w.ownsRow base 147 5 v l.length (vs.flatMap FV.cells)/\∀y∈vs,Ow w base y.A y.x.d.length y.cap y.x.d
section
variable{w w':World}{base:Nat}{v:Value}{l:List Fr}
theorem A59{b1 b2 s1 s2 n1 n2:Nat}{e1 e2:TypeId}{v1 v2:Value}{x1 x2:List Value}(h:w.ownsRow b1 e1 s1 v1 n1 x1)(g:w.ownsRow b2 e2 s2 v2 n2 x2)(LX:e1≠e2)(q:Nat)(h1:v1.ownBlock=some q):some q≠v2.ownBlock:=by
 intro h2
 rcases h.2 with⟨e,_⟩|⟨a,_,_,e,_,ha,_⟩
 ·rw[e] at h1;cases h1
 ·rcases g.2 with⟨e',_⟩|⟨c,_,_,e',_,hc,_⟩
  ·rw[e'] at h2;cases h2
  ·(rw[e] at h1;rw[e'] at h2);(obtain rfl:a=q:=by simpa[Value.ownBlock] using h1);(obtain rfl:a=c:=by simpa[Value.ownBlock] using h2);rw[ha] at hc;injection hc with hc;injection hc with _ hc;exact LX hc
theorem IF.nil(w:World)(base:Nat):IF w base (.slice none 0 0) []:=⟨[],rfl,Ta w base _ _,λy hy=>by cases hy⟩
theorem IF.len{A:Option Addr}{n cap:Nat}(h:IF w base (.slice A n cap) l):l.length=n:=by
 obtain⟨vs,_,h2,_⟩:=h
 rcases h2.2 with⟨e,h0⟩|⟨g,c,cur,e,_⟩
 ·injection e with _ e _;omega
 ·injection e with _ e _;omega
theorem IF.form(h:IF w base v l):∃A cap,v= .slice A l.length cap:=by
 obtain⟨vs,_,h2,_⟩:=h
 rcases h2.2 with⟨rfl,h0⟩|⟨g,c,cur,rfl,_⟩
 ·exact⟨none,0,by rw[h0]⟩
 ·exact⟨_,_,rfl⟩
theorem IF.below{B:Nat}(h:IF w base v l)(k:Below B w w')(hB:w.heap.size<=B):IF w' base v l:=by
 obtain⟨vs,h1,h2,h3⟩:=h;refine⟨vs,h1,h2.kept (row:=none) ⟨k.os,k.tape,k.output,k.size,λi hi _=>k.block i Ft⟩ ?_,λy hy=>(h3 y hy).below k hB⟩
 rcases h2.2 with⟨rfl,_⟩|⟨g,c,cur,rfl,_⟩
 ·left;rfl
 ·right;simp[Value.ownBlock]
theorem IF.drewN(h:IF w base v l)(q:Nat):IF (w.drewN q) base v l:=h
theorem IF.drew(h:IF w base v l):IF w.drew base v l:=h
theorem IF.alloc(h:IF w base v l)(o:Obj):IF (w.alloc o) base v l:=h.below ((QZ w.heap.size w).alloc (Lr _) o) (Lr _)
theorem IF.more{base':Nat}(h:IF w base v l)(hb:base'<=base):IF w base' v l:=by
 obtain⟨vs,h1,h2,h3⟩:=h;refine⟨vs,h1,⟨h2.1,?_⟩,λy hy=>(h3 y hy).more hb⟩
 rcases h2.2 with e|⟨g,c,cur,e,hb',rest⟩
 ·exact .inl e
 ·exact .inr ⟨g,c,cur,e,by omega,rest⟩
theorem IF.append{v':Value}{vs:List FV}{y:FV}(h1:vs.map (·.x)=l)(h2:w.ownsRow base 147 5 v l.length (vs.flatMap FV.cells))(h3:∀y∈vs,Ow w base y.A y.x.d.length y.cap y.x.d)(hy:Ow w base y.A y.x.d.length y.cap y.x.d)
  (hg:w.grownBy w' v.ownBlock)(ho:w'.ownsRow base 147 5 v' (l.length+1) (vs.flatMap FV.cells++y.cells)):IF w' base v' (l++[y.x]):=by
 refine⟨vs++[y],by simp[h1],?_,λz hz=> ?_⟩
 ·rw[TW,A0a];simpa using ho
 ·have hz':Ow w base z.A z.x.d.length z.cap z.x.d:=by
   rcases List.mem_append.1 hz with h|h
   ·exact h3 z h
   ·rw[List.mem_singleton.1 h];exact hy
  exact hz'.grown hg (λg e=>A59 hz'.1 h2 Fj g (by rw[e];rfl))
theorem IF.rf{A:Option Addr}{n cap:Nat}(h:IF w base (.slice A n cap) l):Rf w w.heap.size A n l:=by
 have hl:=h.len;obtain⟨vs,h1,h2,h3⟩:=h;rw[hl] at h2;refine⟨hl,λhn=> ?_⟩
 rcases h2.2 with⟨_,h0⟩|⟨g,c,cur,e,_,hh,_⟩
 ·omega
 ·injection e with e1 e2 e3;(subst e1;subst e3);refine⟨g,0,rfl,BG hh,λi hi=> ?_⟩;(have hvl:vs.length=n:=by rw[<-hl,<-h1];simp);(have tD:i<vs.length:=by omega);(have hx:l.getD i jw=vs[i].x:=by rw[<-h1];simp[List.getD,Gg tD]);rw[hx];(have hc:∀j u,j<5->(FV.cells vs[i])[j]?=some u->w.cell? (Ad g (i*5+j))=some u:=λj u hj hu=>by have:=sZ h2 (g:=g) (i*5+j) Ft;rw[this,FV.dV vs i j tD hj,hu]);have ho:=h3 vs[i] (bZ tD);refine⟨vs[i].A,vs[i].cap,?_,?_,?_,?_,?_,ho.rd,?_,?_,?_⟩
  ·have:=hc 0 _ Ft rfl;simpa using this
  ·have:=hc 1 _ Ft rfl;simpa using this
  ·have:=hc 2 _ Ft rfl;simpa using this
  ·have:=hc 3 _ Ft rfl;simpa using this
  ·have:=hc 4 _ Ft rfl;simpa using this
  ·intro hA
   rcases ho.form with⟨_,hz,hcp⟩|⟨q,hq,_⟩
   ·exact⟨hz,hcp⟩
   ·rw[hA] at hq;cases hq
  ·rcases ho.form with⟨_,hz,hcp⟩|⟨q,hq,_,_,hle,_⟩<;>omega
  ·rcases ho.form with⟨_,hz,hcp⟩|⟨q,hq,_,_,_,hle⟩
   ·rw[hcp];exact Pe _
   ·exact hle
end
theorem WG{base size n:Nat}{e:TypeId}{v:Value}{xs:List Value}{w w':World}(h:w.ownsRow base e size v n xs)(k:Below w.heap.size w w'):w'.ownsRow base e size v n xs:=by
 refine h.kept (row:=none) ⟨k.os,k.tape,k.output,k.size,λi hi _=>k.block i hi⟩ ?_
 rcases h.2 with⟨rfl,_⟩|⟨g,c,cur,rfl,_⟩
 ·left;rfl
 ·right;simp[Value.ownBlock]
theorem A2B{base size n:Nat}{e:TypeId}{v:Value}{xs:List Value}{w:World}{p:Addr}(h:w.ownsRow base e size v n xs)(hp:p.block<base)(u:Value):(w.setCell p u).ownsRow base e size v n xs:=by
 refine h.kept (row:=some p.block) ⟨rfl,rfl,rfl,by simp[World.setCell],λi hi LX=>iN w p u i (λe=>LX (by rw[e]))⟩ ?_;right;intro e;have:=(h.lt _ e).1;omega
theorem Reads.A0t(w:World)(cs:Array Value)(t:TypeId)(n size:Nat)(h:cs.size=n*size):Reads (w.alloc (.cells cs t)) (w.heap.size+1) size (some (Ad w.heap.size 0)) n cs.toList:=by
 refine⟨by simpa using h,λ_=>⟨_,rfl,by simp,λi u hu=> ?_⟩⟩;exact L7
theorem FV.one(y:FV):∀v∈y.cells,v.oneCell'=true:=by
 intro v hv;simp only[FV.cells,fU,List.not_mem_nil,or_false] at hv
 rcases hv with rfl|rfl|rfl|rfl|rfl<;>rfl
theorem ja:(prog.info? 147).map (λi=>(i.zero,i.size,i.bytes))=some (some (.agg aw),5,56):=by kernel_rfl
end
section
open ChangeAt ChangeShapes Deep Joins RowKit WideShapes
section
variable{H:Type}{enc:TypeId×Value->H}{P:Program}{w:World}{base:Nat}{spare:Nat->Bool}{held:Bool}
theorem aP{w:World}{a:Addr}{v:Value}(h:w.cell? a=some v):a.block<w.heap.size:=by
 rcases Oj a.block w.heap.size with EK|jj
 ·exact EK
 ·simp[World.cell?,A03 jj] at h
theorem ed(b o n:Nat):((Ad b o):Addr).add n=(Ad b (o+n)):=by unfold Addr.add;split<;>simp_all
def jJ(a:Option Addr)(len cap:Nat):Prop:=len<=cap/\cap<=maxLen/\(a=none->len=0/\cap=0)
theorem A57{k:IntKind}{t e:TypeId}{fuel:Nat}{c:Value}{x:DataW H×List MemPlace}(ht:P.underlying t=some (.slice e))(he:P.underlying e=some (.int k))(hC:P.cellsOf e=1)
  (hf:DataW.trod enc P w 0 (λ_=>true) true fuel t [c]=some x):∃(a:Option Addr)(len cap:Nat)(l:List Int),c= .slice a len cap/\jJ a len cap/\l.length=len/\(∀z∈l,(Lit.int k z).wf=true)/\
   (0<len->∃b o,a=some (Ad b o)/\b<w.heap.size/\∀i,i<len->w.cell? (Ad b (o+i))=some (.int k (l.getD i 0))):=by
 rcases open_ints ht he hC hf with⟨YS,_⟩|⟨x,l,c',zs,YS,_,hl,hm,hz,_,DD,hwz⟩
 ·simp at YS;exact⟨none,0,0,[],YS,⟨by omega,by unfold maxLen;omega,λ_=>⟨rfl,rfl⟩⟩,rfl,(by intro z hz;cases hz),λh=>absurd h Ft⟩
 ·simp at YS;simp at hz;subst YS;(have hlen:(zs.take l).length=l:=by rw[Ul];omega);refine⟨some x,l,c',zs.take l,rfl,⟨hl,hm,(λh=>by cases h)⟩,hlen,λz hz'=>hwz _ (cj hz'),λh0=> ?_⟩;obtain⟨b,o,spot⟩:=x;have g0:=DD 0 Ft;(have A0P:spot=none:=by simpa[Addr.add] using World.cell?_spot g0);subst A0P;refine⟨b,o,rfl,(by simpa[Addr.add] using aP g0),λi hi=> ?_⟩;have:=DD i Ft;rw[ed] at this;rw[this];simp[List.getD,List.getElem?_take_of_lt hi]
end
section
variable{H:Type}{enc:TypeId×Value->H}{w:World}{fuel:Nat}{c:Value}{x:DataW H×List MemPlace}
theorem jd{z:Int}(h:(Lit.int .i64 z).wf=true): -9223372036854775808<=z/\z<=9223372036854775807:=by
 (have h':IntKind.i64.min<=z/\z<=IntKind.i64.max:=by simpa[Lit.wf] using h);exact⟨Int.le_trans Fj h'.1,Int.le_trans h'.2 Fj⟩
theorem tt(hf:DataW.trod enc prog w 0 (λ_=>true) true fuel 26 [c]=some x):∃(a:Option Addr)(len cap:Nat)(l:List Int),c= .slice a len cap/\jJ a len cap/\Ri w w.heap.size a len l:=by
 obtain⟨a,len,cap,l,h1,h2,h3,h4,h5⟩:=A57 underlying26 underlying3 Ff hf;exact⟨a,len,cap,l,h1,h2,h3,λz hz=>jd (h4 z hz),h5⟩
end
end
section
set_option maxRecDepth 512
namespace AJ
open Go.RowKit
def data(s:St):List Int:=if s.cmd=1\/s.cmd=2 then AQ.IZ s.prog else if s.cmd=3 then AQ.IZ s.at_ else []
def DX(s:St):List Fr:=(EC s).map λ(i:Nat)=>⟨s.cmd,0,(i:Int),s.seq,data s⟩
def FM(s:St)(k now x:Int):List Fr:=if BZ s k now x=0 then DX (CG s k now x) else []
def DK(s:St)(now:Int):List Fr:=if DZ s now=0/\Qa s now=true then DX (tick s now) else []
def FU(s:St)(now:Int)(y:Fr):Int:=if AQ.vd y.k y.f y.t y.s y.d.length=true/\y.t=0/\y.f<=s.n then DZ s now else 2
def Vm(s:St)(y:Fr):Bool:=decide (y.k=8)&&decide (s.cmd≠0)&&decide (y.s=s.seq)&&decide (y.d.getD 0 0=s.cmd)
def Sz(y:Fr):Bool:=decide (y.k≠8)&&decide (y.d.getD 0 0<=7)
def Qg(s:St)(now:Int)(y:Fr):St:=
 if y.d.length=1 then(if Vm s y then MN {s with now:=now} y.f.toNat else if Sz y then reported {s with now:=now} y.f.toNat (y.d.getD 0 0) now else{s with now:=now}) else{s with now:=now}
def recv(s:St)(now:Int)(y:Fr):St:=if FU s now y=0 then Qg s now y else s
def LB(s:St)(now:Int)(y:Fr):List Fr:=if FU s now y=0/\y.d.length=1/\Sz y=true then [⟨7,0,y.f,y.s,AQ.IZ now++AQ.IZ now⟩] else []
structure Inv(s:St):Prop where
 n:1<=s.n/\s.n<=64
 again:1<=s.again/\s.again<=60000
 st:0<=s.st/\s.st<=9
 now:0<=s.now/\s.now<=3600000
 seq:0<=s.seq/\s.seq<=65535
 prog:0<=s.prog/\s.prog<=4294967295
 cmd:0<=s.cmd/\s.cmd<=6
 at_:0<=s.at_/\s.at_<=3600000
 BB:0<=s.BB/\s.BB<=s.now
 Rr:s.Rr.length=s.n
 seen:s.seen.length=s.n
 Abs:∀x∈s.seen,(0<=x.2.1/\x.2.1<=7)/\(0<=x.2.2/\x.2.2<=3600000)
theorem aH{n:Nat}{again:Int}(h:VX n again=0):Inv (new n again):=by
 unfold VX at h;split at h
 ·rename_i hh
  refine⟨by simp only[new];omega,by simp only[new];omega,by simp[new],by simp[new],by simp[new],by simp[new],by simp[new],by simp[new],by simp[new],by simp[new],by simp[new],?_⟩;intro x hx;simp only[new] at hx;rw[List.mem_replicate] at hx;rw[hx.2];simp
 ·omega
theorem QS{s:St}{now:Int}(h:DZ s now=0):s.now<=now/\now<=3600000:=by
 unfold DZ at h;split at h
 ·assumption
 ·omega
theorem nN(k:Int):1<=given k/\given k<=8:=by unfold given;repeat' split;all_goals omega
theorem A3h(k:Int):2<=full k/\full k<=9:=by unfold full;repeat' split;all_goals omega
theorem Pw{s:St}{k now x:Int}(h:Inv s)(hk:1<=k/\k<=6):Inv (JP s k now x):=by
 unfold JP;split
 ·rename_i he
  have hb:=nN k;obtain⟨h1,h2,h3,h4,h5,h6,h7,h8,h9,ZM,xj,YV⟩:=h;unfold BZ at he
  by_cases a:k=1/\¬(0<=x/\x<=4294967295)
  ·rw[AW a] at he;omega
  ·rw[AO a] at he
   by_cases b:DZ s now≠0
   ·rw[AW b] at he;omega
   ·rw[AO b] at he;have ht:=QS (by omega:DZ s now=0)
    by_cases c:k=3/\¬(now<=x/\x<=3600000)
    ·rw[AW c] at he;omega
    ·refine⟨h1,h2,?_,?_,?_,?_,?_,?_,?_,by simp[CG],xj,YV⟩
     ·simp only[CG];omega
     ·simp only[CG];omega
     ·simp only[CG];omega
     ·simp only[CG];split<;>omega
     ·simp only[CG];omega
     ·simp only[CG];split<;>omega
     ·simp only[CG];omega
 ·exact h
theorem Us{s:St}{now:Int}(h:Inv s)(ht:DZ s now=0):Inv {s with now:=now}:=by
 have ht:=QS ht;obtain⟨h1,h2,h3,h4,h5,h6,h7,h8,h9,ZM,xj,YV⟩:=h;exact⟨h1,h2,h3,by simp only;omega,h5,h6,h7,h8,by simp only;omega,ZM,xj,YV⟩
theorem We{s:St}{now:Int}(h:Inv s):Inv (tick s now):=by
 unfold tick;split
 ·rename_i ht
  split
  ·have h':=Us h ht;obtain⟨h1,h2,h3,h4,h5,h6,h7,h8,h9,ZM,xj,YV⟩:=h';exact⟨h1,h2,h3,h4,h5,h6,h7,h8,by simp only at h4⊢;omega,ZM,xj,YV⟩
  ·exact Us h ht
 ·exact h
theorem wM{s:St}{f:Nat}(h:Inv s):Inv (MN s f):=by
 have hf:=A3h s.cmd;obtain⟨h1,h2,h3,h4,h5,h6,h7,h8,h9,ZM,xj,YV⟩:=h;refine⟨h1,h2,?_,h4,h5,h6,h7,h8,h9,by simp[MN,ZM],xj,YV⟩;simp only[MN];split<;>omega
theorem iZ{s:St}{f:Nat}{p now:Int}(h:Inv s)(hp:0<=p/\p<=7)(hn:0<=now/\now<=3600000):Inv (reported s f p now):=by
 obtain⟨h1,h2,h3,h4,h5,h6,h7,h8,h9,ZM,xj,YV⟩:=h;refine⟨h1,h2,h3,h4,h5,h6,h7,h8,h9,ZM,by simp[reported,xj],?_⟩;intro x hx;simp only[reported] at hx
 rcases List.mem_or_eq_of_mem_set hx with hx|rfl
 ·exact YV x hx
 ·exact⟨hp,hn⟩
theorem Wg{s:St}{now:Int}{y:Fr}(h:Inv s)(hy:By y.d):Inv (recv s now y):=by
 unfold recv;split
 ·rename_i he
  unfold FU at he;split at he
  ·have hi:=Us h he;have ht:=QS he;have hn:=h.now;unfold Qg;split
   ·split
    ·exact wM hi
    ·split
     ·rename_i hr
      unfold Sz at hr;simp only[bY,eS] at hr;exact iZ hi ⟨(hy.at_ 0).1,hr.2⟩ Ft
     ·exact hi
   ·exact hi
  ·omega
 ·exact h
end AJ
end
section
open RowKit
def TG(w:World)(B size:Nat)(A:Option Addr)(n:Nat)(xs:List Value):Prop:=
 xs.length=n*size/\(0<n->∃b o,A=some (Ad b o)/\b<B/\∀j u,xs[j]?=some u->w.cell? (Ad b (o+j))=some u)
section
variable{w w':World}{B B' size n:Nat}{A:Option Addr}{xs:List Value}
theorem TG.nil(w:World)(B size:Nat)(A:Option Addr):TG w B size A 0 []:=⟨by simp,λh=>absurd h Ft⟩
theorem TG.IE{S:Nat->Prop}(h:TG w B size A n xs)(k:AG S w w')(hB:B<=w.heap.size)(hS:∀a,A=some a->¬S a.block):TG w' B size A n xs:=
 ⟨h.1,λhn=>by
  obtain⟨b,o,e,hb,hc⟩:=h.2 hn;exact⟨b,o,e,hb,λj u hu=>(Cb (k.block b Ft (hS _ e))).trans (hc j u hu)⟩⟩
theorem TG.below(h:TG w B size A n xs)(k:Below B' w w')(hB:B<=B'):TG w' B size A n xs:=
 ⟨h.1,λhn=>by
  obtain⟨b,o,e,hb,hc⟩:=h.2 hn;exact⟨b,o,e,hb,λj u hu=>(Cb (k.block b Ft)).trans (hc j u hu)⟩⟩
theorem TG.more(h:TG w B size A n xs)(hB:B<=B'):TG w B' size A n xs:=
 ⟨h.1,λhn=>by
  obtain⟨b,o,e,hb,hc⟩:=h.2 hn;exact⟨b,o,e,by omega,hc⟩⟩
theorem TG.drew(h:TG w B size A n xs):TG w.drew B size A n xs:=h
theorem TG.drewN(h:TG w B size A n xs)(k:Nat):TG (w.drewN k) B size A n xs:=h
theorem TG.alloc(h:TG w B size A n xs)(hB:B<=w.heap.size)(o:Obj):TG (w.alloc o) B size A n xs:=h.below ((IH _).alloc (Lr _) o) hB
theorem TG.reads(h:TG w B size A n xs):Reads w B size A n xs:=
 ⟨h.1,λhn=>by
  obtain⟨b,o,e,hb,hc⟩:=h.2 hn;exact⟨_,e,hb,λj u hu=>by rw[CP];exact hc j u hu⟩⟩
theorem TG.cM{base:Nat}{e:TypeId}{c:Nat}(h:Row w base e size A n c xs):TG w w.heap.size size A n xs:=
 ⟨h.1,λhn=>by
  obtain⟨g,o,cur,rfl,_,EK,_,_,_,_,_,hc,_⟩:=h.some_ hn;exact⟨g,o,rfl,EK,hc⟩⟩
theorem TG.GR{base:Nat}{e:TypeId}{c:Nat}(h:w.ownsRow base e size (.slice A n c) n xs):TG w w.heap.size size A n xs:=by
 refine⟨h.1,λhn=> ?_⟩;obtain⟨g,cap,hv,_,EK⟩:=h.form hn;(have hA:A=some (Ad g 0):=by injection hv);subst hA;exact⟨g,0,rfl,EK,λj u hu=>by rw[<-CP];exact h.cells (g:=g) rfl j u hu⟩
theorem TG.cut(h:TG w B size A n xs){k cap:Nat}(hk:k<=n)(hc:n<=cap):TG w B size (if cap=k then A else A.map (·.add (k*size))) (n-k) (xs.drop (k*size)):=by
 refine⟨by rw[Xu,h.1,Nat.sub_mul],λhn=> ?_⟩;obtain⟨b,o,rfl,hb,DD⟩:=h.2 Ft;rw[AO Ft];refine⟨b,o+k*size,by simp[CP],hb,λj u hu=> ?_⟩;rw[TE];exact DD _ u (by rw[<-hu,TF])
theorem TG.take(h:TG w B size A n xs){k:Nat}(hk:k<=n):TG w B size A k (xs.take (k*size)):=by
 have:k*size<=n*size:=cg _ hk;refine⟨by rw[Ul,h.1];omega,λhn=> ?_⟩;obtain⟨b,o,rfl,hb,DD⟩:=h.2 Ft;refine⟨b,o,rfl,hb,λj u hu=>DD j u ?_⟩;rw[VU] at hu;split at hu
 ·exact hu
 ·cases hu
end
structure oV where
 A:Option Addr
 c:Nat
 d:List Int
def rbc(x:oV):Value:= .slice x.A x.d.length x.c
def WU(l:List oV):List Value:=l.map rbc
def JN(w:World)(lo B:Nat)(l:List oV):Prop:=∀x∈l,Rd w B x.A x.d.length x.d/\(∀a,x.A=some a->lo<=a.block)/\x.d.length<=x.c/\x.c<=maxLen/\(x.A=none->x.d.length=0)
def Rb(w:World)(lo B:Nat)(A:Option Addr)(n:Nat)(l:List (List Int)):Prop:=∃rl:List oV,rl.map (·.d)=l/\TG w B 1 A n (WU rl)/\JN w lo B rl/\(∀a,A=some a->0<n->lo<=a.block)
section
variable{w w':World}{lo B B' n:Nat}{A:Option Addr}{l:List (List Int)}{rl:List oV}
theorem JN.IE{S:Nat->Prop}(h:JN w lo B rl)(k:AG S w w')(hB:B<=w.heap.size)(hS:∀i,lo<=i->i<B->¬S i):JN w' lo B rl:=λx hx=>by
 obtain⟨h1,h2,h3⟩:=h x hx;refine⟨⟨h1.1,h1.2.1,λhn=> ?_⟩,h2,h3⟩;obtain⟨b,o,e,hb,hc⟩:=h1.2.2 hn;exact⟨b,o,e,hb,λi hi=>(Cb (k.block b Ft (hS b (h2 _ e) hb))).trans (hc i hi)⟩
theorem JN.kept{S:Nat->Prop}(h:JN w lo B rl)(k:AG S w w')(hB:B<=w.heap.size)(hS:∀x∈rl,∀a,x.A=some a->¬S a.block):JN w' lo B rl:=λx hx=>by
 obtain⟨h1,h2,h3⟩:=h x hx;refine⟨⟨h1.1,h1.2.1,λhn=> ?_⟩,h2,h3⟩;obtain⟨b,o,e,hb,hc⟩:=h1.2.2 hn;exact⟨b,o,e,hb,λi hi=>(Cb (k.block b Ft (hS x hx _ e))).trans (hc i hi)⟩
theorem JN.more(h:JN w lo B rl)(hB:B<=B'):JN w lo B' rl:=λx hx=>⟨(h x hx).1.more hB,(h x hx).2⟩
theorem JN.below(h:JN w lo B rl)(k:Below B' w w')(hB:B<=B'):JN w' lo B rl:=λx hx=>⟨(h x hx).1.below k hB,(h x hx).2⟩
theorem JN.nil(w:World)(lo B:Nat):JN w lo B []:=λx hx=>by cases hx
theorem JN.snoc{x:oV}(h:JN w lo B rl)(hx:Rd w B x.A x.d.length x.d/\(∀a,x.A=some a->lo<=a.block)/\x.d.length<=x.c/\x.c<=maxLen/\(x.A=none->x.d.length=0)):JN w lo B (rl++[x]):=λy hy=>by
 rcases List.mem_append.1 hy with hy|hy
 ·exact h y hy
 ·rw[List.mem_singleton.1 hy];exact hx
theorem JN.lower(h:JN w lo B rl){lo':Nat}(hl:lo'<=lo):JN w lo' B rl:=λx hx=>⟨(h x hx).1,λa ha=>Lt hl ((h x hx).2.1 a ha),(h x hx).2.2⟩
theorem ma(rl:List oV):∀v∈WU rl,v.oneCell'=true:=by
 intro v hv;simp only[WU,cz] at hv;obtain⟨x,_,rfl⟩:=hv;rfl
theorem ZH(rl:List oV):(WU rl).length=rl.length:=by simp[WU]
theorem fM(rl:List oV)(x:oV):WU (rl++[x])=WU rl++[rbc x]:=by simp[WU]
theorem Rb.below(h:Rb w lo B A n l)(k:Below B' w w')(hB:B<=B'):Rb w' lo B A n l:=by
 obtain⟨rl,h1,h2,h3,h4⟩:=h;exact⟨rl,h1,h2.below k hB,h3.below k hB,h4⟩
theorem Rb.more(h:Rb w lo B A n l)(hB:B<=B'):Rb w lo B' A n l:=by
 obtain⟨rl,h1,h2,h3,h4⟩:=h;exact⟨rl,h1,h2.more hB,h3.more hB,h4⟩
theorem Rb.len(h:Rb w lo B A n l):l.length=n:=by
 obtain⟨rl,h1,h2,h3,_⟩:=h;have:=h2.1;rw[ZH] at this;rw[<-h1,WW];omega
theorem Rb.nil(w:World)(lo B:Nat)(A:Option Addr):Rb w lo B A 0 []:=⟨[],rfl,⟨rfl,λh=>absurd h Ft⟩,JN.nil w lo B,λ_ _ h=>absurd h Ft⟩
theorem Rb.IE{S:Nat->Prop}(h:Rb w lo B A n l)(k:AG S w w')(hB:B<=w.heap.size)(hS:∀i,lo<=i->¬S i):Rb w' lo B A n l:=by
 obtain⟨rl,h1,h2,h3,h4⟩:=h;refine⟨rl,h1,⟨h2.1,λhn=> ?_⟩,h3.IE k hB (λi hi _=>hS i hi),h4⟩;obtain⟨b,o,e,hb,hc⟩:=h2.2 hn;exact⟨b,o,e,hb,λj u hu=>(Cb (k.block b Ft (hS _ (h4 _ e hn)))).trans (hc j u hu)⟩
theorem Rb.at_(h:Rb w lo B A n l){j:Nat}(hj:j<n):∃b o A' c',A=some (Ad b o)/\b<B/\w.cell? (Ad b (o+j))=some (.slice A' (l.getD j []).length c')/\Rd w B A' (l.getD j []).length (l.getD j [])/\(l.getD j []).length<=c'/\c'<=maxLen/\(A'=none->(l.getD j []).length=0)/\(∀a,A'=some a->lo<=a.block):=by
 obtain⟨rl,h1,h2,h3,_⟩:=h;have hlen:=h2.1;rw[ZH,Vs] at hlen;obtain⟨b,o,rfl,hb,hc⟩:=h2.2 Ft;have hx:rl[j]?=some rl[j]:=Gg Ft;(have hl:l.getD j []=rl[j].d:=by rw[<-h1];simp[List.getD,hx]);obtain⟨g1,g2,g3,g4,g5⟩:=h3 rl[j] (bZ _);refine⟨b,o,rl[j].A,rl[j].c,rfl,hb,?_,?_,?_,g4,?_,g2⟩
 ·rw[hl,hc j (rbc rl[j]) (by rw[WU,TV,hx];rfl)];rfl
 ·rw[hl];exact g1
 ·rw[hl];exact g3
 ·rw[hl];exact g5
end
theorem rz(d:List Int)(hd:By d)(w:World)(hl:d.length<=1000000):∃w' c,(convert 9 47 (.string (strOfNums d))).run prog w= .ok (.slice (some (Ad w.heap.size 0)) d.length c) w'/\
  Rd w' (w.heap.size+1) (some (Ad w.heap.size 0)) d.length d/\Below w.heap.size w w'/\w'.heap.size=w.heap.size+1/\d.length<=c/\c<=maxLen:=by
 (have hs:(strOfNums d).size=d.length:=by show(strOfNums d).data.size=_;rw[<-Array.length_toList,strOfNums_data];simp);have hr:=Lib.run_convert_string_bytes (P:=prog) w 9 47 5 (strOfNums d) underlying9 underlying47 underlying5;rw[hs] at hr;refine⟨_,_,hr,⟨rfl,hd,λhn=>⟨_,0,rfl,by omega,λi hi=> ?_⟩⟩,?_,Lib.bytesWorld_size _ _ _,grownCap_ge _ _ _ _,grownCap_le_maxLen _ _ _ _ Ee⟩
 ·rw[PL,Lib.bytesWorld_cell _ _ _ _ Ft];have h0:=hd.at_ i;(have:(strOfNums d).data.toList.getD i 0=UInt8.ofNat (d.getD i 0).toNat:=by rw[strOfNums_data];simp[List.getD,TV,Gg hi]);rw[this];clear this;generalize d.getD i 0=x at h0⊢;congr 2;simp;omega
 ·refine⟨rfl,rfl,rfl,?_,λj hj=>Lib.bytesWorld_at_old _ _ _ j hj⟩;rw[Lib.bytesWorld_size];omega
end
end Go.Proofs.YtdocdgcdldpagaaGreat

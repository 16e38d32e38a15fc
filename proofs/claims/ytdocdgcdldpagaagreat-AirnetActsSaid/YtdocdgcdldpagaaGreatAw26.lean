import Derived.Test.YtdocdgcdldpagaaGreatAw23
open Go.Proofs.Tryz
namespace Go.Proofs.YtdocdgcdldpagaaGreat
set_option maxHeartbeats 64000000
set_option maxRecDepth 100000
set_option linter.all false
section
open RowKit
attribute [local go_sem ↓] wp_at_zero wp_at_succ
def Nt.Qc(r:Nt.Ru)(n m:Nat):Bool:=decide (n<=70)&&(decide (m<=70)&&(decide (r.n<=3)||decide (64<r.n)))
theorem uN(r:Nt.Ru)(n m:Nat)(OA:Option Addr)(oc:Nat)(TA:Option Addr)(tc:Nat)(w:World):
  Calls prog 11 #[Rz r OA n oc TA m tc] w (IL (.bool (Nt.Qc r n m)) w):=by
 rw[QV];unfold aC
 by_cases h1:n<=70
 ·have i1:(n:Int)<=70:=by omega
  by_cases h2:m<=70
  ·have i2:(m:Int)<=70:=by omega
   by_cases h3:r.n<=3
   ·have E:=Hd (show Nt.Qc r n m=true by simp[Nt.Qc,h1,h2,h3]);clear h1 h2;exact H9
   ·by_cases h4:64<r.n
    ·have E:=Hd (show Nt.Qc r n m=true by simp[Nt.Qc,h1,h2,h4]);clear h1 h2;exact H9
    ·have E:=Hd (show Nt.Qc r n m=false by simp[Nt.Qc,h1,h2,h3,h4]);clear h1 h2;exact H9
  ·(have i2:¬(m:Int)<=70:=by omega);have E:=Hd (show Nt.Qc r n m=false by simp[Nt.Qc,h1,h2]);clear h1 h2;exact H9
 ·(have i1:¬(n:Int)<=70:=by omega);have E:=Hd (show Nt.Qc r n m=false by simp[Nt.Qc,h1]);clear h1;exact H9
end
section
open RowKit
def RF(p:Nat)(m:RN)(i:Nat):Prop:=i=p\/AK m.PA=some i\/AK m.UA=some i\/AK m.VA=some i\/AK m.KA=some i\/AK m.BA=some i\/AK m.EA=some i
def RX(base p:Nat)(m:RN)(i:Nat):Prop:=base<=i/\¬RF p m i/\¬m.av i
def RT(e:TypeId):Prop:=e=55\/e=101\/e=136\/e=4\/e=3\/e=58
theorem XX{w:World}{q g:Nat}{x:Obj}(h:w.heap[q]?=some x)(hq:q≠g):∀(vs:List Value)(o:Nat),(w.setCells g o vs).heap[q]?=some x:=by
 intro vs
 induction vs generalizing w with
 |nil=>intro o;exact h
 |cons v vs ih=>intro o;exact ih (CV (a:=(Ad g o)) h hq v) (o+1)
theorem CZ(w:World)(g:Nat):∀(vs:List Value)(o:Nat){S:Nat->Prop}{w0:World},S g->AG S w0 w->AG S w0 (w.setCells g o vs):=by
 intro vs
 induction vs generalizing w with
 |nil=>intro o S w0 _ hk;exact hk
 |cons v vs ih=>intro o S w0 hS hk;exact ih _ (o+1) hS (hk.setCell (p:=(Ad g o)) (.inl hS) v)
section
variable{w w' w1:World}{base b k p N size n c g o:Nat}{e:TypeId}{A:Option Addr}{xs:List Value}{X S:Nat->Prop}{m:RN}{s:Nt.St}
theorem Row.pB(h:Row w base e size (some (Ad g o)) n c xs)(hn:0<n):∀(vs:List Value)(q:Nat),q+vs.length<=n*size->Row (w.setCells g (o+q) vs) base e size (some (Ad g o)) n c (xs.take q++vs++xs.drop (q+vs.length)):=by
 intro vs
 induction vs generalizing w xs with
 |nil=>intro q hq;rw[World.setCells];simpa using h
 |cons v vs ih=>
  intro q hq;rw[List.length_cons] at hq;have h1:=h.yT (q:=q) hn Ft rfl v;have h2:=ih h1 (q+1) Ft;rw[<-TE] at h2;(have hl:q<xs.length:=by have:=h.1;omega);(have e1:(xs.set q v).take (q+1)++vs++(xs.set q v).drop (q+1+vs.length)=xs.take q++v::vs++xs.drop (q+(v::vs).length):=by rw[List.take_set,eV hl,List.set_append_right _ _ Dg,Ul,mq Ft,Nat.sub_self,List.drop_set_of_lt Ft];simp[Nat.add_comm,Nat.add_left_comm]);rw[e1] at h2;exact h2
theorem Row.there(h:Row w base e size (some (Ad g o)) n c xs)(hn:0<n){q z:Nat}(hq:q+z<=n*size):w.there g (o+q) z:=λj hj=>by
 obtain⟨g',o',cur,he,_,_,hh,Xz,GC,Px,OW,DD,hf⟩:=h.some_ hn;(injection he with he;injection he with e1 e2);(subst e1;subst e2);(have hl:q+j<xs.length:=by have:=h.1;omega);refine⟨?_,hf _⟩;rw[TE,DD (q+j) _ (Gg hl)];rfl
end
theorem yw{α:Type}{a b:List α}{z k:Nat}(h:a.length=z):(a++b).take (z+k)=a++b.take k:=by
 subst h;rw[List.take_append,R8 Ft,Nat.add_sub_cancel_left]
theorem jB{α:Type}{a b:List α}{z k:Nat}(h:a.length=z):(a++b).drop (z+k)=b.drop k:=by
 subst h;rw[List.drop_append,List.drop_of_length_le Ft,Nat.add_sub_cancel_left,List.nil_append]
theorem Uk(ru:AN.Ru)(l:AN.St)(A:Option Addr)(n c:Nat):(OY ru l A n c).length=11:=rfl
theorem iK(p:AL.St):(LJ p).length=24:=rfl
theorem ba(ru:AN.Ru)(f:Nt.Cr->AN.St):∀(i0:Nat)(cs:List Nt.Cr)(qs:List (Option Addr×Nat))(i:Nat)(c:Nt.Cr)(a:Option Addr×Nat),qs.length=cs.length->i<cs.length->
  IS ru f i0 (cs.set i c) (qs.set i a)=(IS ru f i0 cs qs).take (i*11)++OY (Nt.JQ ru (i0+i)) (f c) a.1 (f c).u.length a.2++(IS ru f i0 cs qs).drop (i*11+11)
 |i0,x::cs,y::qs,0,c,a,h,hi=>by rw[P3,P3,IS,IS,fR,List.take_zero,List.nil_append,PL];have:=jB (b:=IS ru f (i0+1) cs qs) (k:=0) (Uk (Nt.JQ ru i0) (f x) y.1 (f x).u.length y.2);rw[Nat.add_zero,bV] at this;rw[this];rfl
 |i0,x::cs,y::qs,i+1,c,a,h,hi=>by rw[P0,P0,IS,IS,ba ru f (i0+1) cs qs i c a F7 F3];rw[show(i+1)*11=11+i*11 by omega,show 11+i*11+11=11+(i*11+11) by omega,yw (Uk _ _ _ _ _),jB (Uk _ _ _ _ _),show i0+1+i=i0+(i+1) by omega,a8,a8,a8]
 |_,[],_::_,_,_,_,h,_=>by simp at h
 |_,_::_,[],_,_,_,h,_=>by simp at h
 |_,[],[],_,_,_,_,hi=>by simp at hi
theorem QG(ru:AN.Ru)(f:Nt.Cr->AN.St):∀(i0:Nat)(cs:List Nt.Cr)(qs:List (Option Addr×Nat))(i:Nat)(c:Nt.Cr),f c=f (cs.getD i Nt.c0)->IS ru f i0 (cs.set i c) qs=IS ru f i0 cs qs
 |i0,x::cs,y::qs,0,c,h=>by have h':f c=f x:=h;rw[P3,IS,IS,h']
 |i0,x::cs,y::qs,i+1,c,h=>by rw[P0,IS,IS,QG ru f (i0+1) cs qs i c h]
 |_,[],_,_,_,_=>by simp
 |_,_::_,[],0,_,_=>rfl
 |_,_::_,[],_+1,_,_=>rfl
theorem nQ{α:Type}{β:Type}(f:β->List α)(z:Nat)(hz:∀x,(f x).length=z):∀(cs:List β)(i:Nat)(c:β),i<cs.length->(cs.set i c).flatMap f=(cs.flatMap f).take (i*z)++f c++(cs.flatMap f).drop (i*z+z)
 |x::cs,0,c,hi=>by have:=jB (b:=cs.flatMap f) (k:=0) (hz x);rw[Nat.add_zero,bV] at this;rw[P3,iM,iM,fR,List.take_zero,List.nil_append,PL,this]
 |x::cs,i+1,c,hi=>by(have e1:(i+1)*z=z+i*z:=by rw[Nat.succ_mul,Nat.add_comm]);rw[P0,iM,iM,nQ f z hz cs i c F3,e1,TE,yw (hz x),jB (hz x),a8,a8,a8]
theorem A0l(cs:List Nt.Cr)(i:Nat)(c:Nt.Cr)(hi:i<cs.length):PZ (cs.set i c)=(PZ cs).take (i*24)++LJ c.p++(PZ cs).drop (i*24+24):=
 nQ (λ(c:Nt.Cr)=>LJ c.p) 24 (λ(x:Nt.Cr)=>iK x.p) cs i c hi
theorem WC:∀(cs:List Nt.Cr)(i:Nat)(c:Nt.Cr),c.p=(cs.getD i Nt.c0).p->PZ (cs.set i c)=PZ cs
 |x::cs,0,c,h=>by have h':c.p=x.p:=h;show LJ c.p++PZ cs=LJ x.p++PZ cs;rw[h']
 |x::cs,i+1,c,h=>by show LJ x.p++PZ (cs.set i c)=LJ x.p++PZ cs;rw[WC cs i c h]
 |[],_,_,_=>by simp
structure IX(w:World)(base p:Nat)(m:RN)(s:Nt.St):Prop where
 n:ij w base p (RX base p m) m s
 uv:∀q,AK m.UA=some q->AK m.VA≠some q
 bo:∀q,AK m.BA=some q->AK m.OA≠some q/\AK m.TA≠some q
 ka:∀q,AK m.KA=some q->AK m.A≠some q
 av:∀q,m.av q->q<w.heap.size
def RN.fix(m:RN):Option Addr×Option Addr×Option Addr×Option Addr×Option Addr×Option Addr×Option Addr×(Nat->Prop):=(m.PA,m.UA,m.VA,m.KA,m.BA,m.OA,m.TA,m.av)
def RG(p:Nat)(m m':RN)(n:Nat):Prop:=(∀q,RF p m' q->RF p m q\/n<=q)/\m'.fix=m.fix
def Vg(base p:Nat)(m:RN)(s':Nt.St)(w w':World):Prop:=∃m',IX w' base p m' s'/\AG (RF p m) w w'/\RG p m m' w.heap.size
def oU(base p:Nat)(m:RN)(s':Nt.St)(w w':World):Prop:=∃m',IX w' base p m' s'/\AG (RF p m) w w'/\RG p m m' w.heap.size/\m'.EA=m.EA
theorem oU.rto{base p:Nat}{m:RN}{s':Nt.St}{w w':World}(h:oU base p m s' w w'):Vg base p m s' w w':=by
 obtain⟨m',h1,h2,h3,_⟩:=h;exact⟨m',h1,h2,h3⟩
theorem RF.same{p:Nat}{m m':RN}(hf:m'.fix=m.fix)(he:m'.EA=m.EA){q:Nat}:RF p m' q↔RF p m q:=by
 simp only[RN.fix,Prod.mk.injEq] at hf;obtain⟨h1,h2,h3,h4,h5,_⟩:=hf;unfold RF;rw[h1,h2,h3,h4,h5,he]
theorem RG.refl{p n:Nat}{m:RN}:RG p m m n:=⟨λ_ h=> .inl h,rfl⟩
section
variable{w w' w1:World}{base p i n:Nat}{m m1:RN}{s s':Nt.St}{S:Nat->Prop}
theorem IX.below(h:IX w base p m s)(g:Below w.heap.size w w'):IX w' base p m s:=⟨h.n.below g,h.uv,h.bo,h.ka,λq hq=>Sv (h.av q hq) g.size⟩
theorem RF.ty(h:IX w base p m s){q:Nat}(hq:RF p m q):∃e,RT e/\Ty w q e:=by
 rcases hq with rfl|hq|hq|hq|hq|hq|hq
 ·exact⟨_,.inl rfl,_,h.n.BM⟩
 ·exact⟨_,.inr (.inl rfl),h.n.R9.ty hq⟩
 ·exact⟨_,.inr (.inr (.inl rfl)),h.n.QF.ty hq⟩
 ·exact⟨_,.inr (.inr (.inl rfl)),h.n.QD.ty hq⟩
 ·exact⟨_,.inr (.inr (.inr (.inl rfl))),h.n.RQ.ty hq⟩
 ·exact⟨_,.inr (.inr (.inr (.inr (.inl rfl)))),h.n.S4.ty hq⟩
 ·exact⟨_,.inr (.inr (.inr (.inr (.inr rfl)))),h.n.GM.ty hq⟩
theorem RF.lt(h:IX w base p m s){q:Nat}(hq:RF p m q):base<=q/\q<w.heap.size:=by
 rcases hq with rfl|hq|hq|hq|hq|hq|hq
 ·exact⟨h.n.ge,BG h.n.BM⟩
 ·exact h.n.R9.lt hq
 ·exact h.n.QF.lt hq
 ·exact h.n.QD.lt hq
 ·exact h.n.RQ.lt hq
 ·exact h.n.S4.lt hq
 ·exact h.n.GM.lt hq
theorem RF.au(h:IX w base p m s){q:Nat}{e:TypeId}(g:Ty w q e)(he:¬RT e):¬RF p m q:=λhq=>by
 obtain⟨f,hf,hg⟩:=hq.ty h;exact g.ne hg (λe'=>he (e'▸hf)) rfl
theorem IX.rof(h:IX w base p m s)(kk:AG (RF p m) w w'){fb:Nat}{v:Value}{l:List Fr}(hR:IF w fb v l):IF w' fb v l:=
 hR.kept kk (λq hq=>⟨λt=>RF.au h t (by unfold RT;decide) hq,λt=>RF.au h t (by unfold RT;decide) hq⟩)
theorem Vg.refl(h:IX w base p m s):Vg base p m s w w:=⟨m,h,AG.refl _ _,RG.refl⟩
theorem Vg.AS(h:IX w base p m s)(g:Below w.heap.size w w'):Vg base p m s w w':=⟨m,h.below g,AG.AS g,RG.refl⟩
theorem Vg.trans(h1:AG (RF p m) w w1)(h2:RG p m m1 w.heap.size)(h:Vg base p m1 s' w1 w'):Vg base p m s' w w':=by
 exact Il
theorem oU.trans(h1:AG (RF p m) w w1)(h2:RG p m m1 w.heap.size)(he:m1.EA=m.EA)(h:oU base p m1 s' w1 w'):oU base p m s' w w':=by
 obtain⟨m',g1,g2,g3,g4⟩:=h;refine⟨m',g1,h1.trans g2 (λi hi hs=> ?_),⟨λq hq=> ?_,g3.2.trans h2.2⟩,g4.trans he⟩
 ·rcases h2.1 i hs with h|h
  ·exact h
  ·omega
 ·rcases g3.1 q hq with h|h
  ·exact h2.1 q h
  ·exact .inr (Lt h1.size h)
theorem oU.AS(h:IX w base p m s)(g:Below w.heap.size w w'):oU base p m s w w':=⟨m,h.below g,AG.AS g,RG.refl,rfl⟩
theorem Vg.below(h:Vg base p m s' w w1)(g:Below w1.heap.size w1 w'):Vg base p m s' w w':=by
 exact Jz
theorem IX.ka2(h:IX w base p m s){A':Option Addr}(hA:∀g,AK A'=some g->AK m.A=some g\/w.heap.size<=g):∀q,AK m.KA=some q->AK A'≠some q:=λq hq jY=>by
 rcases hA q jY with e|e
 ·exact h.ka q hq e
 ·have:=(h.n.RQ.lt hq).2;omega
theorem Ve(s:Nt.St){i j:Nat}(c:Nt.Cr)(hi:i<s.cr.length):Nt.at_ (Nt.put s i c) j=if j=i then c else Nt.at_ s j:=Rk _ _ _ _ _ hi
theorem IX.yu(h:IX w base p m s)(hi:i<s.cr.length){g o:Nat}(hg:m.VA=some (Ad g o)){l':AN.St}{A':Option Addr}{c':Nat}(hb:base<=w.heap.size)
  (LD:IW w1 (λq=>RX base p m q\/w.heap.size<=q) A' l'.u.length l'.u)(hc:l'.u.length<=c')(hB:Below w.heap.size w w1):
  oU base p m (Nt.put s i {Nt.at_ s i with dn:=l'}) w (w1.setCells g (o+i*11) (OY (Nt.JQ s.r.dn i) l' A' l'.u.length c')):=by
 have h1:=h.below hB;have hl:=h.n.len.2;have CF:=h1.n.QD;rw[hg] at CF;have hlen:(Nt.put s i {Nt.at_ s i with dn:=l'}).cr.length=s.cr.length:=T9;have tF:=(h.n.QD.lt (g:=g) Fc);have NJ:AG (λq=>q=g) w1 (w1.setCells g (o+i*11) (OY (Nt.JQ s.r.dn i) l' A' l'.u.length c')):=CZ w1 g _ _ rfl (AG.refl _ _);have hk:AG (RF p m) w (w1.setCells g (o+i*11) (OY (Nt.JQ s.r.dn i) l' A' l'.u.length c')):=CZ w1 g _ _ (.inr (.inr (.inr (.inl Fc)))) (AG.AS hB);have tg:Ty w1 g 136:=h1.n.QD.ty Fc;(have FY:∀{q:Nat}{e:TypeId},Ty w1 q e->e≠136->¬q=g:=λht he e'=>by subst e';exact ht.ne tg he rfl);(have hX:∀q,RX base p m q\/w.heap.size<=q->RX base p m q:=λq hq=>by exact Jy);(have hXg:∀q,RX base p m q->¬q=g:=λq hq e'=>hq.2.1 (by subst e';exact .inr (.inr (.inr (.inl Fc)))));refine⟨{m with ds:=m.ds.set i (A',c')},⟨?_,h.uv,h.bo,h.ka,λq hq=>Sv (h.av q hq) hk.size⟩,hk,⟨λq hq=> .inl hq,rfl⟩,rfl⟩;refine⟨?_,?_,?_,?_,?_,?_,?_,?_,?_,?_,?_,?_,?_,h.n.ge⟩
 ·have:=AR h1.n.BM NJ (FY ⟨_,h1.n.BM⟩ Fj);rw[this];simp[lO,Nt.put]
 ·exact⟨h1.n.st.dr.kept NJ (λq hq=>FY (h1.n.st.dr.ty hq) Fj),h1.n.st.ar.kept NJ (λq hq=>FY (h1.n.st.ar.ty hq) Fj),h1.n.st.sr.kept NJ (λq hq=>FY (h1.n.st.sr.ty hq) Fj)⟩
 ·exact h1.n.CJ.kept NJ (λq hq=>FY (h1.n.CJ.ty hq) Fj)
 ·exact h1.n.BL.kept NJ (λq hq=>FY (h1.n.BL.ty hq) Fj)
 ·have:=h1.n.R9.kept NJ (λq hq=>FY (h1.n.R9.ty hq) Fj);rw[hlen];show Row _ base _ 24 m.PA _ m.pc (PZ (s.cr.set i _));rw[WC s.cr i ({Nt.at_ s i with dn:=l'}:Nt.Cr) rfl];exact this
 ·have:=h1.n.QF.kept NJ (λq hq e'=>by subst e';exact h.uv q hq Fc);rw[hlen];show Row _ base _ 11 m.UA _ m.uc (IS s.r.up (·.up) 0 (s.cr.set i _) m.us);rw[QG s.r.up (·.up) 0 s.cr m.us i ({Nt.at_ s i with dn:=l'}:Nt.Cr) rfl];exact this
 ·have:=CF.pB Ft (OY (Nt.JQ s.r.dn i) l' A' l'.u.length c') (i*11) (by rw[Uk];omega);rw[Uk] at this;rw[hlen];show Row _ base _ 11 m.VA _ m.vc (IS s.r.dn (·.dn) 0 (s.cr.set i _) (m.ds.set i (A',c')));rw[ba _ _ _ _ _ _ _ _ hl hi,PL,hg];exact this
 ·exact h1.n.RQ.kept NJ (λq hq=>FY (h1.n.RQ.ty hq) Fj)|>λthis=>by rw[hlen];exact this
 ·have:=h1.n.S4.kept NJ (λq hq=>FY (h1.n.S4.ty hq) Fj);rw[hlen];(have e:eJ (Nt.put s i {Nt.at_ s i with dn:=l'})=eJ s:=by exact Hr);rw[e];exact this
 ·exact h1.n.GM.kept NJ (λq hq=>FY (h1.n.GM.ty hq) Fj)
 ·refine⟨by rw[hlen];exact h.n.len.1,by rw[hlen];show(m.ds.set i (A',c')).length=_;rw[T9];exact hl⟩
 ·intro j hj;rw[hlen] at hj;(have e:(Nt.at_ (Nt.put s i {Nt.at_ s i with dn:=l'}) j).up=(Nt.at_ s j).up:=by exact J8);rw[e];exact Jp
 ·intro j hj;rw[hlen] at hj;show IW _ (RX base p m) ((m.ds.set i (A',c')).getD j (none,0)).1 _ _/\_<=((m.ds.set i (A',c')).getD j (none,0)).2;rw[Ve _ _ hi,Rk _ _ _ _ _ (by rw[hl];exact hi)]
  by_cases e:j=i
  ·rw[AW e,AW e];exact⟨(LD.mono hX).IE NJ (λq hx e'=>hXg q hx e'),hc⟩
  ·rw[AO e,AO e];exact Jq
theorem IX.yt(h:IX w base p m s)(hi:i<s.cr.length){g o:Nat}(hg:m.UA=some (Ad g o)){l':AN.St}{A':Option Addr}{c':Nat}(hb:base<=w.heap.size)
  (LD:IW w1 (λq=>RX base p m q\/w.heap.size<=q) A' l'.u.length l'.u)(hc:l'.u.length<=c')(hB:Below w.heap.size w w1):
  oU base p m (Nt.put s i {Nt.at_ s i with up:=l'}) w (w1.setCells g (o+i*11) (OY (Nt.JQ s.r.up i) l' A' l'.u.length c')):=by
 have h1:=h.below hB;have hl:=h.n.len.1;have CF:=h1.n.QF;rw[hg] at CF;have hlen:(Nt.put s i {Nt.at_ s i with up:=l'}).cr.length=s.cr.length:=T9;have tF:=(h.n.QF.lt (g:=g) Fc);have NJ:AG (λq=>q=g) w1 (w1.setCells g (o+i*11) (OY (Nt.JQ s.r.up i) l' A' l'.u.length c')):=CZ w1 g _ _ rfl (AG.refl _ _);have hk:AG (RF p m) w (w1.setCells g (o+i*11) (OY (Nt.JQ s.r.up i) l' A' l'.u.length c')):=CZ w1 g _ _ (.inr (.inr (.inl Fc))) (AG.AS hB);have tg:Ty w1 g 136:=h1.n.QF.ty Fc;(have FY:∀{q:Nat}{e:TypeId},Ty w1 q e->e≠136->¬q=g:=λht he e'=>by subst e';exact ht.ne tg he rfl);(have hX:∀q,RX base p m q\/w.heap.size<=q->RX base p m q:=λq hq=>by exact Jy);(have hXg:∀q,RX base p m q->¬q=g:=λq hq e'=>hq.2.1 (by subst e';exact .inr (.inr (.inl Fc))));refine⟨{m with us:=m.us.set i (A',c')},⟨?_,h.uv,h.bo,h.ka,λq hq=>Sv (h.av q hq) hk.size⟩,hk,⟨λq hq=> .inl hq,rfl⟩,rfl⟩;refine⟨?_,?_,?_,?_,?_,?_,?_,?_,?_,?_,?_,?_,?_,h.n.ge⟩
 ·have:=AR h1.n.BM NJ (FY ⟨_,h1.n.BM⟩ Fj);rw[this];simp[lO,Nt.put]
 ·exact⟨h1.n.st.dr.kept NJ (λq hq=>FY (h1.n.st.dr.ty hq) Fj),h1.n.st.ar.kept NJ (λq hq=>FY (h1.n.st.ar.ty hq) Fj),h1.n.st.sr.kept NJ (λq hq=>FY (h1.n.st.sr.ty hq) Fj)⟩
 ·exact h1.n.CJ.kept NJ (λq hq=>FY (h1.n.CJ.ty hq) Fj)
 ·exact h1.n.BL.kept NJ (λq hq=>FY (h1.n.BL.ty hq) Fj)
 ·have:=h1.n.R9.kept NJ (λq hq=>FY (h1.n.R9.ty hq) Fj);rw[hlen];show Row _ base _ 24 m.PA _ m.pc (PZ (s.cr.set i _));rw[WC s.cr i ({Nt.at_ s i with up:=l'}:Nt.Cr) rfl];exact this
 ·have:=CF.pB Ft (OY (Nt.JQ s.r.up i) l' A' l'.u.length c') (i*11) (by rw[Uk];omega);rw[Uk] at this;rw[hlen];show Row _ base _ 11 m.UA _ m.uc (IS s.r.up (·.up) 0 (s.cr.set i _) (m.us.set i (A',c')));rw[ba _ _ _ _ _ _ _ _ hl hi,PL,hg];exact this
 ·have:=h1.n.QD.kept NJ (λq hq e'=>by subst e';exact h.uv q Fc hq);rw[hlen];show Row _ base _ 11 m.VA _ m.vc (IS s.r.dn (·.dn) 0 (s.cr.set i _) m.ds);rw[QG s.r.dn (·.dn) 0 s.cr m.ds i ({Nt.at_ s i with up:=l'}:Nt.Cr) rfl];exact this
 ·exact h1.n.RQ.kept NJ (λq hq=>FY (h1.n.RQ.ty hq) Fj)|>λthis=>by rw[hlen];exact this
 ·have:=h1.n.S4.kept NJ (λq hq=>FY (h1.n.S4.ty hq) Fj);rw[hlen];(have e:eJ (Nt.put s i {Nt.at_ s i with up:=l'})=eJ s:=by exact Hr);rw[e];exact this
 ·exact h1.n.GM.kept NJ (λq hq=>FY (h1.n.GM.ty hq) Fj)
 ·refine⟨by rw[hlen];show(m.us.set i (A',c')).length=_;rw[T9];exact hl,by rw[hlen];exact h.n.len.2⟩
 ·intro j hj;rw[hlen] at hj;show IW _ (RX base p m) ((m.us.set i (A',c')).getD j (none,0)).1 _ _/\_<=((m.us.set i (A',c')).getD j (none,0)).2;rw[Ve _ _ hi,Rk _ _ _ _ _ (by rw[hl];exact hi)]
  by_cases e:j=i
  ·rw[AW e,AW e];exact⟨(LD.mono hX).IE NJ (λq hx e'=>hXg q hx e'),hc⟩
  ·rw[AO e,AO e];exact Jp
 ·intro j hj;rw[hlen] at hj;(have e:(Nt.at_ (Nt.put s i {Nt.at_ s i with up:=l'}) j).dn=(Nt.at_ s j).dn:=by exact J8);rw[e];exact Jq
theorem IX.toP(h:IX w base p m s)(hi:i<s.cr.length){g o:Nat}(hg:m.PA=some (Ad g o)){p':AL.St}(hB:Below w.heap.size w w1):
  oU base p m (Nt.put s i {Nt.at_ s i with p:=p'}) w (w1.setCells g (o+i*24) (LJ p')):=by
 have h1:=h.below hB;have CF:=h1.n.R9;rw[hg] at CF;have hlen:(Nt.put s i {Nt.at_ s i with p:=p'}).cr.length=s.cr.length:=T9;have NJ:AG (λq=>q=g) w1 (w1.setCells g (o+i*24) (LJ p')):=CZ w1 g _ _ rfl (AG.refl _ _);have hk:AG (RF p m) w (w1.setCells g (o+i*24) (LJ p')):=CZ w1 g _ _ (.inr (.inl Fc)) (AG.AS hB);have tg:Ty w1 g 101:=h1.n.R9.ty Fc;(have FY:∀{q:Nat}{e:TypeId},Ty w1 q e->e≠101->¬q=g:=λht he e'=>by subst e';exact ht.ne tg he rfl);(have hXg:∀q,RX base p m q->¬q=g:=λq hq e'=>hq.2.1 (by subst e';exact .inr (.inl Fc)));refine⟨m,⟨?_,h.uv,h.bo,h.ka,λq hq=>Sv (h.av q hq) hk.size⟩,hk,⟨λq hq=> .inl hq,rfl⟩,rfl⟩;refine⟨?_,?_,?_,?_,?_,?_,?_,?_,?_,?_,?_,?_,?_,h.n.ge⟩
 ·have:=AR h1.n.BM NJ (FY ⟨_,h1.n.BM⟩ Fj);rw[this];simp[lO,Nt.put]
 ·exact⟨h1.n.st.dr.kept NJ (λq hq=>FY (h1.n.st.dr.ty hq) Fj),h1.n.st.ar.kept NJ (λq hq=>FY (h1.n.st.ar.ty hq) Fj),h1.n.st.sr.kept NJ (λq hq=>FY (h1.n.st.sr.ty hq) Fj)⟩
 ·exact h1.n.CJ.kept NJ (λq hq=>FY (h1.n.CJ.ty hq) Fj)
 ·exact h1.n.BL.kept NJ (λq hq=>FY (h1.n.BL.ty hq) Fj)
 ·have:=CF.pB Ft (LJ p') (i*24) (by rw[iK];omega);rw[iK] at this;rw[hlen];show Row _ base _ 24 m.PA _ m.pc (PZ (s.cr.set i ({Nt.at_ s i with p:=p'}:Nt.Cr)));rw[A0l _ _ _ hi,hg];exact this
 ·have:=h1.n.QF.kept NJ (λq hq=>FY (h1.n.QF.ty hq) Fj);rw[hlen];show Row _ base _ 11 m.UA _ m.uc (IS s.r.up (·.up) 0 (s.cr.set i _) m.us);rw[QG s.r.up (·.up) 0 s.cr m.us i ({Nt.at_ s i with p:=p'}:Nt.Cr) rfl];exact this
 ·have:=h1.n.QD.kept NJ (λq hq=>FY (h1.n.QD.ty hq) Fj);rw[hlen];show Row _ base _ 11 m.VA _ m.vc (IS s.r.dn (·.dn) 0 (s.cr.set i _) m.ds);rw[QG s.r.dn (·.dn) 0 s.cr m.ds i ({Nt.at_ s i with p:=p'}:Nt.Cr) rfl];exact this
 ·exact h1.n.RQ.kept NJ (λq hq=>FY (h1.n.RQ.ty hq) Fj)|>λthis=>by rw[hlen];exact this
 ·have:=h1.n.S4.kept NJ (λq hq=>FY (h1.n.S4.ty hq) Fj);rw[hlen];(have e:eJ (Nt.put s i {Nt.at_ s i with p:=p'})=eJ s:=by exact Hr);rw[e];exact this
 ·exact h1.n.GM.kept NJ (λq hq=>FY (h1.n.GM.ty hq) Fj)
 ·refine⟨by rw[hlen];exact h.n.len.1,by rw[hlen];exact h.n.len.2⟩
 ·intro j hj;rw[hlen] at hj;(have e:(Nt.at_ (Nt.put s i {Nt.at_ s i with p:=p'}) j).up=(Nt.at_ s j).up:=by exact J8);rw[e];exact Jp
 ·intro j hj;rw[hlen] at hj;(have e:(Nt.at_ (Nt.put s i {Nt.at_ s i with p:=p'}) j).dn=(Nt.at_ s j).dn:=by exact J8);rw[e];exact Jq
end
section
variable{w w' w1:World}{base p i n:Nat}{m m1:RN}{s s':Nt.St}{S:Nat->Prop}
theorem IX.kH(h:IX w base p m s){EA':Option Addr}{ec':Nat}(DJ:s'.st=s.st)(hr:s'.r=s.r)(hcut:s'.cut=s.cut)(GG:s'.cr.length=s.cr.length)
  (JV:∀j,j<s.cr.length->(Nt.at_ s' j).up=(Nt.at_ s j).up/\(Nt.at_ s' j).dn=(Nt.at_ s j).dn)(xX:PZ s'.cr=PZ s.cr)(huc:IS s'.r.up (·.up) 0 s'.cr m.us=IS s.r.up (·.up) 0 s.cr m.us)(hvc:IS s'.r.dn (·.dn) 0 s'.cr m.ds=IS s.r.dn (·.dn) 0 s.cr m.ds)
  (kk:AG (λq=>q=p\/AK m.BA=some q\/AK m.EA=some q) w w')
  (hb:w'.heap[p]?=some (.cells (lO {m with EA:=EA',ec:=ec'} s').toArray 55 (0,0)))(qT:Row w' base 3 1 m.BA (s'.cr.length+1) m.bc (Rt (eJ s')))(he:Row w' base 58 3 EA' s'.ev.length ec' (UQ s'.ev))(hE:AK EA'=AK m.EA\/∃g,AK EA'=some g/\w.heap.size<=g):
  Vg base p m s' w w':=by
 have FY:∀{q:Nat}{e:TypeId},Ty w q e->e≠55->e≠3->e≠58->¬(q=p\/AK m.BA=some q\/AK m.EA=some q):=λht h1 h2 h3 hq=>by
  rcases hq with rfl|hq|hq
  ·exact ht.ne ⟨_,h.n.BM⟩ h1 rfl
  ·exact ht.ne (h.n.S4.ty hq) h2 rfl
  ·exact ht.ne (h.n.GM.ty hq) h3 rfl
 have A7J:∀{q:Nat},Ty w q 3->AK m.BA≠some q->¬(q=p\/AK m.BA=some q\/AK m.EA=some q):=λht h1 hq=>by
  rcases hq with rfl|hq|hq
  ·exact ht.ne ⟨_,h.n.BM⟩ Fj rfl
  ·exact h1 hq
  ·exact ht.ne (h.n.GM.ty hq) Fj rfl
 have hRF:∀q,RF p {m with EA:=EA',ec:=ec'} q->RF p m q\/w.heap.size<=q:=λq hq=>by
  rcases hq with hq|hq|hq|hq|hq|hq|hq
  ·exact .inl (.inl hq)
  ·exact .inl (.inr (.inl hq))
  ·exact .inl (.inr (.inr (.inl hq)))
  ·exact .inl (.inr (.inr (.inr (.inl hq))))
  ·exact .inl (.inr (.inr (.inr (.inr (.inl hq)))))
  ·exact .inl (.inr (.inr (.inr (.inr (.inr (.inl hq))))))
  ·rcases hE with e|⟨g,e,hg⟩
   ·exact .inl (.inr (.inr (.inr (.inr (.inr (.inr (e▸hq)))))))
   ·have jY:AK EA'=some q:=hq;rw[e] at jY
    cases jY
    exact .inr hg
 have hX:∀q,RX base p m q/\q<w.heap.size->RX base p {m with EA:=EA',ec:=ec'} q:=λq hq=>⟨hq.1.1,λhf=>by
  rcases hRF q hf with hf|hf
  ·exact hq.1.2.1 hf
  ·have:=hq.2;omega,hq.1.2.2⟩
 have hXS:∀q,RX base p m q/\q<w.heap.size->¬(q=p\/AK m.BA=some q\/AK m.EA=some q):=λq hq hs=>hq.1.2.1 (by
  rcases hs with hs|hs|hs
  ·exact .inl hs
  ·exact .inr (.inr (.inr (.inr (.inr (.inl hs)))))
  ·exact .inr (.inr (.inr (.inr (.inr (.inr hs))))))
 refine⟨{m with EA:=EA',ec:=ec'},⟨⟨hb,?_,?_,?_,?_,?_,?_,?_,qT,he,?_,?_,?_,h.n.ge⟩,h.uv,h.bo,h.ka,λq hq=>Sv (h.av q hq) kk.size⟩,kk.mono (λq _ hq=> ?_),hRF,rfl⟩
 ·rw[DJ];exact⟨h.n.st.dr.kept kk (λq hq=>FY (h.n.st.dr.ty hq) Fj Fj Fj),h.n.st.ar.kept kk (λq hq=>FY (h.n.st.ar.ty hq) Fj Fj Fj),h.n.st.sr.kept kk (λq hq=>FY (h.n.st.sr.ty hq) Fj Fj Fj)⟩
 ·rw[hr];exact h.n.CJ.kept kk (λq hq=>A7J (h.n.CJ.ty hq) (λhb=>(h.bo q hb).1 hq))
 ·rw[hr];exact h.n.BL.kept kk (λq hq=>A7J (h.n.BL.ty hq) (λhb=>(h.bo q hb).2 hq))
 ·rw[GG,xX];exact h.n.R9.kept kk (λq hq=>FY (h.n.R9.ty hq) Fj Fj Fj)
 ·rw[GG];show Row _ base _ 11 m.UA _ m.uc (IS s'.r.up (·.up) 0 s'.cr m.us);rw[huc];exact h.n.QF.kept kk (λq hq=>FY (h.n.QF.ty hq) Fj Fj Fj)
 ·rw[GG];show Row _ base _ 11 m.VA _ m.vc (IS s'.r.dn (·.dn) 0 s'.cr m.ds);rw[hvc];exact h.n.QD.kept kk (λq hq=>FY (h.n.QD.ty hq) Fj Fj Fj)
 ·rw[GG,hcut];exact h.n.RQ.kept kk (λq hq=>FY (h.n.RQ.ty hq) Fj Fj Fj)
 ·rw[GG];exact h.n.len
 ·intro j hj;rw[GG] at hj;rw[(JV j hj).1];exact⟨((h.n.uw j hj).1.bound.IE kk hXS).mono hX,(h.n.uw j hj).2⟩
 ·intro j hj;rw[GG] at hj;rw[(JV j hj).2];exact⟨((h.n.dw j hj).1.bound.IE kk hXS).mono hX,(h.n.dw j hj).2⟩
 ·rcases hq with hq|hq|hq
  ·exact .inl hq
  ·exact .inr (.inr (.inr (.inr (.inr (.inl hq)))))
  ·exact .inr (.inr (.inr (.inr (.inr (.inr hq)))))
theorem IX.pk(h:IX w base p m s){st':AJ.St}{D' A' S':Option Addr}{Tv Tx Tf:Nat}(hB:Below w.heap.size w w1)(DJ:Q9 w1 D' Tv A' Tx S' Tf st')(hka:∀q,AK m.KA=some q->AK A'≠some q):
  oU base p m {s with st:=st'} w (w1.setCells p 23 (Sl st' D' Tv A' Tx S' Tf)):=by
 have h1:=h.below hB;have NJ:AG (λq=>q=p) w1 (w1.setCells p 23 (Sl st' D' Tv A' Tx S' Tf)):=CZ w1 p _ _ rfl (AG.refl _ _);have hk:AG (RF p m) w (w1.setCells p 23 (Sl st' D' Tv A' Tx S' Tf)):=CZ w1 p _ _ (.inl rfl) (AG.AS hB);have tg:Ty w1 p 55:=⟨_,h1.n.BM⟩;(have FY:∀{q:Nat}{e:TypeId},Ty w1 q e->e≠55->¬q=p:=λht he e'=>by subst e';exact ht.ne tg he rfl);refine⟨{m with D:=D',dc:=Tv,A:=A',ac:=Tx,S:=S',sc:=Tf},⟨⟨?_,?_,h1.n.CJ.kept NJ (λq hq=>FY (h1.n.CJ.ty hq) Fj),h1.n.BL.kept NJ (λq hq=>FY (h1.n.BL.ty hq) Fj),h1.n.R9.kept NJ (λq hq=>FY (h1.n.R9.ty hq) Fj),
  h1.n.QF.kept NJ (λq hq=>FY (h1.n.QF.ty hq) Fj),h1.n.QD.kept NJ (λq hq=>FY (h1.n.QD.ty hq) Fj),h1.n.RQ.kept NJ (λq hq=>FY (h1.n.RQ.ty hq) Fj),h1.n.S4.kept NJ (λq hq=>FY (h1.n.S4.ty hq) Fj),h1.n.GM.kept NJ (λq hq=>FY (h1.n.GM.ty hq) Fj),
  h.n.len,λj hj=>⟨(h1.n.uw j hj).1.IE NJ (λq hx e'=>hx.2.1 (.inl e')),(h1.n.uw j hj).2⟩,λj hj=>⟨(h1.n.dw j hj).1.IE NJ (λq hx e'=>hx.2.1 (.inl e')),(h1.n.dw j hj).2⟩,h.n.ge⟩,h.uv,h.bo,hka,λq hq=>Sv (h.av q hq) hk.size⟩,hk,⟨λq hq=> .inl hq,rfl⟩,rfl⟩
 ·have:=h1.n.BM;simp only[Sl,World.setCells];have:=AP (AP (AP (AP (AP (AP (AP (AP (AP (AP (AP this 23 (Iv st'.again)) 24 (Iv st'.st)) 25 (Iv st'.now)) 26 (Iv st'.seq)) 27 (.bool st'.some)) 28 (Iv st'.prog)) 29 (Iv st'.cmd)) 30 (.slice D' (AJ.data st').length Tv)) 31 (Iv st'.BB)) 32 (.slice A' st'.n Tx)) 33 (.slice S' st'.n Tf);simp only[Q8] at this;exact this
 ·exact⟨DJ.dr.kept NJ (λq hq=>FY (DJ.dr.ty hq) Fj),DJ.ar.kept NJ (λq hq=>FY (DJ.ar.ty hq) Fj),DJ.sr.kept NJ (λq hq=>FY (DJ.sr.ty hq) Fj)⟩
theorem IX.A4W(h:IX w base p m s)(a b:Int)(k1:AG (λq=>q=p) w w')(hb:w'.heap[p]?=some (.cells (lO m {s with steps:=a,now:=b}).toArray 55 (0,0))):Vg base p m {s with steps:=a,now:=b} w w':=by
 have kk:AG (λq=>q=p\/AK m.BA=some q\/AK m.EA=some q) w w':=k1.mono (λq _ hq=> .inl hq);exact h.kH (EA':=m.EA) (ec':=m.ec) rfl rfl rfl rfl (λj hj=>⟨rfl,rfl⟩) rfl rfl rfl kk hb (h.n.S4.kept k1 (λq hq e=>(h.n.S4.ty hq).ne ⟨_,h.n.BM⟩ Fj e)) (h.n.GM.kept k1 (λq hq e=>(h.n.GM.ty hq).ne ⟨_,h.n.BM⟩ Fj e)) (.inl rfl)
end
end
section
open RowKit
attribute [local go_sem high] A96 A95
attribute [local go_sem ↓] wp_at_zero wp_at_succ
namespace Nt
def xO(f:Fr):Prop:=(f.f=0/\1<=f.t)\/(1<=f.f/\f.t=0)
end Nt
section
variable{w w':World}{base p N:Nat}{m:RN}{s:Nt.St}
theorem IF.tyF{fb g o n cap:Nat}{l:List Fr}(h:IF w fb (.slice (some (Ad g o)) n cap) l)(hl:0<l.length):Ty w g 147:=by
 obtain⟨vs,h1,h2,h3⟩:=h
 rcases h2.2 with⟨_,h0⟩|⟨g',c,cur,e,_,hh,_⟩
 ·omega
 ·injection e with e1 e2 e3;injection e1 with e1;injection e1 with e1 _ _;subst e1;exact⟨_,hh⟩
theorem A1G(l:List Bool)(i:Nat)(hi:i<l.length):(GY l)[i]?=some (.bool (l.getD i false)):=by
 rw[GY,TV,Gg hi];simp[List.getD,Gg hi]
theorem Xr(h:IX w base p m s)(hs:Nt.Inv N s){fb:Nat}{v:Value}{l:List Fr}(hl:∀f∈l,Nt.aB s.cr.length f/\Nt.xO f)(hR:IF w fb v l)(BJ:base<=w.heap.size)(hN:N+l.length<=1000000000000000)(hln:l.length<=1000000):
  Calls prog 81 #[Pt p,v] w λe w'=>e= .returned (.tuple #[])/\oU base p m (Nt.FP s l) w w':=by
 obtain⟨A,cap,rfl⟩:=hR.form;obtain⟨n,hn⟩:=BN l.length;have HH:=Hd h;have HR:=Hd hR;have HS:=Hd hs;have HL:=Hd hl;have oY:=Hd hn;rw[<-hn] at hN hln⊢;clear h hR hs hl hn;go_enter func81,ntmps81;go_wp2_with fail;go_loopw[4] (λs4 wr=>∃(j:Nat)(m1:RN),s4=Iv j/\j<=n/\Hid (IX wr base p m1 (Nt.FP s (l.take j)))/\Hid (AG (RF p m) w wr)/\Hid (RG p m m1 w.heap.size/\m1.EA=m.EA)) (λs4 _=>n-(intOf s4).toNat)
 case atStart=>exact⟨0,m,by go_num,by omega,HH,Hd (AG.refl _ _),Hd ⟨RG.refl,rfl⟩⟩
 case round=>
  obtain⟨j,m1,rfl,hj,HI,HK,HF⟩:=hrel;have VE:=HK.out.size
  by_cases EK:j<n
  ·(have Yp:(j:Int)<(n:Int):=by omega);(have hj0:(0:Int)<=(j:Int):=by omega);(have Wl:j<l.length:=by rw[<-oY.out];exact EK);obtain⟨t,ht⟩:=BN (Nt.FP s (l.take j));have SV:=Hd (show Nt.Inv (N+(l.take j).length) t from by rw[ht];exact HS.out.FP (λf hf=>(HL.out f (cj hf)).1) Dg);have TL:=Hd (show t.cr.length=s.cr.length from by rw[ht];exact Nt.Qb _ _);have SN:=Hd (show Nt.FP s (l.take (j+1))=Nt.snd t (l.getD j jw) by
    rw[ht,eV Wl,Nt.FP,Nt.FP,pV];simp[List.getD,Gg Wl])
   have FO:=Hd (show Nt.aB t.cr.length (l.getD j jw)/\Nt.xO (l.getD j jw) from by rw[TL.out];refine HL.out _ ?_;rw[List.getD,Gg Wl];exact bZ _);rw[<-ht] at HI;obtain⟨A5n,qI⟩:=(HH.out.rof HK.out HR.out).rf;rw[<-oY.out] at qI;obtain⟨g,o,rfl,hg,Rv⟩:=qI Ft;have HFT:=Hd ((HH.out.rof HK.out HR.out).tyF (by rw[<-oY.out];omega));obtain⟨D,dc,q0,q1,q2,q3,q4,WZ,hD0,hdc,hdm⟩:=Rv j EK;obtain⟨f,hf⟩:=BN (l.getD j jw);rw[<-hf] at q0 q1 q2 q3 q4 WZ hD0 hdc SN FO;have A5y:=Nt.qF FO.out.1;obtain⟨i,hi⟩:∃i:Nat,Nt.idx f=i+1:=⟨Nt.idx f-1,by omega⟩;(have hmx:max f.f f.t=(i:Int)+1:=by omega);(have U3:i<t.cr.length:=by omega);have QK:=SV.out.n.2;obtain⟨c,hc⟩:=BN t.cr.length;have GG:t.cut.length=t.cr.length+1:=SV.out.cut;obtain⟨gk,ok,Acb,hKA,_,hgk,_,_,_,_,_,tJ,_⟩:=HI.out.n.RQ.some_ Ft;(have ck:wr.cell? (Ad gk (ok+i))=some (.bool (t.cut.getD (i+1) false)):=by refine tJ i _ ?_;rw[A1G _ _ (by rw[Xu];omega)];simp[List.getD,TF,Nat.add_comm]);(have c37:wr.cell? (Ad p 37)=some (.slice m1.KA c m1.kc):=by rw[hc];exact AB HI.out.n.BM 37 rfl);rw[hKA] at c37;obtain⟨cb,hcb⟩:=BN (t.cut.getD (i+1) false);rw[<-hcb] at ck;have SN2:=Hd (show Nt.snd t f=if cb=true then t else Nt.bm t i f from by
    unfold Nt.snd;rw[hi,hcb];rfl)
   (have ic:(i:Int)<(c:Int):=by omega);(have i0:(0:Int)<=(i:Int):=by omega);(have wi:IntKind.i64.wrap ((i:Int)+1-1)=(i:Int):=by rw[GF _ Ft];omega);have wj:=GF ((j:Int)+1) Ft;have HIN:=Hd U3;have HC:=Hd hc;have Xo:=Hd WZ;have X9:=Hd FO.out.1.2.2;have HFD:=Hd hf;obtain⟨fk,hfk⟩:=BN f.k;obtain⟨ff,Uc⟩:=BN f.f;obtain⟨ft,hft⟩:=BN f.t;obtain⟨fs,hfs⟩:=BN f.s;obtain⟨fn,wY⟩:=BN f.d.length;rw[<-hfk] at q0;rw[<-Uc] at q1;rw[<-hft] at q2;rw[<-hfs] at q3;rw[<-wY] at q4;rw[<-Uc,<-hft] at hmx;have HMX:=Hd hmx;have pg:=Hd (show fk=f.k/\ff=f.f/\ft=f.t/\fs=f.s/\fn=f.d.length from⟨hfk,Uc,hft,hfs,wY⟩);have jS:=Hd (show(ff=0/\1<=ft)\/(1<=ff/\ft=0) from by rw[Uc,hft];exact FO.out.2);have HGF:=Hd (show ¬Ty wr g 136 from λht=>by
    obtain⟨cs,YS⟩:=HFT.out;exact ht.ne ⟨_,YS⟩ Fj rfl)
   have HQ:=Hd (show wr.rangeAt g (o+j*5) [Iv fk,Iv ff,Iv ft,Iv fs,.slice D fn dc] from λk u hu=>by
    match k with
    |0=>cases hu;exact q0
    |1=>cases hu;exact q1
    |2=>cases hu;exact q2
    |3=>cases hu;exact q3
    |4=>cases hu;exact q4
    |k+5=>simp at hu)
   clear hfk Uc hft hfs wY hf hi A5y hcb tJ hKA hc U3 WZ A5n qI Rv ht Wl hD0 hdc hdm GG q0 q3 q4 hmx QK;go_upto_region 3 with fail;go_region_held3 (λw'=>w'.cell? ⟨g,o+j*5+1,none⟩=some (Iv ff)/\w'.cell? ⟨g,o+j*5+2,none⟩=some (Iv ft)) (first|(refine⟨?_,?_⟩<;>simp[go_sem, *];done)|go_keep) (fail);rw[HMX.out,wi];generalize hwb:wr.drew=wb;have BW:=Hd (show Below wr.heap.size wr wb from by rw[<-hwb];exact(IH wr).drew);have xW:p<wr.heap.size:=BG HI.out.n.BM;have c37:=(BW.out.cell (p:=(Ad p 37)) xW).trans c37;have ck:=(BW.out.cell (p:=(Ad gk (ok+i))) hgk).trans ck;have q2:=(BW.out.cell (p:=(Ad g (o+j*5+2))) hg).trans q2;clear hwb q1 wi HMX
   cases cb
   ·rcases jS.out with⟨h0,h1⟩|⟨h1,h0⟩
    ·(have zt:(0:Int)<ft:=by omega);obtain⟨gl,ol,A6a,hGL,_,XA,_,_,_,_,_,GG,_⟩:=HI.out.n.QD.some_ Dy;have oF:=Hd hGL;obtain⟨QA,qW⟩:=BN ((m1.ds.getD i (none,0)).1);obtain⟨qc,qJ⟩:=BN ((m1.ds.getD i (none,0)).2);have LD:=HI.out.n.dw i HIN.out;rw[<-qW,<-qJ] at LD;obtain⟨lc,TP⟩:=BN m1.vc;obtain⟨LL,jo⟩:=BN (OY (Nt.JQ t.r.dn i) (Nt.at_ t i).dn QA (Nt.at_ t i).dn.u.length qc);have HLL:=Hd (show LL.length=11 from by rw[jo];rfl);have RL:=Hd (show wr.rangeAt gl (ol+i*11) LL from λk u hu=>by
      (have hk:k<11:=by have:=(List.getElem?_eq_some_iff.1 hu).1;have:=HLL.out;omega);rw[TE];refine GG (i*11+k) u ?_;rw[XU _ _ _ _ _ _ _ HI.out.n.len.2 HIN.out hk,PL,<-hu,jo,qW,qJ];rfl)
     (have cl:wr.cell? (Ad p 36)=some (.slice (some (Ad gl ol)) c lc):=by rw[<-oF.out,HC.out,TP];exact AB HI.out.n.BM 36 rfl);have cw:wr.cell? (Ad p 21)=some (Iv t.now):=AB HI.out.n.BM 21 rfl;obtain⟨now,Pj⟩:=BN t.now;rw[<-Pj] at cw;have SNE:=Hd (show Nt.snd t f=Nt.put t i {Nt.at_ t i with dn:=ez (Nt.JQ t.r.dn i) (Nt.at_ t i).dn now fk ff ft fs f.d} from by
      rw[SN2.out,AO Fu,Nt.bm,AW (by rw[<-pg.out.2.1];omega),Pj,pg.out.1,pg.out.2.1,pg.out.2.2.1,pg.out.2.2.2.1])
     have hinv:=SV.out.cr i HIN.out;have SF:=Hd (show ∀W:World,Below wr.heap.size wr W->Calls prog 115 #[.agg LL.toArray,Iv now,.agg #[Iv fk,Iv ff,Iv ft,Iv fs,.slice D fn dc]] W (Sn (λq=>RX base p m1 q/\q<wr.heap.size) (Nt.JQ t.r.dn i) (ez (Nt.JQ t.r.dn i) (Nt.at_ t i).dn now fk ff ft fs f.d) (xP (Nt.at_ t i).dn now fk ff ft fs fn) W) from λW hW=>by
      rw[jo];refine bF (Nt.JQ t.r.dn i) (Nt.at_ t i).dn QA _ qc now fk ff ft fs D fn dc f.d W rfl (Nt.PQ SV.out.dn.1 i) hinv.dn ?_ _ (LD.1.bound.below hW (λq hq=>hq.2)) LD.2 ?_ ?_
      ·have h1:=hinv.ds;rw[Ul] at h1;omega
      ·have h1:=X9.out;have h2:=pg.out.2.2.2.2;omega
      ·rw[pg.out.2.2.2.2];exact(Xo.out.below hW (Lr _)).more hW.size)
     have GT:=Hd (show Ty wr gl 136 from HI.out.n.QD.ty Eu);have SS:=Hd (show ∀w':World,AG (λq=>q=gl) wr w'->w'.cell? (Ad p 36)=some (.slice (some (Ad gl ol)) c lc)/\w'.cell? (Ad p 21)=some (Iv now)/\w'.rangeAt g (o+j*5) [Iv fk,Iv ff,Iv ft,Iv fs,.slice D fn dc] from λW hW=>by
      have e1:W.heap[p]?=wr.heap[p]?:=hW.block p xW (λe=>by subst e;exact GT.out.ne ⟨_,HI.out.n.BM⟩ Fj rfl);have e2:W.heap[g]?=wr.heap[g]?:=hW.block g hg (λe=>by subst e;exact HGF.out GT.out);exact⟨(Cb e1).trans cl,(Cb e1).trans cw,λk u hu=>(Cb e2).trans (HQ.out k u hu)⟩)
     have RLB:=Hd (show ∀W:World,Below wr.heap.size wr W->W.rangeAt gl (ol+i*11) LL from λW hW k u hu=>(hW.cell (p:=(Ad gl (ol+i*11+k))) XA).trans (RL.out k u hu));have A1P:=Hd (show ∀W:World,Below wr.heap.size wr W->W.there gl (ol+i*11) 11 from λW hW=>by
      have CF:=HI.out.n.QD.below hW (Lr _);rw[oF.out] at CF;exact CF.there Dy Dy)
     clear qW qJ LD jo TP Pj GG hGL hinv cl cw h0 h1;go_upto_region 6 with fail;clear c37 ck q2 zt;refine Um (S:=λw'=>w'.cell? (Ad p 36)=some (.slice (some (Ad gl ol)) c lc)/\w'.cell? (Ad p 21)=some (Iv now)/\w'.rangeAt g (o+j*5) [Iv fk,Iv ff,Iv ft,Iv fs,.slice D fn dc]) Ff (SS.out _ (AG.AS BW.out.drew)) (λhHeld=> ?_);have eM:=Hd (show Below wr.heap.size wr wb.drew from BW.out.drew);generalize Oy:wb.drew=V0 at*;clear Oy;refine JB 0 hHeld ?_;refine JB 1 hHeld ?_;refine JB 2 hHeld ?_;refine JB 3 hHeld ?_;refine JB 4 hHeld ?_;refine JB 5 hHeld ?_;refine JB 6 hHeld ?_;refine JB 7 hHeld ?_;refine JB 8 hHeld ?_;refine JB 9 hHeld ?_;refine JB 10 hHeld ?_;refine JB 12 hHeld ?_;refine JB 13 hHeld ?_;refine JB 14 hHeld ?_;refine JB 15 hHeld ?_;refine JB 16 hHeld ?_;refine JB 17 hHeld ?_;refine JB 18 hHeld ?_;refine GI (i:=19) (v:= .agg #[Iv fk,Iv ff,Iv ft,Iv fs,.slice D fn dc]) rfl Ff Ff Ff (λ_ _ _ h=>h) (vE Fk 147 _ rfl g (o+j*5) rfl [Iv fk,Iv ff,Iv ft,Iv fs,.slice D fn dc] _ (λw' hS=>hS.2.2) underlying147 rfl Ff) hHeld ?_;refine PU ?_;refine OI (rs:=[11]) Ff Fu ?_;refine NH rfl (λK hK=> ?_) Pd;refine wp_load_mid 136 _ rfl gl (ol+i*11) rfl LL _ (RLB.out _ eM.out) underlying136 rfl Dq ?_;refine hK.out _ _ hHeld (λ_=> ?_);clear hK K;refine PU ?_;refine OI (rs:=[20]) Ff Fu ?_;refine NH rfl (λK hK=> ?_) Pd;go_simp;refine(SF.out _ eM.out).mono ?_;rintro e w5 ⟨A',c',rfl,LD,TP,LM⟩;have JD:=JI eM LM;have rO:=Hd (IW.mono (Y:=λq=>RX base p m1 q\/wr.heap.size<=q) LD (λq hq=>hq.elim (λh=>Or.inl h.1) (λh=>Or.inr (Lt eM.out.size h))));have oZ:=Hd TP;clear LD TP LM hHeld;go_wp2_with fail;refine hK.out _ _ (SS.out _ (AG.AS JD.out)) (λhHeld=> ?_);clear hK K;refine PU ?_;refine JB 21 hHeld ?_;refine JB 22 hHeld ?_;refine JB 23 hHeld ?_;refine JB 24 hHeld ?_;refine OI (rs:=[25]) Ff Fu ?_;refine NH rfl (λK hK=> ?_) Pd;have OR:=A1P.out _ JD.out;refine fQ 136 _ _ rfl gl (ol+i*11) _ rfl rfl OR Ff Ff ?_;refine hK.out _ _ (SS.out _ (CZ w5 gl _ _ rfl (AG.AS JD.out))) (λ_=> ?_);clear hK K hHeld OR;refine PU ?_;refine RJ Ff ?_ _;have RT:=Hd (HI.out.yu HIN.out oF.out (Lt BJ VE) rO.out oZ.out JD.out);exact Id
    ·(have zt:¬(0:Int)<ft:=by omega);obtain⟨gl,ol,A6a,hGL,_,XA,_,_,_,_,_,GG,_⟩:=HI.out.n.QF.some_ Dy;have oF:=Hd hGL;obtain⟨QA,qW⟩:=BN ((m1.us.getD i (none,0)).1);obtain⟨qc,qJ⟩:=BN ((m1.us.getD i (none,0)).2);have LD:=HI.out.n.uw i HIN.out;rw[<-qW,<-qJ] at LD;obtain⟨lc,TP⟩:=BN m1.uc;obtain⟨LL,jo⟩:=BN (OY (Nt.JQ t.r.up i) (Nt.at_ t i).up QA (Nt.at_ t i).up.u.length qc);have HLL:=Hd (show LL.length=11 from by rw[jo];rfl);have RL:=Hd (show wr.rangeAt gl (ol+i*11) LL from λk u hu=>by
      (have hk:k<11:=by have:=(List.getElem?_eq_some_iff.1 hu).1;have:=HLL.out;omega);rw[TE];refine GG (i*11+k) u ?_;rw[XU _ _ _ _ _ _ _ HI.out.n.len.1 HIN.out hk,PL,<-hu,jo,qW,qJ];rfl)
     (have cl:wr.cell? (Ad p 35)=some (.slice (some (Ad gl ol)) c lc):=by rw[<-oF.out,HC.out,TP];exact AB HI.out.n.BM 35 rfl);have cw:wr.cell? (Ad p 21)=some (Iv t.now):=AB HI.out.n.BM 21 rfl;obtain⟨now,Pj⟩:=BN t.now;rw[<-Pj] at cw;have SNE:=Hd (show Nt.snd t f=Nt.put t i {Nt.at_ t i with up:=ez (Nt.JQ t.r.up i) (Nt.at_ t i).up now fk ff ft fs f.d} from by
      rw[SN2.out,AO Fu,Nt.bm,AO (by rw[<-pg.out.2.1];omega),Pj,pg.out.1,pg.out.2.1,pg.out.2.2.1,pg.out.2.2.2.1])
     have hinv:=SV.out.cr i HIN.out;have SF:=Hd (show ∀W:World,Below wr.heap.size wr W->Calls prog 115 #[.agg LL.toArray,Iv now,.agg #[Iv fk,Iv ff,Iv ft,Iv fs,.slice D fn dc]] W (Sn (λq=>RX base p m1 q/\q<wr.heap.size) (Nt.JQ t.r.up i) (ez (Nt.JQ t.r.up i) (Nt.at_ t i).up now fk ff ft fs f.d) (xP (Nt.at_ t i).up now fk ff ft fs fn) W) from λW hW=>by
      rw[jo];refine bF (Nt.JQ t.r.up i) (Nt.at_ t i).up QA _ qc now fk ff ft fs D fn dc f.d W rfl (Nt.PQ SV.out.up.1 i) hinv.up ?_ _ (LD.1.bound.below hW (λq hq=>hq.2)) LD.2 ?_ ?_
      ·have h1:=hinv.us;rw[Ul] at h1;omega
      ·have h1:=X9.out;have h2:=pg.out.2.2.2.2;omega
      ·rw[pg.out.2.2.2.2];exact(Xo.out.below hW (Lr _)).more hW.size)
     have GT:=Hd (show Ty wr gl 136 from HI.out.n.QF.ty Eu);have SS:=Hd (show ∀w':World,AG (λq=>q=gl) wr w'->w'.cell? (Ad p 35)=some (.slice (some (Ad gl ol)) c lc)/\w'.cell? (Ad p 21)=some (Iv now)/\w'.rangeAt g (o+j*5) [Iv fk,Iv ff,Iv ft,Iv fs,.slice D fn dc] from λW hW=>by
      have e1:W.heap[p]?=wr.heap[p]?:=hW.block p xW (λe=>by subst e;exact GT.out.ne ⟨_,HI.out.n.BM⟩ Fj rfl);have e2:W.heap[g]?=wr.heap[g]?:=hW.block g hg (λe=>by subst e;exact HGF.out GT.out);exact⟨(Cb e1).trans cl,(Cb e1).trans cw,λk u hu=>(Cb e2).trans (HQ.out k u hu)⟩)
     have RLB:=Hd (show ∀W:World,Below wr.heap.size wr W->W.rangeAt gl (ol+i*11) LL from λW hW k u hu=>(hW.cell (p:=(Ad gl (ol+i*11+k))) XA).trans (RL.out k u hu));have A1P:=Hd (show ∀W:World,Below wr.heap.size wr W->W.there gl (ol+i*11) 11 from λW hW=>by
      have CF:=HI.out.n.QF.below hW (Lr _);rw[oF.out] at CF;exact CF.there Dy Dy)
     clear qW qJ LD jo TP Pj GG hGL hinv cl cw h0 h1;go_upto_region 7 with fail;clear c37 ck q2 zt;refine Um (S:=λw'=>w'.cell? (Ad p 35)=some (.slice (some (Ad gl ol)) c lc)/\w'.cell? (Ad p 21)=some (Iv now)/\w'.rangeAt g (o+j*5) [Iv fk,Iv ff,Iv ft,Iv fs,.slice D fn dc]) Ff (SS.out _ (AG.AS BW.out.drew)) (λhHeld=> ?_);have eM:=Hd (show Below wr.heap.size wr wb.drew from BW.out.drew);generalize Oy:wb.drew=V0 at*;clear Oy;refine JB 0 hHeld ?_;refine JB 1 hHeld ?_;refine JB 2 hHeld ?_;refine JB 3 hHeld ?_;refine JB 4 hHeld ?_;refine JB 5 hHeld ?_;refine JB 6 hHeld ?_;refine JB 7 hHeld ?_;refine JB 8 hHeld ?_;refine JB 9 hHeld ?_;refine JB 10 hHeld ?_;refine JB 12 hHeld ?_;refine JB 13 hHeld ?_;refine JB 14 hHeld ?_;refine JB 15 hHeld ?_;refine JB 16 hHeld ?_;refine JB 17 hHeld ?_;refine JB 18 hHeld ?_;refine GI (i:=19) (v:= .agg #[Iv fk,Iv ff,Iv ft,Iv fs,.slice D fn dc]) rfl Ff Ff Ff (λ_ _ _ h=>h) (vE Fk 147 _ rfl g (o+j*5) rfl [Iv fk,Iv ff,Iv ft,Iv fs,.slice D fn dc] _ (λw' hS=>hS.2.2) underlying147 rfl Ff) hHeld ?_;refine PU ?_;refine OI (rs:=[11]) Ff Fu ?_;refine NH rfl (λK hK=> ?_) Pd;refine wp_load_mid 136 _ rfl gl (ol+i*11) rfl LL _ (RLB.out _ eM.out) underlying136 rfl Dq ?_;refine hK.out _ _ hHeld (λ_=> ?_);clear hK K;refine PU ?_;refine OI (rs:=[20]) Ff Fu ?_;refine NH rfl (λK hK=> ?_) Pd;go_simp;refine(SF.out _ eM.out).mono ?_;rintro e w5 ⟨A',c',rfl,LD,TP,LM⟩;have JD:=JI eM LM;have rO:=Hd (IW.mono (Y:=λq=>RX base p m1 q\/wr.heap.size<=q) LD (λq hq=>hq.elim (λh=>Or.inl h.1) (λh=>Or.inr (Lt eM.out.size h))));have oZ:=Hd TP;clear LD TP LM hHeld;go_wp2_with fail;refine hK.out _ _ (SS.out _ (AG.AS JD.out)) (λhHeld=> ?_);clear hK K;refine PU ?_;refine JB 21 hHeld ?_;refine JB 22 hHeld ?_;refine JB 23 hHeld ?_;refine JB 24 hHeld ?_;refine OI (rs:=[25]) Ff Fu ?_;refine NH rfl (λK hK=> ?_) Pd;have OR:=A1P.out _ JD.out;refine fQ 136 _ _ rfl gl (ol+i*11) _ rfl rfl OR Ff Ff ?_;refine hK.out _ _ (SS.out _ (CZ w5 gl _ _ rfl (AG.AS JD.out))) (λ_=> ?_);clear hK K hHeld OR;refine PU ?_;refine RJ Ff ?_ _;have RT:=Hd (HI.out.yt HIN.out oF.out (Lt BJ VE) rO.out oZ.out JD.out);exact Id
   ·have SNE:=Hd (show Nt.snd t f=t from by rw[SN2.out,AW rfl]);have HI6:=Hd (HI.out.below BW.out);have il:=Hd (HK.out.trans (AG.AS (S:=λ_=>False) BW.out) (λ_ _ h=>h.elim));go_wp2_with fail;go_roundw
    case rel=>refine⟨j+1,m1,by first|rfl|(rw[wj];rfl),by omega,Hd ?_,il,HF⟩;rw[SN.out,SNE.out];exact HI6.out
    case measure=>simp[intOf];omega
  ·(obtain rfl:j=n:=by omega);(have Yp:¬((j:Int)<(j:Int)):=by omega);have HT:=Hd (show l.take j=l from by rw[oY.out,sO]);go_wp2_with fail;refine iL (bT rfl _ _ _) rfl ⟨rfl,m1,?_,HK.out,HF.out.1,HF.out.2⟩;have:=HI.out;rw[HT.out] at this;exact this
end
end
section
open RowKit
attribute [local go_sem ↓] wp_at_zero wp_at_succ
section
variable{w w':World}{base p N:Nat}{m:RN}{s s':Nt.St}
theorem ua(s:Nt.St):(eJ s).length=s.cr.length+1:=by simp[eJ]
theorem tv(l:List Int)(i:Nat)(hi:i<l.length):(Rt l)[i]?=some (Iv (l.getD i 0)):=by
 rw[Rt,TV,Gg hi];simp[List.getD,Gg hi]
theorem A0L(l:List Int)(i:Nat)(z:Int):(Rt l).set i (Iv z)=Rt (l.set i z):=by
 simp[Rt,fT]
theorem bI(h:IX w base p m s)(hn:s.cr.length<=64){a:Nat}(ha:a<=s.cr.length)(x:Int)(he:(eJ s).getD a 0=x):
  Calls prog 82 #[Pt p,Iv a,Iv x] w (LP (.tuple #[]) w):=by
 have c38:w.cell? (Ad p 38)=some (.slice m.BA (s.cr.length+1) m.bc):=AB h.n.BM 38 rfl;obtain⟨g,o,cur,hBA,_,hg,_,_,_,_,_,hc,_⟩:=h.n.S4.some_ Ft;(have ca:w.cell? (Ad g (o+a))=some (Iv x):=by rw[<-he];exact hc a _ (tv _ _ (by rw[ua];omega)));rw[hBA] at c38;obtain⟨c,Xl⟩:=BN (s.cr.length+1);rw[<-Xl] at c38;(have ia:(a:Int)<(c:Int):=by omega);(have i0:(0:Int)<=(a:Int):=by omega);have wa:IntKind.i64.wrap (a:Int)=(a:Int):=GF _ Ft;clear h hc he hBA Xl;go_enter func82,ntmps82;go_wp2_with fail;exact iL (bT rfl _ _ _) rfl ⟨rfl,rfl⟩
theorem ZA(h:IX w base p m s)(hn:s.cr.length<=64)(hN:s.ev.length<=1000000000000)(BJ:base<=w.heap.size){a:Nat}(ha:a<=s.cr.length)(x:Int)(he:(eJ s).getD a 0≠x)
  (DJ:s'.st=s.st)(hr:s'.r=s.r)(hcut:s'.cut=s.cut)(GG:s'.cr.length=s.cr.length)(Pj:s'.now=s.now/\s'.steps=s.steps)
  (JV:∀j,j<s.cr.length->(Nt.at_ s' j).up=(Nt.at_ s j).up/\(Nt.at_ s' j).dn=(Nt.at_ s j).dn)(xX:PZ s'.cr=PZ s.cr)(huc:IS s'.r.up (·.up) 0 s'.cr m.us=IS s.r.up (·.up) 0 s.cr m.us)(hvc:IS s'.r.dn (·.dn) 0 s'.cr m.ds=IS s.r.dn (·.dn) 0 s.cr m.ds)
  (hbc:eJ s'=(eJ s).set a x)(hev:s'.ev=s.ev++[(s.now,(a:Int),x)]):
  Calls prog 82 #[Pt p,Iv a,Iv x] w λe w'=>e= .returned (.tuple #[])/\Vg base p m s' w w':=by
 obtain⟨i0,OU,da,xS,wO⟩:=MQ jb;have c38:w.cell? (Ad p 38)=some (.slice m.BA (s.cr.length+1) m.bc):=AB h.n.BM 38 rfl;obtain⟨g,o,cur,hBA,_,hg,hgh,_,_,_,_,hc,hf⟩:=h.n.S4.some_ Ft;have ca:w.cell? (Ad g (o+a))=some (Iv ((eJ s).getD a 0)):=hc a _ (tv _ _ (by rw[ua];omega));have fa:=hf (o+a);obtain⟨y,hy⟩:=BN ((eJ s).getD a 0);rw[<-hy] at ca he;rw[hBA] at c38;obtain⟨c,Xl⟩:=BN (s.cr.length+1);rw[<-Xl] at c38;(have ia:(a:Int)<(c:Int):=by omega);(have iz:(0:Int)<=(a:Int):=by omega);have wa:IntKind.i64.wrap (a:Int)=(a:Int):=GF _ Ft;(have zE:(y !=x)=true:=by simp[he]);have HH:=Hd h;have HF:=Hd (And.intro DJ (And.intro hr (And.intro hcut (And.intro GG (And.intro Pj (And.intro JV (And.intro xX (And.intro huc (And.intro hvc (And.intro hbc hev))))))))));have XJ:=Hd hBA;have HA:=Hd (show o+a=o+a/\a<(s.cr.length+1)*1 from⟨rfl,by omega⟩);have Ou:=BG h.n.BM;have hpg:g≠p:=Ty.ne ⟨_,hgh⟩ ⟨_,h.n.BM⟩ Fj;have HEg:=Hd (show ∀q,AK m.EA=some q->q≠g from λq hq=>(h.n.GM.ty hq).ne ⟨_,hgh⟩ Fj);have HEp:=Hd (show ∀q,AK m.EA=some q->q≠p from λq hq=>(h.n.GM.ty hq).ne ⟨_,h.n.BM⟩ Fj);clear h hc hf hgh hy he DJ hr hcut GG Pj JV xX huc hvc hbc hev Xl hBA hn;go_enter func82,ntmps82;go_upto_region 2 with fail;generalize YT:World.setCell _ _ _=W1;have BR:=Hd (show Row W1 base 3 1 m.BA (s.cr.length+1) m.bc (Rt ((eJ s).set a x)) from by
  have hb:=HH.out.n.S4;rw[XJ.out] at hb⊢;rw[<-YT,<-A0L];exact hb.yT Ft HA.out.2 rfl _)
 have KW:=Hd (show AG (λq=>q=p\/AK m.BA=some q\/AK m.EA=some q) w W1 from by rw[<-YT];exact(AG.refl _ w).setCell (p:=(Ad g (o+a))) (.inl (.inr (.inl (by rw[XJ.out];rfl)))) _);have KG:=Hd (show AG (λq=>q=g) w W1 from by rw[<-YT];exact(AG.refl (λq=>q=g) w).setCell (p:=(Ad g (o+a))) (.inl rfl) _);have ER:=Hd (HH.out.n.GM.kept KG.out (λq hq e=>HEg.out q hq e));have DF:=Hd (AR HH.out.n.BM KG.out (λe=>hpg e.symm));have c39:W1.cell? (Ad p 39)=some (.slice m.EA s.ev.length m.ec):=AB DF.out 39 rfl;have Pb:W1.cell? (Ad p 21)=some (Iv s.now):=AB DF.out 21 rfl;have f39:=AE DF.out 39;have HZW:=Hd (KW.out.size);have AbJ:p<W1.heap.size:=BG DF.out;have A7u:base<=W1.heap.size:=Lt BJ KW.out.size;clear YT c38 ca fa zE;obtain⟨n,hn⟩:=BN s.ev.length;rw[<-hn] at c39 ER hN;have HN:=Hd hn;clear hn;go_region_law (first|(refine FF rfl (.tmp 26) (.tmp 34) 45 rfl base 58 i0 _ 3 24 underlying45 OU da xS wO rfl m.EA n m.ec (UQ s.ev) rfl Av (Ad W1.heap.size 0) 1 1 [Iv s.now,Iv a,Iv x] rfl rfl (λj u hu=>by rw[CP,PL];exact AB (l:=[_,_,_]) Bi j hu) E9 Ft Dk Ft F0 ?_;intro pj ec2 w6 CF hg JV;have K6:=Hd (show AG (λi=>AK m.EA=some i) W1 w6 from AG.trans (S':=λi=>AK m.EA=some i) Al (AG.JK hg (λg e=>e)) (λ_ _ h=>h));have kp:=Hd (AR DF.out K6.out (λe=>HEp.out p e rfl));have f6:=AE kp.out 39;have c6:=(show w6.cell? (Ad p 39)=some (.slice m.EA s.ev.length m.ec) from AB kp.out 39 rfl);have AT:=Hd (show AK pj=AK m.EA\/∃g,AK pj=some g/\W1.heap.size<=g from JV.imp id (λe=>⟨_,e,by simp⟩));have RO:=Hd CF;clear CF hg JV))
 all_goals
  have HSb:=AP kp.out 39 (.slice pj (n+1) ec2);refine iL (bT rfl _ _ _) rfl ⟨rfl,?_⟩;obtain⟨DJ,hr,hcut,GG,Pj,JV,xX,huc,hvc,hbc,hev⟩:=HF.out;have A98:AG (λq=>q=p\/AK m.BA=some q\/AK m.EA=some q) w (w6.setCell (Ad p 39) (.slice pj (n+1) ec2)):=(KW.out.trans K6.out (λi _ hi=> .inr (.inr hi))).setCell (p:=(Ad p 39)) (.inl (.inl rfl)) _;refine HH.out.kH (EA':=pj) (ec':=ec2) DJ hr hcut GG JV xX huc hvc A98 ?_ ?_ ?_ (AT.out.imp id (λ⟨g,e,hg⟩=>⟨g,e,Lt HZW.out hg⟩))
  ·rw[Q8] at HSb;rw[HSb,HN.out];simp[lO,DJ,hr,GG,Pj.1,Pj.2,hev]
  ·rw[GG,hbc];exact(BR.out.kept K6.out (λq hq e=>by rw[XJ.out] at hq;cases hq;exact HEg.out _ e rfl)).FY (p:=(Ad p 39)) (λq hq=>by rw[XJ.out] at hq;cases hq;exact hpg) _
  ·rw[hev,Zo,TW,List.length_singleton,<-HN.out];exact RO.out.FY (p:=(Ad p 39)) (λg hg e=>by
    rcases AT.out with h1|⟨q,h1,h2⟩
    ·exact HEp.out g (h1▸hg) e
    ·rw[h1] at hg;injection hg with hg;have e:g=p:=e;omega) _
theorem bH(h:IX w base p m s)(hs:Nt.Inv N s)(hN:N<=1000000000000)(BJ:base<=w.heap.size):
  Calls prog 82 #[Pt p,Iv 0,Iv s.st.st] w λe w'=>e= .returned (.tuple #[])/\Vg base p m (Nt.look s) w w':=by
 have hev:=hs.ev
 by_cases he:s.st.st=s.ss
 ·(have e:Nt.look s=s:=by unfold Nt.look;rw[AW he]);rw[e];exact(bI h hs.n.2 (a:=0) (Pe _) s.st.st (by rw[he];rfl)).mono λe w' ⟨h1,h2⟩=>⟨h1,by subst h2;exact Vg.refl h⟩
 ·(have e:Nt.look s={s with ss:=s.st.st,ev:=s.ev++[(s.now,0,s.st.st)]}:=by unfold Nt.look;rw[AO he]);rw[e];exact ZA h hs.n.2 Ft BJ (a:=0) (Pe _) s.st.st (λh'=>he h'.symm) rfl rfl rfl rfl ⟨rfl,rfl⟩ (λj hj=>⟨rfl,rfl⟩) rfl rfl rfl rfl rfl
theorem pM(h:IX w base p m s)(hs:Nt.Inv N s)(hN:N<=1000000000000)(BJ:base<=w.heap.size){i:Nat}(hi:i<s.cr.length):
  Calls prog 82 #[Pt p,Iv ((i:Int)+1),Iv (Nt.at_ s i).p.st] w λe w'=>e= .returned (.tuple #[])/\Vg base p m (Nt.note i s) w w':=by
 have hev:=hs.ev;have hb:(eJ s).getD (i+1) 0=(Nt.at_ s i).s:=by simp[eJ,Nt.at_,List.getD,Gg hi]
 by_cases he:(Nt.at_ s i).p.st=(Nt.at_ s i).s
 ·(have e:Nt.note i s=s:=by unfold Nt.note;rw[AW he]);rw[e];exact(bI h hs.n.2 (a:=i+1) Ft (Nt.at_ s i).p.st (by rw[hb,he])).mono λe w' ⟨h1,h2⟩=>⟨h1,by subst h2;exact Vg.refl h⟩
 ·(have e:Nt.note i s={Nt.put s i {Nt.at_ s i with s:=(Nt.at_ s i).p.st} with ev:=s.ev++[(s.now,(i:Int)+1,(Nt.at_ s i).p.st)]}:=by unfold Nt.note;rw[AO he]);rw[e];refine ZA h hs.n.2 Ft BJ (a:=i+1) Ft (Nt.at_ s i).p.st (λh'=>he (by rw[<-hb,h'])) rfl rfl rfl T9 ⟨rfl,rfl⟩ (λj hj=> ?_) ?_ ?_ ?_ ?_ rfl
  ·have:=Ve s (i:=i) (j:=j) ({Nt.at_ s i with s:=(Nt.at_ s i).p.st}:Nt.Cr) hi;show(Nt.at_ (Nt.put s i _) j).up=_/\(Nt.at_ (Nt.put s i _) j).dn=_;rw[this];split
   ·rename_i e;subst e;exact⟨rfl,rfl⟩
   ·exact⟨rfl,rfl⟩
  ·exact WC s.cr i ({Nt.at_ s i with s:=(Nt.at_ s i).p.st}:Nt.Cr) rfl
  ·exact QG s.r.up (·.up) 0 s.cr m.us i ({Nt.at_ s i with s:=(Nt.at_ s i).p.st}:Nt.Cr) rfl
  ·exact QG s.r.dn (·.dn) 0 s.cr m.ds i ({Nt.at_ s i with s:=(Nt.at_ s i).p.st}:Nt.Cr) rfl
  ·simp[eJ,Nt.put,fT]
end
end
section
set_option maxRecDepth 512
namespace Nt
theorem dH(s:AJ.St):∀f∈AJ.DX s,xO f:=λf hf=>by
 unfold AJ.DX at hf;obtain⟨i,hi,rfl⟩:=List.mem_map.1 hf;have h1:1<=i:=by
  unfold AJ.EC at hi;split at hi
  ·cases hi
  ·exact(AJ.LV _ _ _ hi).1
 exact .inl ⟨rfl,by show(1:Int)<=(i:Int);omega⟩
theorem xk(s:AJ.St)(k now x:Int):∀f∈AJ.FM s k now x,xO f:=λf hf=>by
 unfold AJ.FM at hf;split at hf
 ·exact dH _ f hf
 ·cases hf
theorem uH(s:AJ.St)(now:Int):∀f∈AJ.DK s now,xO f:=λf hf=>by
 unfold AJ.DK at hf;split at hf
 ·exact dH _ f hf
 ·cases hf
theorem vy(s:AJ.St)(now:Int)(y:Fr):∀f∈AJ.LB s now y,xO f:=λf hf=>by
 unfold AJ.LB at hf;split at hf
 ·rename_i h
  rw[List.mem_singleton.1 hf];have h0:=h.1;unfold AJ.FU at h0;split at h0
  ·rename_i hv
   have de:=AQ.OJ.1 hv.1;exact .inl ⟨rfl,by simp only;omega⟩
  ·omega
 ·cases hf
theorem zT(s:AL.St)(hs:AL.Inv s)(l:Int)(y:Fr):∀f∈AL.RI s l y,xO f:=λf hf=>by
 unfold AL.RI at hf;split at hf
 ·rw[List.mem_singleton.1 hf];have:=hs.id;exact .inr ⟨by simp only;omega,rfl⟩
 ·cases hf
theorem mG(s:AL.St)(hs:AL.Inv s)(l:Int):∀f∈AL.DK s l,xO f:=λf hf=>by
 unfold AL.DK at hf;split at hf
 ·rw[List.mem_singleton.1 hf];have:=hs.id;exact .inr ⟨by simp only;omega,rfl⟩
 ·cases hf
end Nt
end
section
open RowKit
attribute [local go_sem ↓] wp_at_zero wp_at_succ
section
variable{w w':World}{base p N:Nat}{m:RN}{s:Nt.St}
theorem AG.Wx{S:Nat->Prop}{w w':World}(h:AG S w w'){g:Nat}(hg:S g\/w.heap.size<=g)(cs:Array Value):AG S w (w'.setRow g cs):=
 ⟨h.os,h.tape,h.output,by simpa[World.setRow] using h.size,λi hi hn=>(Pq w' g i cs (by
  rintro rfl
  rcases hg with hg|hg
  ·exact hn hg
  ·omega)).trans (h.block i hi hn)⟩
theorem ij.Uh{X:Nat->Prop}(h:ij w base p X m s):w.rangeAt p 23 (Sl s.st m.D m.dc m.A m.ac m.S m.sc):=λk u hu=>by
 refine AB h.BM (23+k) ?_;have hk:k<11:=(List.getElem?_eq_some_iff.1 hu).1
 match k,hk,hu with
 |0,_,hu|1,_,hu|2,_,hu|3,_,hu|4,_,hu|5,_,hu|6,_,hu|7,_,hu|8,_,hu|9,_,hu|10,_,hu=>exact hu
theorem Vj(w:World)(p q:Nat){x:Obj}(h:w.heap[q]?=some x)(vs:List Value)(o:Nat)(hq:q≠p):(w.setCells p o vs).heap[q]?=some x:=XX h hq vs o
theorem zk(k x:Int)(hk:¬(1<=k/\k<=6))(p:Nat)(w:World):
  Calls prog 38 #[Pt p,Iv k,Iv x] w (LP (Iv 2) w):=by
 by_cases h1:k<1
 ·clear hk;go_enter func38,ntmps38;exact He
 ·(have h2:6<k:=by omega);clear hk;go_enter func38,ntmps38;exact He
theorem zl(h:IX w base p m s)(hs:Nt.Inv N s)(BJ:base<=w.heap.size)(hN:N+65<=1000000000000)(k x:Int)(hk:1<=k/\k<=6):
  Calls prog 38 #[Pt p,Iv k,Iv x] w λe w'=>e= .returned (Iv (Nt.Yy s k x))/\Vg base p m (Nt.Rq s k x) w w':=by
 have DJ:=hs.st;obtain⟨now,Pj⟩:=BN s.now;obtain⟨st',Vu⟩:=BN (AJ.JP s.st k now x);obtain⟨er,Oe⟩:=BN (AJ.BZ s.st k now x);obtain⟨fl,XP⟩:=BN (AJ.FM s.st k now x);obtain⟨RS,nM⟩:=BN (Sl s.st m.D m.dc m.A m.ac m.S m.sc);have HRS:=Hd (show RS.length=11 from by rw[nM];rfl);have Ou:=BG h.n.BM;(have Pb:w.cell? (Ad p 21)=some (Iv now):=by rw[Pj];exact AB h.n.BM 21 rfl);have hrg:=h.n.Uh;rw[<-nM] at hrg;have SS:=Hd (show ∀w':World,Below w.heap.size w w'->w'.cell? (Ad p 21)=some (Iv now)/\w'.rangeAt p 23 RS from λW hW=>⟨(hW.cell (p:=(Ad p 21)) Ou).trans Pb,λk u hu=>(hW.cell (p:=(Ad p (23+k))) Ou).trans (hrg k u hu)⟩);have GV:=Hd (show ∀W:World,Below w.heap.size w W->Calls prog 80 #[.agg RS.toArray,Iv k,Iv now,Iv x] W (JA m.D m.A st' fl er W) from λW hW=>by
  rw[nM,Vu,XP,Oe];exact vu s.st DJ m.D _ m.dc m.A m.ac m.S m.sc k now x hk W rfl (h.n.st.below hW (Lr _)))
 have HE:=Hd (show Nt.Yy s k x=er from by unfold Nt.Yy;rw[AW hk,Oe,Pj]);have HD:=Hd (show Nt.Rq s k x=if er=0 then Nt.look (Nt.FP {s with st:=st'} fl) else s from by unfold Nt.Rq;rw[HE.out,Vu,XP,Pj]);have hgf:=Nt.dF s.st DJ k now x hk;have rZ:=Hd (show(∀f∈fl,Nt.aB s.cr.length f/\Nt.xO f)/\fl.length<=64 from by rw[XP,<-hs.sn];exact⟨λf hf=>⟨hgf.1 f hf,Nt.xk _ _ _ _ f hf⟩,hgf.2⟩);have yi:=Hd (show Nt.Inv N {s with st:=st'} from hs.bp (by rw[Vu];exact AJ.Pw DJ hk) (by rw[Vu];exact Nt.ju _ _ _ _));have HH:=Hd h;have HS:=Hd hs;(have VG:¬k<1:=by omega);(have hk6:¬6<k:=by omega);rw[HE.out];clear hrg Pb nM Vu Oe XP Pj hgf DJ h hs hk;go_enter func38,ntmps38;go_upto_region 3 with fail;go_cut[7,8,9] from 16 to 30 (λv7 v8 v9 wx=>∃T7 D' Tv A' Tx S' Tf v fb,v7=Pt T7/\v8=v/\v9=Iv er/\wx.heap[T7]?=some (.cells (Sl st' D' Tv A' Tx S' Tf).toArray 51 (0,0))/\w.heap.size<=T7/\Q9 wx D' Tv A' Tx S' Tf st'/\IF wx fb v fl/\Below w.heap.size w wx/\∀g,AK A'=some g->AK m.A=some g\/w.heap.size<=g)
 case first=>
  have JY:=Hd (show Below w.heap.size w w.drew from(IH w).drew);have gJ:=SS.out _ JY.out;refine Um (S:=λw'=>w'.cell? (Ad p 21)=some (Iv now)/\w'.rangeAt p 23 RS) Ff gJ (λhHeld=> ?_);generalize Oy:w.drew=V0 at*;clear Oy gJ;refine K1q ?_;refine K2q ?_;refine JB 8 hHeld ?_;refine JB 9 hHeld ?_;refine OI (rs:=[10,15]) Ff Fu ?_;refine NH rfl (λK hK=> ?_) (NH rfl (λK hK=> ?_) Pd)
  ·go_simp;refine(GV.out _ JY.out).mono ?_;rintro e V1 ⟨v,D',Tv,A',Tx,S',Tf,rfl,DJ,Ph,EX,_,hA⟩;have Rs:=JI JY EX;have X7:=Hd DJ;have Vp:=Hd Ph;have xN:=Hd (show ∀g,AK A'=some g->AK m.A=some g\/w.heap.size<=g from λg hg=>(hA g hg).imp id (λh=>Lt JY.out.size h));clear DJ Ph EX hA;go_wp2_with fail;refine hK.out _ _ (SS.out _ Rs.out) (λhHeld=> ?_);clear hK K;refine PU ?_;refine K4I ?_;refine JB 13 hHeld ?_;refine JB 14 hHeld ?_;refine K3D ?_;refine NH rfl (λK hK=> ?_) Pd;(refine K3e ?_;intro EX n7);have Sf:w.heap.size<=V1.heap.size:=Rs.out.size;generalize V1.alloc (.cells aS 51)=V2 at*;(refine K2B ?_;intro T1 X7 Vp);generalize V1.heap.size=T7 at n7 Sf⊢;have N7:=Hd n7;clear EX n7;refine hK.out _ _ (SS.out _ T1.out) (λhHeld=> ?_);clear hK K;refine PU ?_;refine K3E ?_;refine NH rfl (λK hK=> ?_) Pd;(refine K1K ?_;intro n7);have RY:Below w.heap.size w (V2.setRow T7 (Sl st' D' Tv A' Tx S' Tf).toArray):=JO T1.out Sf _;refine hK.out _ _ (SS.out _ RY) (λhHeld=> ?_);clear hK K;refine PU ?_;refine JB 17 hHeld ?_;refine JB 18 hHeld ?_;exact Mb
  ·go_simp;(refine K3m ?_;intro EX n7);have Sf:w.heap.size<=V0.heap.size:=JY.out.size;generalize V0.alloc (.cells aS 51)=V3 at*;have Pn:=JI JY EX;generalize V0.heap.size=T7 at n7 Sf⊢;have N7:=Hd n7;clear EX n7;refine hK.out _ _ (SS.out _ Pn.out) (λhHeld=> ?_);clear hK K;refine K3c ?_;refine NH rfl (λK hK=> ?_) Pd;go_simp;refine(GV.out _ Pn.out).mono ?_;rintro e V4 ⟨v,D',Tv,A',Tx,S',Tf,rfl,DJ,Ph,EX,_,hA⟩;have Ub:=JI Pn EX;have X7:=Hd DJ;have Vp:=Hd Ph;have xN:=Hd (show ∀g,AK A'=some g->AK m.A=some g\/w.heap.size<=g from λg hg=>(hA g hg).imp id (λh=>Lt Pn.out.size h));have N7:=Hd (GH N7.out EX);clear DJ Ph EX hA;go_wp2_with fail;refine hK.out _ _ (SS.out _ Ub.out) (λhHeld=> ?_);clear hK K;refine PU ?_;refine K4I ?_;refine JB 13 hHeld ?_;refine JB 14 hHeld ?_;refine K3E ?_;refine NH rfl (λK hK=> ?_) Pd;(refine K1K ?_;intro n7);have RY:Below w.heap.size w (V4.setRow T7 (Sl st' D' Tv A' Tx S' Tf).toArray):=JO Ub.out Sf _;refine hK.out _ _ (SS.out _ RY) (λhHeld=> ?_);clear hK K;refine PU ?_;refine JB 17 hHeld ?_;refine JB 18 hHeld ?_;exact Mc
 case rest=>
  obtain⟨T7,D',Tv,A',Tx,S',Tf,v,fb,rfl,rfl,rfl,k7,Sf,DJ,Ph,hb,hAA⟩:=hcut;have hwc:=hb.size;have XI:=Hd hb;have HI:=Hd (HH.out.below hb)
  by_cases he:er=0
  ·have HE0:=Hd he;(have zE:(er !=0)=false:=by simp[he]);have RT:=Hd (HI.out.pk (IH wc) DJ (HH.out.ka2 hAA)).rto;have Vp:=Hd (HI.out.rof (CZ wc p (Sl st' D' Tv A' Tx S' Tf) 23 (.inl rfl) (AG.refl (RF p m) wc)) Ph);have TH:=Hd (show wc.there p 23 11 from λj hj=>by
    refine⟨?_,AE HI.out.n.BM (23+j)⟩;have:=HI.out.n.Uh j _ (Gg (show j<(Sl s.st m.D m.dc m.A m.ac m.S m.sc).length from hj));rw[this];rfl)
   have KW:=Hd (Vj wc p T7 k7 (Sl st' D' Tv A' Tx S' Tf) 23 (by exact Ty.ne ⟨_,k7⟩ ⟨_,HI.out.n.BM⟩ Fj));obtain⟨m2,hI2,aM,yd⟩:=RT.out;have T0:=Hd aM;have HG2:=Hd yd;have ZT:=Hd hI2;have A9A:=BG k7;have hth:=TH.out;have hpz:p<wc.heap.size:=BG HI.out.n.BM;have wP:wc.heap.size<=(wc.setCells p 23 (Sl st' D' Tv A' Tx S' Tf)).heap.size:=aM.size;clear he DJ Ph hb hI2 aM yd RT;go_upto_region 7 with(first|(refine JS rfl 51 _ rfl T7 rfl 51 _ (0,0) _ k7 underlying51 rfl Ff ?_)|(refine wpList_store_mid rfl 51 _ _ rfl p 23 _ rfl rfl hth Ff Ff ?_));generalize wc.setCells p 23 (Sl st' D' Tv A' Tx S' Tf)=W7 at*;have Tt:base<=W7.heap.size:=Lt (Lt BJ hwc) wP;have SD:=Hd (Xr ZT.out yi.out rZ.out.1 Vp.out Tt Dm Dm);clear hth k7 hpz A9A;go_upto_region 8 with(go_at_call 81;refine SD.out.mono ?_;rintro e w8 ⟨rfl,hr8⟩);obtain⟨m3,hI3,kl,hG3,_⟩:=hr8;have k8:=AR KW.out kl (RF.au ZT.out ⟨_,KW.out⟩ (by unfold RT;decide));have c1:=AB k8 1 rfl;obtain⟨t,ht⟩:=BN (Nt.FP {s with st:=st'} fl);rw[<-ht] at hI3;have LK:=Hd (show Calls prog 82 #[Pt p,Iv 0,Iv st'.st] w8 λe w'=>e= .returned (.tuple #[])/\Vg base p m3 (Nt.look t) w8 w' from by
    (have hinv:Nt.Inv (N+fl.length) t:=by rw[ht];exact yi.out.FP (λf hf=>(rZ.out.1 f hf).1) Dm);have:=bH hI3 hinv Dm (Lt Tt kl.size);(have e:t.st.st=st'.st:=by rw[ht,(Nt.Q1 fl {s with st:=st'}).2.2.2]);rw[e] at this;exact this)
   have pa:=Hd kl;have HG3:=Hd hG3;have HT:=Hd ht;clear hI3 kl hG3 k8 ht;go_wp2_with (go_at_call 82;refine LK.out.mono ?_;rintro e w9 ⟨rfl,hr9⟩);go_ret;refine⟨by rw[HE0.out];rfl,?_⟩;rw[HD.out,AW HE0.out,<-HT.out];exact Vg.trans (AG.AS XI.out) RG.refl (Vg.trans T0.out HG2.out (Vg.trans pa.out HG3.out hr9))
  ·(have zE:(er !=0)=true:=by simp[he]);have HE0:=Hd he;clear he DJ Ph hb;go_wp2_with fail;go_ret;refine⟨rfl,?_⟩;rw[HD.out,AO HE0.out];exact Vg.AS HH.out XI.out
end
end
section
open RowKit
def YK(X:Nat->Prop)(r:AN.Ru)(s:AN.St)(now:Int)(w:World)(e:Ending)(w':World):Prop:=
 ∃A' c' oA n oc er,e= .returned (.tuple #[TN r (AN.recv s now) A' (AN.recv s now).u.length c',.slice oA n oc,Iv er])/\IW w' (λi=>X i\/w.heap.size<=i) A' (AN.recv s now).u.length (AN.recv s now).u/\(AN.recv s now).u.length<=c'/\
  Rb w' w.heap.size w'.heap.size oA n ((AN.Vo s now).map (·.2))/\Below w.heap.size w w'
theorem bJ(r:AN.Ru)(s:AN.St)(A:Option Addr)(n c:Nat)(now:Int)(w:World)(fg:n=s.u.length)(hs:AN.Inv s)(X:Nat->Prop)(h:IW w X A n s.u)(Xz:n<=c):
  Calls prog 84 #[TN r s A n c,Iv now] w (YK X r s now w):=by
 by_cases he:AN.FU s now=0
 ·exact(uZ r s A n c now w fg hs X h Xz he).mono λe w' ⟨A',c',oA,k,oc,h1,h2,h3,h4,h5⟩=>⟨A',c',oA,k,oc,0,h1,h2,h3,h4,h5⟩
 ·(have e1:AN.recv s now=s:=by unfold AN.recv;rw[AO he]);(have e2:AN.Vo s now=[]:=by unfold AN.Vo;rw[AO he]);(refine(qz r s A n c now w he).mono λe w' ⟨h1,h5⟩=> ?_);refine⟨A,c,none,0,0,3,?_,?_,?_,?_,h5⟩
  ·rw[e1,h1,fg]
  ·rw[e1,<-fg];exact(h.bound.below h5 (λi hi=>hi.2)).mono (λi hi=> .inl hi.1)
  ·rw[e1,<-fg];exact Xz
  ·rw[e2];exact Rb.nil _ _ _ _
theorem Rb.low{w:World}{lo lo' B n:Nat}{A:Option Addr}{l:List (List Int)}(h:Rb w lo B A n l)(hl:lo'<=lo):Rb w lo' B A n l:=by
 obtain⟨rl,h1,h2,h3,h4⟩:=h;exact⟨rl,h1,h2,λx hx=>⟨(h3 x hx).1,λa ha=>Lt hl ((h3 x hx).2.1 a ha),(h3 x hx).2.2⟩,λa ha hn=>Lt hl (h4 a ha hn)⟩
def RH(base p:Nat)(m:RN)(w0:World)(t:Nt.St)(w:World)(m1:RN):Prop:=IX w base p m1 t/\AG (RF p m) w0 w/\RG p m m1 w0.heap.size
section
variable{base p:Nat}{m m1:RN}{w0 w w':World}{t t':Nt.St}
theorem RH.refl(h:IX w base p m t):RH base p m w t w m:=⟨h,AG.refl _ _,RG.refl⟩
theorem RH.below(h:RH base p m w0 t w m1)(g:Below w.heap.size w w'):RH base p m w0 t w' m1:=⟨h.1.below g,h.2.1.trans (AG.AS (S:=λ_=>False) g) (λ_ _ h=>h.elim),h.2.2⟩
theorem RH.to(h:RH base p m w0 t w m1)(g:Vg base p m1 t' w w'):∃m2,RH base p m w0 t' w' m2/\AG (RF p m1) w w':=by
 obtain⟨m2,g1,g2,g3⟩:=Vg.trans h.2.1 h.2.2 g;obtain⟨_,_,k2,_⟩:=g;exact⟨m2,⟨g1,g2,g3⟩,k2⟩
theorem RH.toE(h:RH base p m w0 t w m1)(g:oU base p m1 t' w w'):∃m2,RH base p m w0 t' w' m2/\AG (RF p m1) w w'/\∀q,RF p m2 q->RF p m1 q:=by
 obtain⟨m2,g1,g2,g3,g4⟩:=g;obtain⟨k1,k2,k3⟩:=h;refine⟨m2,⟨g1,k2.trans g2 (λi hi hs=> ?_),λq hq=> ?_,g3.2.trans k3.2⟩,g2,λq hq=>(RF.same g3.2 g4).1 hq⟩
 ·rcases k3.1 i hs with h|h
  ·exact h
  ·omega
 ·rcases g3.1 q hq with h|h
  ·exact k3.1 q h
  ·exact .inr (Lt k2.size h)
theorem RH.rto(h:RH base p m w0 t w m1):Vg base p m t w0 w:=⟨m1,h.1,h.2.1,h.2.2⟩
theorem RH.ge(h:RH base p m w0 t w m1):w0.heap.size<=w.heap.size:=h.2.1.size
end
end
end Go.Proofs.YtdocdgcdldpagaaGreat

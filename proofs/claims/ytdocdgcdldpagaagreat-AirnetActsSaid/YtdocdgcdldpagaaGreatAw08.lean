import Derived.Test.YtdocdgcdldpagaaGreatAw07
open Go.Proofs.Tryz
namespace Go.Proofs.YtdocdgcdldpagaaGreat
set_option maxHeartbeats 64000000
set_option maxRecDepth 100000
set_option linter.all false
section
open RowKit
attribute [local go_sem ↓] wp_at_zero wp_at_succ
structure RM where
 t:Int
 A:Option Addr
 c:Nat
 d:List Int
def RM.msg(m:RM):AN.Q7:=(m.t,m.d)
def rmc(m:RM):List Value:=[Iv m.t,.slice m.A m.d.length m.c]
def Ox(l:List RM):List Value:=l.flatMap rmc
def LF(w:World)(B:Nat)(l:List RM):Prop:=∀m∈l,Rd w B m.A m.d.length m.d/\m.d.length<=m.c/\m.c<=maxLen/\(m.A=none->m.d.length=0)
def IW(w:World)(X:Nat->Prop)(A:Option Addr)(n:Nat)(u:List AN.Q7):Prop:=
 ∃rl:List RM,rl.map RM.msg=u/\TG w w.heap.size 2 A n (Ox rl)/\LF w w.heap.size rl/\(∀a,A=some a->0<n->X a.block)/\(∀m∈rl,∀a,m.A=some a->0<m.d.length->X a.block)
section
variable{w w':World}{B B' n:Nat}{A:Option Addr}{u:List AN.Q7}{l k:List RM}{X Y:Nat->Prop}
theorem TT(m:RM)(l:List RM):Ox (m::l)=Iv m.t:: .slice m.A m.d.length m.c::Ox l:=rfl
theorem Tg:Ox (l++k)=Ox l++Ox k:=A0a
theorem Q3:∀l:List RM,(Ox l).length=l.length*2
 |[]=>rfl
 |m::l=>by rw[TT];simp only[List.length_cons,Q3 l];omega
theorem Y3:∀{l:List RM}{j:Nat}{m:RM},l[j]?=some m->(Ox l)[j*2]?=some (Iv m.t)/\(Ox l)[j*2+1]?=some (.slice m.A m.d.length m.c)
 |[],j,m,h=>by simp at h
 |x::l,0,m,h=>by simp at h;subst h;exact⟨rfl,rfl⟩
 |x::l,j+1,m,h=>by have:=Y3 (l:=l) (j:=j) (m:=m) F7;rw[TT,show(j+1)*2=j*2+1+1 by omega];simpa using this
theorem fJ:∀(l:List RM)(j:Nat),(Ox l).take (j*2)=Ox (l.take j)
 |[],j=>by simp[Ox]
 |m::l,0=>by simp[Ox]
 |m::l,j+1=>by rw[TT,show(j+1)*2=j*2+1+1 by omega,List.take_succ_cons,List.take_succ_cons,fJ l j,List.take_succ_cons,TT]
theorem Z4:∀(l:List RM)(j:Nat),(Ox l).drop (j*2)=Ox (l.drop j)
 |[],j=>by simp[Ox]
 |m::l,0=>by simp[Ox]
 |m::l,j+1=>by rw[TT,show(j+1)*2=j*2+1+1 by omega,mh,mh,Z4 l j,mh]
theorem VQ(l:List RM):∀v∈Ox l,v.oneCell'=true:=by
 intro v hv;simp only[Ox,List.mem_flatMap] at hv;obtain⟨m,_,hm⟩:=hv;simp[rmc] at hm
 rcases hm with rfl|rfl<;>rfl
theorem LF.below(h:LF w B l)(k:Below B' w w')(hB:B<=B'):LF w' B l:=λm hm=>⟨(h m hm).1.below k hB,(h m hm).2⟩
theorem LF.more(h:LF w B l)(hB:B<=B'):LF w B' l:=λm hm=>⟨(h m hm).1.more hB,(h m hm).2⟩
theorem LF.nil(w:World)(B:Nat):LF w B []:=λm hm=>by cases hm
theorem LF.append(h:LF w B l)(g:LF w B k):LF w B (l++k):=λm hm=>(List.mem_append.1 hm).elim (h m) (g m)
theorem LF.sub(h:LF w B l)(hs:∀m∈k,m∈l):LF w B k:=λm hm=>h m (hs m hm)
theorem TG.gA{S:Nat->Prop}{size:Nat}{xs:List Value}(h:TG w w.heap.size size A n xs)(k:AG S w w')(hS:∀a,A=some a->0<n->¬S a.block):TG w' w'.heap.size size A n xs:=
 ⟨h.1,λhn=>by
  obtain⟨b,o,e,hb,hc⟩:=h.2 hn;exact⟨b,o,e,Sv hb k.size,λj u hu=>(Cb (k.block b hb (hS _ e hn))).trans (hc j u hu)⟩⟩
theorem LF.gA{S:Nat->Prop}(h:LF w w.heap.size l)(k:AG S w w')(hS:∀m∈l,∀a,m.A=some a->0<m.d.length->¬S a.block):LF w' w'.heap.size l:=λm hm=>by
 obtain⟨h1,h2⟩:=h m hm;refine⟨⟨h1.1,h1.2.1,λhn=> ?_⟩,h2⟩;obtain⟨b,o,e,hb,hc⟩:=h1.2.2 hn;exact⟨b,o,e,Sv hb k.size,λi hi=>(Cb (k.block b hb (hS m hm _ e hn))).trans (hc i hi)⟩
theorem IW.IE{S:Nat->Prop}(h:IW w X A n u)(k:AG S w w')(hS:∀i,X i->¬S i):IW w' X A n u:=by
 obtain⟨rl,h1,h2,h3,h4,h5⟩:=h;exact⟨rl,h1,h2.gA k (λa ha hn=>hS _ (h4 a ha hn)),h3.gA k (λm hm a ha hn=>hS _ (h5 m hm a ha hn)),h4,h5⟩
theorem IW.below(h:IW w X A n u)(k:Below B w w')(hB:∀i,X i->i<B):IW w' X A n u:=
 h.IE (S:=λi=>B<=i) ⟨k.os,k.tape,k.output,k.size,λi _ hi=>k.block i Ft⟩ (λi hi=>by have:=hB i hi;omega)
theorem IW.mono(h:IW w X A n u)(hX:∀i,X i->Y i):IW w Y A n u:=by
 obtain⟨rl,h1,h2,h3,h4,h5⟩:=h;exact⟨rl,h1,h2,h3,λa ha hn=>hX _ (h4 a ha hn),λm hm a ha hn=>hX _ (h5 m hm a ha hn)⟩
theorem IW.bound(h:IW w X A n u):IW w (λi=>X i/\i<w.heap.size) A n u:=by
 obtain⟨rl,h1,h2,h3,h4,h5⟩:=h;refine⟨rl,h1,h2,h3,λa ha hn=>⟨h4 a ha hn,?_⟩,λm hm a ha hn=>⟨h5 m hm a ha hn,?_⟩⟩
 ·obtain⟨b,o,e,hb,_⟩:=h2.2 hn;rw[ha] at e;injection e with e;rw[e];exact hb
 ·obtain⟨b,o,e,hb,_⟩:=(h3 m hm).1.2.2 hn;rw[ha] at e;injection e with e;rw[e];exact hb
theorem IW.nil(w:World)(X:Nat->Prop)(A:Option Addr):IW w X A 0 []:=⟨[],rfl,TG.nil _ _ _ _,LF.nil _ _,λ_ _ h=>absurd h Ft,λm hm=>by cases hm⟩
theorem IW.len(h:IW w X A n u):u.length=n:=by
 obtain⟨rl,h1,h2,_⟩:=h;have:=h2.1;rw[Q3] at this;rw[<-h1,WW];omega
end
def OY(r:AN.Ru)(s:AN.St)(A:Option Addr)(n c:Nat):List Value:=[Iv r.BY,Iv r.AY,Iv r.least,Iv r.BU,Iv r.seed,.int .u64 s.x,Iv s.now,.slice A n c,Iv s.BB,Iv s.lost,Iv s.P9]
def TN(r:AN.Ru)(s:AN.St)(A:Option Addr)(n c:Nat):Value:= .agg (OY r s A n c).toArray
theorem lN(r:AN.Ru)(w:World)(hv:AN.MP r=true)(hse:r.seed<=9223372036854775807):
  Calls prog 79 #[.agg (rul r).toArray] w (IL (.tuple #[TN r (AN.new r) none 0 0,Iv 0]) w):=by
 have V:=Hd (λW:World=>hv▸QX r W);rw[AN.OE] at hv;obtain⟨_,_,_,_,h5⟩:=hv;obtain⟨lo,tw,le,mo,se⟩:=r;simp only[rul,TN,OY,AN.new] at*;(have hw:IntKind.u64.wrap se=se:=by rw[my];omega);go_enter func79,ntmps79;go_wp2_with fail;refine(V.out _).mono ?_;rintro e w1 ⟨rfl,BX⟩;have IJ:=BX.size;(try simp at IJ);(refine K0Q ?_;intro h0 h1);(refine K05 ?_;intro DF);have CI:=OH h0;have lb:=BG h0;have BH:=GN h1;have la:=BG h1;go_wp2_with fail;refine IT (v:= .tuple #[.agg #[Iv lo,Iv tw,Iv le,Iv mo,Iv se,.int .u64 se,Iv 0,.slice none 0 0,Iv 0,Iv 0,Iv 0],Iv 0]) ?_ rfl ⟨rfl,A9⟩;simp[results,results79,go_sem, *]
theorem A1t(x:Int):wrap64 (IntKind.u64.wrap ((AN.nx x).tdiv 8589934592))=AN.dr x:=by
 have h1:=AN.cN x;have h2:=AN.gU x;rw[A2x h1.1];unfold AN.dr at h2⊢;rw[show IntKind.u64.wrap (AN.nx x/8589934592)=AN.nx x/8589934592 by rw[my];omega];exact IntWalk.wrap64_in _ ⟨by omega,by omega⟩
theorem Z6(r:AN.Ru)(s:AN.St)(A:Option Addr)(n c:Nat)(w:World):
  Calls prog 166 #[TN r s A n c] w (IL (.tuple #[TN r {s with x:=AN.nx s.x} A n c,Iv (AN.dr s.x)]) w):=by
 have N:=Hd (A0n s.x);have D:=Hd (A1t s.x);obtain⟨lo,tw,le,mo,se⟩:=r;obtain⟨x,now,u,BB,lost,P9⟩:=s;simp only[TN,OY] at*;go_enter func166,ntmps166;go_wp2_with fail;rw[N.out];obtain⟨W,hW⟩:∃W:World,W=(w.alloc (.cells #[Iv lo,Iv tw,Iv le,Iv mo,Iv se,.int .u64 (AN.nx x),Iv now,.slice A n c,Iv BB,Iv lost,Iv P9] 136)).alloc (.cells ei 136):=⟨_,rfl⟩;rw[<-hW];(have h0:W.heap[w.heap.size]?=some (.cells #[Iv lo,Iv tw,Iv le,Iv mo,Iv se,.int .u64 (AN.nx x),Iv now,.slice A n c,Iv BB,Iv lost,Iv P9] 136 (0,0)):=by rw[hW];exact Af);(have h1:W.heap[w.heap.size+1]?=some (.cells ei 136 (0,0)):=by rw[hW];exact Af);(have HB:Below w.heap.size w W:=by rw[hW];exact A9);clear hW;have BH:=GN h0;have la:=BG h0;have CI:=GN h1;have lb:=BG h1;clear h0;go_region
 all_goals go_wp2_with fail
 rw[D.out];refine IT (v:= .tuple #[.agg #[Iv lo,Iv tw,Iv le,Iv mo,Iv se,.int .u64 (AN.nx x),Iv now,.slice A n c,Iv BB,Iv lost,Iv P9],Iv (AN.dr x)]) ?_ rfl ⟨rfl,A9⟩;simp[results,results166,go_sem, *]
theorem fI:(prog.info? 203).map (λi=>(i.zero,i.size,i.bytes))=some (some (.agg #[Iv 0,.slice none 0 0]),2,32):=by kernel_rfl
theorem Yd{x y:Value}(hx:x.oneCell'=true)(hy:y.oneCell'=true):∀u∈[x,y],u.oneCell'=true:=by
 intro u hu;simp at hu
 rcases hu with rfl|rfl
 ·exact hx
 ·exact hy
def YJ(X:Nat->Prop)(r:AN.Ru)(s:AN.St)(n:Nat)(w:World)(e:Ending)(w':World):Prop:=
 ∃A' c',e= .returned (TN r s A' n c')/\IW w' (λi=>X i\/w.heap.size<=i) A' n s.u/\n<=c'/\Below w.heap.size w w'
theorem vg(r:AN.Ru)(s:AN.St)(A:Option Addr)(n c:Nat)(now:Int)(D:Option Addr)(m cap:Nat)(d:List Int)(w:World)(hr:AN.MP r=true)(Pj:0<=now/\now<=1073741824)(hs:s.now=now)(hn:n<=1000000)(X:Nat->Prop)(hX:∀i,X i->i<w.heap.size)(h:IW w X A n s.u)(hm:m<=1000000)(hd:Rd w w.heap.size D m d):
  Calls prog 167 #[TN r s A n c,Iv now,.slice D m cap] w (YJ X r (AN.put r s d) (n+1) w):=by
 obtain⟨i0,OU,RR,IJ,Ot⟩:=MQ fI;obtain⟨j0,hj0,hy0,hy1,hy2⟩:=MQ Sd;have DR:=Hd (λW:World=>Z6 r s A n c W);rw[AN.OE] at hr;obtain⟨⟨r1,r2⟩,⟨r3,r4⟩,⟨r5,r6⟩,r7,r8⟩:=hr;obtain⟨d1,d2⟩:=AN.gU s.x;have LY:=sN (AN.dr s.x) (show r.BU-r.least+1≠0 by omega);have Zi:=sU (AN.dr s.x) (show 0<r.BU-r.least+1 by omega);have HW:=Hd h;have HD:=Hd hd;have HP:=Hd (show ∀t,t=now+r.least+AN.dr s.x%(r.BU-r.least+1)->AN.put r s d={s with x:=AN.nx s.x,u:=s.u++[(t,d)]} from λt ht=>by unfold AN.put;rw[hs,ht]);clear h hd hs;obtain⟨dx,hdx⟩:=BN (AN.dr s.x);rw[<-hdx] at DR d1 d2 LY Zi HP;clear hdx;obtain⟨nxx,hnx⟩:=BN (AN.nx s.x);rw[<-hnx] at DR HP;clear hnx;obtain⟨lo,tw,le,mo,se⟩:=r;obtain⟨x,nw,u,BB,lost,P9⟩:=s;simp only[TN,OY] at*;go_enter func167,ntmps167;go_wp2_with fail;refine(DR.out _).mono ?_;rintro e w1 ⟨rfl,BX⟩;have hz1':=BX.size;(try simp at hz1');(refine K0Q ?_;intro h0 h1);(refine K05 ?_;intro DF);have BH:=GN h0;have la:=BG h0;clear BX;go_wp2_with fail;generalize hW:World.setCell _ _ _=W;(have h0':W.heap[w.heap.size]?=some (.cells #[Iv lo,Iv tw,Iv le,Iv mo,Iv se,.int .u64 nxx,Iv nw,.slice A n c,Iv BB,Iv lost,Iv P9] 136 (0,0)):=by rw[<-hW];exact Fl);(have h1':W.heap[w.heap.size+1]?=some (.cells ei 136 (0,0)):=by rw[<-hW];exact Af);(have Rx:Below w.heap.size w W:=by rw[<-hW];exact A9);have tx:=BG h1';clear hW la BH h0 h1 DF;have CI:=AB h0' 0 rfl;have UO:=AE h0' 0;have Vb:=AB h0' 1 rfl;have UM:=AE h0' 1;have Va:=AB h0' 2 rfl;have UL:=AE h0' 2;have UZ:=AB h0' 3 rfl;have UK:=AE h0' 3;have UY:=AB h0' 4 rfl;have UJ:=AE h0' 4;have UX:=AB h0' 5 rfl;have UI:=AE h0' 5;have UU:=AB h0' 6 rfl;have UH:=AE h0' 6;have UT:=AB h0' 7 rfl;have UE:=AE h0' 7;have US:=AB h0' 8 rfl;have UD:=AE h0' 8;have UR:=AB h0' 9 rfl;have UC:=AE h0' 9;have Qk:=AB h0' 10 rfl;have Rl:=AE h0' 10;have lb:=BG h0';obtain⟨q,hq⟩:=BN (dx%(mo-le+1));rw[<-hq] at LY Zi;have HQ:=Hd hq;have wa:=GF (now+le) Ft;have wb:=GF (mo-le) Ft;have wc:=GF (mo-le+1) Ft;have wd:=GF (now+le+q) Ft;(have wm:dx.tmod (mo-le+1)=q:=by rw[hq,vH d1]);have wm2:IntKind.i64.wrap q=q:=GF _ Ft;(have LX:¬(mo-le+1=0):=by omega);clear hq;go_quiet (fail);clear wa wb wc wd wm wm2;generalize hWq:World.drewN _ _=Wq;(have h0':Wq.heap[w.heap.size]?=some (.cells #[Iv lo,Iv tw,Iv le,Iv mo,Iv se,.int .u64 nxx,Iv nw,.slice A n c,Iv BB,Iv lost,Iv P9] 136 (0,0)):=by rw[<-hWq];exact h0');(have h1':Wq.heap[w.heap.size+1]?=some (.cells ei 136 (0,0)):=by rw[<-hWq];exact h1');(have Rx:Below w.heap.size w Wq:=by rw[<-hWq];exact below_drewN Rx _);have tx:=BG h1';clear hWq CI UO Vb UM Va UL UZ UK UY UJ UX UI UU UH UT UE US UD UR UC Qk Rl;have rC:=AB h0' 0 rfl;have Ac5:=AE h0' 0;have Acn:=AB h0' 1 rfl;have Ac4:=AE h0' 1;have Acm:=AB h0' 2 rfl;have Ac3:=AE h0' 2;have Acl:=AB h0' 3 rfl;have Ac2:=AE h0' 3;have Ack:=AB h0' 4 rfl;have Ac1:=AE h0' 4;have Acj:=AB h0' 5 rfl;have Ac0:=AE h0' 5;have Aci:=AB h0' 6 rfl;have AbZ:=AE h0' 6;have Ach:=AB h0' 7 rfl;have AbY:=AE h0' 7;have Acg:=AB h0' 8 rfl;have AbX:=AE h0' 8;have Acf:=AB h0' 9 rfl;have AbW:=AE h0' 9;have Ab3:=AB h0' 10 rfl;have Aak:=AE h0' 10;have ld:=BG h0';have HX:=Hd hX;obtain⟨rl,hu,WZ,nD,hxa,hxm⟩:=HW.out.below Rx hX;have HU:=Hd hu;have Xo:=Hd WZ;have HG:=Hd nD;have HXA:=Hd hxa;have HXM:=Hd hxm;have HDW:=Hd (HD.out.below Rx (Lr _));have HB:=Hd Rx;have H0:=Hd h0';have H1:=Hd h1';have Abv:=Rx.size;clear hu WZ nD hxa hxm hX Rx h0' h1';go_wp2_with (first
  |(at_builtin;refine BD _ rfl (.const (.slice none 0 0)) (.tmp 31) _ rfl Wq.heap.size 203 i0 _ 2 32 underlying134 OU RR IJ Ot rfl Ft (.slice none 0 0) 0 [] rfl (Ta _ _ _ _) Wq.heap.size A n c (Ox rl) rfl Xo.out.reads (VQ _) Ee Ft (Lr _) ?_;intro v1 w2 CE GQ LY;simp only[PL,List.nil_append] at CE;obtain⟨A1,c1,rfl⟩:=EZ CE;have oD:=Hd CE;have HG1:=Hd GQ;have A0M:=GQ.size;have XJ:=Hd (show Below Wq.heap.size Wq w2 from⟨GQ.os,GQ.tape,GQ.output,GQ.size,λk hk=>GQ.block k hk Ea⟩);clear CE GQ LY)
  |(at_builtin;refine BD _ rfl (.const (.slice none 0 0)) (.tmp 34) _ rfl w2.heap.size 5 j0 _ 1 1 underlying47 hj0 hy0 hy1 hy2 rfl Ft (.slice none 0 0) 0 [] rfl (Ta _ _ _ _) w.heap.size D m cap (bv d) rfl (HDW.out.below XJ.out Ft).reads (SX _) Ee Ft Ft ?_;intro v2 w3 Qi Ts Zi;simp only[PL,List.nil_append] at Qi;obtain⟨A2,c2,rfl⟩:=EZ Qi;have HO2:=Hd Qi;have HG2:=Hd Ts;have hz3':=Ts.size;have XI:=Hd (show Below w2.heap.size w2 w3 from⟨Ts.os,Ts.tape,Ts.output,Ts.size,λk hk=>Ts.block k hk Ea⟩);clear Qi Ts Zi)
  |(at_builtin;refine JE rfl (.tmp 32) (.tmp 37) _ rfl Wq.heap.size 203 i0 _ 2 32 underlying134 OU RR IJ Ot rfl A1 n c1 (Ox rl) rfl (((Row.GR oD.out).below XI.out (Lr _)).alloc _) (Ad w3.heap.size 0) 1 1 [Iv (now+le+q),.slice A2 m c2] rfl rfl (λj u hu=>by rw[CP,PL];exact AB (AM _ _) j hu) (Yd rfl rfl) Ft Ee Ft Fp ?_;intro A4 c4 w4 Wk VH Wm;have QP:=VH.size;(try simp at QP);have HO4:=Hd Wk;have HA1:=Hd (λg hg=>((Row.GR oD.out).lt (g:=g) hg).1);have iq:=Hd (show Below Wq.heap.size Wq w4 from Xt ((XJ.out.trans (XI.out.mono Ft)).alloc Ft _) VH Fp (λg hg=>HA1.out g hg));have k0:=AH H0.out iq.out Ft;have k1:=AH H1.out iq.out Ft;have yl:=Hd VH;clear Wk VH Wm;have K0:=Hd k0;have K1:=Hd k1;have A9E:=GN k0;have lk:=BG k0;have JH:=GN k1;have lg:=BG k1;clear k0 k1))
 clear A9E JH;have k0:=K0.out;have k1:=K1.out;(refine jO ?_;intro Wf MH);(have hf:Wf.heap[w.heap.size+1]?=some (.cells #[Iv lo,Iv tw,Iv le,Iv mo,Iv se,.int .u64 nxx,Iv nw,.slice A4 (n+1) c4,Iv BB,Iv lost,Iv P9] 136 (0,0)):=by rw[<-MH];exact Fl);(have gI:AG (λi=>i=w.heap.size\/i=w.heap.size+1) w4 Wf:=by rw[<-MH];repeat(first|with_reducible exact AG.refl _ _|(with_reducible refine AG.setCell ?_ (.inl (.inr rfl)) _)|(with_reducible refine AG.setCell ?_ (.inl (.inl rfl)) _)));clear MH k0 k1;(refine uo ?_;intro IK lm);refine IT (v:= .agg #[Iv lo,Iv tw,Iv le,Iv mo,Iv se,.int .u64 nxx,Iv nw,.slice A4 (n+1) c4,Iv BB,Iv lost,Iv P9]) ?_ rfl ?_
 ·simp[results,results167,go_sem,IK]
 ·have A0U:=HP.out (now+le+q) (by rw[HQ.out]);have hzf:=gI.size;have CF:=HO4.out.kept gI (λg hg=>by have:=(HO4.out.lt hg).1;omega);have gK:Below w.heap.size Wq Wf:=(iq.out.mono Ft).trans (gI.below (λi _ hi=>by omega) Ft);refine⟨A4,c4,by rw[A0U];rfl,?_,CF.le.1,?_⟩
  ·rw[A0U];refine⟨rl++[⟨now+le+q,A2,c2,d⟩],by simp[HU.out,RM.msg],?_,?_,?_,?_⟩
   ·rw[Tg,show Ox [⟨now+le+q,A2,c2,d⟩]=[Iv (now+le+q),.slice A2 m c2] by simp[Ox,rmc,HD.out.1]];exact TG.cM CF
   ·refine LF.append ?_ ?_
    ·exact HG.out.gA (S:=λi=>w.heap.size<=i) ⟨gK.os,gK.tape,gK.output,gK.size,λi _ hi=>gK.block i Ft⟩ (λy hy a ha hl=>by have:=HX.out _ (HXM.out y hy a ha hl);omega)
    ·have Xj:Ow w3 w2.heap.size A2 m c2 d:=⟨HO2.out,HD.out.2.1⟩;have hA2:∀a,A2=some a->w2.heap.size<=a.block/\a.block<w3.heap.size:=by
      intro a ha
      rcases Xj.form with⟨h1,_⟩|⟨g,h1,h2,h3,_⟩
      ·rw[h1] at ha;cases ha
      ·rw[h1] at ha;injection ha with ha;rw[<-ha];exact⟨h2,h3⟩
     have A9n:AG (λg=>AK A1=some g) w3 w4:=((AG.refl _ w3).alloc _).trans (AG.JK yl.out (S:=λg=>AK A1=some g) (λg hg=>hg)) (λ_ _ h=>h);have A9g:Rd w3 w3.heap.size A2 m d:=Xj.rd;have A9f:Rd w4 w3.heap.size A2 m d:=A9g.kept A9n (Lr _) (λa ha e=>by
      have h1:=((Row.GR oD.out).lt e).2;have h2:=(hA2 a ha).1;omega)
     have A9e:Rd Wf w3.heap.size A2 m d:=A9f.kept gI Ft (λa ha e=>by have:=(hA2 a ha).1;omega);intro y hy;rw[List.mem_singleton.1 hy];have GZ:d.length=m:=HD.out.1;refine⟨by simp only[GZ];exact A9e.more Ft,?_,?_,?_⟩
     ·simp only[GZ]
      rcases Xj.form with⟨h1,h2,h3⟩|⟨g,h1,h2,h3,h4,h5⟩
      ·omega
      ·exact h4
     ·rcases Xj.form with⟨h1,h2,h3⟩|⟨g,h1,h2,h3,h4,h5⟩
      ·simp only[h3];unfold maxLen;omega
      ·exact h5
     ·intro h0;simp only[GZ]
      rcases Xj.form with⟨h1,h2,h3⟩|⟨g,h1,h2,h3,h4,h5⟩
      ·exact h2
      ·simp only[h1] at h0;cases h0
   ·intro a ha _;right;(have h1:AK A4=some a.block:=by rw[ha];rfl);have h2:=(HO4.out.lt h1).1;omega
   ·intro y hy a ha hl
    rcases List.mem_append.1 hy with hy|hy
    ·exact .inl (HXM.out y hy a ha hl)
    ·right;rw[List.mem_singleton.1 hy] at ha;have Xj:Ow w3 w2.heap.size A2 m c2 d:=⟨HO2.out,HD.out.2.1⟩
     rcases Xj.form with⟨h1,_⟩|⟨g,h1,h2,h3,_⟩
     ·rw[h1] at ha;cases ha
     ·rw[h1] at ha;injection ha with ha;rw[<-ha];show w.heap.size<=g;omega
  ·exact HB.out.trans gK
theorem cX(r:AN.Ru)(s:AN.St)(A:Option Addr)(n c:Nat)(now:Int)(D:Option Addr)(m cap:Nat)(d:List Int)(w:World)(hr:AN.MP r=true)(Pj:0<=now/\now<=1073741824)(hs:s.now=now)(hn:n<=1000000)(X:Nat->Prop)(h:IW w X A n s.u)(hm:m<=1000000)(hd:Rd w w.heap.size D m d):
  Calls prog 167 #[TN r s A n c,Iv now,.slice D m cap] w (YJ X r (AN.put r s d) (n+1) w):=
 (vg r s A n c now D m cap d w hr Pj hs hn (λi=>X i/\i<w.heap.size) (λi h=>h.2) h.bound hm hd).mono λe w' ⟨A',c',h1,h2,h3,h4⟩=>⟨A',c',h1,h2.mono (λi hi=>hi.imp (λh=>h.1) id),h3,h4⟩
def Sn(X:Nat->Prop)(r:AN.Ru)(s:AN.St)(x:Int)(w:World)(e:Ending)(w':World):Prop:=
 ∃A' c',e= .returned (.tuple #[TN r s A' s.u.length c',Iv x])/\IW w' (λi=>X i\/w.heap.size<=i) A' s.u.length s.u/\s.u.length<=c'/\Below w.heap.size w w'
theorem zg(r:AN.Ru)(s:AN.St)(A:Option Addr)(n c:Nat)(now:Int)(D:Option Addr)(m cap:Nat)(w:World)(hn:n=s.u.length)(hm:m<=140737488355328)(jZ:n<=1000000)(he:AN.IC s now m≠0):
  Calls prog 142 #[TN r s A n c,Iv now,.slice D m cap] w (IL (.tuple #[TN r s A n c,Iv (AN.IC s now m)]) w):=by
 have cases:(m<1/\AN.IC s now m=2)\/(128<m/\AN.IC s now m=2)\/((1<=m/\m<=128)/\now<s.now/\AN.IC s now m=3)\/((1<=m/\m<=128)/\s.now<=now/\1073741824<now/\AN.IC s now m=3)\/((1<=m/\m<=128)/\(s.now<=now/\now<=1073741824)/\999<=n/\AN.IC s now m=7):=by
  unfold AN.IC at he⊢
  by_cases h1:1<=m/\m<=128
  ·rw[AO F4] at he⊢
   by_cases h2:s.now<=now/\now<=1073741824
   ·rw[AO F5] at he⊢
    by_cases h3:999<=s.u.length
    ·rw[AW h3];exact .inr (.inr (.inr (.inr ⟨h1,h2,by omega,rfl⟩)))
    ·rw[AO h3] at he;exact absurd rfl he
   ·rw[AW h2]
    by_cases h3:now<s.now
    ·exact .inr (.inr (.inl ⟨h1,h3,rfl⟩))
    ·exact .inr (.inr (.inr (.inl ⟨h1,by omega,by omega,rfl⟩)))
  ·rw[AW h1]
   by_cases h3:m<1
   ·exact .inl ⟨h3,rfl⟩
   ·exact .inr (.inl ⟨by omega,rfl⟩)
 clear he hn;simp only[TN,OY] at*
 rcases cases with⟨h1,E⟩|⟨h1,E⟩|⟨h1,h2,E⟩|⟨h1,h2,h3,E⟩|⟨h1,h2,h3,E⟩
 all_goals
  rw[E];clear E;go_enter func142,ntmps142;go_wp2_with fail;refine IT (v:= .tuple #[.agg #[Iv r.BY,Iv r.AY,Iv r.least,Iv r.BU,Iv r.seed,.int .u64 s.x,Iv s.now,.slice A n c,Iv s.BB,Iv s.lost,Iv s.P9],_]) ?_ rfl ⟨rfl,A9⟩;simp[results,results142,go_sem]
theorem uX(r:AN.Ru)(s:AN.St)(A:Option Addr)(n c:Nat)(now:Int)(D:Option Addr)(m cap:Nat)(d:List Int)(w:World)(fg:n=s.u.length)(hr:AN.MP r=true)(hs:AN.Inv s)(Wi:s.BB<1000000000000000)(X:Nat->Prop)(h:IW w X A n s.u)(Xz:n<=c)
  (hd:Rd w w.heap.size D m d)(he:AN.IC s now m=0):
  Calls prog 142 #[TN r s A n c,Iv now,.slice D m cap] w (Sn X r (AN.send r s now d) 0 w):=by
 obtain⟨h1,h2,h3⟩:=AN.l4 he;have HE:=Hd (show AN.IC s now d.length=0 by rw[hd.1];exact he);have HW:=Hd h.bound;have HD:=Hd hd;have HR:=Hd hr;have HNU:=Hd fg;(have h3':n<999:=by omega);have HI:=Hd (AN.Zd hs h2 Wi);obtain⟨_,⟨n1,n2⟩,_,_,⟨p1,p2⟩,⟨l1,l2⟩,q1,q2⟩:=hs;obtain⟨s1,Om⟩:=BN (AN.Te s now);have DR:=Hd (show ∀W:World,Calls prog 166 #[.agg #[Iv r.BY,Iv r.AY,Iv r.least,Iv r.BU,Iv r.seed,.int .u64 s.x,Iv now,.slice A n c,Iv (s.BB+1),Iv s.lost,Iv s.P9]] W
  (IL (.tuple #[TN r s1 A n c,Iv (AN.dr s.x)]) W) from λW=>by rw[Om];exact Z6 r {s with now:=now,BB:=s.BB+1} A n c W)
 have hS1:=Hd (show s1.u=s.u/\s1.now=now/\s1.lost=s.lost/\s1.P9=s.P9/\s1.BB=s.BB+1/\s1.x=AN.nx s.x by rw[Om];exact⟨rfl,rfl,rfl,rfl,rfl,rfl⟩);have rR:=Hd Om;(have hI1:AN.Inv s1:=by rw[Om];exact HI.out);have HI1:=Hd hI1;have x8:=AN.gU s.x;obtain⟨dx,hdx⟩:=BN (AN.dr s.x);rw[<-hdx] at DR x8;have HDX:=Hd hdx;clear hdx Om h hd he hI1 hr fg;simp only[TN,OY] at*;obtain⟨d1,d2⟩:=x8;go_enter func142,ntmps142;go_wp2_with fail;refine(DR.out _).mono ?_;rintro e w1 ⟨rfl,BX⟩;have IJ:=BX.size;(try simp at IJ);(refine K4l ?_;intro k0);have k1:=AH (q:=w.heap.size+1) Af BX Cm;(refine K05 ?_;intro DF);clear BX DR;refine jD k0 ?_;intro BH OB OD Oz Od O8 MZ O7 Oc O6 Ob NZ IB NY MX NQ ML NP Oa NL GX GU;have la:=BG k0;refine jD k1 ?_;intro CI UO Vb UM Va UL UZ UK UY UJ UX UI UU UH UT UE US UD UR UC Qk Rl;have lb:=BG k1;go_upto_region 10 with fail;generalize hW:World.setCell _ _ _=W1;(have k0':W1.heap[w.heap.size]?=some (.cells #[Iv r.BY,Iv r.AY,Iv r.least,Iv r.BU,Iv r.seed,.int .u64 s1.x,Iv s1.now,.slice A n c,Iv s1.BB,Iv s1.lost,Iv s1.P9] 136 (0,0)):=by rw[<-hW];exact Fl);(have k1':W1.heap[w.heap.size+1]?=some (.cells ei 136 (0,0)):=by rw[<-hW];exact Af);(have Rx:Below w.heap.size w W1:=by rw[<-hW];exact A9);clear hW BH OB OD Oz Od O8 MZ O7 Oc O6 Ob NZ IB NY MX NQ ML NP Oa NL GX GU CI UO Vb UM Va UL UZ UK UY UJ UX UI UU UH UT UE US UD UR UC Qk Rl k0 k1 DF la;have BH:=AB k0' 0 rfl;have OB:=AE k0' 0;have OD:=AB k0' 1 rfl;have Oz:=AE k0' 1;have Od:=AB k0' 2 rfl;have O8:=AE k0' 2;have MZ:=AB k0' 3 rfl;have O7:=AE k0' 3;have Oc:=AB k0' 4 rfl;have O6:=AE k0' 4;have Ob:=AB k0' 5 rfl;have NZ:=AE k0' 5;have IB:=AB k0' 6 rfl;have NY:=AE k0' 6;have MX:=AB k0' 7 rfl;have NQ:=AE k0' 7;have ML:=AB k0' 8 rfl;have NP:=AE k0' 8;have Oa:=AB k0' 9 rfl;have NL:=AE k0' 9;have GX:=AB k0' 10 rfl;have GU:=AE k0' 10;have la:=BG k0';have CI:=AB k1' 0 rfl;have UO:=AE k1' 0;have Vb:=AB k1' 1 rfl;have UM:=AE k1' 1;have Va:=AB k1' 2 rfl;have UL:=AE k1' 2;have UZ:=AB k1' 3 rfl;have UK:=AE k1' 3;have UY:=AB k1' 4 rfl;have UJ:=AE k1' 4;have UX:=AB k1' 5 rfl;have UI:=AE k1' 5;have UU:=AB k1' 6 rfl;have UH:=AE k1' 6;have UT:=AB k1' 7 rfl;have UE:=AE k1' 7;have US:=AB k1' 8 rfl;have UD:=AE k1' 8;have UR:=AB k1' 9 rfl;have UC:=AE k1' 9;have Qk:=AB k1' 10 rfl;have Rl:=AE k1' 10;have lb:=BG k1';have tx:=Rx.size
 by_cases hlost:dx%1000<r.BY
 ·have HLO:=Hd (show AN.XY r s=true by unfold AN.XY;rw[<-HDX.out];exact IU hlost);have A3W:=Hd (show AN.send r s now d={s1 with lost:=s1.lost+1} by
   unfold AN.send;rw[AW HE.out,AW HLO.out,rR.out];rfl)
  (have l3:0<=s1.lost/\s1.lost<=1000000000000000:=by have:=hS1.out.2.2.1;omega);go_wp2_with fail;(refine jO ?_;intro Wf MH);(have hf:Wf.heap[w.heap.size+1]?=some (.cells #[Iv r.BY,Iv r.AY,Iv r.least,Iv r.BU,Iv r.seed,.int .u64 s1.x,Iv s1.now,.slice A n c,Iv s1.BB,Iv (s1.lost+1),Iv s1.P9] 136 (0,0)):=by rw[<-MH];exact Fl);(have gI:AG (λi=>i=w.heap.size\/i=w.heap.size+1) W1 Wf:=by rw[<-MH];exact Ak);clear MH k0' k1';(refine uo ?_;intro IK lm);refine IT (v:= .tuple #[.agg #[Iv r.BY,Iv r.AY,Iv r.least,Iv r.BU,Iv r.seed,.int .u64 s1.x,Iv s1.now,.slice A n c,Iv s1.BB,Iv (s1.lost+1),Iv s1.P9],Iv 0]) ?_ rfl ?_
  ·simp[results,results142,go_sem,IK]
  ·have hB:Below w.heap.size w Wf:=Rx.trans (gI.below (λi _ hi=>by omega) Ft);rw[A3W.out];have hu:s1.u=s.u:=hS1.out.1;refine⟨A,c,?_,?_,?_,hB⟩
   ·simp only[TN,OY,hu,HNU.out]
   ·simp only[hu,<-HNU.out];exact(HW.out.below hB (λi hi=>hi.2)).mono (λi hi=> .inl hi.1)
   ·simp only[hu,<-HNU.out];exact Xz
 ·have HLO:=Hd (show AN.XY r s=false by unfold AN.XY;rw[<-HDX.out];exact ME hlost);obtain⟨s2,Wj⟩:=BN (AN.put r s1 d);(have gC:s2.u.length=n+1:=by rw[Wj];simp[AN.put,hS1.out.1,HNU.out]);(have hI2:AN.Inv s2:=by rw[Wj];exact AN.aG HR.out HI1.out HD.out.2.1 (by rw[HD.out.1];exact h1.2) (by rw[hS1.out.1,<-HNU.out];omega));(have A7c:s2.P9=s1.P9/\s2.now=now/\s2.BB=s1.BB:=by rw[Wj];exact⟨rfl,hS1.out.2.1,rfl⟩);(have AbS:0<=s2.P9/\s2.P9<=1000000000000000/\s2.P9<s2.BB:=by have:=hS1.out;omega);have PUT:=Hd (show ∀W:World,IW W (λi=>X i/\i<w.heap.size) A n s1.u->Rd W W.heap.size D m d->Calls prog 167 #[TN r s1 A n c,Iv now,.slice D m cap] W (YJ (λi=>X i/\i<w.heap.size) r s2 (n+1) W) from λW hW hDW=>by
   rw[Wj];exact cX r s1 A n c now D m cap d W HR.out Ft hS1.out.2.1 Ft _ hW Ft hDW)
  have A3W:=Hd (show AN.send r s now d=if AN.VM r s2 then AN.br r s2 d else{s2 with x:=AN.nx s2.x} by
   (have e2:s2=AN.TS r s now d:=by rw[Wj,rR.out];rfl);unfold AN.send;rw[AW HE.out,AO (by rw[HLO.out];simp),e2])
  have HU2:=Hd gC;have ZT:=Hd hI2;have A9Q:=Hd A7c;have oB:=Hd (show IW W1 (λi=>X i/\i<w.heap.size) A n s1.u by rw[hS1.out.1];exact HW.out.below Rx (λi hi=>hi.2));have Xo:=Hd ((HD.out.below Rx (Lr _)).more (by omega:w.heap.size<=W1.heap.size));clear Wj gC hI2 A7c;simp only[TN,OY] at*;go_wp2_with fail;refine(PUT.out _ oB.out Xo.out).mono ?_;rintro e w2 ⟨A2,c2,rfl,hw2,XC,CB⟩;have Ot:=CB.size;have j0:=AH k0' CB Ft;have j1:=AH k1' CB Ft;have HW2:=Hd hw2;have kt:=Hd (Rx.trans (CB.mono Ft));clear CB hw2 BH OB OD Oz Od O8 MZ O7 Oc O6 Ob NZ IB NY MX NQ ML NP Oa NL GX GU k0' k1' oB Xo PUT la;refine jD j0 ?_;intro BH OB OD Oz Od O8 MZ O7 Oc O6 Ob NZ IB NY MX NQ ML NP Oa NL GX GU;have la:=BG j0;refine jD j1 ?_;intro CI UO Vb UM Va UL UZ UK UY UJ UX UI UU UH UT UE US UD UR UC Qk Rl;have lb:=BG j1;simp only[TN,OY] at*;go_upto_region 14 with fail;generalize hV:World.setCell _ _ _=W3;(have j0':W3.heap[w.heap.size]?=some (.cells #[Iv r.BY,Iv r.AY,Iv r.least,Iv r.BU,Iv r.seed,.int .u64 s2.x,Iv s2.now,.slice A2 (n+1) c2,Iv s2.BB,Iv s2.lost,Iv s2.P9] 136 (0,0)):=by rw[<-hV];exact Fl);(have j1':W3.heap[w.heap.size+1]?=some (.cells ei 136 (0,0)):=by rw[<-hV];exact Af);(have kl:AG (λi=>i=w.heap.size\/i=w.heap.size+1) w2 W3:=by rw[<-hV];exact Ak);have Aby:=kl.size;have P6:=Hd (kt.out.trans (kl.below (B:=w.heap.size) (λi _ hi=>by omega) Ft));have pa:=Hd kl;clear hV kl BH OB OD Oz Od O8 MZ O7 Oc O6 Ob NZ IB NY MX NQ ML NP Oa NL GX GU CI UO Vb UM Va UL UZ UK UY UJ UX UI UU UH UT UE US UD UR UC Qk Rl j0 j1 kt la lb;have BH:=AB j0' 0 rfl;have OB:=AE j0' 0;have OD:=AB j0' 1 rfl;have Oz:=AE j0' 1;(refine K0u ?_;intro Od O8 MZ O7 Oc O6 Ob NZ IB NY MX NQ ML NP Oa NL GX GU la CI UO Vb UM Va UL UZ UK UY UJ UX UI UU UH UT UE US UD UR UC Qk);have Rl:=AE j1' 10;have lb:=BG j1';have DR:=Hd (λW:World=>Z6 r s2 A2 (n+1) c2 W);have hd3:=AN.gU s2.x;obtain⟨dy,hdy⟩:=BN (AN.dr s2.x);rw[<-hdy] at DR hd3;have HDY:=Hd hdy;obtain⟨y,hy⟩:=BN (AN.nx s2.x);rw[<-hy] at DR;have HY:=Hd hy;obtain⟨d3,d4⟩:=hd3;clear hdy hy;simp only[TN,OY] at*;go_wp2_with fail;refine(DR.out _).mono ?_;rintro e w4 ⟨rfl,GA⟩;have QP:=GA.size;have i0:=AH j0' GA Ft;have i1:=AH j1' GA Ft;have Qo:=Hd GA;clear GA BH OB OD Oz Od O8 MZ O7 Oc O6 Ob NZ IB NY MX NQ ML NP Oa NL GX GU CI UO Vb UM Va UL UZ UK UY UJ UX UI UU UH UT UE US UD UR UC Qk Rl j0' j1' la lb DR;refine jD i0 ?_;intro BH OB OD Oz Od O8 MZ O7 Oc O6 Ob NZ IB NY MX NQ ML NP Oa NL GX GU;have la:=BG i0;refine jD i1 ?_;intro CI UO Vb UM Va UL UZ UK UY UJ UX UI UU UH UT UE US UD UR UC Qk Rl;have lb:=BG i1;go_upto_region 15 with fail;generalize hV:World.setCell _ _ _=W5;(have i0':W5.heap[w.heap.size]?=some (.cells #[Iv r.BY,Iv r.AY,Iv r.least,Iv r.BU,Iv r.seed,.int .u64 y,Iv s2.now,.slice A2 (n+1) c2,Iv s2.BB,Iv s2.lost,Iv s2.P9] 136 (0,0)):=by rw[<-hV];exact Fl);(have i1':W5.heap[w.heap.size+1]?=some (.cells ei 136 (0,0)):=by rw[<-hV];exact Af);(have qX:AG (λi=>i=w.heap.size\/i=w.heap.size+1) w4 W5:=by rw[<-hV];exact Ak);have Abx:=qX.size;have JD:=Hd ((P6.out.trans (Qo.out.mono Ft)).trans (qX.below (B:=w.heap.size) (λi _ hi=>by omega) Ft));clear hV BH OB OD Oz Od O8 MZ O7 Oc O6 Ob NZ IB NY MX NQ ML NP Oa NL GX GU CI UO Vb UM Va UL UZ UK UY UJ UX UI UU UH UT UE US UD UR UC Qk Rl i0 i1 la lb;have A8T:=Hd (show AG (λi=>i=w.heap.size\/i=w.heap.size+1) w2 W5 from(pa.out.trans (AG.AS Qo.out (S:=λ_=>False)) (λ_ _ h=>absurd h id)).trans qX (λ_ _ h=>h));clear qX pa Qo P6;have BH:=AB i0' 0 rfl;have OB:=AE i0' 0;have OD:=AB i0' 1 rfl;have Oz:=AE i0' 1;have Od:=AB i0' 2 rfl;have O8:=AE i0' 2;have MZ:=AB i0' 3 rfl;have O7:=AE i0' 3;have Oc:=AB i0' 4 rfl;have O6:=AE i0' 4;have Ob:=AB i0' 5 rfl;have NZ:=AE i0' 5;have IB:=AB i0' 6 rfl;have NY:=AE i0' 6;have MX:=AB i0' 7 rfl;have NQ:=AE i0' 7;have ML:=AB i0' 8 rfl;have NP:=AE i0' 8;have Oa:=AB i0' 9 rfl;have NL:=AE i0' 9;have GX:=AB i0' 10 rfl;have GU:=AE i0' 10;have la:=BG i0';have CI:=AB i1' 0 rfl;have UO:=AE i1' 0;have Vb:=AB i1' 1 rfl;have UM:=AE i1' 1;have Va:=AB i1' 2 rfl;have UL:=AE i1' 2;have UZ:=AB i1' 3 rfl;have UK:=AE i1' 3;have UY:=AB i1' 4 rfl;have UJ:=AE i1' 4;have UX:=AB i1' 5 rfl;have UI:=AE i1' 5;have UU:=AB i1' 6 rfl;have UH:=AE i1' 6;have UT:=AB i1' 7 rfl;have UE:=AE i1' 7;have US:=AB i1' 8 rfl;have UD:=AE i1' 8;have UR:=AB i1' 9 rfl;have UC:=AE i1' 9;have Qk:=AB i1' 10 rfl;have Rl:=AE i1' 10;have lb:=BG i1'
  by_cases htw:dy%1000<r.AY
  ·have HTT:=Hd (show AN.VM r s2=true by unfold AN.VM;rw[<-HDY.out];exact IU htw);obtain⟨s4,hs4⟩:=BN (AN.br r s2 d);(have hu4:s4.u.length=n+2:=by rw[hs4];simp[AN.br,AN.put,HU2.out]);have PUT:=Hd (show ∀W:World,IW W (λi=>(X i/\i<w.heap.size)\/W1.heap.size<=i) A2 (n+1) s2.u->Rd W W.heap.size D m d->Calls prog 167 #[.agg #[Iv r.BY,Iv r.AY,Iv r.least,Iv r.BU,Iv r.seed,.int .u64 y,Iv s2.now,.slice A2 (n+1) c2,Iv s2.BB,Iv s2.lost,Iv (s2.P9+1)],Iv now,.slice D m cap] W (YJ (λi=>(X i/\i<w.heap.size)\/W1.heap.size<=i) r s4 (n+1+1) W) from λW hW hDW=>by
    rw[hs4,HY.out];exact cX r {s2 with x:=AN.nx s2.x,P9:=s2.P9+1} A2 (n+1) c2 now D m cap d W HR.out Ft A9Q.out.2.1 Ft _ hW Ft hDW)
   have A8V:=Hd (show AN.send r s now d=s4 by rw[A3W.out,AW HTT.out,hs4]);have HU4:=Hd hu4;have hKd:AG (λi=>i=w.heap.size\/i=w.heap.size+1) W5 (W5.setCell (Ad w.heap.size 10) (Iv (s2.P9+1))):=Ak;have oB:=Hd ((HW2.out.IE (A8T.out.trans hKd (λ_ _ h=>h)) (λi hi hs=>by rcases hi with hi|hi<;>omega)));have Xo:=Hd (((HD.out.below JD.out (Lr _)).set (p:=(Ad w.heap.size 10)) (Lr _) (Iv (s2.P9+1))).more (show w.heap.size<=(W5.setCell (Ad w.heap.size 10) (Iv (s2.P9+1))).heap.size from by have:=hKd.size;omega));have hzd:=hKd.size;have e0:=AP i0' 10 (Iv (s2.P9+1));have e1:=CV i1' (a:=(Ad w.heap.size 10)) Fu (Iv (s2.P9+1));have HBd:=Hd (JD.out.trans (hKd.below (B:=w.heap.size) (λi _ hi=>by omega) Ft));have HE0:=Hd e0;have sa:=Hd e1;clear hs4 hu4 hKd e0 e1;(try simp only[TN,OY] at*);go_wp2_with fail;refine(PUT.out _ oB.out Xo.out).mono ?_;rintro e w6 ⟨A4,c4,rfl,hw6,ya,Se⟩;have Xi:=Se.size;have e0:=AH HE0.out Se (by have:=BG HE0.out;exact this);have e1:=AH sa.out Se (by have:=BG sa.out;exact this);have HW6:=Hd hw6;have Vh:=Hd (HBd.out.trans (Se.mono Ft));clear Se hw6 BH OB OD Oz Od O8 MZ O7 Oc O6 Ob NZ IB NY MX NQ ML NP Oa NL GX GU CI UO Vb UM Va UL UZ UK UY UJ UX UI UU UH UT UE US UD UR UC Qk Rl i0' i1' oB Xo PUT HE0 sa la lb;(try simp only[TN,OY] at*);have e0':w6.heap[w.heap.size]?=some (.cells #[Iv r.BY,Iv r.AY,Iv r.least,Iv r.BU,Iv r.seed,.int .u64 y,Iv s2.now,.slice A2 (n+1) c2,Iv s2.BB,Iv s2.lost,Iv (s2.P9+1)] 136 (0,0)):=e0;clear e0;have BH:=AB e0' 0 rfl;have OB:=AE e0' 0;have OD:=AB e0' 1 rfl;have Oz:=AE e0' 1;have Od:=AB e0' 2 rfl;have O8:=AE e0' 2;have MZ:=AB e0' 3 rfl;have O7:=AE e0' 3;have Oc:=AB e0' 4 rfl;have O6:=AE e0' 4;have Ob:=AB e0' 5 rfl;have NZ:=AE e0' 5;have IB:=AB e0' 6 rfl;have NY:=AE e0' 6;have MX:=AB e0' 7 rfl;have NQ:=AE e0' 7;have ML:=AB e0' 8 rfl;have NP:=AE e0' 8;have Oa:=AB e0' 9 rfl;have NL:=AE e0' 9;have GX:=AB e0' 10 rfl;have GU:=AE e0' 10;have la:=BG e0';refine jD e1 ?_;intro CI UO Vb UM Va UL UZ UK UY UJ UX UI UU UH UT UE US UD UR UC Qk Rl;have lb:=BG e1;go_upto_region 18 with fail;generalize hV:World.setCell _ _ _=W7;(have j0':W7.heap[w.heap.size]?=some (.cells #[Iv r.BY,Iv r.AY,Iv r.least,Iv r.BU,Iv r.seed,.int .u64 s4.x,Iv s4.now,.slice A4 (n+1+1) c4,Iv s4.BB,Iv s4.lost,Iv s4.P9] 136 (0,0)):=by rw[<-hV];exact Fl);(have j1':W7.heap[w.heap.size+1]?=some (.cells ei 136 (0,0)):=by rw[<-hV];exact Af);(have hK7:AG (λi=>i=w.heap.size\/i=w.heap.size+1) w6 W7:=by rw[<-hV];exact Ak);have Abw:=hK7.size;clear hV BH OB OD Oz Od O8 MZ O7 Oc O6 Ob NZ IB NY MX NQ ML NP Oa NL GX GU CI UO Vb UM Va UL UZ UK UY UJ UX UI UU UH UT UE US UD UR UC Qk Rl e0' e1 la lb;have BH:=AB j0' 0 rfl;have OB:=AE j0' 0;have OD:=AB j0' 1 rfl;have Oz:=AE j0' 1;(refine K0u ?_;intro Od O8 MZ O7 Oc O6 Ob NZ IB NY MX NQ ML NP Oa NL GX GU la CI UO Vb UM Va UL UZ UK UY UJ UX UI UU UH UT UE US UD UR UC Qk);have Rl:=AE j1' 10;have lb:=BG j1';go_wp2_with fail;(refine jO ?_;intro Wf MH);(have hf:Wf.heap[w.heap.size+1]?=some (.cells #[Iv r.BY,Iv r.AY,Iv r.least,Iv r.BU,Iv r.seed,.int .u64 s4.x,Iv s4.now,.slice A4 (n+1+1) c4,Iv s4.BB,Iv s4.lost,Iv s4.P9] 136 (0,0)):=by rw[<-MH];exact Fl);(have gI:AG (λi=>i=w.heap.size\/i=w.heap.size+1) W7 Wf:=by rw[<-MH];exact Ak);clear MH j0' j1' BH OB OD Oz Od O8 MZ O7 Oc O6 Ob NZ IB NY MX NQ ML NP Oa NL GX GU CI UO Vb UM Va UL UZ UK UY UJ UX UI UU UH UT UE US UD UR UC Qk Rl;(refine uo ?_;intro IK lm);refine IT (v:= .tuple #[.agg #[Iv r.BY,Iv r.AY,Iv r.least,Iv r.BU,Iv r.seed,.int .u64 s4.x,Iv s4.now,.slice A4 (n+1+1) c4,Iv s4.BB,Iv s4.lost,Iv s4.P9],Iv 0]) ?_ rfl ?_
   ·simp[results,results142,go_sem,IK]
   ·have tK:=hK7.trans gI (λ_ _ h=>h);have hB:Below w.heap.size w Wf:=Vh.out.trans (tK.below (λi _ hi=>by omega) Ft);rw[A8V.out];refine⟨A4,c4,?_,?_,?_,hB⟩
    ·simp only[TN,OY,HU4.out]
    ·simp only[HU4.out];exact(HW6.out.IE tK (λi hi hs=>by rcases hi with(hi|hi)|hi<;>omega)).mono (λi hi=>hi.elim (λh=>h.imp (λh=>h.1) (λh=>by omega)) (λh=> .inr Ft))
    ·simp only[HU4.out];exact ya
  ·have HTT:=Hd (show AN.VM r s2=false by unfold AN.VM;rw[<-HDY.out];exact ME htw);go_wp2_with fail;(refine jO ?_;intro Wf MH);(have hf:Wf.heap[w.heap.size+1]?=some (.cells #[Iv r.BY,Iv r.AY,Iv r.least,Iv r.BU,Iv r.seed,.int .u64 y,Iv s2.now,.slice A2 (n+1) c2,Iv s2.BB,Iv s2.lost,Iv s2.P9] 136 (0,0)):=by rw[<-MH];exact Fl);(have gI:AG (λi=>i=w.heap.size\/i=w.heap.size+1) W5 Wf:=by rw[<-MH];exact Ak);clear MH i0' i1' BH OB OD Oz Od O8 MZ O7 Oc O6 Ob NZ IB NY MX NQ ML NP Oa NL GX GU CI UO Vb UM Va UL UZ UK UY UJ UX UI UU UH UT UE US UD UR UC Qk Rl;(refine uo ?_;intro IK lm);refine IT (v:= .tuple #[.agg #[Iv r.BY,Iv r.AY,Iv r.least,Iv r.BU,Iv r.seed,.int .u64 y,Iv s2.now,.slice A2 (n+1) c2,Iv s2.BB,Iv s2.lost,Iv s2.P9],Iv 0]) ?_ rfl ?_
   ·simp[results,results142,go_sem,IK]
   ·have hB:Below w.heap.size w Wf:=JD.out.trans (gI.below (λi _ hi=>by omega) Ft);have tK:=A8T.out.trans gI (λ_ _ h=>h);rw[A3W.out,AO (by rw[HTT.out];simp)];refine⟨A2,c2,?_,?_,?_,hB⟩
    ·simp only[TN,OY,HU2.out,HY.out]
    ·simp only[HU2.out];exact(HW2.out.IE tK (λi hi hs=>by rcases hi with hi|hi<;>omega)).mono (λi hi=>hi.imp (λh=>h.1) (λh=>by omega))
    ·simp only[HU2.out];exact XC
theorem uY(r:AN.Ru)(s:AN.St)(A:Option Addr)(n c:Nat)(now:Int)(D:Option Addr)(m cap:Nat)(d:List Int)(w:World)(fg:n=s.u.length)(hr:AN.MP r=true)(hs:AN.Inv s)(Wi:s.BB<1000000000000000)(X:Nat->Prop)(h:IW w X A n s.u)(Xz:n<=c)
  (hm:m<=140737488355328)(hd:Rd w w.heap.size D m d):
  Calls prog 142 #[TN r s A n c,Iv now,.slice D m cap] w (Sn X r (AN.send r s now d) (AN.IC s now m) w):=by
 by_cases he:AN.IC s now m=0
 ·rw[he];exact uX r s A n c now D m cap d w fg hr hs Wi X h Xz hd he
 ·refine(zg r s A n c now D m cap w fg hm (by have:=hs.2.2.1;omega) he).mono ?_;rintro e w' ⟨rfl,hB⟩;rw[sx (by rw[hd.1];exact he)];subst fg;exact⟨A,c,rfl,(h.bound.below hB (λi hi=>hi.2)).mono (λi hi=> .inl hi.1),Xz,hB⟩
theorem bF(r:AN.Ru)(s:AN.St)(A:Option Addr)(n c:Nat)(now:Int)(k f t q:Int)(D:Option Addr)(m cap:Nat)(d:List Int)(w:World)(fg:n=s.u.length)(hr:AN.MP r=true)(hs:AN.Inv s)(Wi:s.BB<1000000000000000)(X:Nat->Prop)(h:IW w X A n s.u)(Xz:n<=c)
  (hm:m<=140737488355328)(hd:Rd w w.heap.size D m d):
  Calls prog 115 #[TN r s A n c,Iv now,.agg #[Iv k,Iv f,Iv t,Iv q,.slice D m cap]] w (Sn X r (ez r s now k f t q d) (xP s now k f t q m) w):=by
 have GZ:=hd.1;have HW:=Hd h.bound;have HNU:=Hd fg
 cases hv:AQ.vd k f t q m
 ·have EN:=Hd (λ(W:World)=>A2t k f t q D m cap W hm hv);have E1:=Hd (show xP s now k f t q m=2 by unfold xP;rw[AO (by rw[hv];simp)]);have E2:=Hd (show ez r s now k f t q d=s by unfold ez;rw[AO (by rw[GZ,hv];simp)]);clear hv h hd hs hr GZ fg;simp only[TN,OY] at*;go_enter func115,ntmps115;go_wp2_with fail;refine(EN.out _).mono ?_;rintro e w1 ⟨rfl,BX⟩;have IJ:=BX.size;(try simp at IJ);(refine K0R ?_;intro k0 k1);have DF:=Hd (show Below w.heap.size w w1 from A9);clear BX;have BH:=GN k0;have la:=BG k0;have CI:=GN k1;have lb:=BG k1;go_wp2_with fail;(refine jO ?_;intro Wf MH);(have hf:Wf.heap[w.heap.size+2]?=some (.cells #[Iv r.BY,Iv r.AY,Iv r.least,Iv r.BU,Iv r.seed,.int .u64 s.x,Iv s.now,.slice A n c,Iv s.BB,Iv s.lost,Iv s.P9] 136 (0,0)):=by rw[<-MH];exact Fl);have hB1':=DF.out;(have hB:Below w.heap.size w Wf:=by rw[<-MH];exact A9);clear MH k0 k1;(refine uo ?_;intro IK lm);refine IT (v:= .tuple #[.agg #[Iv r.BY,Iv r.AY,Iv r.least,Iv r.BU,Iv r.seed,.int .u64 s.x,Iv s.now,.slice A n c,Iv s.BB,Iv s.lost,Iv s.P9],Iv 2]) ?_ rfl ?_
  ·simp[results,results115,go_sem,IK]
  ·rw[E1.out,E2.out];refine⟨A,c,?_,?_,?_,hB⟩
   ·simp only[TN,OY,HNU.out]
   ·rw[<-HNU.out];exact(HW.out.below hB (λi hi=>hi.2)).mono (λi hi=> .inl hi.1)
   ·rw[<-HNU.out];exact Xz
 ·have QK:m<=64:=(AQ.Xc hv).2.2.2.2;have EN:=Hd (λ(W:World)(hW:Rd W W.heap.size D m d)=>zB k f t q D m cap d W hv hW);obtain⟨s3,hs3⟩:=BN (ez r s now k f t q d);have E1:=Hd (show xP s now k f t q m=AN.IC s now (m+10) by unfold xP;rw[AW hv]);have SD:=Hd (show ∀(W:World)(A':Option Addr)(IA:Nat),IW W (λi=>X i/\i<w.heap.size) A n s.u->Rd W W.heap.size A' (m+10) (AQ.enc k f t q d)->Calls prog 142 #[TN r s A n c,Iv now,.slice A' (m+10) IA] W (Sn (λi=>X i/\i<w.heap.size) r s3 (AN.IC s now (m+10)) W) from λW A' IA hW hR=>by
   (have e:s3=AN.send r s now (AQ.enc k f t q d):=by rw[hs3];unfold ez;rw[AW (by rw[GZ];exact hv)]);rw[e];exact uY r s A n c now A' (m+10) IA (AQ.enc k f t q d) W fg hr hs Wi _ hW Xz Ft hR)
  obtain⟨x,hx⟩:=BN (AN.IC s now (m+10));rw[<-hx] at SD E1;have HD:=Hd hd;have HS3:=Hd hs3;clear hv h hd hs hr GZ fg hs3 hx;simp only[TN,OY] at*;go_enter func115,ntmps115;go_wp2_with fail;refine(EN.out _ (((HD.out.alloc (Lr _) _).alloc Fu _).alloc Fp _|>.more Fp)).mono ?_;rintro e w1 ⟨A1,OC,rfl,hO,BX⟩;have IJ:=BX.size;(try simp at IJ);(refine K0R ?_;intro k0 k1);have Q6:=(show Below w.heap.size w w1 from A9);have DF:=Hd Q6;have oB:=Hd (HW.out.below Q6 (λi hi=>hi.2));have Xo:=Hd hO.rd;clear BX Q6 hO EN;have BH:=GN k0;have la:=BG k0;go_wp2_with fail;refine(SD.out _ _ _ oB.out Xo.out).mono ?_;rintro e w2 ⟨A2,c2,rfl,hw2,XC,CB⟩;have Ot:=CB.size;have j1:=AH k1 CB Ft;have HW2:=Hd hw2;have NB:=Hd (DF.out.trans (CB.mono Ft));clear CB hw2 BH k0 k1 la oB Xo SD;simp only[TN,OY] at*;have CI:=GN j1;have lb:=BG j1;go_wp2_with fail;(refine jO ?_;intro Wf MH);(have hf:Wf.heap[w.heap.size+2]?=some (.cells #[Iv r.BY,Iv r.AY,Iv r.least,Iv r.BU,Iv r.seed,.int .u64 s3.x,Iv s3.now,.slice A2 s3.u.length c2,Iv s3.BB,Iv s3.lost,Iv s3.P9] 136 (0,0)):=by rw[<-MH];exact Fl);(have gI:AG (λi=>i=w.heap.size\/i=w.heap.size+2) w2 Wf:=by rw[<-MH];exact Ak);clear MH j1 CI;(refine uo ?_;intro IK lm);refine IT (v:= .tuple #[.agg #[Iv r.BY,Iv r.AY,Iv r.least,Iv r.BU,Iv r.seed,.int .u64 s3.x,Iv s3.now,.slice A2 s3.u.length c2,Iv s3.BB,Iv s3.lost,Iv s3.P9],Iv x]) ?_ rfl ?_
  ·simp[results,results115,go_sem,IK]
  ·have hB:Below w.heap.size w Wf:=NB.out.trans (gI.below (λi _ hi=>by omega) Ft);rw[E1.out,<-HS3.out];refine⟨A2,c2,rfl,?_,XC,hB⟩;exact(HW2.out.IE gI (λi hi hs=>by rcases hi with hi|hi<;>omega)).mono (λi hi=>hi.imp (λh=>h.1) (λh=>by omega))
theorem qz(r:AN.Ru)(s:AN.St)(A:Option Addr)(n c:Nat)(now:Int)(w:World)(he:AN.FU s now≠0):
  Calls prog 84 #[TN r s A n c,Iv now] w (IL (.tuple #[TN r s A n c,.slice none 0 0,Iv 3]) w):=by
 have cases:now<s.now\/(s.now<=now/\1073741824<now):=by
  unfold AN.FU at he
  by_cases h1:s.now<=now/\now<=1073741824
  ·rw[AW h1] at he;exact absurd rfl he
  ·omega
 clear he;simp only[TN,OY] at*
 rcases cases with h1|⟨h1,h2⟩
 all_goals
  go_enter func84,ntmps84;go_wp2_with fail;refine IT (v:= .tuple #[.agg #[Iv r.BY,Iv r.AY,Iv r.least,Iv r.BU,Iv r.seed,.int .u64 s.x,Iv s.now,.slice A n c,Iv s.BB,Iv s.lost,Iv s.P9],.slice none 0 0,Iv 3]) ?_ rfl ⟨rfl,A9⟩;simp[results,results84,go_sem]
def xF(X:Nat->Prop)(r:AN.Ru)(s:AN.St)(now:Int)(w:World)(e:Ending)(w':World):Prop:=
 ∃A' c' oA n oc,e= .returned (.tuple #[TN r (AN.recv s now) A' (AN.recv s now).u.length c',.slice oA n oc,Iv 0])/\IW w' (λi=>X i\/w.heap.size<=i) A' (AN.recv s now).u.length (AN.recv s now).u/\(AN.recv s now).u.length<=c'/\
  Rb w' w.heap.size w'.heap.size oA n ((AN.Vo s now).map (·.2))/\Below w.heap.size w w'
def A4S(rl:List RM)(now:Int)(n:Nat)(W:World)(H:Nat)(v7 v8 v9:Value)(wr:World):Prop:=
 ∃(k:Nat)(oA:Option Addr)(on oc:Nat)(ro:List RM)(lA:Option Addr)(ln lc:Nat)(rf:List RM),v9=Iv k/\k<=n/\v7= .slice oA on oc/\v8= .slice lA ln lc/\on<=k/\ln<=k/\
  ro.map RM.msg=AN.OG (((rl.map RM.msg).take k).filter (λm=>decide (m.1<=now)))/\(∀m∈ro,m∈rl)/\Row wr H 203 2 oA on oc (Ox ro)/\(∀g,AK oA=some g->AK lA≠some g)/\
  rf.map RM.msg=((rl.map RM.msg).take k).filter (λm=>decide (now<m.1))/\(∀m∈rf,m∈rl)/\Row wr H 203 2 lA ln lc (Ox rf)/\Below H W wr
theorem Reads.A6X(w:World)(a b:Value)(t:TypeId):Reads (w.alloc (.cells #[a,b] t)) (w.heap.size+1) 2 (some (Ad w.heap.size 0)) 1 [a,b]:=by
 refine⟨rfl,λ_=>⟨_,rfl,by simp,λi u hu=> ?_⟩⟩;rw[CP,PL];exact AB (l:=[a,b]) (AM w (.cells #[a,b] t)) i hu
theorem A0H{ro:List RM}{m:RM}{i:Nat}{u:List AN.Q7}(hro:ro.map RM.msg=AN.OG u)(hi:i<=ro.length)(h1:∀(h:0<i),∀x,ro[i-1]?=some x->x.t<=m.t)(h2:∀j x,ro[j]?=some x->i<=j->m.t<x.t):
  (ro.take i++([m]++ro.drop i)).map RM.msg=AN.OG (u++[m.msg]):=by
 (have hl:(AN.OG u).length=ro.length:=by rw[<-hro,WW]);(have JV:∀j (h:j<(AN.OG u).length),∃x,ro[j]?=some x/\(AN.OG u)[j]=x.msg:=λj h=>by(have hj:j<ro.length:=by omega);refine⟨ro[j],Gg hj,?_⟩;(have:(AN.OG u)[j]?=some (ro[j].msg):=by rw[<-hro,TV,Gg hj];rfl);rw[Gg h] at this;exact Option.some.inj this);rw[AN.QU,AN.ng (m:=m.msg) (AN.QI u) (i:=i) Ft (λh=> ?_) (λj hj hij=> ?_),<-hro]
 ·simp[List.map_take,List.map_drop]
 ·obtain⟨x,hx,e⟩:=JV (i-1) Ft;rw[e];exact h1 h x hx
 ·obtain⟨x,hx,e⟩:=JV j hj;rw[e];exact h2 j x hx hij
theorem lH{rl:List RM}{now:Int}{n:Nat}{W wo Vq w1 w2 w3:World}{H k on ln i N c3 lc:Nat}{oA lA A3:Option Addr}{ro rf:List RM}{m:RM}{ys:List Value}(hk:k<n)(hm:rl[k]?=some m)(GK:m.t<=now)(hi:i<=on)(xY:on<=k)(hln:ln<=k)
  (hro:ro.map RM.msg=AN.OG (((rl.map RM.msg).take k).filter (λm=>decide (m.1<=now))))(A0R:∀m∈ro,m∈rl)(hlen:ro.length=on)(h1:∀(h:0<i),∀x,ro[i-1]?=some x->x.t<=m.t)(h2:∀j x,ro[j]?=some x->i<=j->m.t<x.t)
  (CF:Row w3 Vq.heap.size 203 2 A3 N c3 ys)(hN:N=on+1)(hH:H<=wo.heap.size)(A5A:∀g,AK oA=some g->AK lA≠some g)
  (hrf:rf.map RM.msg=((rl.map RM.msg).take k).filter (λm=>decide (now<m.1)))(A2V:∀m∈rf,m∈rl)(A0S:Row Vq H 203 2 lA ln lc (Ox rf))(hV:wo.heap.size<Vq.heap.size)
  (nH:Below wo.heap.size wo Vq)(BX:Below Vq.heap.size Vq w1)(CB:Below Vq.heap.size w1 w2)(JZ:Below Vq.heap.size w2 w3)(hB:Below H W wo)(hys:ys=Ox (ro.take i++([m]++ro.drop i))):
  A4S rl now n W H (.slice A3 N c3) (.slice lA ln lc) (Iv (k+1)) w3:=by
 (subst hys;subst hN);(have hTK:(rl.map RM.msg).take (k+1)=(rl.map RM.msg).take k++[m.msg]:=by rw[sS,TV,hm];rfl);have A9o:=A0H (m:=m) hro (by omega:i<=ro.length) h1 h2;have z1:=BX.size;have z2:=CB.size;have z3:=JZ.size;have A7A:Below Vq.heap.size Vq w3:=(BX.trans CB).trans JZ;refine⟨k+1,A3,on+1,c3,ro.take i++([m]++ro.drop i),lA,ln,lc,rf,by go_num,by omega,rfl,rfl,by omega,by omega,?_,?_,CF.more Ft,?_,?_,A2V,A0S.below A7A (Lr _),?_⟩
 ·rw[A9o,hTK,pX,List.filter_cons_of_pos B7];rfl
 ·intro y hy
  rcases List.mem_append.1 hy with hy|hy
  ·exact A0R y (cj hy)
  ·rcases List.mem_append.1 hy with hy|hy
   ·rw[List.mem_singleton.1 hy];exact pZ hm
   ·exact A0R y (vF hy)
 ·intro g hg e;have h3:=(CF.lt hg).1;have h4:=(A0S.lt e).2;omega
 ·rw[hTK,pX,hrf,List.filter_cons_of_neg B7];simp
 ·exact(hB.trans (nH.mono hH)).trans (A7A.mono Ft)
def A8J(ro:List RM)(on:Nat)(V:World)(H:Nat)(XT ZV:Value)(wr:World):Prop:=
 ∃(k:Nat)(bA:Option Addr)(bc:Nat)(rb:List oV),ZV=Iv k/\k<=on/\XT= .slice bA k bc/\Row wr H 47 1 bA k bc (WU rb)/\JN wr H wr.heap.size rb/\
  (∀x∈rb,∀a,x.A=some a->a.block<wr.heap.size/\AK bA≠some a.block)/\rb.map (·.d)=(ro.take k).map (·.d)/\Below H V wr
theorem zW{wr w1 w4:World}{H j bc c1:Nat}{bA A4 A1:Option Addr}{E:TypeId}{rb:List oV}{d:List Int}(qT:Row wr H E 1 bA j bc (WU rb))(hg:JN wr H wr.heap.size rb)(hx:∀x∈rb,∀a,x.A=some a->a.block<wr.heap.size/\AK bA≠some a.block)
  (ho:Ow w1 wr.heap.size A1 d.length c1 d)(BX:Below wr.heap.size wr w1)(o:Obj)(VH:(w1.alloc o).grownBy w4 (AK bA))(JV:AK A4=AK bA\/AK A4=some (w1.heap.size+1))(hH:H<=wr.heap.size):
  JN w4 H w4.heap.size (rb++[⟨A1,c1,d⟩])/\∀y∈rb++[⟨A1,c1,d⟩],∀a,y.A=some a->a.block<w4.heap.size/\AK A4≠some a.block:=by
 have z1:=BX.size;(have z4:w1.heap.size+1<=w4.heap.size:=by have:=VH.size;simpa using this);have hA1:∀a,A1=some a->wr.heap.size<=a.block/\a.block<w1.heap.size:=by
  intro a ha
  rcases ho.form with⟨h1,_⟩|⟨g,h1,h2,h3,_⟩
  ·rw[h1] at ha;cases ha
  ·rw[h1] at ha;injection ha with ha;rw[<-ha];exact⟨h2,h3⟩
 have k14:AG (λi=>AK bA=some i) w1 w4:=((AG.refl _ w1).alloc o).trans (AG.JK VH (S:=λi=>AK bA=some i) (λg h=>h)) (λ_ _ h=>h);have k04:AG (λi=>AK bA=some i) wr w4:=(AG.AS BX (S:=λi=>AK bA=some i)).trans k14 (λ_ _ h=>h);refine⟨JN.snoc ((hg.kept k04 (Lr _) (λx hx' a ha=>(hx x hx' a ha).2)).more Ft) ⟨?_,?_,?_,?_,?_⟩,?_⟩
 ·exact(ho.rd.kept k14 (Lr _) (λa ha e=>by have h1:=(qT.lt e).2;have h2:=(hA1 a ha).1;omega)).more Ft
 ·intro a ha;have:=(hA1 a ha).1;omega
 ·rcases ho.form with⟨h1,h2,h3⟩|⟨g,h1,h2,h3,h4,h5⟩
  ·simp only;omega
  ·exact h4
 ·rcases ho.form with⟨h1,h2,h3⟩|⟨g,h1,h2,h3,h4,h5⟩
  ·simp only[h3];unfold maxLen;omega
  ·exact h5
 ·intro h0
  rcases ho.form with⟨h1,h2,h3⟩|⟨g,h1,h2,h3,h4,h5⟩
  ·exact h2
  ·simp only[h1] at h0;cases h0
 ·intro y hy a ha
  rcases List.mem_append.1 hy with hy|hy
  ·obtain⟨g1,g2⟩:=hx y hy a ha;refine⟨by omega,λe=> ?_⟩
   rcases JV with h5|h5
   ·exact g2 Eg
   ·rw[h5] at e;injection e with e;omega
  ·rw[List.mem_singleton.1 hy] at ha;obtain⟨g1,g2⟩:=hA1 a ha;refine⟨by omega,λe=> ?_⟩
   rcases JV with h5|h5
   ·have:=(qT.lt Eg).2;omega
   ·rw[h5] at e;injection e with e;omega
theorem uZ(r:AN.Ru)(s:AN.St)(A:Option Addr)(n c:Nat)(now:Int)(w:World)(fg:n=s.u.length)(hs:AN.Inv s)(X:Nat->Prop)(h:IW w X A n s.u)(Xz:n<=c)(he:AN.FU s now=0):
  Calls prog 84 #[TN r s A n c,Iv now] w (xF X r s now w):=by
 obtain⟨i0,hiA,xT,hzB,qG⟩:=MQ fI;obtain⟨j0,hjA,hyA,hyB,hyC⟩:=MQ Sd;obtain⟨b0,x9,hxA,hxB,hxC⟩:=MQ dY;have A79:s.now<=now/\now<=1073741824:=by
  unfold AN.FU at he;split at he
  ·assumption
  ·omega
 obtain⟨rl,hu,WZ,nD,hxa,hxm⟩:=h.bound;(have YO:n<=1000:=by have:=hs.2.2.1;omega);(have hlen:rl.length=n:=by have:=WZ.1;rw[Q3] at this;omega);have Xo:=Hd WZ;have HG:=Hd nD;have HXA:=Hd hxa;have HXM:=Hd hxm;have HU:=Hd hu;have A3V:=Hd hlen;have HE:=Hd he;have HNU:=Hd fg;have HS:=Hd hs;clear h WZ nD hxa hxm hu hlen he fg hs;simp only[TN,OY] at*;go_enter func84,ntmps84;go_wp2_with fail;generalize hW:World.alloc _ _=W;(have k0:W.heap[w.heap.size]?=some (.cells #[Iv r.BY,Iv r.AY,Iv r.least,Iv r.BU,Iv r.seed,.int .u64 s.x,Iv now,.slice A n c,Iv s.BB,Iv s.lost,Iv s.P9] 136 (0,0)):=by rw[<-hW];exact Af);(have k1:W.heap[w.heap.size+1]?=some (.cells ei 136 (0,0)):=by rw[<-hW];exact Af);(have hBW:Below w.heap.size w W:=by rw[<-hW];exact A9);(have tx:w.heap.size+2<=W.heap.size:=by have:=BG k1;omega);have K0:=Hd k0;have K1:=Hd k1;have Rx:=Hd hBW;clear hW k0 k1 hBW;go_loopw[7,8,9] (λv7 v8 v9 wr=>A4S rl now n W W.heap.size v7 v8 v9 wr) (λ_ _ i _=>n-(intOf i).toNat)
 case atStart=>exact⟨0,none,0,0,[],none,0,0,[],by go_num,Pe _,rfl,rfl,Pe _,Pe _,rfl,(λm hm=>by cases hm),Row.nil _ _ _ _,(λg hg=>by cases hg),rfl,(λm hm=>by cases hm),Row.nil _ _ _ _,QZ _ _⟩
 case round=>
  obtain⟨k,oA,on,oc,ro,lA,ln,lc,rf,rfl,hk,rfl,rfl,xY,hln,hro,A0R,CF,A5A,hrf,A2V,A0S,hB⟩:=hrel;have VE:=hB.size;(have Ot:w.heap.size+2<=wr.heap.size:=by omega);have Vp:=Hd hro;have A3T:=Hd A0R;have az:=Hd CF;have A1Z:=Hd A5A;have HRF:=Hd hrf;have A1V:=Hd A2V;have rU:=Hd A0S;have HB:=Hd hB;have k0:=AH K0.out hB Ft;have c7:=AB (l:=[Iv r.BY,Iv r.AY,Iv r.least,Iv r.BU,Iv r.seed,.int .u64 s.x,Iv now,.slice A n c,Iv s.BB,Iv s.lost,Iv s.P9]) k0 7 rfl;clear hro A0R CF A5A hrf A2V A0S hB k0
  by_cases hkl:k<n
  ·obtain⟨b,o,rfl,hb,hc⟩:=Xo.out.2 Ft;obtain⟨m,hm⟩:∃m,rl[k]?=some m:=⟨_,Gg (by rw[A3V.out];exact hkl)⟩;(have aK:∀j u,(Ox rl)[j]?=some u->wr.cell? (Ad b (o+j))=some u:=λj u hu=>((Rx.out.trans (HB.out.mono Ft)).cell (p:=(Ad b (o+j))) hb).trans (hc j u hu));have ct:wr.cell? (Ad b (o+k*2))=some (Iv m.t):=aK _ _ (Y3 hm).1;have cd:wr.cell? (Ad b (o+k*2+1))=some (.slice m.A m.d.length m.c):=aK _ _ (Y3 hm).2;have HM:=Hd hm;(have hkn:(k:Int)<(n:Int):=by omega);clear hc aK hm
   by_cases GK:m.t<=now
   ·obtain⟨wo,rfl⟩:∃wo:World,wo=wr:=⟨_,rfl⟩;have hle:=az.out.le;(have di:ro.length=on:=by have:=az.out.1;rw[Q3] at this;omega);have jQ:=Hd di;have hoc:=hle.1;clear hle di;go_wp2_with fail;(refine Ko ?_;intro V hV);(have hmv:V.heap[wo.heap.size]?=some (.cells #[Iv m.t,.slice m.A m.d.length m.c] 203 (0,0)):=by rw[<-hV];exact AM _ _);(have hbv:Below wo.heap.size wo V:=by rw[<-hV];exact(IH _).alloc (Lr _) _);(have hzv:wo.heap.size+1<=V.heap.size:=by have:=BG hmv;omega);have HMV:=Hd hmv;have XH:=Hd hbv;have cm:V.cell? (Ad wo.heap.size 0)=some (Iv m.t):=AB (l:=[Iv m.t,.slice m.A m.d.length m.c]) hmv 0 rfl;clear hV hmv hbv ct cd;go_loopw[11] (λv wy=>∃i q:Nat,v=Iv i/\i<=on/\wy=V.drewN q/\Hid (∀j x,ro[j]?=some x->i<=j->m.t<x.t)) (λv _=>(intOf v).toNat)
    case atStart=>exact⟨on,0,by go_num,Lr _,rfl,Hd (λj x hx hj=>by rw[R3 (by rw[jQ.out];exact hj)] at hx;cases hx)⟩
    case round=>
     obtain⟨i,q,rfl,hi,rfl,HI⟩:=hrel
     rcases mg i with h0|h0
     ·subst h0;have HIE:=Hd (show ∀(h:0<0),∀x,ro[0-1]?=some x->x.t<=m.t from λh=>absurd h Ft);go_wp2_with fail;go_quiet (fail);(refine K19 ?_;intro Vq hVq nH hzq hmq d0 d1 HOQ HLQ HBQ HMQ ZT);(have b1:((0:Nat):Int)<=(oc:Int):=by omega);(have b2:((0:Nat):Int)<=(on:Int):=by omega);clear hVq nH hmq cm HI HMV XH;go_wp2_with (first
       |(at_builtin;refine BD _ rfl (.const (.slice none 0 0)) (.tmp 65) _ rfl Vq.heap.size 203 i0 _ 2 32 underlying134 hiA xT hzB qG rfl Ft (.slice none 0 0) 0 [] rfl (Ta _ _ _ _) Vq.heap.size _ _ _ (Ox (ro.take 0)) rfl Bn (VQ _) Ee Ft (Lr _) ?_;intro v1 w1 CE GQ LY;simp only[PL,List.nil_append] at CE;obtain⟨A1,c1,rfl⟩:=EZ CE;have IJ:=GQ.size;have oD:=Hd CE;have DF:=Hd (show Below Vq.heap.size Vq w1 from⟨GQ.os,GQ.tape,GQ.output,GQ.size,λj hj=>GQ.block j hj Ea⟩);have oQ:=AH HMQ.out DF.out Ft;have HM1:=Hd oQ;have e0:=AB (l:=[Iv m.t,.slice m.A m.d.length m.c]) oQ 0 rfl;have e1:=AB (l:=[Iv m.t,.slice m.A m.d.length m.c]) oQ 1 rfl;clear CE GQ LY oQ)
       |(at_builtin;refine BD _ rfl (.tmp 67) (.tmp 69) _ rfl Vq.heap.size 203 i0 _ 2 32 underlying134 hiA xT hzB qG rfl Ft (.slice A1 0 c1) 0 (Ox (ro.take 0)) rfl (oD.out.alloc _) (w1.heap.size+1) (some (Ad w1.heap.size 0)) 1 1 [Iv m.t,.slice m.A m.d.length m.c] rfl (Reads.A6X w1 _ _ _) (Yd rfl rfl) Ee Ft Fp ?_;intro v2 w2 Qi Ts Zi;obtain⟨A2,c2,rfl⟩:=EZ Qi;have Ot:=Ts.size;(try simp at Ot);have HO2:=Hd Qi;have NB:=Hd (show Below Vq.heap.size w1 w2 from Xt ((IH _).alloc IJ _) Ts Fp (λg hg=>((oD.out.lt) g hg).1));clear Qi Ts Zi)
       |(at_builtin;refine BD _ rfl (.tmp 71) (.tmp 74) _ rfl Vq.heap.size 203 i0 _ 2 32 underlying134 hiA xT hzB qG rfl Ft (.slice A2 (0+1) c2) (0+1) (Ox (ro.take 0)++[Iv m.t,.slice m.A m.d.length m.c]) rfl HO2.out Vq.heap.size _ _ _ (Ox (ro.drop 0)) rfl (by rw[<-Z4];first|exact(((HOQ.out.below DF.out (Lr _)).below NB.out (Lr _)).cut Ft Ft).reads|exact((HOQ.out.below DF.out (Lr _)).below NB.out (Lr _)).reads) (VQ _) Ee Ft Ft ?_;intro v3 w3 du hg3 jm;obtain⟨A3,c3,rfl⟩:=EZ du;have ZI:=hg3.size;have rY:=Hd du;have P6:=Hd (show Below Vq.heap.size w2 w3 from Xt (IH _) hg3 Ft (λg hg=>((HO2.out.lt) g hg).1));clear du hg3 jm))
      go_roundw
      case rel=>exact lH (i:=0) (H:=W.heap.size) (wo:=wo) (Vq:=Vq) (on:=on) (oA:=oA) hkl HM.out GK Ft xY hln Vp.out A3T.out jQ.out HIE.out ZT.out (Row.GR rY.out) Ft Ft A1Z.out HRF.out A1V.out HLQ.out Ft HBQ.out DF.out NB.out P6.out HB.out Az
      case measure=>simp[intOf];omega
     ·(have qQ:(0:Int)<(i:Int):=by omega);obtain⟨x,hx⟩:∃x,ro[i-1]?=some x:=⟨_,Gg (by rw[jQ.out];omega)⟩;obtain⟨g,o2,cur,hoA,XO,XA,hgg,hgn,hgc,hgf,ag,y9,hgz⟩:=az.out.some_ Ft;subst hoA;have c5:V.cell? (Ad g (o2+(i-1)*2))=some (Iv x.t):=(XH.out.cell (p:=(Ad g (o2+(i-1)*2))) XA).trans (y9 _ _ (Y3 hx).1);(have i1:(0:Int)<=(i:Int)-1:=by omega);(have i2:(i:Int)-1<(on:Int):=by omega);(have i3:((i:Int)-1).toNat=i-1:=by omega);have i4:=GF ((i:Int)-1) Ft;have HXX:=Hd hx;clear hx ag y9 hgz hgg
      by_cases htx:m.t<x.t
      ·go_wp2_with fail;go_quiet (fail);go_wp2_with fail;go_roundw
       case rel=>exact⟨i-1,_,by go_num,by omega,by first|exact World.drewN_drewN _ _ _|rfl,Hd (λj y hy hj=>by
        rcases Oj j i with h|h
        ·(obtain rfl:j=i-1:=by omega);rw[HXX.out] at hy;injection hy with hy;rw[<-hy];exact htx
        ·exact HI.out j y hy h)⟩
       case measure=>simp[intOf];omega
      ·have HIE:=Hd (show ∀(h:0<i),∀y,ro[i-1]?=some y->y.t<=m.t from λh y hy=>by rw[HXX.out] at hy;injection hy with hy;rw[<-hy];omega);go_wp2_with fail;go_quiet (fail);clear c5 i1 i2 i3 i4
       by_cases ki:oc=i
       all_goals
        (refine K19 ?_;intro Vq hVq nH hzq hmq d0 d1 HOQ HLQ HBQ HMQ ZT);(have b1:(i:Int)<=(oc:Int):=by omega);(have b2:(i:Int)<=(on:Int):=by omega);clear hVq nH hmq cm HI HMV XH;go_wp2_with (first
         |(at_builtin;refine BD _ rfl (.const (.slice none 0 0)) (.tmp 65) _ rfl Vq.heap.size 203 i0 _ 2 32 underlying134 hiA xT hzB qG rfl Ft (.slice none 0 0) 0 [] rfl (Ta _ _ _ _) Vq.heap.size _ _ _ (Ox (ro.take i)) rfl Bn (VQ _) Ee Ft (Lr _) ?_;intro v1 w1 CE GQ LY;simp only[PL,List.nil_append] at CE;obtain⟨A1,c1,rfl⟩:=EZ CE;have IJ:=GQ.size;have oD:=Hd CE;have DF:=Hd (show Below Vq.heap.size Vq w1 from⟨GQ.os,GQ.tape,GQ.output,GQ.size,λj hj=>GQ.block j hj Ea⟩);have oQ:=AH HMQ.out DF.out Ft;have HM1:=Hd oQ;have e0:=AB (l:=[Iv m.t,.slice m.A m.d.length m.c]) oQ 0 rfl;have e1:=AB (l:=[Iv m.t,.slice m.A m.d.length m.c]) oQ 1 rfl;clear CE GQ LY oQ)
         |(at_builtin;refine BD _ rfl (.tmp 67) (.tmp 69) _ rfl Vq.heap.size 203 i0 _ 2 32 underlying134 hiA xT hzB qG rfl Ft (.slice A1 i c1) i (Ox (ro.take i)) rfl (oD.out.alloc _) (w1.heap.size+1) (some (Ad w1.heap.size 0)) 1 1 [Iv m.t,.slice m.A m.d.length m.c] rfl (Reads.A6X w1 _ _ _) (Yd rfl rfl) Ee Ft Fp ?_;intro v2 w2 Qi Ts Zi;obtain⟨A2,c2,rfl⟩:=EZ Qi;have Ot:=Ts.size;(try simp at Ot);have HO2:=Hd Qi;have NB:=Hd (show Below Vq.heap.size w1 w2 from Xt ((IH _).alloc IJ _) Ts Fp (λg hg=>((oD.out.lt) g hg).1));clear Qi Ts Zi)
         |(at_builtin;refine BD _ rfl (.tmp 71) (.tmp 74) _ rfl Vq.heap.size 203 i0 _ 2 32 underlying134 hiA xT hzB qG rfl Ft (.slice A2 (i+1) c2) (i+1) (Ox (ro.take i)++[Iv m.t,.slice m.A m.d.length m.c]) rfl HO2.out Vq.heap.size _ _ _ (Ox (ro.drop i)) rfl (by rw[<-Z4];first|exact(((HOQ.out.below DF.out (Lr _)).below NB.out (Lr _)).cut Ft Ft).reads|(have h9:=(((HOQ.out.below DF.out (Lr _)).below NB.out (Lr _)).cut (k:=i) (cap:=oc) Ft Ft);rw[AO ki] at h9;simpa[CP] using h9.reads)|(have h9:=(((HOQ.out.below DF.out (Lr _)).below NB.out (Lr _)).cut (k:=i) (cap:=oc) Ft Ft);rw[AW ki] at h9;simpa using h9.reads)|exact((HOQ.out.below DF.out (Lr _)).below NB.out (Lr _)).reads) (VQ _) Ee Ft Ft ?_;intro v3 w3 du hg3 jm;obtain⟨A3,c3,rfl⟩:=EZ du;have ZI:=hg3.size;have rY:=Hd du;have P6:=Hd (show Below Vq.heap.size w2 w3 from Xt (IH _) hg3 Ft (λg hg=>((HO2.out.lt) g hg).1));clear du hg3 jm))
        go_roundw
        case rel=>exact lH (i:=i) (H:=W.heap.size) (wo:=wo) (Vq:=Vq) (on:=on) (oA:=some (Ad g o2)) hkl HM.out GK Ft xY hln Vp.out A3T.out jQ.out HIE.out ZT.out (Row.GR rY.out) Ft Ft A1Z.out HRF.out A1V.out HLQ.out Ft HBQ.out DF.out NB.out P6.out HB.out Az
        case measure=>simp[intOf];omega
   ·(have hmn':now<m.t:=by omega);go_wp2_with (at_builtin;refine JE rfl (.tmp 42) (.tmp 44) _ rfl W.heap.size 203 i0 _ 2 32 underlying134 hiA xT hzB qG rfl lA ln lc (Ox rf) rfl ((rU.out.alloc _).alloc _) (Ad (wr.heap.size+1) 0) 1 1 [Iv m.t,.slice m.A m.d.length m.c] rfl rfl (λj u hu=>by rw[CP,PL];exact AB (BK _ _ _ Fu) j hu) (Yd rfl rfl) Ft Ee Ft Fp ?_;intro A4 c4 w4 Wk VH Wm;have QP:=VH.size;(try simp at QP);have HO4:=Hd Wk;have yl:=Hd VH;have HA4:=Hd Wm;clear Wk VH Wm);have HTK:=Hd (show(rl.map RM.msg).take (k+1)=(rl.map RM.msg).take k++[m.msg] by rw[sS,TV,HM.out];rfl);go_roundw
    case rel=>
     refine⟨k+1,oA,on,oc,ro,A4,ln+1,c4,rf++[m],by go_num,by omega,rfl,rfl,by omega,by omega,?_,A3T.out,((az.out.alloc _).alloc _).grown yl.out (λg hg e=>A1Z.out g hg e.symm),?_,?_,?_,?_,?_⟩
     ·rw[Vp.out,HTK.out,pX,List.filter_cons_of_neg B7];simp
     ·intro g hg e
      rcases HA4.out with h|h
      ·exact A1Z.out g hg (by rw[<-h];exact e)
      ·(rw[h] at e;injection e with e);have:=(az.out.lt hg).2;simp at e;omega
     ·rw[HTK.out,pX,bW,HRF.out,List.filter_cons_of_pos B7];rfl
     ·intro y hy
      rcases List.mem_append.1 hy with hy|hy
      ·exact A1V.out y hy
      ·rw[List.mem_singleton.1 hy];exact pZ HM.out
     ·rw[Tg];exact HO4.out
     ·exact Xt ((HB.out.alloc Ft _).alloc Fp _) yl.out Fp (λg hg=>(rU.out.lt hg).1)
    case measure=>simp[intOf];omega
  ·(obtain rfl:k=n:=by omega);have fg:=HNU.out;(have A4f:ro.map RM.msg=AN.OG (s.u.filter (λm=>decide (m.1<=now))):=by rw[Vp.out,HU.out,R8 Ft]);(have A4e:rf.map RM.msg=s.u.filter (λm=>decide (now<m.1)):=by rw[HRF.out,HU.out,R8 Ft]);have HF1:=Hd A4f;have HF2:=Hd A4e;(have di:ro.length=on:=by have:=az.out.1;rw[Q3] at this;omega);(have hrflen:rf.length=ln:=by have:=rU.out.1;rw[Q3] at this;omega);have HOL:=Hd di;have rZ:=Hd hrflen;have k0:=AH K0.out HB.out Ft;have k1:=AH K1.out HB.out Ft;have f7:=AE k0 7;have KK0:=Hd k0;have KK1:=Hd k1;clear fg A4f A4e di hrflen k0 k1;go_wp2_with fail;generalize hV:World.setCell _ _ _=V;(have e0:V.heap[w.heap.size]?=some (.cells #[Iv r.BY,Iv r.AY,Iv r.least,Iv r.BU,Iv r.seed,.int .u64 s.x,Iv now,.slice lA ln lc,Iv s.BB,Iv s.lost,Iv s.P9] 136 (0,0)):=by rw[<-hV];exact AP KK0.out 7 (.slice lA ln lc));(have e1:V.heap[w.heap.size+1]?=some (.cells ei 136 (0,0)):=by rw[<-hV];exact CV KK1.out Fu _);(have hkv:AG (λi=>i=w.heap.size) wr V:=by rw[<-hV];exact(AG.refl (λi=>i=w.heap.size) _).setCell (p:=(Ad w.heap.size 7)) (.inl rfl) _);have hzv:=hkv.size;have HE0:=Hd e0;have sa:=Hd e1;have HOV:=Hd (az.out.kept hkv (λg hg=>by have:=(az.out.lt hg).1;omega));have HLV:=Hd (rU.out.kept hkv (λg hg=>by have:=(rU.out.lt hg).1;omega));have XH:=Hd ((Rx.out.trans (HB.out.mono Ft)).trans (hkv.below (B:=w.heap.size) (λi _ hi=>by omega) Ft));have hgv:LF V V.heap.size rl:=HG.out.gA (S:=λi=>w.heap.size<=i) ⟨XH.out.os,XH.out.tape,XH.out.output,XH.out.size,λi _ hi=>XH.out.block i Ft⟩ (λy hy a ha hl=>by have:=(HXM.out y hy a ha hl).2;omega);have HGV:=Hd hgv;(have AbK:on<=1000:=by omega);clear hV e0 e1 hkv hgv c7 f7 KK0 KK1 HB az rU A1Z Vp HRF;go_loopw[13,14] (λXT ZV wy=>A8J ro on V V.heap.size XT ZV wy) (λ_ i _=>on-(intOf i).toNat)
   case atStart=>exact⟨0,none,0,[],by go_num,Pe _,rfl,Row.nil _ _ _ _,JN.nil _ _ _,(λx hx=>by cases hx),rfl,QZ _ _⟩
   case round=>
    obtain⟨j,bA,bc,rb,rfl,hj,rfl,nG,hbg,EX,hbm,aK⟩:=hrel;have hzy:=aK.size;have HBR:=Hd nG;have HBG:=Hd hbg;have kt:=Hd EX;have HBM:=Hd hbm;have aA:=Hd aK;clear nG hbg EX hbm aK
    by_cases Wl:j<on
    ·obtain⟨x,hx⟩:∃x,ro[j]?=some x:=⟨_,Gg (by rw[HOL.out];exact Wl)⟩;obtain⟨g,o2,cur,rfl,XO,XA,hgg,hgn,hgc,hgf,ag,y9,hgz⟩:=HOV.out.some_ Ft;have cd:wr.cell? (Ad g (o2+j*2+1))=some (.slice x.A x.d.length x.c):=(aA.out.cell (p:=(Ad g (o2+j*2+1))) XA).trans (y9 (j*2+1) _ (Y3 hx).2);have hxr:=A3T.out x (pZ hx);obtain⟨WZ,XM,hxc,hxn⟩:=HGV.out x hxr;(have Qn:x.d.length<=128:=by(have h1:x.msg∈s.u:=by rw[<-HU.out];exact List.mem_map.2 ⟨x,hxr,rfl⟩);exact(HS.out.2.2.2.1 _ h1).2.2.2);have HXX:=Hd hx;have HRX:=Hd (WZ.below aA.out (Lr _));(have hjn:(j:Int)<(on:Int):=by omega);clear hx hgg ag y9 hgz WZ hxn;go_wp2_with (first
      |(at_builtin;refine BD _ rfl (.const (.slice none 0 0)) (.tmp 89) _ rfl wr.heap.size 5 j0 _ 1 1 underlying47 hjA hyA hyB hyC rfl Ft (.slice none 0 0) 0 [] rfl (Ta _ _ _ _) V.heap.size x.A x.d.length x.c (bv x.d) rfl HRX.out.reads (SX _) Ee Ft (Lr _) ?_;intro v1 w1 CE GQ LY;simp only[PL,List.nil_append] at CE;obtain⟨A1,c1,rfl⟩:=EZ CE;have IJ:=GQ.size;have oD:=Hd (show Ow w1 wr.heap.size A1 x.d.length c1 x.d from⟨CE,HRX.out.2.1⟩);have DF:=Hd (show Below wr.heap.size wr w1 from⟨GQ.os,GQ.tape,GQ.output,GQ.size,λi hi=>GQ.block i hi Ea⟩);clear CE GQ LY)
      |(at_builtin;refine JE rfl (.tmp 84) (.tmp 91) _ rfl V.heap.size 47 b0 _ 1 24 underlying143 x9 hxA hxB hxC rfl bA j bc (WU rb) rfl ((HBR.out.below DF.out (Lr _)).alloc _) (Ad w1.heap.size 0) 1 1 [rbc ⟨A1,c1,x.d⟩] rfl rfl (λi u hu=>by rw[CP,PL];exact AB (AM _ _) i hu) (ma [_]) Ft Ee Ft Fp ?_;intro A4 c4 w4 Wk VH Wm;have QP:=VH.size;(try simp at QP);have HO4:=Hd Wk;have yl:=Hd VH;have HA4:=Hd (show AK A4=AK bA\/AK A4=some (w1.heap.size+1) by simpa using Wm);clear Wk VH Wm))
     go_roundw
     case rel=>
      obtain⟨h1,h2⟩:=zW HBR.out HBG.out kt.out oD.out DF.out _ yl.out HA4.out Ft;refine⟨j+1,A4,c4,rb++[⟨A1,c1,x.d⟩],by go_num,by omega,rfl,by rw[fM];exact HO4.out,h1,h2,?_,?_⟩
      ·rw[bW,HBM.out,sS,HXX.out];simp
      ·exact Xt ((aA.out.trans (DF.out.mono Ft)).alloc Ft _) yl.out Fp (λg hg=>(HBR.out.lt hg).1)
     case measure=>simp[intOf];omega
    ·(obtain rfl:j=on:=by omega);have e0:=AH HE0.out aA.out Ft;have e1:=AH sa.out aA.out Ft;have BH:=GN e0;have la:=BG e0;have CI:=GN e1;have lb:=BG e1;go_wp2_with fail;(refine jO ?_;intro Wf MH);(have hf:Wf.heap[w.heap.size+1]?=some (.cells #[Iv r.BY,Iv r.AY,Iv r.least,Iv r.BU,Iv r.seed,.int .u64 s.x,Iv now,.slice lA ln lc,Iv s.BB,Iv s.lost,Iv s.P9] 136 (0,0)):=by rw[<-MH];exact Fl);(have gI:AG (λi=>i=w.heap.size\/i=w.heap.size+1) wr Wf:=by rw[<-MH];exact Ak);clear MH e0 e1 BH CI;(refine uo ?_;intro IK lm);refine IT (v:= .tuple #[.agg #[Iv r.BY,Iv r.AY,Iv r.least,Iv r.BU,Iv r.seed,.int .u64 s.x,Iv now,.slice lA ln lc,Iv s.BB,Iv s.lost,Iv s.P9],.slice bA j bc,Iv 0]) ?_ rfl ?_
     ·simp[results,results84,go_sem,IK]
     ·have hzf:=gI.size;have hB:Below w.heap.size w Wf:=(XH.out.trans (aA.out.mono Ft)).trans (gI.below (λi _ hi=>by omega) Ft);(have A5o:AN.recv s now={s with now:=now,u:=s.u.filter (λm=>decide (now<m.1))}:=by unfold AN.recv;rw[AW HE.out]);(have A9s:AN.Vo s now=AN.OG (s.u.filter (λm=>decide (m.1<=now))):=by unfold AN.Vo;rw[AW HE.out]);(have hul:(AN.recv s now).u.length=ln:=by rw[A5o];show(s.u.filter _).length=ln;rw[<-HF2.out,WW,rZ.out]);(have hru:(AN.recv s now).u=rf.map RM.msg:=by rw[A5o,HF2.out]);have A0X:=(HLV.out.below aA.out (Lr _)).kept gI (λg hg=>by have:=(HLV.out.lt hg).1;omega);have nG:=HBR.out.kept gI (λg hg=>by have:=(HBR.out.lt hg).1;omega);refine⟨lA,lc,bA,j,bc,?_,?_,?_,?_,hB⟩
      ·rw[hul,A5o];rfl
      ·rw[hul];refine⟨rf,hru.symm,TG.cM A0X,(HG.out.gA (S:=λi=>w.heap.size<=i) ⟨hB.os,hB.tape,hB.output,hB.size,λi _ hi=>hB.block i Ft⟩ (λy hy a ha hl=>by have:=(HXM.out y hy a ha hl).2;omega)).sub A1V.out,λa ha _=> .inr ?_,λy hy a ha hl=> .inl (HXM.out y (A1V.out y hy) a ha hl).1⟩;(have h1:AK lA=some a.block:=by rw[ha];rfl);have:=(A0X.lt h1).1;omega
      ·rw[hul];exact A0X.le.1
      ·refine⟨rb,?_,TG.cM nG,((HBG.out.kept gI (Lr _) (λy hy a ha=>by have:=(HBG.out y hy).2.1 a ha;omega)).more Ft).lower Ft,λa ha _=>by have:=(nG.lt (g:=a.block) (by rw[ha];rfl)).1;omega⟩;rw[HBM.out,R8 (by rw[HOL.out];omega),A9s,<-HF1.out,List.map_map];rfl
end
end Go.Proofs.YtdocdgcdldpagaaGreat

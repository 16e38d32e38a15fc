import Derived.Test.YtdocdgcdldpagaaGreatAw21
open Go.Proofs.Tryz
namespace Go.Proofs.YtdocdgcdldpagaaGreat
set_option maxHeartbeats 64000000
set_option maxRecDepth 100000
set_option linter.all false
section
open RowKit Shelf
attribute [local go_sem ↓] wp_at_zero wp_at_succ
attribute [local go_sem] Oper.semAt_some
namespace Nt
def bLo(s:St)(i:Nat):Int:=Ck.aLo (at_ s i).p.d (at_ s i).p.r (at_ s i).p.cs (at_ s i).p.lo (at_ s i).p.hi (Sc s i)
def bHi(s:St)(i:Nat):Int:=Ck.ue (at_ s i).p.d (at_ s i).p.r (at_ s i).p.cs (at_ s i).p.hi (Sc s i)
def bE(s:St)(i:Nat):Int:=Ck.aE (at_ s i).p.d (at_ s i).p.r (at_ s i).p.cs (at_ s i).p.hi (Sc s i)
end Nt
section
variable{w w' w0:World}{base b k N:Nat}{m m1:NM}{s s':Nt.St}
theorem iW(b:Nat)(a:Int)(w:World)(hb:b<w.heap.size)(Ud:w.cell? (Ad b 25)=some (.slice none 0 0)):
  Calls prog 20 #[Pt b,Iv a] w (IL (.tuple #[.agg #[Iv 0,Iv 0],Iv 1]) w):=by
 have CH:=Hd (λ(W:World)(hW:Below w.heap.size w W)=>ZE b a W ((hW.cell hb).trans Ud));go_enter func20,ntmps20;go_wp2_with (refine(CH.out _ A9).mono ?_;rintro e w' ⟨rfl,rfl⟩);refine IT (v:= .tuple #[.agg #[Iv 0,Iv 0],Iv 1]) ?_ rfl ⟨rfl,A9⟩;simp[results,results20,go_sem]
theorem mS(h:BQ w base b m k s)(hs:Nt.Inv N s){i:Nat}(hi:i<s.cr.length):
  Calls prog 20 #[Pt b,Iv ((i:Int)+1)] w (IL (.tuple #[.agg #[Iv (Nt.bLo s i),Iv (Nt.bHi s i)],Iv (Nt.bE s i)]) w):=by
 have CH:=Hd (λ(W:World)(hW:Below w.heap.size w W)=>Uo (h.below hW) hs ((i:Int)+1) Ft);have LO:=Hd (λ(W:World)(hW:Below w.heap.size w W)=>Xw (h.below hW) hs hi);have PB:=Hd (λ(W:World)(hW:Below w.heap.size w W)=>mH ((h.below hW).cr i hi).p (hs.cr i hi).p (Nt.Sc s i));obtain⟨g,o,qY,tg,d0,_,_,_,_⟩:=h.cells hi;(refine K1Q ?_;intro Ud);rw[qY] at Ud;have QK:=hs.n.2;(refine K1g ?_;intro wi wi2);(refine K3R ?_;intro ic i0);have QQ:=BG h.BM;(have XA:g<w.heap.size:=by obtain⟨cs,hc⟩:=tg;exact BG hc);obtain⟨pb,hpb⟩:=BN ((m.cs.getD i Qp).pb);rw[<-hpb] at d0 PB;obtain⟨lc,TP⟩:=BN (Nt.Sc s i);obtain⟨x1,tz⟩:=BN (Nt.bLo s i);obtain⟨x2,U2⟩:=BN (Nt.bHi s i);obtain⟨x3,hx3⟩:=BN (Nt.bE s i);rw[<-tz,<-U2,<-hx3];unfold Nt.bLo at tz;unfold Nt.bHi at U2;unfold Nt.bE at hx3;rw[<-TP] at LO PB tz U2 hx3;simp only[Nt.at_] at tz U2 hx3 PB;rw[<-tz,<-U2,<-hx3] at PB;clear h hs hpb qY TP tz U2 hx3 tg;(have e25:=λ(W:World)(hW:Below w.heap.size w W)=>(hW.cell (p:=(Ad b 25)) QQ).trans Ud);(have e0:=λ(W:World)(hW:Below w.heap.size w W)=>(hW.cell (p:=(Ad g (o+i*4))) XA).trans d0);have E25:=Hd e25;have E0:=Hd e0;clear e25 e0;go_enter func20,ntmps20;go_upto_region 4 with(first|(refine(CH.out _ A9).mono ?_;rintro e w' ⟨rfl,rfl⟩));(refine Ko ?_;intro V hV);(refine KX ?_;intro HB);have k0:V.heap[w.heap.size]?=some (.cells #[Iv 0,Iv 0] 65 (0,0)):=D7;have Oq:w.heap.size<V.heap.size:=BG k0;have v25:=E25.out V HB.out;have v0:=E0.out V HB.out;have K0:=Hd k0;clear hV Ud d0 CH k0;go_region_held3 (λw'=>w'.cell? ⟨b,25,none⟩=some (.slice (some ⟨g,o,none⟩) s.cr.length m.cc)/\w'.cell? ⟨g,o+i*4,none⟩=some (Pt pb)) (first|(refine⟨?_,?_⟩<;>simp[go_sem, *];done)|go_keep) (first|(go_at_call 55;refine(LO.out _ (by first|exact below_drewN HB.out _|exact HB.out.drew|exact HB.out)).mono ?_;rintro e w2 ⟨rfl,q2,rfl⟩;skip)|(go_at_call 54;refine(PB.out _ (by repeat(first|exact HB.out|(with_reducible refine below_drewN ?_ _)|(with_reducible refine Yc ?_)))).mono ?_;rintro e w3 ⟨rfl,JZ⟩;have ZI:=JZ.size;have k3:=AH K0.out (show Below V.heap.size V w3 from((by repeat(first|exact QZ _ V|(with_reducible refine below_drewN ?_ _)|(with_reducible refine Yc ?_)):Below V.heap.size V _).trans JZ)) Oq;have P6:=Hd (HB.out.trans ((show Below V.heap.size V w3 from((by repeat(first|exact QZ _ V|(with_reducible refine below_drewN ?_ _)|(with_reducible refine Yc ?_)):Below V.heap.size V _).trans JZ)).mono HB.out.size));have y0:=AB (l:=[_,_]) k3 0 rfl;have y1:=AB (l:=[_,_]) k3 1 rfl;have f0:=AE k3 0;have f1:=AE k3 1;have s25:=E25.out w3 P6.out;have s0:=E0.out w3 P6.out;clear k3));go_wp2_with fail;(have YT:∀u v:Value,Below w.heap.size w ((w3.setCell (Ad w.heap.size 0) u).setCell (Ad w.heap.size 1) v):=λu v=>(P6.out.setCell (p:=(Ad w.heap.size 0)) (Lr _) _).setCell (p:=(Ad w.heap.size 1)) (Lr _) _);refine IT (v:= .tuple #[.agg #[Iv x1,Iv x2],Iv x3]) ?_ rfl ⟨rfl,YT _ _⟩;simp[results,results20,go_sem, *]
end
end
section
open RowKit Shelf
attribute [local go_sem] Oper.semAt_some
namespace Nt
abbrev Ev:=Int×Int×Int
abbrev NE:=Nat×Ev
def ev0:Ev:=(0,0,0)
def A1p(x:NE):Array Value:= #[Iv x.1,.agg (jz x.2).toArray]
def PrE(l:List Ev)(pre:List NE)(x:NE)(W:World):Prop:=x.1=pre.length/\x.2=l.getD pre.length ev0
theorem PrE.own(B:Nat)(l:List Ev)(pre:List NE):OwnFrom B (PrE l pre):=λs X Y row hs hg hr=>hs
end Nt
theorem A1n(l:List (Int×Int×Int)):(UQ l).length=l.length*3:=by
 induction l with
 |nil=>rfl
 |cons x l ih=>have:UQ (x::l)=jz x++UQ l:=rfl;rw[this,TW,ih];simp[jz];omega
theorem A3o(l:List (Int×Int×Int))(i j:Nat)(hi:i<l.length)(hj:j<3):(UQ l)[i*3+j]?=(jz (l.getD i (0,0,0)))[j]?:=by
 induction l generalizing i with
 |nil=>exact absurd hi Fu
 |cons x l ih=>
  have e:UQ (x::l)=jz x++UQ l:=rfl
  cases i with
  |zero=>rw[e,fR,PL,mj (by simpa[jz] using hj)];rfl
  |succ i=>rw[e,vI (by simp[jz];omega)];(have e2:(i+1)*3+j-(jz x).length=i*3+j:=by simp[jz];omega);rw[e2,ih i F3];rfl
def EvR(w:World)(B:Nat)(A:Option Addr)(n:Nat)(l:List (Int×Int×Int)):Prop:=Reads w B 3 A n (UQ l)
theorem EvR.at_{w:World}{B n:Nat}{A:Option Addr}{l:List (Int×Int×Int)}(h:EvR w B A n l)(A0V:∀a,A=some a->a.spot=none){k:Nat}(hk:k<n):∃b o,A=some (Ad b o)/\b<B/\∀j u,(jz (l.getD k (0,0,0)))[j]?=some u->w.cell? (Ad b (o+k*3+j))=some u:=by
 obtain⟨hl,hr⟩:=h;obtain⟨ad,hA,hb,hc⟩:=hr Ft;(have hlen:l.length=n:=by rw[A1n] at hl;omega);obtain⟨b,o,sp⟩:=ad;have hs:sp=none:=A0V _ hA;subst hs;refine⟨b,o,hA,hb,λj u hu=> ?_⟩;have hj:j<3:=by
  rcases Oj j 3 with g|g
  ·exact g
  ·rw[R3 (by simpa[jz] using g)] at hu;cases hu
 have:=hc (k*3+j) u (by rw[A3o l k j Ft hj];exact hu);rw[CP] at this;rw[show o+k*3+j=o+(k*3+j) by omega];exact this
theorem tS(m n0 B:Nat)(A:Option Addr)(n c:Nat)(l:List (Int×Int×Int))(w:World)(hm:1<=m)(hn:n<=1000000000000)(dv:n0<=w.heap.size)(A7v:w.heap[B]?=some (.cells #[.slice A n c] 45 (0,0)))(hR:EvR w n0 A n l)(A0V:∀a,A=some a->a.spot=none):
  A8H Fence.wide m prog 91 #[Pt B] Nt.A1p (Nt.PrE l) (λA B=>Below n0 A B) (λys=>ys.length=n) (λys=>ys.length<=n) n w:=by
 intro l1 J Jx W hW hJ hJx hY h0;have EX:=GH A7v hW;have HR:=Hd (show EvR W n0 A n l from Reads.below hR (hW.mono dv));have HJ:=Hd hJ;have HY:=Hd hY;have c0:=AB (l:=[_]) EX 0 rfl;have jn:=hW.size;have HO:=Hd A0V;clear hJx hY hR hJ A7v hW EX A0V;refine callsIn_of_wp func91 rfl trivial ?_ rfl;simp only[ntmps91,cf,List.length_cons,List.length_nil,Nat.reduceAdd,Nat.reduceSub,A01,Array.replicate_zero,mA,mD,List.nil_append,List.cons_append];gi_wp2;gi_loopw [7] (λi wr=>∃(k:Nat)(pre:List Nt.NE),k<=n/\i=Iv k/\pre.length=k/\J pre wr/\Hid (Below n0 W wr)) (λi _=>n-(intOf i).toNat)
 case atStart=>exact⟨0,[],Pe _,rfl,rfl,h0,Hd (IH _)⟩
 case round=>
  obtain⟨k,pre,hk,rfl,Ou,hJs,HB⟩:=hrel
  by_cases EK:k<n
  ·obtain⟨b,o,rfl,QQ,GG⟩:=EvR.at_ (show EvR wr n0 A n l from Reads.below HR.out HB.out) HO.out EK;obtain⟨v,hv⟩:=BN (l.getD k (0,0,0));rw[<-hv] at GG;have HX:=Hd (show v=l.getD pre.length Nt.ev0 by rw[Ou];exact hv);obtain⟨x,y,z⟩:=v;have e0:wr.cell? (Ad b (o+k*3))=some (Iv x):=GG 0 _ rfl;have e1:wr.cell? (Ad b (o+k*3+1))=some (Iv y):=GG 1 _ rfl;have e2:wr.cell? (Ad b (o+k*3+2))=some (Iv z):=GG 2 _ rfl;(have kn:(k:Int)<(n:Int):=by omega);have VE:n0<=wr.heap.size:=Lt (Lt dv jn) HB.out.size;clear GG hv;have B2:Below wr.heap.size wr (wr.alloc (.cells #[Iv x,Iv y,Iv z] 58)):=(IH wr).alloc (Lr _) _;have hJ2:J pre (wr.alloc (.cells #[Iv x,Iv y,Iv z] 58)):=vN HJ.out (s:=pre) hJs B2;obtain⟨fn,tmps,assign,body,hy,hR⟩:=HY.out pre (k,(x,y,z)) _ hJ2 ⟨Ou.symm,HX.out⟩ Ft;have HR2:=Hd hR;have NB:=Hd (HB.out.trans (B2.mono VE));simp only[Nt.A1p,jz] at hy;clear hR hJ2 hJs B2;gi_wp2;refine HR2.out.mono ?_;rintro e W3 (⟨rfl,hJ3,af,_⟩|⟨rfl,A5I,_⟩)
   ·have P6:=Hd (NB.out.trans af);have HL3:=Hd (show(pre++[((k,(x,y,z)):Nt.NE)]).length=k+1 by rw[TW,Ou];rfl);clear af;gi_wp2;go_roundw
    case rel=>exact⟨k+1,_,by omega,by simp,HL3.out,hJ3,P6⟩
    case measure=>simp[intOf];omega
   ·gi_wp2;refine IT (bT rfl _ _ _) rfl ?_;exact⟨⟨_,rfl⟩,.inr ⟨_,by rw[TW,Ou];exact EK,A5I⟩⟩
  ·(obtain rfl:k=n:=by omega);gi_wp2;go_end0;exact⟨⟨_,rfl⟩,.inl ⟨pre,Ou,hJs⟩⟩
section
variable{w w':World}{base b k N:Nat}{m:NM}{s:Nt.St}
theorem l6(A:Option Addr)(n c:Nat)(w:World):Calls prog 47 #[.slice A n c] w λe w'=>e= .returned (.func (.func 91) #[] #[Pt w.heap.size])/\w'=w.alloc (.cells #[.slice A n c] 45):=by
 go_enter func47,ntmps47;exact He
def sg(A:Option Addr)(n:Nat)(w:World)(e:Ending)(w':World):Prop:=∃B,e= .returned (.func (.func 91) #[] #[Pt B])/\w.heap.size<=B/\w'.heap[B]?=some (.cells #[.slice A n n] 45 (0,0))/\Below w.heap.size w w'
theorem A0x(w:World):Calls prog 15 #[.pointer none] w (sg none 0 w):=by
 have NO:=Hd (λW=>TY W);have SA:=Hd (λA n c W=>l6 A n c W);go_enter func15,ntmps15;go_wp2_with (first|(go_at_call 46;refine(NO.out _).mono ?_;rintro e w' ⟨rfl,rfl⟩)|(go_at_call 47;refine(SA.out _ _ _ _).mono ?_;rintro e w' ⟨rfl,rfl⟩));go_ret;exact⟨_,rfl,Lr _,AM _ _,A9⟩
theorem A0y(h:BQ w base b m k s)(hs:Nt.Inv N s):Calls prog 15 #[Pt b] w (sg m.EA s.ev.length w):=by
 have NO:=Hd (λ(W:World)(hW:Below w.heap.size w W)=>P4 (h.below hW) hs.n.1);have SA:=Hd (λA n c W=>l6 A n c W);have hle:=h.GM.le;have hx:(m.EA=none->s.ev.length=0/\m.ec=0):=λe=>by
  rcases h.GM.2 with⟨_,h1,h2⟩|⟨g,o,cur,e',_⟩
  ·exact⟨h1,h2⟩
  ·rw[e] at e';cases e'
 have A0V:∀a,m.EA=some a->a.spot=none:=λa e=>by
  rcases h.GM.2 with⟨e',_⟩|⟨g,o,cur,e',_⟩
  ·rw[e] at e';cases e'
  ·rw[e] at e';injection e' with e';rw[e']
 have c27:w.cell? (Ad b 27)=some (.slice m.EA s.ev.length m.ec):=AB h.BM 27 rfl;have GC:=hle.2;unfold maxLen at GC;clear h hs;generalize s.ev.length=n at*;generalize m.EA=A at*;generalize m.ec=c at*;have Xz:=hle.1;(have i1:((n:Nat):Int)<=(c:Int):=by omega);clear hle
 cases A with
 |none=>obtain⟨rfl,rfl⟩:=hx rfl;exact Ib
 |some a=>exact Ib
end
end
section
open ChangeAt ChangeShapes Deep Joins RowKit WideShapes
theorem mR:prog.cellsOf 28=21:=by kernel_rfl
theorem iV:prog.cellsOf 23=5:=by kernel_rfl
theorem Yh:prog.cellsOf 25=5:=by kernel_rfl
theorem MJ:prog.cellsOf 3=1:=by kernel_rfl
theorem cU:prog.cellsOf 26=1:=by kernel_rfl
section
variable{H:Type}{enc:TypeId×Value->H}{w:World}{fuel:Nat}{c:Value}{x:DataW H×List MemPlace}
theorem vK{a b c d e:Value}(hf:DataW.trod enc prog w 0 (λ_=>true) true fuel 23 [a,b,c,d,e]=some x):∃p q r s t:Int,a= .int .i64 p/\b= .int .i64 q/\c= .int .i64 r/\d= .int .i64 s/\e= .int .i64 t:=by
 obtain⟨ys,n',hn',hy,hlen,hyl,Uc⟩:=sR underlying23 hf;exact Hu
theorem gu{a b c d e:Value}(hf:DataW.trod enc prog w 0 (λ_=>true) true fuel 25 [a,b,c,d,e]=some x):∃p q r s t:Int,a= .int .i64 p/\b= .int .i64 q/\c= .int .i64 r/\d= .int .i64 s/\e= .int .i64 t:=by
 obtain⟨ys,n',hn',hy,hlen,hyl,Uc⟩:=sR underlying25 hf;exact Hu
theorem A3C{l:List Value}(h:l.length=21):∃v0 v1 v2 v3 v4 v5 v6 v7 v8 v9 v10 v11 aZ XT ZV eN ey iy ix uC v20,l=[v0,v1,v2,v3,v4,v5,v6,v7,v8,v9,v10,v11,aZ,XT,ZV,eN,ey,iy,ix,uC,v20]:=by
 match l,h with
 |[v0,v1,v2,v3,v4,v5,v6,v7,v8,v9,v10,v11,aZ,XT,ZV,eN,ey,iy,ix,uC,v20],_=>exact⟨v0,v1,v2,v3,v4,v5,v6,v7,v8,v9,v10,v11,aZ,XT,ZV,eN,ey,iy,ix,uC,v20,rfl⟩
theorem yY{v:Value}{d:DataW H}{p:List MemPlace}{r:Reach}{b0:Nat}(hv:Value.okWide prog w r b0 28 v)(h:DataW.Trod enc prog w 0 (λ_=>true) true 28 v d p):
  ∃(r:Nt.Ru)(OA:Option Addr)(oc:Nat)(TA:Option Addr)(tc:Nat),v=Rz r OA r.CJ.length oc TA r.BL.length tc/\Ri w w.heap.size OA r.CJ.length r.CJ/\Ri w w.heap.size TA r.BL.length r.BL/\jJ OA r.CJ.length oc/\jJ TA r.BL.length tc:=by
 obtain⟨cs,rfl,VF⟩:=okWide_struct underlying28 hv;obtain⟨l⟩:=cs;obtain⟨v0,v1,v2,v3,v4,v5,v6,v7,v8,v9,v10,v11,aZ,XT,ZV,eN,ey,iy,ix,uC,v20,rfl⟩:=A3C (l:=l) (VF.trans mR);obtain⟨fuel,hf⟩:=h;obtain⟨ys,n',_,hx,_,hyl,Uc⟩:=sR underlying28 hf;(refine K1b ?_;intro y0 y1 y2 y3);have y4:ys[4]?=some (ys[4]'Ex):=Gg _;have y5:ys[5]?=some (ys[5]'Ex):=Gg _;have y6:ys[6]?=some (ys[6]'Ex):=Gg _;have y7:ys[7]?=some (ys[7]'Ex):=Gg _;have y8:ys[8]?=some (ys[8]'Ex):=Gg _;have f0:DataW.trod enc prog w 0 (λ_=>true) true n' 3 (([v0,v1,v2,v3,v4,v5,v6,v7,v8,v9,v10,v11,aZ,XT,ZV,eN,ey,iy,ix,uC,v20].drop 0).take (prog.cellsOf 3))=ys[0]?:=Uc 0 _ rfl;have f1:DataW.trod enc prog w 0 (λ_=>true) true n' 3 (([v0,v1,v2,v3,v4,v5,v6,v7,v8,v9,v10,v11,aZ,XT,ZV,eN,ey,iy,ix,uC,v20].drop 1).take (prog.cellsOf 3))=ys[1]?:=Uc 1 _ rfl;have f2:DataW.trod enc prog w 0 (λ_=>true) true n' 3 (([v0,v1,v2,v3,v4,v5,v6,v7,v8,v9,v10,v11,aZ,XT,ZV,eN,ey,iy,ix,uC,v20].drop 2).take (prog.cellsOf 3))=ys[2]?:=Uc 2 _ rfl;have f3:DataW.trod enc prog w 0 (λ_=>true) true n' 3 (([v0,v1,v2,v3,v4,v5,v6,v7,v8,v9,v10,v11,aZ,XT,ZV,eN,ey,iy,ix,uC,v20].drop 3).take (prog.cellsOf 3))=ys[3]?:=Uc 3 _ rfl;have f4:DataW.trod enc prog w 0 (λ_=>true) true n' 23 (([v0,v1,v2,v3,v4,v5,v6,v7,v8,v9,v10,v11,aZ,XT,ZV,eN,ey,iy,ix,uC,v20].drop 4).take (prog.cellsOf 23))=ys[4]?:=Uc 4 _ rfl;have f5:DataW.trod enc prog w 0 (λ_=>true) true n' 25 (([v0,v1,v2,v3,v4,v5,v6,v7,v8,v9,v10,v11,aZ,XT,ZV,eN,ey,iy,ix,uC,v20].drop 9).take (prog.cellsOf 25))=ys[5]?:=Uc 5 _ rfl;have f6:DataW.trod enc prog w 0 (λ_=>true) true n' 25 (([v0,v1,v2,v3,v4,v5,v6,v7,v8,v9,v10,v11,aZ,XT,ZV,eN,ey,iy,ix,uC,v20].drop 14).take (prog.cellsOf 25))=ys[6]?:=Uc 6 _ rfl;have f7:DataW.trod enc prog w 0 (λ_=>true) true n' 26 (([v0,v1,v2,v3,v4,v5,v6,v7,v8,v9,v10,v11,aZ,XT,ZV,eN,ey,iy,ix,uC,v20].drop 19).take (prog.cellsOf 26))=ys[7]?:=Uc 7 _ rfl;have f8:DataW.trod enc prog w 0 (λ_=>true) true n' 26 (([v0,v1,v2,v3,v4,v5,v6,v7,v8,v9,v10,v11,aZ,XT,ZV,eN,ey,iy,ix,uC,v20].drop 20).take (prog.cellsOf 26))=ys[8]?:=Uc 8 _ rfl;rw[MJ,y0] at f0;rw[MJ,y1] at f1;rw[MJ,y2] at f2;rw[MJ,y3] at f3;rw[iV,y4] at f4;rw[Yh,y5] at f5;rw[Yh,y6] at f6;rw[cU,y7] at f7;rw[cU,y8] at f8;obtain⟨k0,e0,_,w0⟩:=ZZ underlying3 f0;obtain⟨k1,e1,_,w1⟩:=ZZ underlying3 f1;obtain⟨k2,e2,_,w2⟩:=ZZ underlying3 f2;obtain⟨k3,e3,_,w3⟩:=ZZ underlying3 f3;obtain⟨p0,p1,p2,p3,p4,a0,a1,a2,a3,a4⟩:=vK f4;obtain⟨q0,q1,q2,q3,q4,b0,b1,b2,b3,b4⟩:=gu f5;obtain⟨s0,s1,s2,s3,s4,c0,c1,c2,c3,c4⟩:=gu f6;obtain⟨A7,l7,cp7,d7,e7,A6R,rd7⟩:=tt f7;obtain⟨A8,l8,cp8,d8,e8,A6Q,rd8⟩:=tt f8;simp at e0 e1 e2 e3 e7 e8;have h7:=rd7.1;have h8:=rd8.1;(subst e0;subst e1;subst e2;subst e3;subst a0;subst a1;subst a2;subst a3;subst a4;subst b0;subst b1;subst b2;subst b3;subst b4;subst c0;subst c1;subst c2;subst c3;subst c4;subst e7;subst e8;subst h7;subst h8);exact⟨⟨k0,k1,k2,k3,p0,p1,p2,p3,p4,⟨q0,q1,q2,q3,q4⟩,⟨s0,s1,s2,s3,s4⟩,d7,d8⟩,A7,cp7,A8,cp8,rfl,rd7,rd8,A6R,A6Q⟩
end
structure Nt.Act where
 (kind k n:Int)
 cut:Bool
def Nt.A3K:Nt.Act:=⟨0,0,0,false⟩
def Nt.Act.cells(a:Nt.Act):List Value:=[.int .i64 a.kind,.int .i64 a.k,.int .i64 a.n,.bool a.cut]
def Nra(w:World)(B:Nat)(A:Option Addr)(n:Nat)(vs:List Nt.Act):Prop:=
 vs.length=n/\(0<n->∃b o,A=some (Ad b o)/\b<B/\∀i,i<n->∀j u,(vs.getD i Nt.A3K).cells[j]?=some u->w.cell? (Ad b (o+i*4+j))=some u)/\∀y∈vs,(-9223372036854775808<=y.kind/\y.kind<=9223372036854775807)/\(-9223372036854775808<=y.k/\y.k<=9223372036854775807)/\(-9223372036854775808<=y.n/\y.n<=9223372036854775807)
section
variable{w w':World}{B B' n:Nat}{A:Option Addr}{vs:List Nt.Act}
theorem Nra.below(h:Nra w B A n vs)(k:Below B' w w')(hB:B<=B'):Nra w' B A n vs:=
 ⟨h.1,λhn=>by
  obtain⟨b,o,e,hb,hc⟩:=h.2.1 hn;exact⟨b,o,e,hb,λi hi j u hu=>(k.cell (p:=(Ad b _)) (Sv hb hB)).trans (hc i hi j u hu)⟩,h.2.2⟩
theorem Nra.more(h:Nra w B A n vs)(hB:B<=B'):Nra w B' A n vs:=
 ⟨h.1,λhn=>by
  obtain⟨b,o,e,hb,hc⟩:=h.2.1 hn;exact⟨b,o,e,Sv hb hB,hc⟩,h.2.2⟩
end
theorem vZ:prog.cellsOf 39=4:=by kernel_rfl
theorem A0u:prog.cellsOf 37=1:=by kernel_rfl
theorem qn:prog.cellsOf 4=1:=by kernel_rfl
section
variable{H:Type}{enc:TypeId×Value->H}{w:World}{fuel:Nat}{c:Value}{x:DataW H×List MemPlace}
theorem A6c{l:List Value}(h:l.length=4):∃a b c d,l=[a,b,c,d]:=by
 match l,h with
 |[a,b,c,d],_=>exact⟨a,b,c,d,rfl⟩
theorem cV{l:List Value}(hl:l.length=4)(hf:DataW.trod enc prog w 0 (λ_=>true) true fuel 39 l=some x):∃y:Nt.Act,l=y.cells/\(-9223372036854775808<=y.kind/\y.kind<=9223372036854775807)/\(-9223372036854775808<=y.k/\y.k<=9223372036854775807)/\(-9223372036854775808<=y.n/\y.n<=9223372036854775807):=by
 obtain⟨v0,v1,v2,v3,rfl⟩:=A6c hl;obtain⟨ys,n',hn',hy,hlen,hyl,Uc⟩:=sR underlying39 hf;(refine K1b ?_;intro y0 y1 y2 y3);have f0:DataW.trod enc prog w 0 (λ_=>true) true n' 3 (([v0,v1,v2,v3].drop 0).take (prog.cellsOf 3))=ys[0]?:=Uc 0 _ rfl;have f1:DataW.trod enc prog w 0 (λ_=>true) true n' 37 (([v0,v1,v2,v3].drop 1).take (prog.cellsOf 37))=ys[1]?:=Uc 1 _ rfl;have f2:DataW.trod enc prog w 0 (λ_=>true) true n' 3 (([v0,v1,v2,v3].drop 2).take (prog.cellsOf 3))=ys[2]?:=Uc 2 _ rfl;have f3:DataW.trod enc prog w 0 (λ_=>true) true n' 4 (([v0,v1,v2,v3].drop 3).take (prog.cellsOf 4))=ys[3]?:=Uc 3 _ rfl;rw[MJ,y0] at f0;rw[A0u,y1] at f1;rw[MJ,y2] at f2;rw[qn,y3] at f3;obtain⟨k0,e0,_,w0⟩:=ZZ underlying3 f0;obtain⟨k1,e1,_,w1⟩:=ZZ underlying37 f1;obtain⟨k2,e2,_,w2⟩:=ZZ underlying3 f2;obtain⟨b3,e3,_⟩:=DataW.trod_bool underlying4 f3;simp at e0 e1 e2 e3;(subst e0;subst e1;subst e2;subst e3);exact⟨⟨k0,k1,k2,b3⟩,rfl,jd w0,jd w1,jd w2⟩
theorem A0z(hf:DataW.trod enc prog w 0 (λ_=>true) true fuel 35 [c]=some x):∃(a:Option Addr)(len cap:Nat)(l:List Nt.Act),c= .slice a len cap/\jJ a len cap/\Nra w w.heap.size a len l:=by
 rcases open_slice underlying35 hf with⟨YS,_⟩|⟨x,l,c',m,n,D,Pl,YS,_,hl,hm,hmm,_,hc⟩
 ·simp at YS;exact⟨none,0,0,[],YS,⟨by omega,by unfold maxLen;omega,λ_=>⟨rfl,rfl⟩⟩,⟨rfl,(λh=>absurd h Ft),Eh⟩⟩
 ·simp at YS;subst YS;simp at hmm;subst hmm;rw[vZ] at hc;obtain⟨b,o,spot⟩:=x;(have tB:0<l->spot=none:=λh0=>by obtain⟨cs',DD,ht'⟩:=hc 0 Ft;obtain⟨_,GG,JV⟩:=World.cells?_some DD;obtain⟨y,rfl,_⟩:=cV GG ht';have g0:=JV 0 Ft;simp[Addr.add,Nt.Act.cells] at g0;simpa using World.cell?_spot g0);have key:∀i,i<l->∃y:Nt.Act,((-9223372036854775808<=y.kind/\y.kind<=9223372036854775807)/\(-9223372036854775808<=y.k/\y.k<=9223372036854775807)/\(-9223372036854775808<=y.n/\y.n<=9223372036854775807))/\(spot=none/\b<w.heap.size)/\∀j u,y.cells[j]?=some u->w.cell? (Ad b (o+i*4+j))=some u:=by
   intro i h1;obtain⟨cs',DD,ht'⟩:=hc i Ft;obtain⟨_,GG,JV⟩:=World.cells?_some DD;obtain⟨y,rfl,Qn⟩:=cV GG ht';have g0:=JV 0 Ft;have A0P:=tB Ft;subst A0P;refine⟨y,Qn,⟨rfl,?_⟩,λj u hu=> ?_⟩
   ·have:w.cell? ((((Ad b o):Addr).add (i*4)).add 0)=some (.int .i64 y.kind):=g0;have:=aP this;simpa[ed] using this
   ·have hj:j<4:=by
     rcases Oj j 4 with hj|hj
     ·exact hj
     ·rw[R3 (by exact hj)] at hu;cases hu
    have:=JV j hj;simp only[ed] at this;rw[this,hu]
  (have ch:∃F:Nat->Nt.Act,∀i,i<l->((-9223372036854775808<=(F i).kind/\(F i).kind<=9223372036854775807)/\(-9223372036854775808<=(F i).k/\(F i).k<=9223372036854775807)/\(-9223372036854775808<=(F i).n/\(F i).n<=9223372036854775807))/\(spot=none/\b<w.heap.size)/\∀j u,(F i).cells[j]?=some u->w.cell? (Ad b (o+i*4+j))=some u:=by refine⟨λi=>if h:i<l then Classical.choose (key i h) else Nt.A3K,λi hi=> ?_⟩;simp only[dif_pos hi];exact Classical.choose_spec (key i hi));obtain⟨F,hF⟩:=ch;refine⟨some ⟨b,o,spot⟩,l,m,(List.range l).map F,rfl,⟨hl,hm,(λh=>by cases h)⟩,⟨by simp,λh0=> ?_,λy hy=> ?_⟩⟩
  ·obtain⟨_,⟨hs,hb⟩,_⟩:=hF 0 h0;subst hs;refine⟨b,o,rfl,hb,λi hi=> ?_⟩;(have hg:((List.range l).map F).getD i Nt.A3K=F i:=by simp[List.getD,hi]);rw[hg];exact(hF i hi).2.2
  ·simp only[cz,List.mem_range] at hy;obtain⟨i,hi,rfl⟩:=hy;exact(hF i hi).1
end
end
section
open RowKit
attribute [local go_sem ↓] wp_at_zero wp_at_succ
namespace Nt
def LG(c:Nat)(s:St):Prop:=Inv (200000*(s.steps.toNat+c)) s
theorem LG.le{c:Nat}{s:St}(h:LG c s):200000*(s.steps.toNat+c)<=200000*(100000+c):=by
 have:=h.steps;omega
theorem LG.step{c:Nat}{s:St}(h:LG c s)(hc:c<=1000000):LG c (Nt.step s):=by
 by_cases he:FB s=0
 ·have h1:=Inv.yM h (by have:=h.le;omega);have h2:=(Z1 he).2.1;have h3:=h.steps;unfold LG;rw[h2,show 200000*((s.steps+1).toNat+c)=200000*(s.steps.toNat+c)+200000 by omega];exact h1
 ·(have:Nt.step s=s:=by unfold Nt.step;rw[AO he]);rw[this];exact h
theorem LG.runK{c:Nat}(hc:c<=1000000)(u:Int):∀(k:Nat)(s:St),LG c s->LG c (Nt.runK k s u).1
 |0,s,h=>h
 |k+1,s,h=>by
  rw[Nt.runK];split
  ·split
   ·exact LG.runK hc u k _ (h.step hc)
   ·exact h
  ·exact h
theorem LG.run{c:Nat}{s:St}(h:LG c s)(hc:c<=1000000)(u:Int):LG c (Nt.run s u).1:=by
 unfold Nt.run;split
 ·exact LG.runK hc u _ s h
 ·exact h
theorem A1u(s:St)(k x:Int):(Rq s k x).steps=s.steps/\(Rq s k x).cr.length=s.cr.length/\(Rq s k x).now=s.now/\(Rq s k x).r=s.r:=by
 unfold Rq;split
 ·have h1:=Zc (FP {s with st:=AJ.JP s.st k s.now x} (AJ.FM s.st k s.now x));have h2:=Q1 (AJ.FM s.st k s.now x) {s with st:=AJ.JP s.st k s.now x};have h3:=Qb (AJ.FM s.st k s.now x) {s with st:=AJ.JP s.st k s.now x};exact⟨h1.2.2.1.trans h2.2.1,h1.1.trans h3,h1.2.1.trans h2.1,h1.2.2.2.trans h2.2.2.1⟩
 ·exact⟨rfl,rfl,rfl,rfl⟩
theorem LG.Rq{c:Nat}{s:St}(h:LG c s)(hc:c<=1000000)(k x:Int):LG (c+1) (Nt.Rq s k x):=by
 have h1:=Inv.Rq h k x (by have:=h.le;omega);unfold LG;rw[(A1u s k x).1];exact h1.mono Ft
theorem LG.Vz{c:Nat}{s:St}(h:LG c s)(a:Nat)(b:Bool):LG c (Nt.Vz s a b):=Inv.Vz h a b
theorem LG.new{r:Ru}(h:MP r=true):LG 0 (Nt.new r):=aF h
end Nt
theorem Q4.yr{base b k:Nat}{m:NM}{s s':Nt.St}{w w':World}(h:Q4 base b m k s' w w')(h0:BQ w base b m k s)(hb:base<=w.heap.size):Below base w w':=by
 obtain⟨m',_,g,_⟩:=h;exact g.below (λi _ hi=>(h0.lt hi).1) hb
def NK(base b c k:Nat)(s:Nt.St)(w0 w:World):Prop:=∃m,BQ w base b m k s/\Nt.LG c s/\Below base w0 w/\base<=w.heap.size
section
variable{w w0:World}{base b c k:Nat}{s:Nt.St}
theorem NK.below(h:NK base b c k s w0 w){w':World}(g:Below w.heap.size w w'):NK base b c k s w0 w':=by
 obtain⟨m,h1,h2,h3,h4⟩:=h;exact⟨m,h1.below g,h2,h3.trans (g.mono h4),Lt h4 g.size⟩
theorem NK.drewN(h:NK base b c k s w0 w)(q:Nat):NK base b c k s w0 (w.drewN q):=h.below (below_drewN (IH _) q)
theorem NK.to{k' c':Nat}{m:NM}{s':Nt.St}{w':World}(h1:BQ w base b m k' s)(h3:Below base w0 w)(h4:base<=w.heap.size)(g:Q4 base b m k' s' w w')(hi:Nt.LG c' s'):NK base b c' k' s' w0 w':=by
 have hb:=g.yr h1 h4;obtain⟨m',g1,g2,_⟩:=g;exact⟨m',g1,hi,h3.trans hb,Lt h4 g2.size⟩
theorem A5b(h:NK base b c k s w0 w)(hc:c<=1000000)(u:Int):Calls prog 27 #[Pt b,Iv u] w λe w'=>e= .returned (Iv (Nt.run s u).2)/\NK base b c k (Nt.run s u).1 w0 w':=by
 obtain⟨m,h1,h2,h3,h4⟩:=h;exact(mI h1 h2 h4 El u).mono λe w' g=>⟨g.1,NK.to h1 h3 h4 g.2 (h2.run hc u)⟩
theorem A6V(h:NK base b c k s w0 w)(hc:c<=1000000)(j x:Int):Calls prog 28 #[Pt b,Iv j,Iv x] w λe w'=>e= .returned (Iv (Nt.Yy s j x))/\NK base b (c+1) k (Nt.Rq s j x) w0 w':=by
 obtain⟨m,h1,h2,h3,h4⟩:=h;exact(tl h1 h2 h4 El j x).mono λe w' g=>⟨g.1,NK.to h1 h3 h4 g.2 (h2.Rq hc j x)⟩
theorem A5d(h:NK base b c k s w0 w)(i:Nat)(x:Bool)(hi:1<=i/\i<=s.cr.length)(hk:k<maxLen):Calls prog 23 #[Pt b,Iv i,.bool x] w λe w'=>e= .returned (Iv 0)/\NK base b c (k+1) (Nt.Vz s i x) w0 w':=by
 obtain⟨m,h1,h2,h3,h4⟩:=h;exact(mQ h1 h2 i x hi hk).mono λe w' g=>⟨g.1,NK.to (h1.mono (Nat.le_succ k)) h3 h4 g.2 (h2.Vz i x)⟩
theorem Tl(h:NK base b c k s w0 w)(hc:c<=1000000)(u:Int){t:Nt.St}{x:Int}(hr:Nt.run s u=(t,x)):Calls prog 27 #[Pt b,Iv u] w λe w'=>e= .returned (Iv x)/\NK base b c k t w0 w':=by
 have:=A5b h hc u;rw[hr] at this;exact this
theorem qk(h:NK base b c k s w0 w)(hc:c<=1000000)(j y:Int){t:Nt.St}{x:Int}(he:Nt.Yy s j y=x)(hr:Nt.Rq s j y=t):Calls prog 28 #[Pt b,Iv j,Iv y] w λe w'=>e= .returned (Iv x)/\NK base b (c+1) k t w0 w':=by
 have:=A6V h hc j y;rw[he,hr] at this;exact this
theorem A5c(h:NK base b c k s w0 w):Calls prog 21 #[Pt b] w (LP (Iv s.now) w):=by
 obtain⟨m,h1,h2,h3,h4⟩:=h;exact mK h1 h2.n.1
theorem cS(h:NK base b c k s w0 w):Calls prog 19 #[Pt b] w (LP (Iv s.st.st) w):=by
 obtain⟨m,h1,h2,h3,h4⟩:=h;exact Ye h1 h2
theorem mN(h:NK base b c k s w0 w){i:Nat}(hi:i<s.cr.length):Calls prog 22 #[Pt b,Iv ((i:Int)+1)] w (LP (.tuple #[Iv (Nt.at_ s i).p.st,Iv 0]) w):=by
 obtain⟨m,h1,h2,h3,h4⟩:=h;exact cQ h1 h2 hi
theorem qj(h:NK base b c k s w0 w):Calls prog 30 #[Pt b] w (TJ 3 1 (AJ.EC s.st).length ((AJ.EC s.st).map (λ(i:Nat)=>Iv i)) w):=by
 obtain⟨m,h1,h2,h3,h4⟩:=h;exact Yg h1 h2
end
section
variable(b:Nat)(w:World)(Ud:w.cell? (Ad b 25)=some (.slice none 0 0))
theorem vR(w:World):Calls prog 24 #[.pointer none] w (LP (Iv 1) w):=by
 have NO:=Hd (TY w);go_enter func24,ntmps24;exact Ma
theorem A2I(j x:Int)(w:World):Calls prog 28 #[.pointer none,Iv j,Iv x] w (LP (Iv 1) w):=by
 have NO:=Hd (TY w);go_enter func28,ntmps28;exact Ma
theorem A0q(w:World):Calls prog 21 #[.pointer none] w (LP (Iv 0) w):=by
 have NO:=Hd (TY w);go_enter func21,ntmps21;exact Ma
theorem vY(w:World):Calls prog 17 #[.pointer none] w (LP (.pointer none) w):=by
 go_enter func17,ntmps17;exact He
theorem qh(a:Int)(w:World):Calls prog 22 #[.pointer none,Iv a] w (LP (.tuple #[Iv 0,Iv 1]) w):=by
 have NO:=Hd (qm a w);go_enter func22,ntmps22;go_wp2_with (go_at_call 53;refine NO.out.mono ?_;rintro e w' ⟨rfl,rfl⟩);exact J9
include Ud
theorem vS(u:Int):Calls prog 27 #[Pt b,Iv u] w (LP (Iv 1) w):=by
 have NO:=Hd (Xv b w Ud);go_enter func27,ntmps27;exact Ma
theorem vX(a:Int)(x:Bool):Calls prog 23 #[Pt b,Iv a,.bool x] w (LP (Iv 1) w):=by
 have NO:=Hd (ZE b a w Ud);go_enter func23,ntmps23;go_wp2_with (go_at_call 53;refine NO.out.mono ?_;rintro e w' ⟨rfl,rfl⟩);exact Hi
theorem eW:Calls prog 30 #[Pt b] w (LP (.slice none 0 0) w):=by
 have NO:=Hd (Xv b w Ud);go_enter func30,ntmps30;exact Ma
end
end
section
set_option maxRecDepth 512
namespace Ck.AV
def bsr(p:Nat->Bool):Nat->Nat->Nat->Nat
 |0,lo,_=>lo
 |k+1,lo,hi=>if hi<=lo then lo else if p ((lo+hi)/2) then bsr p k lo ((lo+hi)/2) else bsr p k ((lo+hi)/2+1) hi
theorem rH(p:Nat->Bool)(n:Nat)(mono:∀a b,a<=b->p a=true->p b=true):∀(k lo hi:Nat),hi<lo+2^k->lo<=hi->hi<=n->(∀t,t<lo->p t=false)->(∀t,hi<=t->t<n->p t=true)->cnt p n=bsr p k lo hi
 |0,lo,hi,h,h1,h2,h3,h4=>by rw[bsr];exact jF p lo n Ft h3 (λt a b=>h4 t Ft b)
 |k+1,lo,hi,h,h1,h2,h3,h4=>by
  rw[bsr]
  by_cases e:hi<=lo
  ·rw[AW e];exact jF p lo n Ft h3 (λt a b=>h4 t Ft b)
  ·rw[AO e];have hp:2^(k+1)=2^k+2^k:=by rw[Nat.pow_succ];omega
   by_cases hm:p ((lo+hi)/2)=true
   ·rw[AW hm];exact rH p n mono k lo ((lo+hi)/2) Ft Ft Ft h3 (λt a b=>mono _ _ a hm)
   ·rw[AO hm];refine rH p n mono k ((lo+hi)/2+1) hi Ft Ft h2 (λt ht=> ?_) h4
    cases hq:p t
    ·rfl
    ·exact absurd (mono t _ Ft hq) hm
def A27(d r lo time:Int):Nat:=if 0<=d/\d<=100000/\YM r<4294967296 then bsr (oJ d lo time) 32 0 (YM r) else yI d r lo time
theorem sq:A27=yI:=by
 funext d r lo time;unfold A27;split
 ·rename_i h
  unfold yI;rw[rH (oJ d lo time) (YM r) (λa b hab hp=>bg h.1 h.2.1 a b hab hp) 32 0 (YM r) (by have:=h.2.2;rw[show(2:Nat)^32=4294967296 from rfl];omega) Ft Ft (λt ht=>by omega) (λt a b=>by omega)]
 ·rfl
def A28(d r:Int)(s:Bool)(lo time:Int):Int:=if Rj time 0 3600000=false then 2 else if s=false then 9 else if A27 d r lo time=YM r then 3 else 0
def A56(d r:Int)(s:Bool)(lo time:Int):Int:=if A28 d r s lo time=0 then r+A27 d r lo time else 0
theorem su:A28=fA:=by funext d r s lo t;unfold A28 fA;rw[sq]
theorem A26:A56=iB:=by funext d r s lo t;unfold A56 iB;rw[sq,su]
end Ck.AV
namespace AL
open Ck
def uB(s:St):Int:=max (AV.A56 s.d s.r s.cs s.lo s.start) s.since
def A6I(s:St):Int×Int×Bool:=
 if AV.A28 s.d s.r s.cs s.lo s.start≠0\/s.heard+s.lost<=uB s then(s.heard+s.lost,1,true)
 else if aE s.d s.r s.cs s.hi (uB s)≠0\/s.start+s.late<ue s.d s.r s.cs s.hi (uB s) then(uB s,1,true) else(uB s,4,true)
def Vx(s:St):Int×Int×Bool:=
 if s.st=2 then(s.heard+s.lost,1,true) else if s.st=4 then(s.heard+s.lost,5,true) else if s.st=5 then(max (s.heard+s.ret) s.since,6,true)
 else if s.st=6 then(s.since+s.desc,7,true) else if s.st=3 then A6I s else(0,0,false)
theorem A3n:Vx=MC:=by
 funext s;unfold Vx MC A6I wev uB oI;rw[AV.A26,AV.su]
section
variable(ev:St->Int×Int×Bool)
def A2d:Nat->St->Int->St
 |0,s,_=>s
 |k+1,s,l=>if(ev s).2.2&&decide ((ev s).1<=l) then A2d k (QR s (ev s).2.1 (ev s).1) l else s
def aa(s:St)(l:Int):St:=A2d ev 4 {u7 s l with now:=l} l
def zM(s:St)(l:Int)(x:Fm):St:=aa ev (take {aa ev s l with heard:=l} x).1 l
def pS(s:St)(l:Int)(x:Fm):Bool:=(take {aa ev s l with heard:=l} x).2
def yD(s:St)(l:Int):St:=if asks (aa ev s l) l then aa ev s l else{aa ev s l with q:=(aa ev s l).AZ%65536,asked:=true,AZ:=(aa ev s l).AZ+1,MO:=l}
def pv(s:St)(l:Int):List Fr:=if OK s l=0/\asks (aa ev s l) l=false then [⟨9,s.id,0,s.AZ%65536,[(aa ev s l).st]⟩] else []
def pq(s:St)(l:Int):St:=if OK s l=0 then yD ev s l else s
def zS(s:St)(l:Int)(x:Fr):St:=if VS s l x=0 then zM ev s l (MK x) else s
def zV(s:St)(l:Int)(x:Fr):List Fr:=if VS s l x=0/\pS ev s l (MK x)=true then [⟨8,s.id,0,x.s,[x.k]⟩] else []
end
theorem A2c:A2d Vx=run:=by
 funext k
 induction k with
 |zero=>rfl
 |succ k ih=>funext s l;rw[A2d,run,ih,A3n];rfl
theorem aD:aa Vx=T6:=by funext s l;unfold aa T6;rw[A2c]
theorem zL:zM Vx=recv:=by funext s l x;unfold zM recv;rw[aD]
theorem vz:pS Vx=lW:=by funext s l x;unfold pS lW;rw[aD]
theorem yB:yD Vx=tick:=by funext s l;unfold yD tick;rw[aD]
theorem uI:pv Vx=DK:=by funext s l;unfold pv DK;rw[aD]
theorem uG:pq Vx=LQ:=by funext s l;unfold pq LQ;rw[yB]
theorem zR:zS Vx=QY:=by funext s l x;unfold zS QY;rw[zL]
theorem zU:zV Vx=RI:=by funext s l x;unfold zV RI;rw[vz]
end AL
namespace Nt
section
variable(ev:AL.St->Int×Int×Bool)
def A1j(i:Nat)(s:St)(f:Fr):St:=FP (put s i {at_ s i with p:=AL.zS ev (at_ s i).p (Sc s i) f}) (AL.zV ev (at_ s i).p (Sc s i) f)
def A1h(i:Nat)(s:St):St:=FP (put s i {at_ s i with p:=AL.pq ev (at_ s i).p (Sc s i)}) (AL.pv ev (at_ s i).p (Sc s i))
def A5S(s:St)(i:Nat):St:=note i (A1h ev i ((Qq (AN.Vo (at_ s i).dn s.now)).foldl (A1j ev i) (put s i {at_ s i with dn:=AN.recv (at_ s i).dn s.now})))
def jy(s:St):Nat->St
 |0=>s
 |k+1=>A5S ev (jy s k) k
def stepG(s:St):St:=if FB s=0 then jy ev (look (hears (P7 s) s.cr.length)) s.cr.length else s
def sC:Nat->St->Int->St×Int
 |0,s,_=>(s,0)
 |k+1,s,u=>if s.now+s.r.step<=u then(if FB s=0 then sC k (stepG ev s) u else(s,FB s)) else(s,0)
end
theorem A1i(i:Nat):A1j AL.Vx i=MW i:=by funext s f;unfold A1j MW;rw[AL.zR,AL.zU]
theorem A1g(i:Nat):A1h AL.Vx i=SO i:=by funext s;unfold A1h SO;rw[AL.uG,AL.uI]
theorem A3l:A5S AL.Vx=gS:=by funext s i;unfold A5S gS;rw[A1g,A1i]
theorem xn:jy AL.Vx=LW:=by
 funext s k
 induction k with
 |zero=>rfl
 |succ k ih=>rw[jy,LW,ih,A3l]
theorem yN:stepG AL.Vx=step:=by funext s;unfold stepG step;rw[xn]
theorem yX:sC AL.Vx=runK:=by
 funext k
 induction k with
 |zero=>rfl
 |succ k ih=>funext s u;rw[sC,runK,ih,yN]
theorem fG:∀(k m:Nat)(s r:St)(u:Int),runK k s u=(r,0)->u<r.now+r.r.step->runK (k+m) s u=(r,0)
 |0,m,s,r,u,h,hr=>by
  have e:s=r:=OP (·.1) h;subst e
  cases m with
  |zero=>exact h
  |succ m=>rw[PL,runK,AO Ft]
 |k+1,m,s,r,u,h,hr=>by
  rw[show k+1+m=(k+m)+1 by omega,runK];rw[runK] at h;split at h
  ·rename_i h1
   rw[AW h1];split at h
   ·rename_i h2
    rw[AW h2];exact fG k m _ r u h hr
   ·rename_i h2
    exact absurd (OP (·.2) h) h2
  ·rename_i h1
   rw[AO h1];exact h
theorem VN{s r:St}{u:Int}(k:Nat)(h0:lu s u=0)(h:sC AL.Vx k s u=(r,0))(hr:u<r.now+r.r.step)(hk:k<=3600001):run s u=(r,0):=by
 unfold run;rw[AW h0];rw[yX] at h;have:=fG k (3600001-k) s r u h hr;rw[show k+(3600001-k)=3600001 by omega] at this;exact this
end Nt
end
section
namespace fw
open Nt
def kr:Ru:=⟨2,100,10,0,1000,5000,2000,50,100,⟨0,0,5,5,0⟩,⟨0,0,5,5,0⟩,[0,0],[0,0]⟩
theorem vk:MP kr=true:=by kernel_rfl
def K0:St:=⟨kr,0,0,⟨2,100,0,0,0,false,0,0,0,0,[false,false],[(false,(0,0)),(false,(0,0))]⟩,0,[⟨⟨1,1000,5000,2000,50,100,0,0,false,0,0,0,false,false,false,false,0,0,0,0,0,0,0,0⟩,⟨1,0,[],0,0,0⟩,⟨1,0,[],0,0,0⟩,0⟩,⟨⟨2,1000,5000,2000,50,100,0,0,false,0,0,0,false,false,false,false,0,0,0,0,0,0,0,0⟩,⟨2,0,[],0,0,0⟩,⟨2,0,[],0,0,0⟩,0⟩],[false,false,false],[]⟩
theorem n0:new kr=K0:=by kernel_rfl
def K1:St:=⟨kr,20,2,⟨2,100,0,20,0,false,0,0,0,0,[false,false],[(true,(0,20)),(true,(0,20))]⟩,0,[⟨⟨1,1000,5000,2000,50,100,0,0,false,0,0,0,true,false,false,true,20,10,10,0,0,1,10,0⟩,⟨11960119808228829710,20,[],1,0,0⟩,⟨11960119808228829710,20,[(25,[213,76,7,0,1,0,0,8,0,0,0,20,0,0,0,20,44,15])],1,0,0⟩,0⟩,⟨⟨2,1000,5000,2000,50,100,0,0,false,0,0,0,true,false,false,true,20,10,10,0,0,1,10,0⟩,⟨12753995202142458627,20,[],1,0,0⟩,⟨12753995202142458627,20,[(25,[213,76,7,0,2,0,0,8,0,0,0,20,0,0,0,20,41,144])],1,0,0⟩,0⟩],[false,false,false],[]⟩
theorem r1:run K0 20=(K1,0):=VN 400 Ff Ff F2 (mi Ff)
def K2:St:=⟨kr,20,2,⟨2,100,1,20,1,true,7,1,0,20,[false,false],[(true,(0,20)),(true,(0,20))]⟩,1,[⟨⟨1,1000,5000,2000,50,100,0,0,false,0,0,0,true,false,false,true,20,10,10,0,0,1,10,0⟩,⟨11960119808228829710,20,[],1,0,0⟩,⟨9232803539723513983,20,[(25,[213,76,7,0,1,0,0,8,0,0,0,20,0,0,0,20,44,15]),(25,[213,76,1,0,1,0,1,4,0,0,0,7,117,238])],2,0,0⟩,0⟩,⟨⟨2,1000,5000,2000,50,100,0,0,false,0,0,0,true,false,false,true,20,10,10,0,0,1,10,0⟩,⟨12753995202142458627,20,[],1,0,0⟩,⟨8119572962061839096,20,[(25,[213,76,7,0,2,0,0,8,0,0,0,20,0,0,0,20,41,144]),(25,[213,76,1,0,2,0,1,4,0,0,0,7,189,155])],2,0,0⟩,0⟩],[false,false,false],[(20,(0,1))]⟩
theorem r2:Yy K1 1 7=0/\Rq K1 1 7=K2:=⟨by kernel_rfl,by kernel_rfl⟩
def K3:St:=⟨kr,30,3,⟨2,100,1,30,1,true,7,1,0,20,[false,false],[(true,(0,20)),(true,(0,20))]⟩,1,[⟨⟨1,1000,5000,2000,50,100,0,30,true,20,41,1,true,true,false,false,30,30,30,7,0,1,10,0⟩,⟨9232803539723513983,30,[(35,[213,76,8,1,0,0,1,1,1,51,227])],2,0,0⟩,⟨9232803539723513983,30,[],2,0,0⟩,1⟩,⟨⟨2,1000,5000,2000,50,100,0,30,true,20,41,1,true,true,false,false,30,30,30,7,0,1,10,0⟩,⟨8119572962061839096,30,[(35,[213,76,8,2,0,0,1,1,1,253,3])],2,0,0⟩,⟨8119572962061839096,30,[],2,0,0⟩,1⟩],[false,false,false],[(20,(0,1)),(30,(1,1)),(30,(2,1))]⟩
theorem r3:run K2 30=(K3,0):=VN 400 Ff Ff F2 (mi Ff)
def K4:St:=⟨kr,40,4,⟨2,100,2,40,1,true,7,1,0,20,[true,true],[(true,(0,20)),(true,(0,20))]⟩,2,[⟨⟨1,1000,5000,2000,50,100,0,30,true,20,41,1,true,true,false,false,40,30,30,7,0,1,10,0⟩,⟨9232803539723513983,40,[],2,0,0⟩,⟨9232803539723513983,40,[],2,0,0⟩,1⟩,⟨⟨2,1000,5000,2000,50,100,0,30,true,20,41,1,true,true,false,false,40,30,30,7,0,1,10,0⟩,⟨8119572962061839096,40,[],2,0,0⟩,⟨8119572962061839096,40,[],2,0,0⟩,1⟩],[false,false,false],[(20,(0,1)),(30,(1,1)),(30,(2,1)),(40,(0,2))]⟩
theorem r4:run K3 40=(K4,0):=VN 400 Ff Ff F2 (mi Ff)
def K5:St:=⟨kr,40,4,⟨2,100,3,40,2,true,7,2,0,40,[false,false],[(true,(0,20)),(true,(0,20))]⟩,3,[⟨⟨1,1000,5000,2000,50,100,0,30,true,20,41,1,true,true,false,false,40,30,30,7,0,1,10,0⟩,⟨9232803539723513983,40,[],2,0,0⟩,⟨15490212636682683044,40,[(45,[213,76,2,0,1,0,2,4,0,0,0,7,10,193])],3,0,0⟩,1⟩,⟨⟨2,1000,5000,2000,50,100,0,30,true,20,41,1,true,true,false,false,40,30,30,7,0,1,10,0⟩,⟨8119572962061839096,40,[],2,0,0⟩,⟨3627712048155926641,40,[(45,[213,76,2,0,2,0,2,4,0,0,0,7,194,180])],3,0,0⟩,1⟩],[false,false,false],[(20,(0,1)),(30,(1,1)),(30,(2,1)),(40,(0,2)),(40,(0,3))]⟩
theorem r5:Yy K4 2 0=0/\Rq K4 2 0=K5:=⟨by kernel_rfl,by kernel_rfl⟩
def K6:St:=⟨kr,70,7,⟨2,100,4,70,2,true,7,2,0,40,[true,true],[(true,(0,20)),(true,(0,20))]⟩,4,[⟨⟨1,1000,5000,2000,50,100,0,30,true,20,41,2,true,true,false,false,70,50,50,7,0,1,10,0⟩,⟨15490212636682683044,70,[],3,0,0⟩,⟨15490212636682683044,70,[],3,0,0⟩,2⟩,⟨⟨2,1000,5000,2000,50,100,0,30,true,20,41,2,true,true,false,false,70,50,50,7,0,1,10,0⟩,⟨3627712048155926641,70,[],3,0,0⟩,⟨3627712048155926641,70,[],3,0,0⟩,2⟩],[false,false,false],[(20,(0,1)),(30,(1,1)),(30,(2,1)),(40,(0,2)),(40,(0,3)),(50,(1,2)),(50,(2,2)),(60,(0,4))]⟩
theorem r6:run K5 70=(K6,0):=VN 400 Ff Ff F2 (mi Ff)
def K7:St:=⟨kr,70,7,⟨2,100,5,70,3,true,7,3,200,70,[false,false],[(true,(0,20)),(true,(0,20))]⟩,5,[⟨⟨1,1000,5000,2000,50,100,0,30,true,20,41,2,true,true,false,false,70,50,50,7,0,1,10,0⟩,⟨15490212636682683044,70,[],3,0,0⟩,⟨9882984339513518093,70,[(75,[213,76,3,0,1,0,3,4,0,0,0,200,8,135])],4,0,0⟩,2⟩,⟨⟨2,1000,5000,2000,50,100,0,30,true,20,41,2,true,true,false,false,70,50,50,7,0,1,10,0⟩,⟨3627712048155926641,70,[],3,0,0⟩,⟨13029342691234231614,70,[(75,[213,76,3,0,2,0,3,4,0,0,0,200,192,242])],4,0,0⟩,2⟩],[false,false,false],[(20,(0,1)),(30,(1,1)),(30,(2,1)),(40,(0,2)),(40,(0,3)),(50,(1,2)),(50,(2,2)),(60,(0,4)),(70,(0,5))]⟩
theorem r7:Yy K6 3 200=0/\Rq K6 3 200=K7:=⟨by kernel_rfl,by kernel_rfl⟩
def K8:St:=⟨kr,100,10,⟨2,100,6,100,3,true,7,3,200,70,[true,true],[(true,(0,20)),(true,(0,20))]⟩,6,[⟨⟨1,1000,5000,2000,50,100,0,30,true,20,41,3,true,true,true,false,100,80,80,7,200,1,10,0⟩,⟨9882984339513518093,100,[],4,0,0⟩,⟨9882984339513518093,100,[],4,0,0⟩,3⟩,⟨⟨2,1000,5000,2000,50,100,0,30,true,20,41,3,true,true,true,false,100,80,80,7,200,1,10,0⟩,⟨13029342691234231614,100,[],4,0,0⟩,⟨13029342691234231614,100,[],4,0,0⟩,3⟩],[false,false,false],[(20,(0,1)),(30,(1,1)),(30,(2,1)),(40,(0,2)),(40,(0,3)),(50,(1,2)),(50,(2,2)),(60,(0,4)),(70,(0,5)),(80,(1,3)),(80,(2,3)),(90,(0,6))]⟩
theorem r8:run K7 100=(K8,0):=VN 400 Ff Ff F2 (mi Ff)
def K9:St:=⟨kr,200,20,⟨2,100,6,200,3,true,7,3,200,70,[true,true],[(true,(3,120)),(true,(3,120))]⟩,6,[⟨⟨1,1000,5000,2000,50,100,0,130,true,120,141,3,true,true,true,false,200,130,80,7,200,2,110,1⟩,⟨4493283409665547658,200,[],5,0,0⟩,⟨4493283409665547658,200,[],5,0,0⟩,3⟩,⟨⟨2,1000,5000,2000,50,100,0,130,true,120,141,3,true,true,true,false,200,130,80,7,200,2,110,1⟩,⟨10590742840031716719,200,[],5,0,0⟩,⟨10590742840031716719,200,[],5,0,0⟩,3⟩],[false,false,false],[(20,(0,1)),(30,(1,1)),(30,(2,1)),(40,(0,2)),(40,(0,3)),(50,(1,2)),(50,(2,2)),(60,(0,4)),(70,(0,5)),(80,(1,3)),(80,(2,3)),(90,(0,6))]⟩
theorem r9:run K8 200=(K9,0):=VN 400 Ff Ff F2 (mi Ff)
def K10:St:=⟨kr,220,22,⟨2,100,6,220,3,true,7,3,200,70,[true,true],[(true,(3,220)),(true,(3,220))]⟩,6,[⟨⟨1,1000,5000,2000,50,100,0,130,true,120,141,4,true,true,true,true,220,130,211,7,200,3,210,2⟩,⟨10554199195565463083,220,[],6,0,0⟩,⟨10554199195565463083,220,[(225,[213,76,7,0,1,0,2,8,0,0,0,220,0,0,0,220,155,84])],6,0,0⟩,4⟩,⟨⟨2,1000,5000,2000,50,100,0,130,true,120,141,4,true,true,true,true,220,130,211,7,200,3,210,2⟩,⟨3128282499199577172,220,[],6,0,0⟩,⟨3128282499199577172,220,[(225,[213,76,7,0,2,0,2,8,0,0,0,220,0,0,0,220,158,203])],6,0,0⟩,4⟩],[false,false,false],[(20,(0,1)),(30,(1,1)),(30,(2,1)),(40,(0,2)),(40,(0,3)),(50,(1,2)),(50,(2,2)),(60,(0,4)),(70,(0,5)),(80,(1,3)),(80,(2,3)),(90,(0,6)),(220,(1,4)),(220,(2,4))]⟩
theorem r10:run K9 220=(K10,0):=VN 400 Ff Ff F2 (mi Ff)
def K11:St:=⟨kr,220,22,⟨2,100,6,220,3,true,7,3,200,70,[true,true],[(true,(3,220)),(true,(3,220))]⟩,6,[⟨⟨1,1000,5000,2000,50,100,0,130,true,120,141,4,true,true,true,true,220,130,211,7,200,3,210,2⟩,⟨10554199195565463083,220,[],6,0,0⟩,⟨10554199195565463083,220,[(225,[213,76,7,0,1,0,2,8,0,0,0,220,0,0,0,220,155,84])],6,0,0⟩,4⟩,⟨⟨2,1000,5000,2000,50,100,0,130,true,120,141,4,true,true,true,true,220,130,211,7,200,3,210,2⟩,⟨3128282499199577172,220,[],6,0,0⟩,⟨3128282499199577172,220,[(225,[213,76,7,0,2,0,2,8,0,0,0,220,0,0,0,220,158,203])],6,0,0⟩,4⟩],[false,true,false],[(20,(0,1)),(30,(1,1)),(30,(2,1)),(40,(0,2)),(40,(0,3)),(50,(1,2)),(50,(2,2)),(60,(0,4)),(70,(0,5)),(80,(1,3)),(80,(2,3)),(90,(0,6)),(220,(1,4)),(220,(2,4))]⟩
theorem r11:Vz K10 1 true=K11:=by kernel_rfl
def K12:St:=⟨kr,3000,300,⟨2,100,6,3000,3,true,7,3,200,70,[true,true],[(true,(3,220)),(true,(4,2920))]⟩,6,[⟨⟨1,1000,5000,2000,50,100,0,230,true,220,241,5,true,true,true,true,3000,230,1230,7,200,30,2910,29⟩,⟨10554199195565463083,3000,[],6,0,0⟩,⟨10554199195565463083,3000,[],6,0,0⟩,5⟩,⟨⟨2,1000,5000,2000,50,100,0,2930,true,2920,2941,4,true,true,true,false,3000,2930,211,7,200,30,2910,29⟩,⟨17486007178400615779,3000,[],33,0,0⟩,⟨17486007178400615779,3000,[],33,0,0⟩,4⟩],[false,true,false],[(20,(0,1)),(30,(1,1)),(30,(2,1)),(40,(0,2)),(40,(0,3)),(50,(1,2)),(50,(2,2)),(60,(0,4)),(70,(0,5)),(80,(1,3)),(80,(2,3)),(90,(0,6)),(220,(1,4)),(220,(2,4)),(1230,(1,5))]⟩
theorem r12:run K11 3000=(K12,0):=VN 400 Ff Ff F2 (mi Ff)
end fw
end
section
open RowKit
attribute [local go_sem ↓] wp_at_zero wp_at_succ
section
variable{w w0:World}{base b c k:Nat}{s:Nt.St}
theorem gw{S:Nat->Prop}{w w':World}(h:AG S w w'){g:Nat}(hg:S g\/w.heap.size<=g)(cs:Array Value):AG S w (w'.setRow g cs):=
 ⟨h.os,h.tape,h.output,by simpa[World.setRow] using h.size,λi hi hn=>(Pq w' g i cs (by
  rintro rfl
  rcases hg with hg|hg
  ·exact hn hg
  ·omega)).trans (h.block i hi hn)⟩
theorem ri2{W:World}{q:Nat}(h:W.heap[q]?=some (.cells #[Iv 0,Iv 0] 3 (0,0))):Ri W W.heap.size (some (Ad q 0)) 2 [0,0]:=
 ⟨rfl,by intro x hx;simp at hx;omega,λ_=>⟨q,0,rfl,BG h,λi hi=>by
  rw[PL]
  match i,hi with
  |0,_=>exact AB (l:=[_,_]) h 0 rfl
  |1,_=>exact AB (l:=[_,_]) h 1 rfl⟩⟩
theorem pD(w:World):Calls prog 26 #[] w λe w'=>∃g h,e= .returned (Rz fw.kr (some (Ad g 0)) 2 2 (some (Ad h 0)) 2 2)/\Ri w' w'.heap.size (some (Ad g 0)) 2 [0,0]/\Ri w' w'.heap.size (some (Ad h 0)) 2 [0,0]/\Below w.heap.size w w':=by
 go_enter func26,ntmps26;go_upto_region 2 with fail;(refine Ko ?_;intro V hV);(have k0:V.heap[w.heap.size]?=some (.cells Z4z 28 (0,0)):=by rw[<-hV];exact AI (AM _ _) _);(have k1:V.heap[w.heap.size+1]?=some (.cells #[Iv 0,Iv 0,Iv 5,Iv 5,Iv 0] 25 (0,0)):=by rw[<-hV];exact BK _ _ _ Fu);have HB:=Hd (show Below w.heap.size w V from by rw[<-hV];exact((IH w).alloc (Lr _) _).alloc Fu _);clear hV;have s0:=AB k1 0 rfl;have s1:=AB k1 1 rfl;have s2:=AB k1 2 rfl;have s3:=AB k1 3 rfl;have s4:=AB k1 4 rfl;have hl0:=BG k0;clear k1;go_wp2_with (refine OZ rfl 28 _ _ rfl _ _ rfl rfl 28 _ (AI (AI k0 _) _) Ff rfl Ff ?_);have z2:=BK (V.alloc (.cells #[Iv 0,Iv 0] 3)) (.cells #[Iv 0,Iv 0] 3) (V.heap.size+1) Fu;refine IT (pO rfl _ _ w.heap.size 28 _ (0,0) _ rfl (MR _ _ _ _ _ _ (AI (AI k0 _) _)) underlying28 rfl Ff) rfl ⟨V.heap.size,V.heap.size+1,rfl,?_,?_,?_⟩
 ·exact ri2 (AR (AI (AM V _) _) (gw (AG.refl (λq=>q=w.heap.size) _) (.inl rfl) _) Ft)
 ·exact ri2 (AR z2 (gw (AG.refl (λq=>q=w.heap.size) _) (.inl rfl) _) Ft)
 ·exact JO ((HB.out.alloc Ft _).alloc Fp _) (Lr _) _
end
theorem SY{w w0:World}{base b c k:Nat}{s:Nt.St}(h:NK base b c k s w0 w)(h2:s.cr.length=2)(x y z:Int)(hx:s.st.st=x)(hy:(Nt.at_ s 0).p.st=y)(hz:(Nt.at_ s 1).p.st=z):
  Calls prog 29 #[Pt b,Iv x,Iv y,Iv z] w (LP (.bool true) w):=by
 have P1:=Hd (show Calls prog 22 #[Pt b,Iv 1] w (LP (.tuple #[Iv y,Iv 0]) w) from by rw[<-hy];exact mN h (i:=0) Ft);have P2:=Hd (show Calls prog 22 #[Pt b,Iv 2] w (LP (.tuple #[Iv z,Iv 0]) w) from by rw[<-hz];exact mN h (i:=1) Ft);have SS:=Hd (show Calls prog 19 #[Pt b] w (LP (Iv x) w) from by rw[<-hx];exact cS h);clear h hx hy hz;go_enter func29,ntmps29;go_upto_region 2 with(go_at_call 22;refine P1.out.mono ?_;rintro e w' ⟨rfl,rfl⟩);go_upto_region 3 with(go_at_call 22;refine P2.out.mono ?_;rintro e w' ⟨rfl,rfl⟩);go_wp2_with (go_at_call 19;refine SS.out.mono ?_;rintro e w' ⟨rfl,rfl⟩);exact Hi
end
section
open RowKit Shelf
attribute [local go_sem ↓] wp_at_zero wp_at_succ
theorem A44(n:Nat)(b:Array Value)(W:World):(binOp .eql 43 (.func (.func n) #[] b) .nilFunc).run prog W= .ok (.bool false) W:=by kernel_rfl
theorem qA(w:World):Calls prog 8 #[] w (IL (.bool true) w):=by
 refine(callsIn_wide (n:=5)).1 (A09 func8 rfl trivial ?_ rfl);simp only[ntmps8,cf,List.length_cons,List.length_nil,Nat.reduceAdd,Nat.reduceSub,A01,Array.replicate_zero,mA,mD,List.nil_append,List.cons_append];refine wpIn_wide.2 ?_;go_upto_region 1 with fail;generalize jn:World.alloc _ _=W0;(have r0:W0.heap[w.heap.size]?=some (.cells #[.bool false] 4 (0,0)):=by rw[<-jn];exact AM _ _);(have eM:Below w.heap.size w W0:=by rw[<-jn];exact(IH w).alloc (Lr _) _);clear jn;go_wp2_with fail;refine(pD W0).mono ?_;rintro _ W1 ⟨g,h,rfl,ri1,ri2,BX⟩;go_wp2_with fail;refine(mL fw.kr 2 (some (Ad g 0)) 2 (some (Ad h 0)) 2 W1 fw.vk rfl rfl Fu Fu ri1 ri2).mono ?_;rintro _ W2 ⟨b,m,rfl,ae,CB⟩;rw[fw.n0] at ae;have HK:NK W1.heap.size b 0 0 fw.K0 W1 W2:=⟨m,ae,by rw[<-fw.n0];exact Nt.LG.new fw.vk,CB,CB.size⟩;have r0:=GH r0 BX;have hr1:=BG r0;have eM:=Hd (eM.trans (BX.mono eM.size));have R1:=Hd r0;have hw1:=Hd eM.out.size;clear ae BX CB ri1 ri2 r0;go_wp2_with fail;refine(Tl HK Ft 20 fw.r1).mono ?_;rintro _ W3 ⟨rfl,HK⟩;go_wp2_with fail;refine(A5c HK).mono ?_;rintro _ _ ⟨rfl,rfl⟩;go_wp2_with fail;refine(qk HK Ft 1 7 fw.r2.1 fw.r2.2).mono ?_;rintro _ W4 ⟨rfl,HK⟩;go_wp2_with fail;refine(cS HK).mono ?_;rintro _ _ ⟨rfl,rfl⟩;go_wp2_with fail;refine(Tl HK Ft 30 fw.r3).mono ?_;rintro _ W5 ⟨rfl,HK⟩;go_wp2_with fail;refine(SY HK rfl 1 1 1 rfl rfl rfl).mono ?_;rintro _ _ ⟨rfl,rfl⟩;go_wp2_with fail;refine(Tl HK Ft 40 fw.r4).mono ?_;rintro _ W6 ⟨rfl,HK⟩;go_wp2_with fail;refine(SY HK rfl 2 1 1 rfl rfl rfl).mono ?_;rintro _ _ ⟨rfl,rfl⟩;go_wp2_with fail;refine(qj HK).mono ?_;rintro _ W7 ⟨A0,c0,rfl,_,hbm⟩;have HK:=HK.below hbm;clear hbm;go_wp2_with fail;refine(qk HK Ft 2 0 fw.r5.1 fw.r5.2).mono ?_;rintro _ W8 ⟨rfl,HK⟩;go_wp2_with fail;refine(Tl HK Ft 70 fw.r6).mono ?_;rintro _ W9 ⟨rfl,HK⟩;go_wp2_with fail;refine(SY HK rfl 4 2 2 rfl rfl rfl).mono ?_;rintro _ _ ⟨rfl,rfl⟩;go_wp2_with fail;refine(qk HK Ft 3 200 fw.r7.1 fw.r7.2).mono ?_;rintro _ W10 ⟨rfl,HK⟩;go_wp2_with fail;refine(Tl HK Ft 100 fw.r8).mono ?_;rintro _ W11 ⟨rfl,HK⟩;go_wp2_with fail;refine(SY HK rfl 6 3 3 rfl rfl rfl).mono ?_;rintro _ _ ⟨rfl,rfl⟩;go_wp2_with fail;refine(Tl HK Ft 200 fw.r9).mono ?_;rintro _ W12 ⟨rfl,HK⟩;go_wp2_with fail;refine(SY HK rfl 6 3 3 rfl rfl rfl).mono ?_;rintro _ _ ⟨rfl,rfl⟩;go_wp2_with fail;refine(Tl HK Ft 220 fw.r10).mono ?_;rintro _ W13 ⟨rfl,HK⟩;go_wp2_with fail;refine(SY HK rfl 6 4 4 rfl rfl rfl).mono ?_;rintro _ _ ⟨rfl,rfl⟩;go_wp2_with fail;refine(A5d HK 1 true Fj Ee).mono ?_;rintro _ W14 ⟨rfl,HK⟩;rw[fw.r11] at HK;go_wp2_with fail;refine(Tl HK Ft 3000 fw.r12).mono ?_;rintro _ W15 ⟨rfl,HK⟩;go_wp2_with fail;refine(SY HK rfl 6 5 4 rfl rfl rfl).mono ?_;rintro _ _ ⟨rfl,rfl⟩;go_upto_region 12 with fail;generalize hWz:World.alloc _ _=Wz;obtain⟨B1,Q6⟩:=BN W1.heap.size;obtain⟨m12,_,_,jT,ZJ⟩:=HK;have r0:=AH R1.out jT hr1;obtain⟨z,hz⟩:=BN W15.heap.size;(have HBz:Below w.heap.size w Wz:=by rw[<-hWz];exact(eM.out.trans (jT.mono hw1.out)).alloc (Lt hw1.out ZJ) _);(have z25:Wz.cell? (Ad z 25)=some (.slice none 0 0):=by rw[<-hWz,hz];exact AB (AM _ _) 25 rfl);(have hzl:z<Wz.heap.size:=by rw[<-hWz,hz];simp);(have r0:Wz.heap[w.heap.size]?=some (.cells #[.bool false] 4 (0,0)):=by rw[<-hWz];exact AI r0 _);rw[<-hz];have Z25:=Hd (λ(W:World)(hW:Below Wz.heap.size Wz W)=>(hW.cell (p:=(Ad z 25)) hzl).trans z25);clear hWz Q6 jT ZJ hz R1 eM hw1 hr1;go_wp2_with fail;refine(qh 1 _).mono ?_;rintro _ _ ⟨rfl,rfl⟩;go_wp2_with fail;refine(iW z 1 _ hzl z25).mono ?_;rintro _ V1 ⟨rfl,BX⟩;go_upto_region 14 with fail;generalize hV2:World.alloc _ _=V2;(have CB:Below Wz.heap.size Wz V2:=by rw[<-hV2];exact BX.alloc BX.size _);clear hV2 BX;go_wp2_with fail;refine(A0x V2).mono ?_;rintro _ V3 ⟨bx,rfl,A5B,A13,JZ⟩;have B3:Below Wz.heap.size Wz V3:=CB.trans (JZ.mono CB.size);have wY:=A44 91 #[Pt bx];go_upto_region 18 with fail;clear wY;refine(wpIn_wide (n:=5)).1 ?_;have Vw:=tS 4 V3.heap.size bx none 0 0 [] V3 Ft Ft (Lr _) A13 Reads.none_ (λa e=>by cases e);have B3':=Hd B3;have HBZ:=Hd HBz;have hrz:=BG r0;(have hDw:∀D,V3.heap.size<=D->w.heap.size<D:=λD hD=>by have:=B3.size;omega);have HDW:=Hd hDw;have R0:=Hd r0;clear B3 hDw HBz r0 CB JZ A5B A13 z25;refine fN (F:=Fence.wide) rfl Ft (gf:=91) (lb:= #[Pt bx]) rfl trivial (enters_of func91 Ff rfl) Vw (λh k=>h.trans k)
  (λV l' o o' hl h hc=>(IH V).grown (mr V l' o') C9 (λk e=>by cases e;omega)) (λx=>rfl)
  (λpre V=>Below V3.heap.size V3 V) (λc pre V=>False) (λx a' V=>True)
  ?hI ?hIx ?hPr ?hAx ?h0 ?assign ?body ?done ?stop
 case hI=>exact sM Ft Ft
 case hIx=>exact λc s X Y row hs _ _=>hs.elim
 case hPr=>exact λpre=>Nt.PrE.own _ [] pre
 case hAx=>exact λa' s X Y row _ _ _=>trivial
 case h0=>exact QZ _ _
 case assign=>rintro l' pre x V K oS jg hK;gi_wp2;exact hK _ _ (KeepsFrom.refl _ V) (IH _) oS jg trivial
 case body=>rintro l' pre x a' V _ _ _ EK;exact absurd EK (Nat.not_lt_zero _)
 case stop=>rintro D c' pre V hD _ hf hK;exact hf.elim
 case done=>rintro D ys V hD hys oS hK;have BV:=B3'.out.trans (oS.mono B3'.out.size);have zv:=Z25.out V BV;have r0:=AH R0.out BV hrz;have hbw:=HBZ.out.trans (BV.mono HBZ.out.size);have Rx:=Hd hbw;clear oS hys Vw B3' BV hbw R0 HBZ;go_wp2_with fail;refine(vR _).mono ?_;rintro _ _ ⟨rfl,rfl⟩;go_wp2_with fail;refine(vS z _ zv 0).mono ?_;rintro _ _ ⟨rfl,rfl⟩;go_wp2_with fail;refine(A2I 1 0 _).mono ?_;rintro _ _ ⟨rfl,rfl⟩;go_wp2_with fail;refine(vX z _ zv 1 true).mono ?_;rintro _ _ ⟨rfl,rfl⟩;go_wp2_with fail;refine(A0q _).mono ?_;rintro _ _ ⟨rfl,rfl⟩;go_wp2_with fail;refine(eW z _ zv).mono ?_;rintro _ _ ⟨rfl,rfl⟩;go_wp2_with fail;refine(vY _).mono ?_;rintro _ _ ⟨rfl,rfl⟩;have c0:=AB (l:=[_]) r0 0 rfl;have f0:=AE r0 0;go_wp2_with fail;have hDl:=HDW.out D hD;(have LX:D≠w.heap.size:=by omega);have rT:=AP r0 0 (.bool true);have kT:=CV hK (a:=(Ad w.heap.size 0)) LX (.bool true);have hB7:=Rx.out.setCell (p:=(Ad w.heap.size 0)) (Lr _) (.bool true);refine⟨by simp,.inl ⟨_,_,rfl,run_takeDeferred kT,?_⟩⟩;refine⟨_,bL rfl _ _ w.heap.size (.bool true) _ rfl (AB (l:=[_]) ((qa (λe=>LX e.symm)).trans rT) 0 rfl) underlying4 rfl,rfl,?_⟩;exact hB7.grown (mr _ _ _) (by have:=(Array.getElem?_eq_some_iff.1 kT).1;omega) (λk e=>by cases e;omega)
end
end Go.Proofs.YtdocdgcdldpagaaGreat

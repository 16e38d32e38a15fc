import Derived.Test.YtdocdgcdldpagaaGreatAw04
open Go.Proofs.Tryz
namespace Go.Proofs.YtdocdgcdldpagaaGreat
set_option maxHeartbeats 64000000
set_option maxRecDepth 100000
set_option linter.all false
section
open RowKit
set_option maxRecDepth 512
theorem yJ{w:World}{B:Nat}{A:Option Addr}{n:Nat}{l:List Int}(h:Rd w B A n l)(cap:Nat):(convert 47 9 (.slice A n cap)).run prog w= .ok (.string (strOfNums l)) w:=by
 obtain⟨hl,hb,hr⟩:=h
 rcases mg n with h0|h0
 ·subst h0;obtain rfl:l=[]:=a9 hl
  cases A with
  |none=>exact run_convert_bytes_nil w _ _ underlying47 underlying5 _ _ _ underlying9
  |some x=>rw[run_convert_bytes_string w _ _ _ _ 0 cap underlying47 underlying5 underlying9];rw[run_bytesToString w x 0 cap [] (by simp[loadCells,loadCellsFrom,Sem.run_pure])];simp[strOfNums,ByteArray.empty,ByteArray.emptyWithCapacity];try rfl
 ·obtain⟨b,o,rfl,_,hc⟩:=hr h0;exact run_convert_bytes_arg w _ _ underlying47 underlying5 b o n cap l hl hc _ underlying9
theorem Sk(w:World):Calls prog 150 #[] w (IL (.agg #[.int .u8 213,.int .u8 76]) w):=by
 go_enter func150,ntmps150;go_wp2_with fail;refine IT (v:= .agg #[.int .u8 213,.int .u8 76]) ?_ rfl ⟨rfl,A9⟩;simp[results,results150,go_sem]
theorem Sd:(prog.info? 5).map (λi=>(i.zero,i.size,i.bytes))=some (some (.int .u8 0),1,1):=by kernel_rfl
theorem getD_eq{l k:List Int}(h:l.length=k.length)(hh:∀i,i<l.length->l.getD i 0=k.getD i 0):l=k:=by
 apply List.ext_getElem h;intro i h1 h2;have:=hh i h1;simpa[List.getD,Gg h1,Gg h2] using this
theorem xv(A:Option Addr)(n cap:Nat)(l:List Int)(w:World)(hn:n<=140737488355328)(A7i:A=none->n=0)(h:Rd w w.heap.size A n l):
  Calls prog 154 #[.slice A n cap] w λe w'=>∃A' IA,e= .returned (.slice A' n IA)/\Ow w' w.heap.size A' n IA l/\Below w.heap.size w w':=by
 obtain⟨i0,OU,RR,IJ,Ot⟩:=MQ Sd
 cases A with
 |none=>obtain rfl:=A7i rfl;have hl:l=[]:=a9 h.1;subst hl;(have kn:=λ(W:World)=>vG (P:=prog) W 47 5 none 0 cap 0 0 underlying47);simp only[Option.isNone] at kn;go_enter func154,ntmps154;exact Jh
 |some a=>have hb:=h.2.1;have hr:=h.reads;have HH:=Hd h;clear h A7i;(have kn:=λ(W:World)=>vG (P:=prog) W 47 5 (some a) n cap 0 0 underlying47);simp only[Option.isNone] at kn;go_enter func154,ntmps154;go_wp2_with (at_builtin;refine BD _ rfl (.tmp 5) (.tmp 6) _ rfl w.heap.size 5 i0 _ 1 1 underlying47 OU RR IJ Ot rfl Ft (.slice (some (Ad w.heap.size 0)) 0 0) 0 [] rfl (mB w #[] 0 (Lr _) Ee rfl) w.heap.size (some a) n cap (bv l) rfl (hr.alloc (Lr _) _) (SX l) Dk Ft Fu ?_;intro v1 w1 CE GQ LY);go_ret;simp only[PL,List.nil_append] at CE;obtain⟨A',IA,rfl⟩:=Ps CE;exact⟨A',IA,rfl,⟨CE,hb⟩,((IH _).alloc (Lr _) _).grown GQ Fu (λk hk=>by simp[Value.ownBlock] at hk;omega)⟩
section
variable{w w':World}{B:Nat}{A:Option Addr}{n cap:Nat}{l:List Int}
theorem Rd.sub{b o:Nat}(h:Rd w B (some (Ad b o)) n l)(lo m:Nat)(hm:lo+m<=n):Rd w B (some (Ad b (o+lo))) m ((l.drop lo).take m):=by
 obtain⟨hl,hb,hr⟩:=h;refine⟨by simp;omega,λx hx=>hb x (vF (cj hx)),λhn=> ?_⟩;obtain⟨b',o',e,QQ,hc⟩:=hr Ft;injection e with e;injection e with e1 e2;(subst e1;subst e2);refine⟨_,_,rfl,QQ,λi hi=> ?_⟩;rw[TE,hc (lo+i) Ft];congr 2;simp[List.getD,VU,TF,hi]
theorem Rd.take(h:Rd w B A n l)(m:Nat)(hm:m<=n):Rd w B A m (l.take m):=by
 obtain⟨hl,hb,hr⟩:=h;refine⟨by simp;omega,λx hx=>hb x (cj hx),λhn=> ?_⟩;obtain⟨b',o',e,QQ,hc⟩:=hr Ft;refine⟨_,_,e,QQ,λi hi=> ?_⟩;rw[hc i Ft];congr 2;simp[List.getD,VU,hi]
theorem Rd.FK{q:Nat}{t:TypeId}(h:w.heap[q]?=some (.cells (bv l).toArray t (0,0)))(hq:q<B)(hb:By l):Rd w B (some (Ad q 0)) l.length l:=by
 refine⟨rfl,hb,λhn=>⟨q,0,rfl,hq,λi hi=> ?_⟩⟩;rw[PL];exact AB h i (by simp[bv,Gg hi,List.getD])
end
namespace AQ
end AQ
namespace AQ
def body(k f t s:Int)(d:List Int):List Int:=[k,f,t,s/256,s%256,(d.length:Int)]++d
def enc(k f t s:Int)(d:List Int):List Int:=[213,76]++body k f t s d++[((S2 (body k f t s d):Nat):Int)/256,((S2 (body k f t s d):Nat):Int)%256]
theorem By.append{l m:List Int}(h:By l)(g:By m):By (l++m):=by
 intro x hx
 rcases List.mem_append.1 hx with h1|h1
 ·exact h x h1
 ·exact g x h1
theorem Xc{k f t s:Int}{n:Nat}(h:vd k f t s n=true):(1<=k/\k<=9)/\(0<=f/\f<=64)/\(0<=t/\t<=64)/\(0<=s/\s<=65535)/\n<=64:=by
 rw[OJ] at h;omega
theorem u6{k f t s:Int}{d:List Int}(h:vd k f t s d.length=true)(hd:By d):By (body k f t s d):=by
 have:=Xc h;refine By.append ?_ hd;intro x hx;simp at hx;omega
theorem A33{k f t s:Int}{n:Nat}(h:vd k f t s n=true):By [213,76,k,f,t,s/256,s%256,(n:Int)]:=by
 have:=Xc h;intro x hx;simp at hx;omega
end AQ
theorem A2t(k f t s:Int)(A:Option Addr)(n cap:Nat)(w:World)(hn:n<=140737488355328)(hv:AQ.vd k f t s n=false):
  Calls prog 141 #[.agg #[Iv k,Iv f,Iv t,Iv s,.slice A n cap]] w (IL (.tuple #[.slice none 0 0,Iv 2]) w):=by
 have V:=Hd (λW:World=>hv▸EJ k f t s A n cap W Ft);clear hv;go_enter func141,ntmps141;exact Mm
theorem zB(k f t s:Int)(A:Option Addr)(n cap:Nat)(d:List Int)(w:World)(hv:AQ.vd k f t s n=true)(h:Rd w w.heap.size A n d):
  Calls prog 141 #[.agg #[Iv k,Iv f,Iv t,Iv s,.slice A n cap]] w
   λe w'=>∃A' IA,e= .returned (.tuple #[.slice A' (n+10) IA,Iv 0])/\Ow w' w.heap.size A' (n+10) IA (AQ.enc k f t s d)/\Below w.heap.size w w':=by
 obtain⟨i0,OU,RR,IJ,Ot⟩:=MQ Sd;have V:=Hd (λW:World=>hv▸EJ k f t s A n cap W (by have:=AQ.Xc hv;omega));obtain⟨⟨k0,k1⟩,⟨f0,f1⟩,⟨t0,t1⟩,⟨s0,s1⟩,hn⟩:=AQ.Xc hv;have HV:=Hd hv;have HD:=Hd h;clear hv;go_enter func141,ntmps141;go_wp2_with fail;refine(V.out _).mono ?_;rintro e w1 ⟨rfl,BX⟩;have hz1':=BX.size;(try simp at hz1');(refine K3F ?_;intro h1);(refine K05 ?_;intro DF);have BH:=OH h1;have la:=BG h1;go_wp2_with fail;have GZ:=HD.out.1;go_loopw[4,5] (λs4 s5 wr=>∃j:Nat,s5=Iv j/\j<=n/\wr.ownsRow (w.heap.size+1) 5 1 s4 (8+j) (bv ([213,76,k,f,t,s/256,s%256,(n:Int)]++d.take j))/\Below w.heap.size w wr/\
  wr.heap[w.heap.size]?=some (.cells #[Iv k,Iv f,Iv t,Iv s,.slice A n cap] 147 (0,0))) (λ_ s5 _=>n-(intOf s5).toNat)
 case atStart=>refine⟨0,by go_num,by omega,?_,A9,AI h1 _⟩;have:=mB (base:=w.heap.size+1) (e:=5) (size:=1) w1 #[.int .u8 213,.int .u8 76,.int .u8 k,.int .u8 f,.int .u8 t,.int .u8 (s/256),.int .u8 (s%256),.int .u8 (n:Int)] 8 Ft Ee rfl;simpa[bv] using this
 case round=>
  obtain⟨j,rfl,hj,FZ,hB,hF⟩:=hrel;obtain⟨A4,oq,rfl⟩:=Ps FZ;have VE:=hB.size;have hlF:=BG hF;have HDr:=HD.out.below hB (Lr _);have CI:=OH hF;have lb:=BG hF;clear h1 DF BX BH
  by_cases EK:j<n
  ·obtain⟨bl,o,rfl,QQ,GG⟩:=HDr.2.2 Ft;have tJ:=GG j EK;have E:=Hd (Ww d j Ft);obtain⟨y,hy⟩:∃y,d.getD j 0=y:=⟨_,rfl⟩;rw[hy] at tJ E;clear GG HDr hy GZ;go_wp2_with (at_builtin;refine BD _ rfl (.tmp 39) (.tmp 45) _ rfl (w.heap.size+1) 5 i0 _ 1 1 underlying47 OU RR IJ Ot rfl Ft _ (8+j) _ rfl (FZ.alloc _) (wr.heap.size+1) (some (Ad wr.heap.size 0)) 1 1 [.int .u8 y] rfl (Reads.new wr #[.int .u8 y] 5) E9 Dk Ft Fp ?_;intro v1 w2 CE GQ LY);have ET:=E.out;go_roundw
   case rel=>refine⟨j+1,by go_num,by omega,?_,(hB.alloc VE _).grown GQ Fp (λg hg=>by have:=(FZ.lt g hg).1;omega),dZ (AI hF _) GQ (λe=>by have:=(FZ.lt _ e.symm).1;omega)⟩;rw[ET,<-a8];have:=CE;simp only[bv,bW,me,fS] at this⊢;exact this
   case measure=>simp[intOf];omega
  ·(obtain rfl:j=n:=by omega);have ET:=Hd (show d.take j=d by rw[R8 Ft]);rw[ET.out] at FZ;have MB:By ([213,76,k,f,t,s/256,s%256,(j:Int)]++d):=AQ.By.append (AQ.A33 HV.out) HD.out.2.1;have ow:Ow wr (w.heap.size+1) A4 (8+j) oq ([213,76,k,f,t,s/256,s%256,(j:Int)]++d):=⟨FZ,MB⟩;obtain⟨g,rfl,GQ,Ts,hg3,VH⟩:=ow.form.resolve_left Ft;have Xy:=(ow.rd).sub 2 (6+j) Ft;(have A14:(([213,76,k,f,t,s/256,s%256,(j:Int)]++d).drop 2).take (6+j)=AQ.body k f t s d:=by(have:6+j=(([k,f,t,s/256,s%256,(j:Int)]:List Int)++d).length:=by simp;omega);rw[this,AQ.body,GZ];exact sO);rw[A14] at Xy;rw[PL,show 6+j=8+j-2 by omega] at Xy;have RS:=Hd (λ(W:World) hW=>lG (some (Ad g 2)) (8+j-2) (oq-2) (AQ.body k f t s d) W Ft hW);have GG:=AQ.YC (l:=AQ.body k f t s d) Xy.2.1;(refine K3O ?_;intro EB);generalize AQ.S2 (AQ.body k f t s d)=c at GG RS EB;clear A14 MB;unfold maxLen at VH;go_wp2_with fail;refine(RS.out _ Xy).mono ?_;rintro e w2 ⟨rfl,q,rfl⟩;(have hcb:By [(c:Int)/256,(c:Int)%256]:=by intro x hx;simp at hx;omega);go_wp2_with (at_builtin;refine BD _ rfl (.tmp 50) (.tmp 57) _ rfl (w.heap.size+1) 5 i0 _ 1 1 underlying47 OU RR IJ Ot rfl Ft _ (8+j) _ rfl (vO (mF FZ _) q) (wr.heap.size+1) (some (Ad wr.heap.size 0)) 2 2 (bv [(c:Int)/256,(c:Int)%256]) rfl ((Reads.new wr #[.int .u8 ((c:Int)/256),.int .u8 ((c:Int)%256)] 5).drewN q) (SX _) Dk Ft Fp ?_;intro v1 w2 CE A9r LY);go_ret2;obtain⟨A5,Zs,rfl⟩:=Ps CE;(have hlen:j+10=8+j+2:=by omega);refine⟨A5,Zs,by rw[hlen];rfl,?_,?_⟩
   ·rw[hlen,EB.out];refine Ow.more (base:=w.heap.size+1) ⟨?_,?_⟩ Ft
    ·have hx:=CE;simp only[bv,<-bW,AQ.body,GZ] at hx⊢;simpa using hx
    ·refine AQ.By.append (AQ.By.append Db Xy.2.1) hcb
   ·refine Xt (w:=(wr.drewN q).alloc (.cells #[.int .u8 ((c:Int)/256),.int .u8 ((c:Int)%256)] 5)) A9 A9r Fp (λx hx=> ?_);have:=(FZ.lt x hx).1;omega
end
section
open RowKit
theorem A68(k f t s:Int)(A:Option Addr)(n cap:Nat)(w:World)(hn:n<=140737488355328)(hv:AQ.vd k f t s n=false):
  Calls prog 129 #[.agg #[Iv k,Iv f,Iv t,Iv s,.slice A n cap]] w (IL (.tuple #[.slice none 0 0,Iv 2]) w):=by
 have V:=Hd (λW:World=>hv▸QE k f t s A n cap W Ft);clear hv;go_enter func129,ntmps129;exact Mm
theorem ra{w:World}{base:Nat}{e:TypeId}{g n:Nat}{xs:List Value}(h:w.ownsRow base e 1 (.slice (some (Ad g 0)) n n) n xs):w.heap[g]?=some (.cells xs.toArray e (0,0)):=by
 rcases h.2 with⟨e,_⟩|⟨g',c,cur,e,hb,hh,h1,h2,h3,h4⟩
 ·cases e
 ·injection e with e1 e2 e3;injection e1 with e1;injection e1 with e1;(subst e1;subst e3);rw[hh];congr 2;apply Array.toList_inj.1;rw[<-h4];exact(R8 Fp).symm
theorem iS{w:World}{base g n:Nat}{l:List Int}(h:w.heap[g]?=some (.cells (bv l).toArray 5 (0,0)))(hb:base<=g)(hn:l.length=n)(hm:n<=maxLen)(hy:By l):Ow w base (some (Ad g 0)) n n l:=
 ⟨⟨by simp[bv,hn],.inr ⟨g,n,(bv l).toArray,rfl,hb,h,Lr _,hm,by simp[bv,hn],by rw[R8 (by simp[bv,hn])]⟩⟩,hy⟩
theorem A2a(P:List Int)(x y:Int)(m:Nat)(hm:P.length=m):((bv (P++[0,0])).toArray.setIfInBounds m (.int .u8 x)).setIfInBounds (m+1) (.int .u8 y)=(bv (P++[x,y])).toArray:=by
 subst hm;rw[Q8,Q8];congr 1;simp[bv,List.set_append]
theorem iE:(prog.info? 5).map (·.size)=some 1:=by kernel_rfl
theorem A3q(k f t s:Int)(A:Option Addr)(n cap:Nat)(d:List Int)(w:World)(hv:AQ.vd k f t s n=true)(h:Rd w w.heap.size A n d):
  Calls prog 129 #[.agg #[Iv k,Iv f,Iv t,Iv s,.slice A n cap]] w
   λe w'=>∃A' IA,e= .returned (.tuple #[.slice A' (n+10) IA,Iv 0])/\Ow w' w.heap.size A' (n+10) IA (AQ.enc k f t s d)/\Below w.heap.size w w':=by
 obtain⟨i0,OU,RR,IJ,Ot⟩:=MQ Sd;have V:=Hd (λW:World=>hv▸QE k f t s A n cap W (by have:=AQ.Xc hv;omega));obtain⟨⟨k0,k1⟩,⟨f0,f1⟩,⟨t0,t1⟩,⟨s0,s1⟩,hn⟩:=AQ.Xc hv;have HV:=Hd hv;have HD:=Hd h;clear hv h;go_enter func129,ntmps129;go_wp2_with fail;refine(V.out _).mono ?_;rintro e w1 ⟨rfl,BX⟩;have hz1':=BX.size;(try simp at hz1');(refine K3F ?_;intro h1);(refine K05 ?_;intro DF);clear BX;have BH:=OH h1;have la:=BG h1;go_wp2_with (at_make;refine wpList_make_full _ rfl (.tmp 14) (.tmp 14) _ rfl w.heap.size 5 i0 _ 1 underlying47 OU RR IJ .i64 .i64 _ _ (n+10) rfl rfl Fp Fp Ez Ee Ft ?_;intro w2 Qi Ts);have yd:=ra Qi;have CB:Below w1.heap.size w1 w2:=⟨Ts.os,Ts.tape,Ts.output,Ts.size,λi hi=>Ts.block i hi Fu⟩;have h2:=AH h1 CB Cm;have NB:=(show Below w.heap.size w w2 from A9);have A0M:=BG yd;obtain⟨g,hg⟩:=BN w1.heap.size;rw[<-hg] at yd A0M⊢;(have tF:w.heap.size<g:=by omega);obtain⟨Z,hZ⟩:=BN ((madeCells (Value.int .u8 0).cells ((n+10)*1)).toList);rw[<-hZ] at yd;(have hZ':Z=List.replicate (n+10) (.int .u8 0):=by rw[hZ,Vs];exact toList_madeCells_one _ _);(have hZl:Z.length=n+10:=by rw[hZ'];simp);clear Qi Ts CB DF h1 BH la hZ hg;have HZ:=Hd hZ';clear hZ';have CI:=OH h2;have lb:=BG h2;go_wp2_with fail;refine(Sk _).mono ?_;rintro e w3 ⟨rfl,JZ⟩;have ZI:=JZ.size;have h3:=AH h2 JZ Cm;have hG3:=AH yd JZ A0M;have P6:=(show Below w.heap.size w w3 from A9);clear CI JZ h2 yd NB;go_wp2_with (refine wpList_copy_splice rfl (.tmp 17) (.tmp 18) _ _ rfl 5 underlying47 iE (some (Ad g 0)) (some (Ad w3.heap.size 0)) (n+10) (n+10) 2 2 rfl rfl g 0 Z 5 (AI hG3 _) (bv [213,76]) (mq (show 2<=n+10 by omega)).symm (λ_=>⟨rfl,_,rfl,λj v hj=>by rw[CP,PL];exact AB (l:=bv [213,76]) (AM _ _) j hj⟩) Ey (SX _) g _ (IH _) (Lr _) ?_;intro w4 hG4 GA);have QP:=GA.size;(try simp at QP);have h4:=AH (AI h3 _) GA tF;have hG4':=hG4.out;obtain⟨Y,hY⟩:=BN (splice Z 0 (bv [213,76]));rw[<-hY] at hG4';(have hYl:Y.length=n+10:=by rw[hY,fV _ _ _ Ey,hZl]);have Qo:Below w.heap.size w w4:=Below.trans (show Below w.heap.size w (w3.alloc (.cells #[.int .u8 213,.int .u8 76] 248)) from A9) (GA.mono Ft);have HY:=Hd hY;clear hY hG4 GA h3 hG3 P6;have A9k:=BG hG4';have LZ:=OH h4;have lc:=BG h4;(have q2:(2:Int)<=(n:Int)+10:=by omega);(have wk:IntKind.u8.wrap k=k:=by rw[VT];omega);(have wf:IntKind.u8.wrap f=f:=by rw[VT];omega);(have wt:IntKind.u8.wrap t=t:=by rw[VT];omega);(have ws:IntKind.u8.wrap (s/256)=s/256:=by rw[VT];omega);(have ws':IntKind.u8.wrap s=s%256:=by rw[VT]);(have wn:IntKind.u8.wrap (n:Int)=(n:Int):=by rw[VT];omega);go_region_held3 (λw'=>w'.cell? ⟨w.heap.size,0,none⟩=some (Iv k)/\w'.cell? ⟨w.heap.size,1,none⟩=some (Iv f)/\w'.cell? ⟨w.heap.size,2,none⟩=some (Iv t)/\w'.cell? ⟨w.heap.size,3,none⟩=some (Iv s)/\w'.cell? ⟨w.heap.size,4,none⟩=some (.slice A n cap)) (first|(refine⟨?_,?_,?_,?_,?_⟩<;>simp[go_sem, *];done)|go_keep) (first|(refine step_copy_splice rfl (.tmp 21) (.tmp 42) _ _ rfl 5 underlying47 iE (some (Ad g 2)) (some (Ad w4.heap.size 0)) (n+8) (n+8) 6 6 rfl rfl g 2 Y 5 Af (bv [k,f,t,s/256,s%256,(n:Int)]) (mq (show 6<=n+8 by omega)).symm (λ_=>⟨rfl,_,rfl,λj v hj=>by rw[CP,PL];exact AB (l:=bv [k,f,t,s/256,s%256,(n:Int)]) (t:=5) (FX (AM w4 _)) j hj⟩) Ey (SX _) g _ (IH _) (Lr _) ?_;intro w5 hG5 LM;have h5:=AH (q:=w.heap.size) Af LM tF;have rC:=OH h5;have ld:=BG h5));clear wk wf wt ws ws' wn q2;have jW:=LM.size;(try simp at jW);have hG5':=hG5.out;obtain⟨X,hX⟩:=BN (splice Y 2 (bv [k,f,t,s/256,s%256,(n:Int)]));rw[<-hX] at hG5';(have hXl:X.length=n+10:=by rw[hX,fV _ _ _ Ey,hYl]);have JD:Below w.heap.size w w5:=Below.trans (show Below w.heap.size w _ from A9) (LM.mono Ft);have HX:=Hd hX;clear hX hG5 LM h4 hG4' Qo QP LZ;have A5w:=BG hG5';(have q8:(8:Int)<=(n:Int)+10:=by omega);go_wp2_with fail;go_still_tail 4,Ff;change wpList _ _ _ _ _ w5.drew;have GZ:=HD.out.1;have hRd:=((HD.out.below JD (Lr _)).drew).reads;refine wpList_copy_splice rfl (.tmp 45) (.tmp 47) _ _ rfl 5 underlying47 iE (some (Ad g 8)) A (n+2) (n+2) n cap rfl rfl g 8 X 5 (FX hG5') (bv d)
  (by rw[show(bv d).length=n by simp[bv,GZ]];exact(mq Ft).symm) (λhp=>⟨rfl,?_⟩) (by simp[bv,GZ];omega) (SX _) g _ (IH _) (Lr _) ?_
 ·obtain⟨ad,e,_,hc⟩:=hRd.2 (by simp[bv,GZ] at hp;omega);exact⟨ad,e,hc⟩
 intro w6 hG6 Se;have Xi:=Se.size;(try simp at Xi);have hG6':=hG6.out;(have hL:splice X 8 (bv d)=bv ([213,76]++AQ.body k f t s d++[0,0]):=by rw[HX.out,HY.out,HZ.out];simp[splice,bv,AQ.body,GZ,List.replicate_succ];rw[show 8+n=n+8 by omega];simp only[mh];rw[show(Value.int IntKind.u8 0::Value.int IntKind.u8 0::List.replicate n (Value.int IntKind.u8 0))=List.replicate (n+2) (Value.int IntKind.u8 0) by simp[List.replicate_succ],List.drop_replicate,show n+2-n=2 by omega];rfl);rw[hL] at hG6';have Vh:Below w.heap.size w w6:=Below.trans (show Below w.heap.size w _ from A9) (Se.mono Ft);clear hL hG6 Se h5 hG5' JD jW hRd;have aK:By (AQ.body k f t s d):=AQ.u6 (by rw[GZ];exact HV.out) HD.out.2.1;(have A4b:([213,76]++AQ.body k f t s d++[0,0]).length=n+10:=by simp[AQ.body,GZ]);have xb:=(Rd.FK (B:=w6.heap.size) hG6' (BG hG6') (AQ.By.append (AQ.By.append Db aK) Db));rw[A4b] at xb;have Xy:=xb.sub 2 (n+6) Ft;(have A14:(([213,76]++AQ.body k f t s d++[0,0]).drop 2).take (n+6)=AQ.body k f t s d:=by(have:n+6=(AQ.body k f t s d).length:=by simp[AQ.body,GZ]);rw[this];simp);rw[A14,PL] at Xy;have RS:=Hd (λ(W:World) hW=>sk (some (Ad g 2)) (n+6) (n+8) (AQ.body k f t s d) W Ft hW);have GG:=AQ.YC aK;have hc8:w6.cell? (Ad g (n+8))=some (.int .u8 0):=AB hG6' (n+8) (by simp[bv,AQ.body,GZ]);have hc9:w6.cell? (Ad g (n+9))=some (.int .u8 0):=AB hG6' (n+9) (by simp[bv,AQ.body,GZ]);have hf8:=AE hG6' (n+8);have hf9:=AE hG6' (n+9);(refine K3O ?_;intro EB);generalize AQ.S2 (AQ.body k f t s d)=c at GG RS EB;have HR:=Hd Xy;have aA:=Hd aK;clear A14 xb A4b Xy aK hYl hXl hZl GZ;go_wp2_with fail;refine(RS.out _ HR.out).mono ?_;rintro e w7 ⟨rfl,rfl⟩;have wc:=(show IntKind.u8.wrap (c:Int)=(c:Int)%256 by rw[VT]);go_wp2_with fail;go_ret2;refine⟨some (Ad g 0),n+10,rfl,?_,A9⟩;rw[EB.out];have Vv:=AP (AP hG6' (n+8) (.int .u8 ((c:Int)/256))) (n+8+1) (.int .u8 ((c:Int)%256));rw[A2a ([213,76]++AQ.body k f t s d) _ _ (n+8) (by simp[AQ.body,HD.out.1])] at Vv;refine iS Vv Ft (by simp[AQ.body,HD.out.1]) Ee (AQ.By.append (AQ.By.append Db aA.out) Db)
namespace AQ
def dm(l:List Int):Nat:=(l.getD 7 0).toNat
def fp(l:List Int):Nat:=S2 ((l.drop 2).take (dm l+6))
def dS(l:List Int):Int:=256*l.getD 5 0+l.getD 6 0
def dd(l:List Int):List Int:=(l.drop 8).take (dm l)
def dE(l:List Int):Int:=
 if l.length<10 then 4 else if ¬(l.getD 0 0=213/\l.getD 1 0=76/\l.getD 7 0<=64) then 6 else if l.length<10+dm l then 4 else if 10+dm l<l.length then 5 else
 if((fp l:Nat):Int)≠256*l.getD (dm l+8) 0+l.getD (dm l+9) 0 then 10 else if vd (l.getD 2 0) (l.getD 3 0) (l.getD 4 0) (dS l) (dm l)=false then 6 else 0
theorem A8f{l:List Int}(h:l.length<10):dE l=4:=by rw[dE,AW h]
theorem A1y{l:List Int}(h:10<=l.length)(g:¬(l.getD 0 0=213/\l.getD 1 0=76/\l.getD 7 0<=64)):dE l=6:=by rw[dE,AO Ft,AW g]
theorem A8e{l:List Int}(h:10<=l.length)(g:l.getD 0 0=213/\l.getD 1 0=76/\l.getD 7 0<=64)(k:l.length<10+dm l):dE l=4:=by rw[dE,AO Ft,AO Fb,AW k]
theorem A8d{l:List Int}(h:10<=l.length)(g:l.getD 0 0=213/\l.getD 1 0=76/\l.getD 7 0<=64)(k:10+dm l<l.length):dE l=5:=by rw[dE,AO Ft,AO Fb,AO Ft,AW k]
theorem A8c{l:List Int}(g:l.getD 0 0=213/\l.getD 1 0=76/\l.getD 7 0<=64)(k:l.length=10+dm l)(c:((fp l:Nat):Int)≠256*l.getD (dm l+8) 0+l.getD (dm l+9) 0):dE l=10:=by
 rw[dE,AO Ft,AO Fb,AO Ft,AO Ft,AW c]
theorem A8b{l:List Int}(g:l.getD 0 0=213/\l.getD 1 0=76/\l.getD 7 0<=64)(k:l.length=10+dm l)(c:((fp l:Nat):Int)=256*l.getD (dm l+8) 0+l.getD (dm l+9) 0)(v:vd (l.getD 2 0) (l.getD 3 0) (l.getD 4 0) (dS l) (dm l)=false):dE l=6:=by
 rw[dE,AO Ft,AO Fb,AO Ft,AO Ft,AO (by simpa using c),AW v]
theorem A8g{l:List Int}(g:l.getD 0 0=213/\l.getD 1 0=76/\l.getD 7 0<=64)(k:l.length=10+dm l)(c:((fp l:Nat):Int)=256*l.getD (dm l+8) 0+l.getD (dm l+9) 0)(v:vd (l.getD 2 0) (l.getD 3 0) (l.getD 4 0) (dS l) (dm l)=true):dE l=0:=by
 rw[dE,AO Ft,AO Fb,AO Ft,AO Ft,AO (by simpa using c),AO (by rw[v];decide)]
end AQ
theorem AX{W:World}{o:Obj}{p:Addr}{v:Value}(h:W.cell? p=some v):(W.alloc o).cell? p=some v:=(A02 W o p (World.block_lt_of_cell? W p h)).trans h
theorem SQ{W:World}{p:Addr}{v:Value}(h:W.cell? p=some v):W.drew.cell? p=some v:=h
theorem fu{W:World}{p q:Addr}{u v:Value}(h:W.cell? p=some v)(hq:W.cell? q=none\/p.block≠q.block):(W.setCell q u).cell? p=some v:=by
 rcases hq with hq|hq
 ·exact(A04 W q p u (λe=>by subst e;rw[h] at hq;cases hq)).trans h
 ·exact(A04 W q p u (λe=>by subst e;exact hq rfl)).trans h
theorem Ow.FY{w:World}{base:Nat}{A:Option Addr}{n cap:Nat}{l:List Int}{p:Addr}(h:Ow w base A n cap l)(hp:p.block<base)(u:Value):Ow (w.setCell p u) base A n cap l:=
 h.grown (row:=some p.block) ⟨rfl,rfl,rfl,by simp[World.setCell],λi hi LX=>iN w p u i (λe=>LX (by rw[e]))⟩ (λg e=>by
  rcases h.form with⟨e2,_⟩|⟨g',e2,hb,_⟩
  ·rw[e2] at e;cases e
  ·rw[e2] at e;injection e with e;injection e with e;subst e;intro hh;injection hh with hh;omega)
def Vr(w:World)(l:List Int)(e:Ending)(w':World):Prop:=
 (AQ.dE l≠0/\e= .returned (.tuple #[.agg aw,Iv (AQ.dE l)])/\Below w.heap.size w w')\/
 (AQ.dE l=0/\∃A' IA,e= .returned (.tuple #[.agg #[Iv (l.getD 2 0),Iv (l.getD 3 0),Iv (l.getD 4 0),Iv (AQ.dS l),.slice A' (AQ.dm l) IA],Iv 0])/\Ow w' w.heap.size A' (AQ.dm l) IA (AQ.dd l)/\Below w.heap.size w w')
theorem LN{w w':World}{l:List Int}{n:Int}(h:AQ.dE l=n)(hn:n≠0)(hb:Below w.heap.size w w'):Vr w l (.returned (.tuple #[.agg aw,Iv n])) w':=
 .inl ⟨by omega,by rw[h],hb⟩
theorem zP(A:Option Addr)(n cap:Nat)(l:List Int)(w:World)(hn:n<=140737488355328)(DT:n<=cap)(GC:cap<=9223372036854775807)(h:Rd w w.heap.size A n l):
  Calls prog 85 #[.slice A n cap] w λe w'=>Vr w l e w':=by
 have hl:=h.1
 rcases Oj n 10 with h1|h1
 ·have E:=Hd (AQ.A8f (l:=l) Ft);clear h hl;exact Je
 obtain⟨b,o,rfl,QQ,hc⟩:=h.2.2 Ft;have MB:=h.2.1;have k0:=hc 0 Ft;rw[Nat.add_zero] at k0;have k1:=hc 1 Ft;have k7:=hc 7 Ft;have b0:=MB.at_ 0;have b1:=MB.at_ 1;have b7:=MB.at_ 7
 by_cases g0:l.getD 0 0=213
 rotate_left
 ·have E:=Hd (AQ.A1y (l:=l) Ft (λhh=>g0 hh.1));generalize l.getD 0 0=x at k0 b0 g0;have z:=(show(x !=213)=true by simpa using g0);clear h hc MB k1 k7 b0 b1 b7 g0 hl;exact I9
 by_cases g1:l.getD 1 0=76
 rotate_left
 ·have E:=Hd (AQ.A1y (l:=l) Ft (λhh=>g1 hh.2.1));rw[g0] at k0;generalize l.getD 1 0=x at k1 b1 g1;have z:=(show(x !=76)=true by simpa using g1);clear h hc MB k7 b0 b1 b7 g0 g1 hl;exact I9
 by_cases g7:l.getD 7 0<=64
 rotate_left
 ·have E:=Hd (AQ.A1y (l:=l) Ft (λhh=>g7 hh.2.2));rw[g0] at k0;rw[g1] at k1;generalize l.getD 7 0=x at k7 b7 g7;(have z:64<x:=by omega);clear h hc MB b0 b1 b7 g0 g1 g7 hl;exact I9
 have G:=Hd (show l.getD 0 0=213/\l.getD 1 0=76/\l.getD 7 0<=64 from⟨g0,g1,g7⟩);rw[g0] at k0;rw[g1] at k1;obtain⟨m,hm⟩:∃m:Nat,m=AQ.dm l:=⟨_,rfl⟩;(have hm7:l.getD 7 0=(m:Int):=by rw[hm,AQ.dm];omega);rw[hm7] at k7 g7;clear b0 b1 b7 g0 g1
 rcases Oj n (10+m) with q1|q1
 ·have E:=Hd (AQ.A8e (l:=l) Ft G.out Ft);clear h hc MB hl hm hm7 G;exact Je
 rcases Oj (10+m) n with q2|q2
 ·have E:=Hd (AQ.A8d (l:=l) Ft G.out Ft);clear h hc MB hl hm hm7 G;go_enter func85,ntmps85;go_wp2_with fail;refine IT (v:= .tuple #[.agg aw,Iv 5]) ?_ rfl (LN E.out Fj A9);simp[results,results85,go_sem]
 (obtain rfl:n=10+m:=by omega);have kc1:=hc (m+8) Ft;have kc2:=hc (m+9) Ft;have bc1:=MB.at_ (m+8);have bc2:=MB.at_ (m+9);have Xy:=h.sub 2 (m+6) Ft;have RS:=Hd (λ(W:World)(hB:Below w.heap.size w W)=>lG (some (Ad b (o+2))) (m+6) (cap-2) _ W Ft ((Xy.below hB (Lr _)).more hB.size));have HS:=Hd (show((AQ.fp l:Nat):Int)=((AQ.S2 ((l.drop 2).take (m+6)):Nat):Int) by rw[AQ.fp,hm]);generalize AQ.S2 ((l.drop 2).take (m+6))=c at RS HS;obtain⟨u,hu⟩:∃u,l.getD (m+8) 0=u:=⟨_,rfl⟩;obtain⟨v,hv⟩:∃v,l.getD (m+9) 0=v:=⟨_,rfl⟩;rw[hu] at kc1 bc1;rw[hv] at kc2 bc2
 by_cases Xl:(c:Int)=256*u+v
 rotate_left
 ·have E:=Hd (AQ.A8c (l:=l) G.out Ft (by rw[HS.out,<-hm,hu,hv];exact Xl));have z:=(show((c:Int) !=256*u+v)=true by simpa using Xl);clear h hc MB hl hm hm7 G Xy HS hu hv Xl;go_enter func85,ntmps85;go_wp2_with fail;(refine K1t ?_;intro HB);(refine K1n ?_;intro w1 w2);have w3:=GF (256*u) Ft;have w4:=GF (256*u+v) Ft;go_quiet ((go_at_call 117;exact Calls.quiet_of (RS.out _ (below_drewN HB _))));go_wp2_with fail;refine IT (v:= .tuple #[.agg aw,Iv 10]) ?_ rfl (LN E.out Fj A9);simp[results,results85,go_sem]
 obtain⟨i0,OU,RR,IJ,Ot⟩:=MQ Sd;have hd8:=h.sub 8 m Ft;have HDD:=Hd (show(l.drop 8).take m=AQ.dd l by rw[AQ.dd,hm]);rw[HDD.out] at hd8;have HD8:=Hd hd8;have HC:=Hd (show((AQ.fp l:Nat):Int)=256*l.getD (AQ.dm l+8) 0+l.getD (AQ.dm l+9) 0 by rw[HS.out,<-hm,hu,hv];exact Xl);have HM:=Hd hm;have HL:=Hd hl;have k2:=hc 2 Ft;have b2:=MB.at_ 2;obtain⟨x2,U2⟩:∃x,l.getD 2 0=x:=⟨_,rfl⟩;rw[U2] at k2 b2;have X2:=Hd U2;have k3:=hc 3 Ft;have b3:=MB.at_ 3;obtain⟨x3,hx3⟩:∃x,l.getD 3 0=x:=⟨_,rfl⟩;rw[hx3] at k3 b3;have X3:=Hd hx3;have k4:=hc 4 Ft;have b4:=MB.at_ 4;obtain⟨x4,wS⟩:∃x,l.getD 4 0=x:=⟨_,rfl⟩;rw[wS] at k4 b4;have X4:=Hd wS;have k5:=hc 5 Ft;have b5:=MB.at_ 5;obtain⟨x5,wR⟩:∃x,l.getD 5 0=x:=⟨_,rfl⟩;rw[wR] at k5 b5;have X5:=Hd wR;have k6:=hc 6 Ft;have b6:=MB.at_ 6;obtain⟨x6,jX⟩:∃x,l.getD 6 0=x:=⟨_,rfl⟩;rw[jX] at k6 b6;have X6:=Hd jX;have z:=(show((c:Int) !=256*u+v)=false by simpa using Xl);have eF:(c:Int)=256*u+v:=Xl;clear h hc MB hl hm hm7 Xy HS hu hv Xl hd8 U2 hx3 wS wR jX;obtain⟨y2,y2'⟩:=b2;obtain⟨y3,y3'⟩:=b3;obtain⟨y4,y4'⟩:=b4;obtain⟨y5,y5'⟩:=b5;obtain⟨y6,y6'⟩:=b6;clear eF;(refine K1t ?_;intro HB);go_enter func85,ntmps85;go_wp2_with fail;(refine K1n ?_;intro w1 w2);have w3:=GF (256*u) Ft;have w4:=GF (256*u+v) Ft;go_quiet ((go_at_call 117;exact Calls.quiet_of (RS.out _ (below_drewN HB _))));clear w1 w2 w3 w4;go_wp2_with fail;obtain⟨wq,hwq⟩:∃wq:World,wq=((w.alloc (.cells aw 147))).drewN nq:=⟨_,rfl⟩;(have HQ:Below w.heap.size w wq:=by rw[hwq];exact below_drewN HB _);(have hF:wq.heap[w.heap.size]?=some (.cells aw 147 (0,0)):=by rw[hwq];exact QN (AM _ _) _);(have hzq:wq.heap.size=w.heap.size+1:=by rw[hwq];simp);rw[<-hwq];clear hwq HB k0 k1 k7 kc1 kc2 z RS bc1 bc2 q1 q2;(refine K2X ?_;intro j2 j3 j4 j5 j6 nH);have w5:=GF (256*x5) Ft;have w6:=GF (256*x5+x6) Ft;have HQH:=Hd HQ;have HFH:=Hd hF;have HZH:=Hd hzq;clear k2 k3 k4 k5 k6 HQ hF hzq QQ;(have i2:(2:Int)<10+(m:Int):=by omega);(have i3:(3:Int)<10+(m:Int):=by omega);(have i4:(4:Int)<10+(m:Int):=by omega);(have i5:(5:Int)<10+(m:Int):=by omega);(have i6:(6:Int)<10+(m:Int):=by omega);go_region_held3 (λw'=>w'.cell? ⟨b,o+2,none⟩=some (.int .u8 x2)/\w'.cell? ⟨b,o+3,none⟩=some (.int .u8 x3)/\w'.cell? ⟨b,o+4,none⟩=some (.int .u8 x4)/\w'.cell? ⟨b,o+5,none⟩=some (.int .u8 x5)/\w'.cell? ⟨b,o+6,none⟩=some (.int .u8 x6)) (refine⟨?_,?_,?_,?_,?_⟩<;>(first|(with_reducible assumption)|(simp only[World.cell?_drew];with_reducible assumption)|(with_reducible apply AX;with_reducible assumption)|go_keep)) (first|fail);clear w5 w6 i2 i3 i4 i5 i6;have HQ:=HQH.out;have hF:=HFH.out;(have Abt:w.heap.size<wq.heap.size:=by rw[HZH.out];omega);(have hlen:10+m-2-8=m:=by omega);(have s1:(8:Int)<=10+(m:Int)-2:=by omega);(have s2:10+(m:Int)-2<=(cap:Int):=by omega);go_wp2_with (at_builtin;refine BD _ rfl (.const (.slice none 0 0)) (.tmp 89) _ rfl (wq.heap.size+1) 5 i0 _ 1 1 underlying47 OU RR IJ Ot rfl Ft (.slice none 0 0) 0 [] rfl (Ta _ _ _ _) w.heap.size (some (Ad b (o+8))) (10+m-2-8) (cap-8) (bv (AQ.dd l)) rfl (hlen.symm▸((((HD8.out.below HQ (Lr _)).alloc Ft _).drew).reads)) (SX _) Dk Ft Fu ?_;intro v1 w3 CE GQ LY;obtain⟨A1,OC,de⟩:=Ps CE;rw[de] at CE LY⊢;clear de;have WN:=dZ (q:=wq.heap.size) (FX (AM wq _)) GQ Ea;have hF3:=dZ (FX (AI hF _)) GQ Ea;have rD:=OH WN;have lX:=BG WN);have hw3:Below w.heap.size w w3:=Xt (w:=(wq.alloc (.cells #[Iv x2,Iv x3,Iv x4,Iv (256*x5+x6),.slice none 0 0] 147)).drew) A9 GQ Fp (λx hx=>by simp[Value.ownBlock] at hx);obtain⟨wy,hwy⟩:∃wy:World,wy=w3.setCell (Ad wq.heap.size 4) (.slice A1 m OC):=⟨_,rfl⟩;(have hXY:wy.heap[wq.heap.size]?=some (.cells #[Iv x2,Iv x3,Iv x4,Iv (256*x5+x6),.slice A1 m OC] 147 (0,0)):=by rw[hwy];exact(AP WN 4 _).trans rfl);(have hFY:wy.heap[w.heap.size]?=some (.cells aw 147 (0,0)):=by rw[hwy];exact CV hF3 Fp _);(have hBY:Below w.heap.size w wy:=by rw[hwy];exact hw3.setCell Fp _);have Qi:=CE;rw[hlen,PL,List.nil_append] at Qi;(have ow:Ow wy (wq.heap.size+1) A1 m OC (AQ.dd l):=by rw[hwy];exact Ow.FY ⟨Qi,HD8.out.2.1⟩ Fu _);rw[<-hwy];clear hwy WN hF3 CE Qi hw3 GQ LY rD s1 s2 lX HQ hF;have hzy:=hBY.size;have hlX:=BG hXY
 cases WY:AQ.vd x2 x3 x4 (256*x5+x6) m
 ·have V:=Hd (λ(W:World)=>WY▸EJ x2 x3 x4 (256*x5+x6) A1 m OC W Ft);have E:=Hd (AQ.A8b (l:=l) G.out (by rw[HL.out,<-HM.out]) HC.out B4);clear WY;refine(V.out _).mono ?_;rintro e w9 ⟨rfl,Uv⟩;have hz9:=Uv.size;have xg:=AH hFY Uv Ft;(refine K0f ?_;intro XK A1E lF);go_wp2_with fail;refine IT (v:= .tuple #[.agg aw,Iv 6]) ?_ rfl (LN E.out Fj A9);simp[results,results85,go_sem, *]
 ·have V:=Hd (λ(W:World)=>WY▸EJ x2 x3 x4 (256*x5+x6) A1 m OC W Ft);have E:=Hd (AQ.A8g (l:=l) G.out (by rw[HL.out,<-HM.out]) HC.out B4);clear WY;refine(V.out _).mono ?_;rintro e w9 ⟨rfl,Uv⟩;have hz9:=Uv.size;have xg:=AH hFY Uv Ft;have hX9:=AH hXY Uv hlX;have ow9:=ow.below Uv (Lr _);(refine K0f ?_;intro XK A1E lF);have A9H:=OH hX9;have lY:=BG hX9;go_wp2_with fail;refine IT (v:= .tuple #[.agg #[Iv x2,Iv x3,Iv x4,Iv (256*x5+x6),.slice A1 m OC],Iv 0]) ?_ rfl (.inr ⟨E.out,A1,OC,?_,?_,A9⟩)
  ·simp[results,results85,go_sem, *]
  ·rw[X2.out,X3.out,X4.out,AQ.dS,X5.out,X6.out,<-HM.out]
  ·rw[<-HM.out];refine Ow.more (base:=wq.heap.size+1) ?_ Ft;exact Ow.FY (Ow.FY (Ow.FY (Ow.FY (Ow.FY ow9 Fp _) Fp _) Fp _) Fp _) Fp _
end
section
open RowKit
attribute [local go_sem ↓] wp_at_zero wp_at_succ
set_option maxRecDepth 512
theorem A89(A:Option Addr)(n cap:Nat)(l:List Int)(w:World)(h1:n<10)(h:Rd w w.heap.size A n l):
  Calls prog 132 #[.slice A n cap] w λe w'=>Vr w l e w':=by
 have hl:=h.1;have E:=Hd (AQ.A8f (l:=l) Ft);clear h hl;go_enter func132,ntmps132;go_wp2_with fail;refine IT (v:= .tuple #[.agg aw,Iv 4]) ?_ rfl (LN E.out Fj A9);simp[results,results132,go_sem]
theorem A8G(b o n cap:Nat)(h:2<=n)(w:World):(Instr.arrayAt 248 (.slice (some (Ad b o)) n cap)).run prog w= .ok (.pointer (some (Ad b o))) w:=
 run_arrayAt w 248 _ 2 _ n cap underlying248 h
theorem A4z(a b c d:Int)(w:World):(Op.equalIn 10000 248 (.agg #[.int .u8 a,.int .u8 b]) (.agg #[.int .u8 c,.int .u8 d])).run prog w= .ok (a==c&&b==d) w:=by
 have u5:=underlying5;have a5:=isAgg5;have z5:=sizeOf5;rw[show(10000:Nat)=9999+1 from rfl,Op.equalIn];simp only[eQ,cA underlying248,Result.andThen_ok];simp only[Std.Legacy.Range.forIn_eq_forIn_range',Std.Legacy.Range.size,Nat.sub_zero,Nat.add_sub_cancel,Nat.div_one,List.range'_succ,List.range'_zero,List.forIn_cons,List.forIn_nil];go_simp
 by_cases h1:a=c<;>by_cases h2:b=d<;>simp[h1,h2]
theorem A88(b o n cap:Nat)(l:List Int)(w:World)(hn:10<=n)(DT:n<=cap)(GC:cap<=9223372036854775807)(h:Rd w w.heap.size (some (Ad b o)) n l)(QQ:b<w.heap.size)(x0 x1 x7:Int)
  (k0:w.cell? (Ad b o)=some (.int .u8 x0))(k1:w.cell? (Ad b (o+1))=some (.int .u8 x1))(k7:w.cell? (Ad b (o+7))=some (.int .u8 x7))(b7:0<=x7/\x7<256)
  (hx:x0≠213\/x1≠76)(E:Hid (AQ.dE l=6)):
  Calls prog 132 #[.slice (some (Ad b o)) n cap] w λe w'=>Vr w l e w':=by
 clear h;have hx':=Hd hx;clear hx;have ar:=A8G b o;have kq:∀W:World,(Op.equalIn 10000 248 (.agg #[.int .u8 x0,.int .u8 x1]) (.agg #[.int .u8 213,.int .u8 76])).run prog W= .ok false W:=λW=>by
  rw[A4z];congr 1
  rcases hx'.out with h|h
  ·rw[beq_eq_false_iff_ne.2 h];rfl
  ·rw[beq_eq_false_iff_ne.2 h,Bool.and_false]
 (refine K2h ?_;intro i0 i2 i7);obtain⟨y7,z7⟩:=b7;go_enter func132,ntmps132;go_upto_region 4 with fail;first|(go_region_with (first|(go_at_call 150;refine(Sk _).mono ?_;rintro e w1 ⟨rfl,BX⟩;have j0:=((BO BX).1 b o Cm).trans (AX k0);have j1:=((BO BX).1 b (o+1) Cm).trans (AX k1);have IJ:=BX.size;try simp at IJ)))|fail
 all_goals(have h1:=AH (q:=w.heap.size) Bi BX Cm;(have BH:=OH h1;have la:=BG h1);clear j0 j1)
 all_goals(go_wp2_with fail;refine IT (v:= .tuple #[.agg aw,Iv 6]) ?_ rfl (LN E.out Fj A9);simp[results,results132,go_sem, *])
theorem A69(b o n cap:Nat)(l:List Int)(w:World)(hn:10<=n)(DT:n<=cap)(GC:cap<=9223372036854775807)(QQ:b<w.heap.size)(x7:Int)
  (k0:w.cell? (Ad b o)=some (.int .u8 213))(k1:w.cell? (Ad b (o+1))=some (.int .u8 76))(k7:w.cell? (Ad b (o+7))=some (.int .u8 x7))(b7:0<=x7/\x7<256)
  (hx:64<x7)(E:Hid (AQ.dE l=6)):
  Calls prog 132 #[.slice (some (Ad b o)) n cap] w λe w'=>Vr w l e w':=by
 (refine K17 ?_;intro ar kq);(refine K2h ?_;intro i0 i2 i7);obtain⟨y7,z7⟩:=b7;go_enter func132,ntmps132;go_upto_region 4 with fail;have wx:IntKind.i64.wrap x7=x7:=GF _ Ft;go_region_held3 (λw'=>w'.cell? ⟨b,o,none⟩=some (.int .u8 213)/\w'.cell? ⟨b,o+1,none⟩=some (.int .u8 76)/\w'.cell? ⟨b,o+7,none⟩=some (.int .u8 x7)) (refine⟨?_,?_,?_⟩<;>(first|(with_reducible assumption)|(simp only[World.cell?_drew];with_reducible assumption)|(with_reducible apply AX;with_reducible assumption)|go_keep)) (first|(go_at_call 150;refine(Sk _).mono ?_;rintro e w1 ⟨rfl,BX⟩;have j0:=((BO BX).1 b o Cm).trans (AX k0);have j1:=((BO BX).1 b (o+1) Cm).trans (AX k1);have j7:=((BO BX).1 b (o+7) Cm).trans (AX k7);have IJ:=BX.size;try simp at IJ;have h1:=AH (q:=w.heap.size) Bi BX Cm;(have BH:=OH h1;have la:=BG h1)))
 all_goals(try clear wx)
 all_goals(go_wp2_with fail;refine IT (v:= .tuple #[.agg aw,Iv 6]) ?_ rfl (LN E.out Fj A9);simp[results,results132,go_sem, *])
theorem A87(b o n cap:Nat)(l:List Int)(w:World)(hn:10<=n)(DT:n<=cap)(GC:cap<=9223372036854775807)(QQ:b<w.heap.size)(x7:Int)
  (k0:w.cell? (Ad b o)=some (.int .u8 213))(k1:w.cell? (Ad b (o+1))=some (.int .u8 76))(k7:w.cell? (Ad b (o+7))=some (.int .u8 x7))(b7:0<=x7/\x7<=64)
  (hx:(n:Int)<10+x7)(E:Hid (AQ.dE l=4)):
  Calls prog 132 #[.slice (some (Ad b o)) n cap] w λe w'=>Vr w l e w':=by
 (refine K17 ?_;intro ar kq);(refine K2h ?_;intro i0 i2 i7);obtain⟨y7,z7⟩:=b7;go_enter func132,ntmps132;go_upto_region 4 with fail;have wx:IntKind.i64.wrap x7=x7:=GF _ Ft;go_region_held3 (λw'=>w'.cell? ⟨b,o,none⟩=some (.int .u8 213)/\w'.cell? ⟨b,o+1,none⟩=some (.int .u8 76)/\w'.cell? ⟨b,o+7,none⟩=some (.int .u8 x7)) (refine⟨?_,?_,?_⟩<;>(first|(with_reducible assumption)|(simp only[World.cell?_drew];with_reducible assumption)|(with_reducible apply AX;with_reducible assumption)|go_keep)) (first|(go_at_call 150;refine(Sk _).mono ?_;rintro e w1 ⟨rfl,BX⟩;have j0:=((BO BX).1 b o Cm).trans (AX k0);have j1:=((BO BX).1 b (o+1) Cm).trans (AX k1);have j7:=((BO BX).1 b (o+7) Cm).trans (AX k7);have IJ:=BX.size;try simp at IJ;have h1:=AH (q:=w.heap.size) Bi BX Cm;(have BH:=OH h1;have la:=BG h1)))
 all_goals(try clear wx)
 all_goals(go_wp2_with fail;refine IT (v:= .tuple #[.agg aw,Iv 4]) ?_ rfl (LN E.out Fj A9);simp[results,results132,go_sem, *])
theorem A86(b o n cap:Nat)(l:List Int)(w:World)(hn:10<=n)(DT:n<=cap)(GC:cap<=9223372036854775807)(QQ:b<w.heap.size)(x7:Int)
  (k0:w.cell? (Ad b o)=some (.int .u8 213))(k1:w.cell? (Ad b (o+1))=some (.int .u8 76))(k7:w.cell? (Ad b (o+7))=some (.int .u8 x7))(b7:0<=x7/\x7<=64)
  (hx:10+x7<(n:Int))(E:Hid (AQ.dE l=5)):
  Calls prog 132 #[.slice (some (Ad b o)) n cap] w λe w'=>Vr w l e w':=by
 (refine K17 ?_;intro ar kq);(refine K2h ?_;intro i0 i2 i7);obtain⟨y7,z7⟩:=b7;go_enter func132,ntmps132;go_upto_region 4 with fail;have wx:IntKind.i64.wrap x7=x7:=GF _ Ft;go_region_held3 (λw'=>w'.cell? ⟨b,o,none⟩=some (.int .u8 213)/\w'.cell? ⟨b,o+1,none⟩=some (.int .u8 76)/\w'.cell? ⟨b,o+7,none⟩=some (.int .u8 x7)) (refine⟨?_,?_,?_⟩<;>(first|(with_reducible assumption)|(simp only[World.cell?_drew];with_reducible assumption)|(with_reducible apply AX;with_reducible assumption)|go_keep)) (first|(go_at_call 150;refine(Sk _).mono ?_;rintro e w1 ⟨rfl,BX⟩;have j0:=((BO BX).1 b o Cm).trans (AX k0);have j1:=((BO BX).1 b (o+1) Cm).trans (AX k1);have j7:=((BO BX).1 b (o+7) Cm).trans (AX k7);have IJ:=BX.size;try simp at IJ;have h1:=AH (q:=w.heap.size) Bi BX Cm;(have BH:=OH h1;have la:=BG h1)))
 all_goals(try clear wx)
 all_goals(go_wp2_with fail;refine IT (v:= .tuple #[.agg aw,Iv 5]) ?_ rfl (LN E.out Fj A9);simp[results,results132,go_sem, *])
theorem qb(u v:Int)(hu:0<=u/\u<256)(hv:0<=v/\v<256):bits .or .i64 (u*256) v=256*u+v:=by
 obtain⟨a,rfl⟩:∃a:Nat,u=a:=⟨u.toNat,by omega⟩;obtain⟨c,rfl⟩:∃c:Nat,v=c:=⟨v.toNat,by omega⟩;show IntKind.i64.wrap ((BitVec.ofInt 64 ((a:Int)*256)|||BitVec.ofInt 64 (c:Int)).toNat:Int)=_;(have e:((a:Int)*256)=((a*256:Nat):Int):=by omega);rw[e,BitVec.toNat_or,Oo 64 _ Ft,Oo 64 c Ft];have:a*256|||c=a*256+c:=by rw[show a*256=a<<<8 by rw[mz]];exact(Nat.shiftLeft_add_eq_or_of_lt (show c<2^8 by omega) a).symm
 rw[this,sQ];omega
set_option maxRecDepth 100000 in
theorem A85(b o cap:Nat)(l:List Int)(w:World)(m:Nat)(DT:10+m<=cap)(GC:cap<=9223372036854775807)(QQ:b<w.heap.size)(hm:m<=64)(u v:Int)(c:Nat)
  (k0:w.cell? (Ad b o)=some (.int .u8 213))(k1:w.cell? (Ad b (o+1))=some (.int .u8 76))(k7:w.cell? (Ad b (o+7))=some (.int .u8 m))
  (k8:w.cell? (Ad b (o+(m+8)))=some (.int .u8 u))(k9:w.cell? (Ad b (o+(m+9)))=some (.int .u8 v))(bu:0<=u/\u<256)(bv:0<=v/\v<256)
  (RS:Hid (∀W:World,Below w.heap.size w W->Calls prog 151 #[.slice (some (Ad b (o+2))) (m+6) (cap-2)] W (LP (Iv (c:Nat)) W)))
  (hc:(c:Int)≠256*u+v)(E:Hid (AQ.dE l=10)):
  Calls prog 132 #[.slice (some (Ad b o)) (10+m) cap] w λe w'=>Vr w l e w':=by
 (refine K17 ?_;intro ar kq);(have i2:(2:Int)<=(cap:Int):=by omega);have z:=(show((c:Int) !=256*u+v)=true by simpa using hc);have OS:=Hd (qb u v bu bv);clear hc;go_enter func132,ntmps132;go_upto_region 4 with fail;go_cut[15] (λs15 wx=>s15= .bool false/\Below w.heap.size w wx/\wx.heap[w.heap.size]?=some (.cells aw 147 (0,0)))
 case first=>exact Ha
 case rest=>obtain⟨rfl,HB,h1⟩:=hcut;have hz:=HB.size;have l8:=((BO HB).1 b (o+(m+8)) QQ).trans k8;have l9:=((BO HB).1 b (o+(m+9)) QQ).trans k9;go_upto_region 10 with fail;(refine K1n ?_;intro w1 w2);have w3:=GF (u*256) Ft;have w4:=OS.out;clear k0 k1 k7 k8 k9;go_quiet ((go_at_call 151;exact Yb ((RS.out _ (below_drewN HB _)).mono λe w' h=>⟨h.1,h.2.symm⟩)));clear w1 w2 w3 w4;have BH:=OH h1;have la:=BG h1;go_wp2_with fail;refine IT (v:= .tuple #[.agg aw,Iv 10]) ?_ rfl (LN E.out Fj A9);simp[results,results132,go_sem, *]
def ClP(W:World)(m:Nat)(l:List Int)(e:Ending)(w':World):Prop:=∃A' IA,e= .returned (.slice A' m IA)/\Ow w' W.heap.size A' m IA l/\Below W.heap.size W w'
theorem A1k{w:World}{X:Nat}{a b c d e a' b' c' d' e':Value}{t:TypeId}(h:w.heap[X]?=some (.cells #[a,b,c,d,e] t (0,0))):
  (((((w.setCell (Ad X 0) a').setCell (Ad X 1) b').setCell (Ad X 2) c').setCell (Ad X 3) d').setCell (Ad X 4) e').heap[X]?=some (.cells #[a',b',c',d',e'] t (0,0)):=
 (AP (AP (AP (AP (AP h 0 a') 1 b') 2 c') 3 d') 4 e').trans rfl
theorem A1l{w:World}{X q:Nat}{a' b' c' d' e':Value}{x:Obj}(h:w.heap[q]?=some x)(hq:q≠X):
  (((((w.setCell (Ad X 0) a').setCell (Ad X 1) b').setCell (Ad X 2) c').setCell (Ad X 3) d').setCell (Ad X 4) e').heap[q]?=some x:=
 CV (CV (CV (CV (CV h hq _) hq _) hq _) hq _) hq _
theorem tR{w:World}{X base:Nat}{A:Option Addr}{n cap:Nat}{l:List Int}{a' b' c' d' e':Value}(h:Ow w base A n cap l)(hq:X<base):
  Ow (((((w.setCell (Ad X 0) a').setCell (Ad X 1) b').setCell (Ad X 2) c').setCell (Ad X 3) d').setCell (Ad X 4) e') base A n cap l:=
 Ow.FY (Ow.FY (Ow.FY (Ow.FY (Ow.FY h hq _) hq _) hq _) hq _) hq _
theorem re{w v:World}{X B:Nat}{a' b' c' d' e':Value}(h:Below B v w)(hq:B<=X):
  Below B v (((((w.setCell (Ad X 0) a').setCell (Ad X 1) b').setCell (Ad X 2) c').setCell (Ad X 3) d').setCell (Ad X 4) e'):=
 ((((h.setCell hq _).setCell hq _).setCell hq _).setCell hq _).setCell hq _
theorem Xm{W:World}{p q:Addr}{u v:Value}(h:W.cell? p=some v)(hq:p.block≠q.block):(W.setCell q u).cell? p=some v:=fu h (.inr hq)
set_option maxRecDepth 100000 in
theorem A8a(b o cap:Nat)(l d:List Int)(w:World)(m:Nat)(DT:10+m<=cap)(GC:cap<=9223372036854775807)(QQ:b<w.heap.size)(hm:m<=64)(u v x2 x3 x4 x5 x6:Int)(c:Nat)
  (k0:w.cell? (Ad b o)=some (.int .u8 213))(k1:w.cell? (Ad b (o+1))=some (.int .u8 76))(k7:w.cell? (Ad b (o+7))=some (.int .u8 m))
  (k2:w.cell? (Ad b (o+2))=some (.int .u8 x2))(k3:w.cell? (Ad b (o+3))=some (.int .u8 x3))(k4:w.cell? (Ad b (o+4))=some (.int .u8 x4))(k5:w.cell? (Ad b (o+5))=some (.int .u8 x5))(k6:w.cell? (Ad b (o+6))=some (.int .u8 x6))
  (k8:w.cell? (Ad b (o+(m+8)))=some (.int .u8 u))(k9:w.cell? (Ad b (o+(m+9)))=some (.int .u8 v))(bu:0<=u/\u<256)(bv:0<=v/\v<256)
  (b2:0<=x2/\x2<256)(b3:0<=x3/\x3<256)(b4:0<=x4/\x4<256)(b5:0<=x5/\x5<256)(b6:0<=x6/\x6<256)
  (RS:Hid (∀W:World,Below w.heap.size w W->Calls prog 151 #[.slice (some (Ad b (o+2))) (m+6) (cap-2)] W (LP (Iv (c:Nat)) W)))
  (RC:Hid (∀W:World,Below w.heap.size w W->Calls prog 154 #[.slice (some (Ad b (o+8))) m (cap-8)] W λe w'=>ClP W m d e w'))
  (hc:(c:Int)=256*u+v)(E:Hid (∀e w',(AQ.vd x2 x3 x4 (256*x5+x6) m=true->∃A' IA,e= .returned (.tuple #[.agg #[Iv x2,Iv x3,Iv x4,Iv (256*x5+x6),.slice A' m IA],Iv 0])/\Ow w' w.heap.size A' m IA d/\Below w.heap.size w w')->
   (AQ.vd x2 x3 x4 (256*x5+x6) m=false->e= .returned (.tuple #[.agg aw,Iv 6])/\Below w.heap.size w w')->Vr w l e w')):
  Calls prog 132 #[.slice (some (Ad b o)) (10+m) cap] w λe w'=>Vr w l e w':=by
 (refine K17 ?_;intro ar kq);(have i2:(2:Int)<=(cap:Int):=by omega);have z:=(show((c:Int) !=256*u+v)=false by simpa using hc);have OS:=Hd (qb u v bu bv);have OT:=Hd (qb x5 x6 b5 b6);clear hc;obtain⟨y2,y2'⟩:=b2;obtain⟨y3,y3'⟩:=b3;obtain⟨y4,y4'⟩:=b4;obtain⟨y5,y5'⟩:=b5;obtain⟨y6,y6'⟩:=b6;go_enter func132,ntmps132;go_upto_region 4 with fail;go_cut[15] (λs15 wx=>s15= .bool false/\Below w.heap.size w wx/\wx.heap[w.heap.size]?=some (.cells aw 147 (0,0)))
 case first=>exact Ha
 case rest=>
  obtain⟨rfl,HB,h1⟩:=hcut;have hz:=HB.size;have l8:=((BO HB).1 b (o+(m+8)) QQ).trans k8;have l9:=((BO HB).1 b (o+(m+9)) QQ).trans k9;go_upto_region 10 with fail;(refine K1n ?_;intro w1 w2);have w3:=GF (u*256) Ft;have w4:=OS.out;clear k0 k1 k7 k8 k9;go_quiet ((go_at_call 151;exact Yb ((RS.out _ (below_drewN HB _)).mono λe w' h=>⟨h.1,h.2.symm⟩)));clear w2 w3 w4 l8 l9;go_wp2_with fail;obtain⟨wq,hwq⟩:∃wq:World,wq=wc.drewN nq:=⟨_,rfl⟩;(have HQ:Below w.heap.size w wq:=by rw[hwq];exact below_drewN HB _);(have hF:wq.heap[w.heap.size]?=some (.cells aw 147 (0,0)):=by rw[hwq];exact QN h1 _);rw[<-hwq];clear hwq HB h1 hz;have hzq:=HQ.size;have hlF:=BG hF;(refine K2X ?_;intro j2 j3 j4 j5 j6 nH);clear k2 k3 k4 k5 k6;have w2:=GF (x5*256) Ft;have w3:=OT.out;have v2:IntKind.i64.wrap x2=x2:=GF _ Ft;have v3:IntKind.i64.wrap x3=x3:=GF _ Ft;have v4:IntKind.i64.wrap x4=x4:=GF _ Ft;have v5:IntKind.i64.wrap x5=x5:=GF _ Ft;have v6:IntKind.i64.wrap x6=x6:=GF _ Ft;(have i8:(8:Int)<=(m:Int)+8:=by omega);(have i9:(m:Int)+8<=(cap:Int):=by omega);(have n2:(2:Int)<10+(m:Int):=by omega);(have n3:(3:Int)<10+(m:Int):=by omega);(have n4:(4:Int)<10+(m:Int):=by omega);(have n5:(5:Int)<10+(m:Int):=by omega);(have n6:(6:Int)<10+(m:Int):=by omega);(have nc:¬cap=8:=by omega);(have tn:((m:Int)+8).toNat=m+8:=by omega);have FH:=Hd hF;have QH:=Hd HQ;clear hF HQ;go_cut[5] (λs5 wx=>∃(X:Nat)(A1:Option Addr)(OC:Nat),s5=Pt X/\w.heap.size<X/\wx.heap[X]?=some (.cells #[Iv x2,Iv x3,Iv x4,Iv (256*x5+x6),.slice A1 m OC] 147 (0,0))/\
   Ow wx (w.heap.size+1) A1 m OC d/\Below w.heap.size w wx/\wx.heap[w.heap.size]?=some (.cells aw 147 (0,0)))
  case first=>
   go_region_held3 (λw'=>w'.cell? ⟨b,o+2,none⟩=some (.int .u8 x2)/\w'.cell? ⟨b,o+3,none⟩=some (.int .u8 x3)/\w'.cell? ⟨b,o+4,none⟩=some (.int .u8 x4)/\w'.cell? ⟨b,o+5,none⟩=some (.int .u8 x5)/\w'.cell? ⟨b,o+6,none⟩=some (.int .u8 x6)) (refine⟨?_,?_,?_,?_,?_⟩<;>(repeat(first|(with_reducible assumption)|(with_reducible refine SQ ?_)|(with_reducible refine AX ?_)|((with_reducible refine Xm ?_ ?_);rotate_left;(simp;omega))))) (first|(go_at_call 154;refine(RC.out _ (by first|exact QH.out.drew|exact(QH.out.drew).alloc Fp _|exact(QH.out.alloc hzq _).drew)).mono ?_;rintro e w4 ⟨A1,OC,rfl,ow4,GA⟩;have QP:=GA.size;(try simp at QP);have d2:=((BO GA).1 b (o+2) Fp).trans (by first|exact j2|exact AX j2);have d3:=((BO GA).1 b (o+3) Fp).trans (by first|exact j3|exact AX j3);have d4:=((BO GA).1 b (o+4) Fp).trans (by first|exact j4|exact AX j4);have d5:=((BO GA).1 b (o+5) Fp).trans (by first|exact j5|exact AX j5);have d6:=((BO GA).1 b (o+6) Fp).trans (by first|exact j6|exact AX j6);have hF4:=AH (q:=w.heap.size) (by first|exact FH.out|exact AI FH.out _) GA Fp;try(have xa:=AH (q:=wq.heap.size) (by exact FX (AM wq _)) GA Fu;(have rD:=OH xa;have lX:=BG xa))))
   ·go_wp2_with fail;go_meet;refine⟨w4.heap.size,A1,OC,rfl,by omega,AM _ _,(ow4.alloc _).more Fp,?_,AI hF4 _⟩;exact((show Below w.heap.size w (World.drew wq) from QH.out.drew).trans (GA.mono Fp)).alloc Ft _
   ·go_wp2_with fail;go_meet;refine⟨wq.heap.size,A1,OC,rfl,by omega,A1k xa,(tR ow4 Fu).more Fp,re ?_ Ft,A1l hF4 Ft⟩;exact(show Below w.heap.size w ((wq.alloc (.cells aw 147)).drew) from(QH.out.alloc hzq _).drew).trans (GA.mono Fp)
  case rest=>
   obtain⟨X,A1,OC,rfl,hX,hXb,ow,HB,h1⟩:=hcut;clear v2 v3 v4 v5 v6 w2 w3 i8 i9 n2 n3 n4 n5 n6 nc tn RS RC OS OT j2 j3 j4 j5 j6 FH QH;have hz:=HB.size;have hlX:=BG hXb;have hlF:=BG h1;have rD:=OH hXb;have lX:=BG hXb
   cases WY:AQ.vd x2 x3 x4 (256*x5+x6) m
   ·have V:=Hd (λ(W:World)=>WY▸QE x2 x3 x4 (256*x5+x6) A1 m OC W Ft);have EE:=Hd (λe w' h=>E.out e w' (λhh=>by rw[WY] at hh;cases hh) (λ_=>h));clear WY E;go_wp2_with fail;refine(V.out _).mono ?_;rintro e w9 ⟨rfl,Uv⟩;have hz9:=Uv.size;have xg:=AH h1 Uv Ft;(refine K0f ?_;intro XK A1E lF);go_wp2_with fail;refine IT (v:= .tuple #[.agg aw,Iv 6]) ?_ rfl (EE.out _ _ ⟨rfl,A9⟩);simp[results,results132,go_sem, *]
   ·have V:=Hd (λ(W:World)=>WY▸QE x2 x3 x4 (256*x5+x6) A1 m OC W Ft);have EE:=Hd (λe w' h=>E.out e w' (λ_=>h) (λhh=>by rw[WY] at hh;cases hh));clear WY E;go_wp2_with fail;refine(V.out _).mono ?_;rintro e w9 ⟨rfl,Uv⟩;have hz9:=Uv.size;have xg:=AH h1 Uv Ft;have hX9:=AH hXb Uv hlX;have ow9:=ow.below Uv (Lr _);(refine K0f ?_;intro XK A1E lF);have A9H:=OH hX9;have lY:=BG hX9;go_wp2_with fail;refine IT (v:= .tuple #[.agg #[Iv x2,Iv x3,Iv x4,Iv (256*x5+x6),.slice A1 m OC],Iv 0]) ?_ rfl (EE.out _ _ ⟨A1,OC,rfl,?_,A9⟩)
    ·simp[results,results132,go_sem, *]
    ·exact Ow.more (tR ow9 Ft) Ft
end
section
open RowKit
set_option maxRecDepth 512
theorem A3s(A:Option Addr)(n cap:Nat)(l:List Int)(w:World)(hn:n<=140737488355328)(DT:n<=cap)(GC:cap<=9223372036854775807)(h:Rd w w.heap.size A n l):
  Calls prog 132 #[.slice A n cap] w λe w'=>Vr w l e w':=by
 have hl:=h.1
 rcases Oj n 10 with h1|h1
 ·exact A89 A n cap l w h1 h
 obtain⟨b,o,rfl,QQ,hc⟩:=h.2.2 Ft;have MB:=h.2.1;have k0:=hc 0 Ft;rw[Nat.add_zero] at k0;have k1:=hc 1 Ft;have k7:=hc 7 Ft
 by_cases g0:l.getD 0 0=213/\l.getD 1 0=76
 rotate_left
 ·exact A88 b o n cap l w h1 DT GC h QQ _ _ _ k0 k1 k7 (MB.at_ 7) (by
   by_cases h0:l.getD 0 0=213
   ·exact .inr (λh1=>g0 ⟨h0,h1⟩)
   ·exact .inl h0) (Hd (AQ.A1y (l:=l) Ft (λhh=>g0 ⟨hh.1,hh.2.1⟩)))
 rw[g0.1] at k0;rw[g0.2] at k1
 rcases ZY 64 (l.getD 7 0) with g7|g7
 ·exact A69 b o n cap l w h1 DT GC QQ _ k0 k1 k7 (MB.at_ 7) g7 (Hd (AQ.A1y (l:=l) Ft (λhh=>by omega)))
 have G:l.getD 0 0=213/\l.getD 1 0=76/\l.getD 7 0<=64:=⟨g0.1,g0.2,g7⟩;have b7:=MB.at_ 7;obtain⟨m,hm⟩:∃m:Nat,m=AQ.dm l:=⟨_,rfl⟩;(have hm7:l.getD 7 0=(m:Int):=by rw[hm,AQ.dm];omega);rw[hm7] at k7
 rcases Oj n (10+m) with q1|q1
 ·exact A87 b o n cap l w h1 DT GC QQ _ k0 k1 k7 Ft Ft (Hd (AQ.A8e (l:=l) Ft G Ft))
 rcases Oj (10+m) n with q2|q2
 ·exact A86 b o n cap l w h1 DT GC QQ _ k0 k1 k7 Ft Ft (Hd (AQ.A8d (l:=l) Ft G Ft))
 (obtain rfl:n=10+m:=by omega);have Xy:=h.sub 2 (m+6) Ft;have hd8:=h.sub 8 m Ft;rw[show(l.drop 8).take m=AQ.dd l by rw[AQ.dd,hm]] at hd8;have RS:=Hd (λ(W:World)(hB:Below w.heap.size w W)=>sk (some (Ad b (o+2))) (m+6) (cap-2) _ W Ft ((Xy.below hB (Lr _)).more hB.size));have HS:((AQ.fp l:Nat):Int)=((AQ.S2 ((l.drop 2).take (m+6)):Nat):Int):=by rw[AQ.fp,hm]
 by_cases Xl:((AQ.S2 ((l.drop 2).take (m+6)):Nat):Int)=256*l.getD (m+8) 0+l.getD (m+9) 0
 ·(have C5:((AQ.fp l:Nat):Int)=256*l.getD (AQ.dm l+8) 0+l.getD (AQ.dm l+9) 0:=by rw[HS,<-hm];exact Xl);refine A8a b o cap l (AQ.dd l) w m DT GC QQ Ft _ _ _ _ _ _ _ _ k0 k1 k7 (hc 2 Ft) (hc 3 Ft) (hc 4 Ft) (hc 5 Ft) (hc 6 Ft) (hc (m+8) Ft) (hc (m+9) Ft) (MB.at_ _) (MB.at_ _) (MB.at_ 2) (MB.at_ 3) (MB.at_ 4) (MB.at_ 5) (MB.at_ 6) RS
   (Hd (λW hB=>xv (some (Ad b (o+8))) m (cap-8) (AQ.dd l) W Ft (λe=>by cases e) ((hd8.below hB (Lr _)).more hB.size))) Xl (Hd ?_)
  intro e w' hy Yo
  cases WY:AQ.vd (l.getD 2 0) (l.getD 3 0) (l.getD 4 0) (256*l.getD 5 0+l.getD 6 0) m
  ·obtain⟨rfl,hb⟩:=Yo WY;exact LN (AQ.A8b (l:=l) G (by rw[hl,<-hm]) C5 (by rw[AQ.dS,<-hm];exact WY)) Fj hb
  ·obtain⟨A',IA,rfl,Xj,hb⟩:=hy WY;refine .inr ⟨AQ.A8g (l:=l) G (by rw[hl,<-hm]) C5 (by rw[AQ.dS,<-hm];exact WY),A',IA,?_,?_,hb⟩
   ·rw[AQ.dS,<-hm]
   ·rw[<-hm];exact Xj
 ·exact A85 b o cap l w m DT GC QQ Ft _ _ _ k0 k1 k7 (hc (m+8) Ft) (hc (m+9) Ft) (MB.at_ _) (MB.at_ _) RS Xl
   (Hd (AQ.A8c (l:=l) G Ft (by rw[HS,<-hm];exact Xl)))
def I64(l:List Int):Prop:=∀x∈l,-9223372036854775808<=x/\x<=9223372036854775807
def iv(l:List Int):List Value:=l.map (Value.int .i64)
def Ri(w:World)(B:Nat)(A:Option Addr)(n:Nat)(l:List Int):Prop:=
 l.length=n/\I64 l/\(0<n->∃b o,A=some (Ad b o)/\b<B/\∀i,i<n->w.cell? (Ad b (o+i))=some (Iv (l.getD i 0)))
section
variable{w w':World}{B:Nat}{A:Option Addr}{n:Nat}{l:List Int}
theorem Ri.IE(h:Ri w B A n l)(hk:∀b o,b<B->w'.cell? (Ad b o)=w.cell? (Ad b o)):Ri w' B A n l:=
 ⟨h.1,h.2.1,λhn=>by
  obtain⟨b,o,e,hb,hc⟩:=h.2.2 hn;exact⟨b,o,e,hb,λi hi=>(hk b _ hb).trans (hc i hi)⟩⟩
theorem Ri.below{B':Nat}(h:Ri w B A n l)(k:Below B' w w')(hB:B<=B'):Ri w' B A n l:=h.IE λb o hb=>k.cell (p:=(Ad b o)) (Sv hb hB)
theorem Ri.more{B':Nat}(h:Ri w B A n l)(hB:B<=B'):Ri w B' A n l:=
 ⟨h.1,h.2.1,λhn=>by
  obtain⟨b,o,e,hb,hc⟩:=h.2.2 hn;exact⟨b,o,e,by omega,hc⟩⟩
theorem Ri.drewN(h:Ri w B A n l)(k:Nat):Ri (w.drewN k) B A n l:=h
theorem Ri.nil(w:World)(B:Nat)(A:Option Addr):Ri w B A 0 []:=⟨rfl,Ek,λh=>absurd h Ft⟩
theorem I64.at_(h:I64 l)(i:Nat): -9223372036854775808<=l.getD i 0/\l.getD i 0<=9223372036854775807:=by
 exact Ji
theorem Ri.GR{base:Nat}{e:TypeId}{c:Nat}(h:w.ownsRow base e 1 (.slice A n c) n (iv l))(hb:I64 l):Ri w w.heap.size A n l:=by
 (have hlen:l.length=n:=by have:=h.1;simpa[iv] using this);refine⟨hlen,hb,λhn=> ?_⟩
 rcases h.2 with⟨he,_⟩|⟨g,cap,cur,hv,_,hh,h1,h2,h3,h4⟩
 ·simp at he;omega
 ·injection hv with hv;subst hv;have EK:=BG hh;refine⟨g,0,rfl,EK,λi hi=> ?_⟩;have hc:=sZ h (g:=g) i Ft;rw[PL,hc,iv];simp[Gg (by omega:i<l.length),List.getD]
end
theorem uS(A C:Option Addr)(n m cap caq:Nat)(l k:List Int)(w:World)(hn:n<=140737488355328)(hm:m<=140737488355328)(h:Ri w w.heap.size A n l)(g:Ri w w.heap.size C m k):
  Calls prog 41 #[.slice A n cap,.slice C m caq] w λe w'=>e= .returned (.bool (decide (l=k)))/\∃q,w'=w.drewN q:=by
 obtain⟨hl,hb,hr⟩:=h;obtain⟨gl,gb,gr⟩:=g
 by_cases hnm:n=m
 ·subst hnm;have HL:=Hd hl;have GL:=Hd gl;have HB:=Hd hb;have GB:=Hd gb;clear hl gl hb gb;go_enter func41,ntmps41;go_wp2_with fail;go_loopw[5] (λs wr=>∃(j q:Nat),s=Iv j/\j<=n/\wr=w.drewN q/\Hid (∀i,i<j->l.getD i 0=k.getD i 0)) (λs _=>n-(intOf s).toNat)
  case atStart=>exact⟨0,0,by go_num,by omega,rfl,Hd (λi hi=>absurd hi Ft)⟩
  case round=>
   obtain⟨j,q,rfl,hj,rfl,HA⟩:=hrel
   by_cases EK:j<n
   ·obtain⟨b,o,rfl,QQ,GG⟩:=hr Ft;obtain⟨b',o',rfl,A7y,nF⟩:=gr Ft;have c1:=GG j EK;have c2:=nF j EK;have E:=Hd (show ∀x y:Int,l.getD j 0=x->k.getD j 0=y->x≠y->decide (l=k)=false from λx y e1 e2 oL=>by
     rw[eU];rintro rfl;exact oL (e1.symm.trans e2))
    have F:=Hd (show ∀x y:Int,l.getD j 0=x->k.getD j 0=y->x=y->∀i,i<j+1->l.getD i 0=k.getD i 0 from λx y e1 e2 oL i hi=>by
     rcases Oj i j with h|h
     ·exact HA.out i h
     ·(obtain rfl:i=j:=by omega);rw[e1,e2,oL])
    clear hr gr GG nF HA;obtain⟨x,hx⟩:∃x,l.getD j 0=x:=⟨_,rfl⟩;obtain⟨y,hy⟩:∃y,k.getD j 0=y:=⟨_,rfl⟩;rw[hx] at c1;rw[hy] at c2;have E1:=Hd (E.out x y hx hy);have F1:=Hd (F.out x y hx hy);clear E F hx hy
    by_cases oL:x=y
    ·have E2:=Hd (F1.out oL);subst oL;clear E1 F1;go_wp2_with fail;go_quiet (fail);go_wp2_with fail;go_roundw
     case rel=>exact⟨j+1,_,by go_num,by omega,rfl,E2⟩
     case measure=>simp[intOf];omega
    ·have E2:=Hd (E1.out oL);(have z:(x !=y)=true:=by simpa using oL);clear E1 F1 oL;go_wp2_with fail;go_quiet (fail);go_wp2_with fail;go_ret;exact⟨CU E2.out.symm,_,World.drewN_drewN _ _ _⟩
   ·(obtain rfl:j=n:=by omega);have E:=Hd (show decide (l=k)=true from IU (getD_eq (HL.out.trans GL.out.symm) (λi hi=>HA.out i (by rw[HL.out] at hi;exact hi))));clear hr gr HA;go_wp2_with fail;go_ret;exact⟨CU E.out.symm,q,rfl⟩
 ·(have z:((n:Int) !=(m:Int))=true:=by simp;omega);have E:=Hd (show decide (l=k)=false by rw[eU];rintro rfl;omega);clear hl gl hr gr hnm hb gb;go_enter func41,ntmps41;go_wp2_with fail;go_ret;exact⟨CU E.out.symm,0,rfl⟩
end
section
open RowKit
namespace AQ
def xQ(x:Int):Bool:=Rj x 0 4294967295
def MI(l:List Int):Bool:=l.all xQ
def IZ(x:Int):List Int:=[x/16777216,x/65536%256,x/256%256,x%256]
def pn:List Int->List Int
 |[]=>[]
 |x::l=>IZ x++pn l
theorem fY(l m:List Int):pn (l++m)=pn l++pn m:=by
 induction l with
 |nil=>rfl
 |cons x t ih=>simp[pn,ih]
theorem PM{x:Int}:xQ x=true↔0<=x/\x<=4294967295:=EP
theorem WH{x:Int}(h:xQ x=true):By (IZ x):=by
 rw[PM] at h;intro y hy;simp[IZ] at hy;omega
theorem A43{l:List Int}(h:MI l=true):By (pn l):=by
 induction l with
 |nil=>intro x hx;cases hx
 |cons x t ih=>simp[MI] at h;exact By.append (WH h.1) (ih (by simpa[MI] using h.2))
theorem A0m{l:List Int}(h:MI l=true){j:Nat}(hj:j<l.length):xQ (l.getD j 0)=true:=by
 rw[MI,sP] at h;have:=h _ (bZ hj);simpa[List.getD,Gg hj] using this
end AQ
theorem A97(x:Int)(w:World):Calls prog 159 #[Iv x] w (LP (.bool (!AQ.xQ x)) w):=by
 go_enter func159,ntmps159;go_wp2_with fail;refine(Wp _ _ _ _).mono ?_;rintro e w1 ⟨rfl,rfl⟩;exact He
theorem tf(x:Int)(r:Bool)(w:World)(h:AQ.xQ x= !r):Calls prog 159 #[Iv x] w (LP (.bool r) w):=by
 have:=A97 x w;rw[h,Bool.not_not] at this;exact this
def A8N(l:List Int)(e:Ending):Prop:=(AQ.MI l=true/\e= .returned (Iv (-1)))\/(AQ.MI l=false/\∃r:Nat,r<l.length/\e= .returned (Iv r))
theorem wN(A:Option Addr)(n cap:Nat)(l:List Int)(w:World)(hn:n<=140737488355328)(h:Ri w w.heap.size A n l):
  Calls prog 174 #[.slice A n cap,.func (.func 159) #[] #[]] w λe w'=>A8N l e/\w=w':=by
 obtain⟨hl,hb,hr⟩:=h;have HL:=Hd hl;clear hl hb;go_enter func174,ntmps174;go_wp2_with fail;go_loop [8] (λs=>∃(j:Nat),s=Iv j/\j<=n/\Hid (∀i,i<j->AQ.xQ (l.getD i 0)=true)) (λs=>n-(intOf s).toNat)
 case atStart=>exact⟨0,by go_num,by omega,Hd (λi hi=>absurd hi Ft)⟩
 case round=>
  obtain⟨j,rfl,hj,HA⟩:=hrel
  by_cases EK:j<n
  ·obtain⟨b,o,rfl,QQ,GG⟩:=hr Ft;have c1:=GG j EK;obtain⟨x,hx⟩:∃x,l.getD j 0=x:=⟨_,rfl⟩;rw[hx] at c1;have HX:=Hd hx;clear hr GG hx
   cases ho:AQ.xQ x
   ·have P:=Hd (λW:World=>tf x true W (by simp[ho]));have E:=Hd (show AQ.MI l=false by
     rw[AQ.MI,List.all_eq_false];(have Wl:j<l.length:=by rw[HL.out];exact EK);refine⟨l[j],bZ Wl,?_⟩;(have:l[j]=x:=by rw[<-HX.out];simp[List.getD,Gg Wl]);rw[this,ho];simp)
    have Wl:=Hd (show j<l.length by rw[HL.out];exact EK);clear ho;go_wp2_with fail;refine(P.out _).mono ?_;rintro e w1 ⟨rfl,rfl⟩;go_wp2_with fail;go_ret;exact⟨.inr ⟨E.out,j,Wl.out,rfl⟩,rfl⟩
   ·have P:=Hd (λW:World=>tf x false W (by simp[ho]));have E:=Hd (show ∀i,i<j+1->AQ.xQ (l.getD i 0)=true from λi hi=>by
     rcases Oj i j with h|h
     ·exact HA.out i h
     ·(obtain rfl:i=j:=by omega);rw[HX.out,ho])
    clear ho HA;go_wp2_with fail;refine(P.out _).mono ?_;rintro e w1 ⟨rfl,rfl⟩;go_wp2_with fail;go_round
    case rel=>exact⟨j+1,by go_num,by omega,E⟩
    case measure=>simp[intOf];omega
  ·(obtain rfl:j=n:=by omega);have E:=Hd (show AQ.MI l=true by
    rw[AQ.MI,sP];intro x hx;obtain⟨i,hi,rfl⟩:=mC hx;have:=HA.out i (by rw[<-HL.out];exact hi);simpa[List.getD,Gg hi] using this)
   clear hr HA;go_wp2_with fail;go_ret;exact⟨.inl ⟨E.out,rfl⟩,rfl⟩
theorem jE(A:Option Addr)(n cap:Nat)(l:List Int)(w:World)(hn:n<=140737488355328)(h:Ri w w.heap.size A n l):
  Calls prog 158 #[.slice A n cap,.func (.func 159) #[] #[]] w (LP (.bool (!AQ.MI l)) w):=by
 have H:=Hd (wN A n cap l w hn h);clear h;go_enter func158,ntmps158;go_wp2_with fail;refine H.out.mono ?_;rintro e w1 ⟨⟨h1,rfl⟩|⟨h1,r,hr,rfl⟩,rfl⟩
 ·have HH:=Hd h1;clear h1;go_wp2_with fail;go_ret;exact⟨CU (by rw[HH.out];simp),rfl⟩
 ·have HH:=Hd h1;clear h1 hr;go_wp2_with fail;go_ret;exact⟨CU (by rw[HH.out];simp),rfl⟩
theorem te(A:Option Addr)(n cap:Nat)(l:List Int)(w:World)(h:Ri w w.heap.size A n l)(hn:n<=16)(hx:AQ.MI l=true):
  Calls prog 137 #[.slice A n cap] w λe w'=>∃A' IA,e= .returned (.tuple #[.slice A' (4*n) IA,Iv 0])/\Ow w' w.heap.size A' (4*n) IA (AQ.pn l)/\Below w.heap.size w w':=by
 obtain⟨i0,OU,RR,IJ,Ot⟩:=MQ Sd;have C:=Hd (jE A n cap l w Ft h);rw[hx] at C;have HX:=Hd hx;have HH:=Hd h;clear h hx;go_enter func137,ntmps137;go_wp2_with fail;refine C.out.mono ?_;rintro e w1 ⟨rfl,rfl⟩;go_wp2_with fail;go_loopw[4,16] (λs4 s16 wr=>∃j:Nat,s16=Iv j/\j<=n/\wr.ownsRow w.heap.size 5 1 s4 (4*j) (bv (AQ.pn (l.take j)))/\Below w.heap.size w wr) (λ_ s16 _=>n-(intOf s16).toNat)
 case atStart=>exact⟨0,by go_num,by omega,by simpa[AQ.pn,bv] using Ta w w.heap.size _ 1,A9⟩
 case round=>
  obtain⟨j,rfl,hj,FZ,hB⟩:=hrel;obtain⟨A4,oq,rfl⟩:=Ps FZ;have VE:=hB.size;have HR:=HH.out.below hB (Lr _)
  by_cases EK:j<n
  ·obtain⟨bl,o,rfl,QQ,GG⟩:=HR.2.2 Ft;have tJ:=GG j EK;have hlen:=HR.1;have Qn:=AQ.PM.1 (AQ.A0m HX.out (j:=j) Ft);have E:=Hd (show AQ.pn (l.take (j+1))=AQ.pn (l.take j)++AQ.IZ (l.getD j 0) by rw[Ww l j Ft,AQ.fY];simp[AQ.pn]);obtain⟨y,hy⟩:∃y,l.getD j 0=y:=⟨_,rfl⟩;rw[hy] at tJ E Qn;obtain⟨y0,y1⟩:=Qn;clear GG HR hy hlen;go_wp2_with (at_builtin;refine BD _ rfl (.tmp 20) (.tmp 32) _ rfl w.heap.size 5 i0 _ 1 1 underlying47 OU RR IJ Ot rfl Ft _ (4*j) _ rfl (FZ.alloc _) (wr.heap.size+1) (some (Ad wr.heap.size 0)) 4 4 (bv (AQ.IZ y)) rfl (Reads.new wr #[.int .u8 (y/16777216),.int .u8 (y/65536%256),.int .u8 (y/256%256),.int .u8 (y%256)] 5) (SX _) Dk Ft Fp ?_;intro v1 w2 CE GQ LY);have ET:=E.out;go_roundw
   case rel=>refine⟨j+1,by go_num,by omega,?_,(hB.alloc VE _).grown GQ Fp (λg hg=>(FZ.lt g hg).1)⟩;exact Jr
   case measure=>simp[intOf];omega
  ·(obtain rfl:j=n:=by omega);have E:=Hd (show l.take j=l by rw[R8 (by rw[HH.out.1];omega)]);rw[E.out] at FZ;clear HR;go_wp2_with fail;go_ret2;exact⟨A4,oq,rfl,⟨FZ,AQ.A43 HX.out⟩,hB⟩
def A8K(w:World)(n:Nat)(l:List Int)(e:Ending)(w':World):Prop:=
 ((16<n\/AQ.MI l=false)/\e= .returned (.tuple #[.slice none 0 0,Iv 2])/\Below w.heap.size w w')\/
 ((n<=16/\AQ.MI l=true)/\∃A' IA,e= .returned (.tuple #[.slice A' (4*n) IA,Iv 0])/\Ow w' w.heap.size A' (4*n) IA (AQ.pn l)/\Below w.heap.size w w')
theorem lI(A:Option Addr)(n cap:Nat)(l:List Int)(w:World)(hn:n<=140737488355328)(h:Ri w w.heap.size A n l):
  Calls prog 112 #[.slice A n cap] w λe w'=>A8K w n l e w':=by
 obtain⟨i0,OU,RR,IJ,Ot⟩:=MQ Sd;have HH:=Hd h;clear h
 rcases Oj 16 n with h16|h16
 ·go_enter func112,ntmps112;go_wp2_with fail;go_ret2;exact .inl ⟨.inl h16,rfl,A9⟩
 ·go_enter func112,ntmps112;go_wp2_with fail;go_loopw[4,5] (λs4 s5 wr=>∃j:Nat,s5=Iv j/\j<=n/\wr.ownsRow w.heap.size 5 1 s4 (4*j) (bv (AQ.pn (l.take j)))/\Below w.heap.size w wr/\Hid (∀i,i<j->AQ.xQ (l.getD i 0)=true)) (λ_ s5 _=>n-(intOf s5).toNat)
  case atStart=>exact⟨0,by go_num,by omega,by simpa[AQ.pn,bv] using Ta w w.heap.size _ 1,A9,Hd (λi hi=>absurd hi Ft)⟩
  case round=>
   obtain⟨j,rfl,hj,FZ,hB,HA⟩:=hrel;obtain⟨A4,oq,rfl⟩:=Ps FZ;have VE:=hB.size;have HR:=HH.out.below hB (Lr _)
   by_cases EK:j<n
   ·obtain⟨bl,o,rfl,QQ,GG⟩:=HR.2.2 Ft;have tJ:=GG j EK;have HLn:=Hd HR.1;have E:=Hd (show AQ.pn (l.take (j+1))=AQ.pn (l.take j)++AQ.IZ (l.getD j 0) by rw[Ww l j (by rw[HLn.out];omega),AQ.fY];simp[AQ.pn]);obtain⟨y,hy⟩:∃y,l.getD j 0=y:=⟨_,rfl⟩;rw[hy] at tJ E;have HY:=Hd hy;clear GG HR hy;have bad:=Hd (show AQ.xQ y=false->AQ.MI l=false from λhf=>by
     rw[AQ.MI,List.all_eq_false];(have Wl:j<l.length:=by rw[HLn.out];exact EK);refine⟨l[j],bZ Wl,?_⟩;(have:l[j]=y:=by rw[<-HY.out];simp[List.getD,Gg Wl]);rw[this,hf];simp)
    rcases ZY y 0 with g0|g0
    ·go_wp2_with fail;go_ret2;exact .inl ⟨.inr (bad.out (AQ.SB.2 Ft)),rfl,hB⟩
    rcases ZY 4294967295 y with g1|g1
    ·go_wp2_with fail;go_ret2;exact .inl ⟨.inr (bad.out (AQ.SB.2 Ft)),rfl,hB⟩
    have HA':=Hd (show ∀i,i<j+1->AQ.xQ (l.getD i 0)=true from λi hi=>by
     rcases Oj i j with h|h
     ·exact HA.out i h
     ·(obtain rfl:i=j:=by omega);rw[HY.out];exact AQ.PM.2 ⟨g0,g1⟩)
    clear HA;go_wp2_with fail;(have f1:IntKind.u8.wrap (IntKind.i64.wrap (y.tdiv 16777216))=y/16777216:=by rw[A2x g0,GF _ Ft,VT];omega);(have f2:IntKind.u8.wrap ((IntKind.i64.wrap (y.tdiv 65536)).tmod 256)=y/65536%256:=by rw[A2x g0,GF _ Ft,vH Ft,VT];omega);(have f3:IntKind.u8.wrap ((IntKind.i64.wrap (y.tdiv 256)).tmod 256)=y/256%256:=by rw[A2x g0,GF _ Ft,vH Ft,VT];omega);(have f4:IntKind.u8.wrap (y.tmod 256)=y%256:=by rw[vH Ft,VT];omega);(have qT:bl<wr.heap.size:=by omega);go_region_held3 (λw'=>w'.cell? ⟨bl,o+j,none⟩=some (Iv y)) (first|(simp[go_sem, *];done)|go_keep) (first|(refine LH _ rfl (.tmp 27) (.tmp 54) _ rfl w.heap.size 5 i0 _ 1 1 underlying47 OU RR IJ Ot rfl Ft _ (4*j) _ rfl (sV (mF FZ _)) (wr.heap.size+1) (some (Ad wr.heap.size 0)) 4 4 (bv (AQ.IZ y)) rfl (Reads.drew (Reads.new wr #[.int .u8 (y/16777216),.int .u8 (y/65536%256),.int .u8 (y/256%256),.int .u8 (y%256)] 5)) (SX _) Dk Ft Fp ?_;intro v1 w2 CE GQ LY;have MU:w2.cell? (Ad bl (o+j))=some (Iv y):=(Cb (GQ.block bl Fp (λe=>by have:=(FZ.lt _ e.symm).1;omega))).trans Ew));clear f1 f2 f3 f4;have ET:=E.out;go_wp2_with fail;go_roundw
    case rel=>refine⟨j+1,by go_num,by omega,?_,Xt (w:=((wr.alloc (.cells #[.int .u8 (y/16777216),.int .u8 (y/65536%256),.int .u8 (y/256%256),.int .u8 (y%256)] 5)).drew)) A9 GQ Fp (λg hg=>(FZ.lt g hg).1),HA'⟩;exact Jr
    case measure=>simp[intOf];omega
   ·(obtain rfl:j=n:=by omega);have E:=Hd (show l.take j=l by rw[R8 (by rw[HH.out.1];omega)]);(have Qn:AQ.MI l=true:=by rw[AQ.MI,sP];intro x hx;obtain⟨i,hi,rfl⟩:=mC hx;have:=HA.out i (by rw[<-HH.out.1];exact hi);simpa[List.getD,Gg hi] using this);have HO:=Hd Qn;rw[E.out] at FZ;clear HR HA Qn;go_wp2_with fail;go_ret2;exact .inr ⟨⟨h16,HO.out⟩,A4,oq,rfl,⟨FZ,AQ.A43 HO.out⟩,hB⟩
structure Fr where
 k:Int
 f:Int
 t:Int
 s:Int
 d:List Int
def jw:Fr:=⟨0,0,0,0,[]⟩
def sf(w:World)(B b p:Nat)(x:Fr):Prop:=
 ∃(A:Option Addr)(cap:Nat),w.cell? (Ad b p)=some (Iv x.k)/\w.cell? (Ad b (p+1))=some (Iv x.f)/\w.cell? (Ad b (p+2))=some (Iv x.t)/\w.cell? (Ad b (p+3))=some (Iv x.s)/\
  w.cell? (Ad b (p+4))=some (.slice A x.d.length cap)/\Rd w B A x.d.length x.d/\(A=none->x.d.length=0/\cap=0)/\x.d.length<=cap/\cap<=maxLen
def Rf(w:World)(B:Nat)(A:Option Addr)(n:Nat)(l:List Fr):Prop:=
 l.length=n/\(0<n->∃b o,A=some (Ad b o)/\b<B/\∀i,i<n->sf w B b (o+i*5) (l.getD i jw))
section
variable{w w':World}{B:Nat}{A:Option Addr}{n:Nat}{l:List Fr}
theorem sf.IE{b p:Nat}{x:Fr}(h:sf w B b p x)(hb:b<B)(hk:∀b o,b<B->w'.cell? (Ad b o)=w.cell? (Ad b o)):sf w' B b p x:=by
 obtain⟨A,cap,h1,h2,h3,h4,h5,h6,h7⟩:=h;exact⟨A,cap,(hk _ _ hb).trans h1,(hk _ _ hb).trans h2,(hk _ _ hb).trans h3,(hk _ _ hb).trans h4,(hk _ _ hb).trans h5,h6.IE hk,h7⟩
theorem Rf.IE(h:Rf w B A n l)(hk:∀b o,b<B->w'.cell? (Ad b o)=w.cell? (Ad b o)):Rf w' B A n l:=
 ⟨h.1,λhn=>by
  obtain⟨b,o,e,hb,hc⟩:=h.2 hn;exact⟨b,o,e,hb,λi hi=>(hc i hi).IE hb hk⟩⟩
theorem Rf.below{B':Nat}(h:Rf w B A n l)(k:Below B' w w')(hB:B<=B'):Rf w' B A n l:=h.IE λb o hb=>k.cell (p:=(Ad b o)) (Sv hb hB)
theorem sf.more{B' b p:Nat}{x:Fr}(h:sf w B b p x)(hB:B<=B'):sf w B' b p x:=by
 obtain⟨A,cap,h1,h2,h3,h4,h5,h6,h7⟩:=h;exact⟨A,cap,h1,h2,h3,h4,h5,h6.more hB,h7⟩
theorem Rf.more{B':Nat}(h:Rf w B A n l)(hB:B<=B'):Rf w B' A n l:=
 ⟨h.1,λhn=>by
  obtain⟨b,o,e,hb,hc⟩:=h.2 hn;exact⟨b,o,e,by omega,λi hi=>(hc i hi).more hB⟩⟩
theorem Rf.nil(w:World)(B:Nat)(A:Option Addr):Rf w B A 0 []:=⟨rfl,λh=>absurd h Ft⟩
end
end
section
open RowKit Shelf
set_option maxRecDepth 512
section
variable{P:Program}{Q:Exit->Act->World->Prop}{n l:Nat}
theorem lK{row:String}{args:Array Value}{w:World}{R:Value->World->Prop}(h:Rows P row args w R):RowsIn (Fence.wide.inRound l) n P row args w R:=
 λc cs _=>let ⟨v,w',r,s⟩:=h c cs;⟨v,w',r,stepsIn_wide.2 s⟩
theorem qd{o:Oper}(hd:∀c,o.op≠ .defer c){a:Act}{w:World}{K:Act->World->Prop}(Yo:¬LetsOut Q)(h:o.wp P a w K Q):o.wpIn (Fence.wide.inRound l) n P a w K Q:=by
 refine⟨λ_ _=>trivial,?_⟩;unfold Oper.wp at h;rw[show(Fence.wide.inRound l).round=some l from rfl,Oper.semAt_some l _ _ hd];revert h;generalize(execOp a.eval o).run P w=r;intro h
 cases r with
 |ok x w'=>
  cases x with
  |value v=>exact h
  |skip=>exact h
  |defer d=>exact h
  |enter f args=>exact⟨λhh=>by simp[Fence.wide] at hh,callsIn_wide.2 h⟩
  |row r' args=>exact⟨λhh=>by simp[Fence.wide] at hh,lK h⟩
  |round=>exact h.elim
  |_=>exact h.elim
 |halt x w'=>cases x<;>exact h
theorem vP{ops:Array Oper}(hd:∀(i:Nat)(o:Oper),ops[i]?=some o->∀c,o.op≠ .defer c)(Yo:¬LetsOut Q):
  ∀(s:List Nat)(a:Act)(w:World),wpOps P ops Q s a w->wpOpsIn (Fence.wide.inRound l) n P ops Q s a w:=by
 intro s
 induction s with
 |nil=>exact λa w h=>h
 |cons i s ih=>
  intro a w h;rw[wpOps_cons] at h;unfold wpOp at h;simp only[wpOpsIn]
  cases ho:ops[i]? with
  |none=>rw[ho] at h;exact ih a w h
  |some o=>
   rw[ho] at h;simp only at h⊢
   by_cases hw:Region.wanted o (yielded ops a.tmps)=true
   ·rw[AW hw] at h⊢
    rcases h with h|h
    ·exact Oper.wpIn_mono ih (qd (hd i o ho) Yo h)
    ·exact absurd h.2 Yo
   ·rw[AO hw] at h⊢;exact⟨λ_ _=>trivial,ih _ _ h⟩
def iU(o:Oper):Bool:=match o.op with| .defer _=>false|_=>true
theorem mJ{ops:Array Oper}(h:ops.toList.all iU=true)(i:Nat)(o:Oper)(ho:ops[i]?=some o)(c):o.op≠ .defer c:=by
 rw[sP] at h;(have hm:o∈ops.toList:=by rw[<-iO] at ho;exact pZ ho);intro e;have:=h o hm;simp[iU,e] at this
theorem Y5{S:World->Prop}{id:Nat}{ops:Array Oper}{a:Act}{w:World}(hm:P.follows .mixedOrders=true)(hd:ops.toList.all iU=true)(Yo:¬LetsOut Q)(hS:S w.drew)
  (h:S w.drew->wpAnyH P .any ops Q S ops.size (Array.replicate ops.size false) a w.drew):(Code.region id ops true).wpIn (Fence.wide.inRound l) n P Q a w:=
 wpIn_region_draw λt=>by refine vP (mJ hd) Yo _ _ _ ?_;simp only[Region.schedule,hm,Bool.true_or,WV];exact wpAny_sound ops.size t _ a _ (wpAny_of_held _ _ _ _ (h hS))
end
end
end Go.Proofs.YtdocdgcdldpagaaGreat

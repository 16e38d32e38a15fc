import Derived.Test.YtdocdgcdldpagaaGreatAw09
open Go.Proofs.Tryz
namespace Go.Proofs.YtdocdgcdldpagaaGreat
set_option maxHeartbeats 64000000
set_option maxRecDepth 100000
set_option linter.all false
section
open RowKit
attribute [local go_sem ↓] wp_at_zero wp_at_succ
section
variable{w w':World}{base b mc rc:Nat}{MA RA:Option Addr}{s:AJ.St}
theorem vx(h:FC w base b MA mc RA rc s)(hs:AJ.Inv s)(now k f t q:Int)(D:Option Addr)(n cap:Nat)(d:List Int)(hd:Rd w w.heap.size D n d)(hD:∀a,D=some a->a.block≠b)(he:AJ.FU s now ⟨k,f,t,q,d⟩=0)(x:Int)(hr:P8 ⟨k,f,t,q,d⟩= .iface 226 (.agg #[.int .u8 x]))(Yo:s.cmd=0\/q≠s.seq\/x≠s.cmd):
  Calls prog 103 #[Pt b,Iv now,.agg #[Iv k,Iv f,Iv t,Iv q,.slice D n cap]] w (JX base b MA RA rc {s with now:=now} [] 0 w):=by
 obtain⟨hv,ht,hf,YN⟩:=Oh he;simp only[hd.1] at hv ht hf;(refine Ku ?_;intro QK HL HD HDN N RD VA CH c0 hb ZJ z X0 kx);(refine K4E ?_;intro ta1);(have kn0:∀W:World,(binOp .eql 159 .nilIface .nilIface).run prog W= .ok (.bool true) W:=λW=>by kernel_rfl);have HI:=Hd hs;clear h hs hd hD he hr hv ht hf YN
 by_cases dB:s.cmd=0
 ·have E8:=Hd (show Zr s= .nilIface by unfold Zr;rw[AW dB]);clear dB Yo;go_enter func103,ntmps103;go_wp2_with fail;refine(N.out _ A9).mono ?_;rintro e w1 ⟨rfl,rfl⟩;go_wp2_with fail;(refine K2s ?_;intro RZ lx);(first|(go_region_held3 (λw'=>w'.cell? ⟨w.heap.size,0,none⟩=some (Iv k)/\w'.cell? ⟨w.heap.size,1,none⟩=some (Iv f)/\w'.cell? ⟨w.heap.size,2,none⟩=some (Iv t)/\w'.cell? ⟨w.heap.size,3,none⟩=some (Iv q)/\w'.cell? ⟨w.heap.size,4,none⟩=some (.slice D n cap)/\w'.cell? ⟨b,0,none⟩=some (Iv s.n)) (first|(refine⟨?_,?_,?_,?_,?_,?_⟩<;>simp[go_sem, *];done)|go_keep) (first|(go_at_call 133;refine(VA.out _).mono ?_;rintro e w4 ⟨rfl,GA⟩;have QP:=GA.size;(try simp at QP);have Qo:=(show Below w.heap.size w w4 from A9);have k4:=AH (q:=w.heap.size) Af GA Cm;(have Vy:=OH k4;have lz:=BG k4);have e0:w4.cell? (Ad b 0)=some (Iv s.n):=((BO GA).1 b _ Cm).trans Ew)))|fail);clear RZ lx;go_wp2_with fail;(refine K0e ?_;intro f3 c3 HS4 nj LX aA);go_wp2_with fail;(refine K0N ?_;intro w6 Se Xi);(try simp at Xi);(refine KI ?_;clear c3 f3 Se k4 Vy lz e0 Qo;intro aU k6 il ni dQ ly);(have c8:w6.cell? (Ad b 8)=some .nilIface:=by rw[<-E8.out];exact AB aU.out.BM 8 rfl);have c4:w6.cell? (Ad b 4)=some (Iv s.seq):=AB aU.out.BM 4 rfl;have Se:=aU.out.lt;exact Im
 ·obtain⟨T,cv,fk,fm,fs,fd,OW,C⟩:=rA s HI.out dB;have en:=C.en;have E8:=Hd OW
  by_cases hq:q=s.seq
  ·have hx:x≠s.cmd:=(Yo.resolve_left dB).resolve_left (λh=>h hq);have CK:=Hd C.ck;have m1:=C.ak.m;have n1:=C.ak.n;have q1:=C.ak.c;have A34:=HI.out.cmd;(have wk:IntKind.u8.wrap s.cmd=s.cmd:=by rw[VT];omega);(have zq:(q !=s.seq)=false:=by simpa using hq);(have zx:(x !=s.cmd)=true:=by simpa using hx);clear dB Yo hq hx C OW;go_enter func103,ntmps103;go_wp2_with fail;refine(N.out _ A9).mono ?_;rintro e w1 ⟨rfl,rfl⟩;go_wp2_with fail;(refine K2s ?_;intro RZ lx);(first|(go_region_held3 (λw'=>w'.cell? ⟨w.heap.size,0,none⟩=some (Iv k)/\w'.cell? ⟨w.heap.size,1,none⟩=some (Iv f)/\w'.cell? ⟨w.heap.size,2,none⟩=some (Iv t)/\w'.cell? ⟨w.heap.size,3,none⟩=some (Iv q)/\w'.cell? ⟨w.heap.size,4,none⟩=some (.slice D n cap)/\w'.cell? ⟨b,0,none⟩=some (Iv s.n)) (first|(refine⟨?_,?_,?_,?_,?_,?_⟩<;>simp[go_sem, *];done)|go_keep) (first|(go_at_call 133;refine(VA.out _).mono ?_;rintro e w4 ⟨rfl,GA⟩;have QP:=GA.size;(try simp at QP);have Qo:=(show Below w.heap.size w w4 from A9);have k4:=AH (q:=w.heap.size) Af GA Cm;(have Vy:=OH k4;have lz:=BG k4);have e0:w4.cell? (Ad b 0)=some (Iv s.n):=((BO GA).1 b _ Cm).trans Ew)))|fail);clear RZ lx;go_wp2_with fail;(refine K0e ?_;intro f3 c3 HS4 nj LX aA);go_wp2_with fail;(refine K0N ?_;intro w6 Se Xi);(try simp at Xi);(refine KI ?_;clear c3 f3 Se k4 Vy lz e0 Qo;intro aU k6 il ni dQ ly);(refine K1s ?_;intro c8 c4 Se);go_wp2_with fail;(refine K24 ?_;intro k9 c9);(first|(go_region_held3 (λw'=>w'.cell? ⟨b,8,none⟩=some (.iface T cv)/\w'.cell? ⟨b,4,none⟩=some (Iv s.seq)/\w'.cell? ⟨w.heap.size,3,none⟩=some (Iv q)/\w'.cell? ⟨w6.heap.size,0,none⟩=some (.int .u8 x)) (first|(refine⟨?_,?_,?_,?_⟩<;>simp[go_sem, *];done)|go_keep) (first|(refine(CK.out _).mono ?_;rintro e w7 ⟨rfl,Tt⟩;have wP:=Tt.size;(try simp at wP);have T3:=Hd (show Below w6.heap.size w6 w7 from A9);have e8:w7.cell? (Ad b 8)=some (.iface T cv):=((BO Tt).1 b _ Cm).trans Ew;have e4:w7.cell? (Ad b 4)=some (Iv s.seq):=((BO Tt).1 b _ Cm).trans Ew;have e3:w7.cell? (Ad w.heap.size 3)=some (Iv q):=((BO Tt).1 w.heap.size _ Cm).trans Ew;have e9:w7.cell? (Ad w6.heap.size 0)=some (.int .u8 x):=((BO Tt).1 w6.heap.size _ Cm).trans Ew)))|fail);go_wp2_with fail;go_ret2;exact⟨_,MA,mc,rfl,aU.out.below T3.out (Lr _),(il.out.trans (AG.AS (S:=λi=>i=b) T3.out) (λ_ _ h=>h)).mono (λi _ hi=> .inl hi),IF.nil _ _,.inl rfl⟩
  ·(have zq:(q !=s.seq)=true:=by simpa using hq);clear dB Yo hq C OW;go_enter func103,ntmps103;go_wp2_with fail;refine(N.out _ A9).mono ?_;rintro e w1 ⟨rfl,rfl⟩;go_wp2_with fail;(refine K2s ?_;intro RZ lx);(first|(go_region_held3 (λw'=>w'.cell? ⟨w.heap.size,0,none⟩=some (Iv k)/\w'.cell? ⟨w.heap.size,1,none⟩=some (Iv f)/\w'.cell? ⟨w.heap.size,2,none⟩=some (Iv t)/\w'.cell? ⟨w.heap.size,3,none⟩=some (Iv q)/\w'.cell? ⟨w.heap.size,4,none⟩=some (.slice D n cap)/\w'.cell? ⟨b,0,none⟩=some (Iv s.n)) (first|(refine⟨?_,?_,?_,?_,?_,?_⟩<;>simp[go_sem, *];done)|go_keep) (first|(go_at_call 133;refine(VA.out _).mono ?_;rintro e w4 ⟨rfl,GA⟩;have QP:=GA.size;(try simp at QP);have Qo:=(show Below w.heap.size w w4 from A9);have k4:=AH (q:=w.heap.size) Af GA Cm;(have Vy:=OH k4;have lz:=BG k4);have e0:w4.cell? (Ad b 0)=some (Iv s.n):=((BO GA).1 b _ Cm).trans Ew)))|fail);clear RZ lx;go_wp2_with fail;(refine K0e ?_;intro f3 c3 HS4 nj LX aA);go_wp2_with fail;(refine K0N ?_;intro w6 Se Xi);(try simp at Xi);(refine KI ?_;clear c3 f3 Se k4 Vy lz e0 Qo;intro aU k6 il ni dQ ly);(refine K1s ?_;intro c8 c4 Se);exact Im
end
theorem pC(A:Option Addr)(n c base:Nat)(l:List Nat)(m:Nat)(w:World)(hn:n<=1000000)(h:Row w base 3 1 A n c (l.map (λ(i:Nat)=>Iv i)))(hs:l.Pairwise (· <·))(hm:m∈l):
  Calls prog 135 #[.slice A n c,Iv m] w λe w'=>(∃i:Nat,i<n/\l[i]?=some m/\e= .returned (.tuple #[Iv i,.bool true]))/\w=w':=by
 (have hl:l.length=n:=by have:=h.1;simpa using this);refine(Uj A n c base l m w hn h hs).mono ?_;rintro e w' ⟨⟨i,hi,rfl,h1,h2⟩,rfl⟩;obtain⟨j,hj,rfl⟩:=mC hm;have hj':l[j]?=some l[j]:=Gg hj;have hij:i<=j:=by
  rcases Oj j i with hh|hh
  ·have:=h1 j _ hh hj';omega
  ·exact hh
 have Uu:l[i]?=some (l[i]'Ft):=Gg Ft;have g1:=h2 i _ (Lr _) Uu;have g2:=Z2 hs hij Uu hj';(have he:l[i]'Ft=l[j]:=by omega);refine⟨⟨i,by omega,by rw[Uu,he],?_⟩,rfl⟩;rw[IU ⟨l[j],by rw[Uu,he],rfl⟩]
theorem l5(A:Option Addr)(n c base:Nat)(l:List Nat)(m:Nat)(w:World)(hn:n<=1000000)(h:Row w base 3 1 A n c (l.map (λ(i:Nat)=>Iv i)))(hs:l.Pairwise (· <·))(hm:m∉l):
  Calls prog 135 #[.slice A n c,Iv m] w λe w'=>(∃i:Nat,e= .returned (.tuple #[Iv i,.bool false]))/\w=w':=by
 refine(Uj A n c base l m w hn h hs).mono ?_;rintro e w' ⟨⟨i,hi,rfl,h1,h2⟩,rfl⟩;refine⟨⟨i,?_⟩,rfl⟩;rw[ME (λ⟨y,hy,he⟩=>hm (by rw[show m=y by omega];exact pZ hy))]
theorem Yu:∀(l:List Nat)(i x:Nat),l.Pairwise (· <·)->l[i]?=some x->l.filter (λy=>decide (y≠x))=l.eraseIdx i
 |[],i,x,_,h=>by simp at h
 |a::l,0,x,h,he=>by simp only[List.getElem?_cons_zero,pW] at he;subst he;rw[mf] at h;rw[eR,AO Fu,List.eraseIdx_cons_zero,List.filter_eq_self];intro y hy;have:=h.1 y hy;simp;omega
 |a::l,i+1,x,h,he=>by rw[List.getElem?_cons_succ] at he;rw[mf] at h;have:=h.1 x (pZ he);rw[eR,AW Fp,List.eraseIdx_cons_succ,Yu l i x h.2 he]
theorem gT(f:Nat->Value):∀(l:List Nat)(i:Nat),(l.map f).eraseIdx i=(l.eraseIdx i).map f
 |[],_=>rfl
 |a::l,0=>rfl
 |a::l,i+1=>by simp only[me,List.eraseIdx_cons_succ];rw[gT f l i]
theorem Re(s:AJ.St)(h:s.cmd≠0):AJ.EC s=AJ.BP 1 s.Rr:=by unfold AJ.EC;rw[AO h]
theorem VL(s:AJ.St):(AJ.EC s).Pairwise (· <·):=by
 unfold AJ.EC;split
 ·simp
 ·exact AJ.Ry _ _
theorem rL(s:AJ.St)(hs:AJ.Inv s)(m:Nat)(h0:s.cmd≠0)(hm:1<=m/\m<=s.n)(Yo:m∉AJ.EC s):AJ.MN s m=s:=by
 have hl:=hs.Rr;rw[Re s h0,AJ.Ym] at Yo;(have EK:m-1<s.Rr.length:=by omega);have ha:s.Rr[m-1]=true:=by
  cases hb:s.Rr[m-1]
  ·exact absurd ⟨hm.1,by rw[Gg EK,hb]⟩ Yo
  ·rfl
 have he:s.Rr.set (m-1) true=s.Rr:=by
  conv=>lhs;rw[<-ha]
  exact List.set_getElem_self EK
 unfold AJ.MN;rw[he,AO (λh=>h.1 (by rw[Re s h0];exact h.2))]
theorem qt(s:AJ.St)(m i:Nat)(h0:s.cmd≠0)(hm:1<=m)(hi:(AJ.EC s)[i]?=some m):AJ.EC (AJ.MN s m)=(AJ.EC s).eraseIdx i:=by
 rw[Re _ (by simpa[AJ.MN] using h0),show(AJ.MN s m).Rr=s.Rr.set (m-1) true from rfl,AJ.Yj,show 1+(m-1)=m by omega,<-Re s h0];exact Yu _ i m (VL s) hi
section
variable{w w':World}{base b mc rc:Nat}{MA RA:Option Addr}{s:AJ.St}
theorem pP(h:FC w base b MA mc RA rc s)(hs:AJ.Inv s)(now k f t q:Int)(D:Option Addr)(n cap:Nat)(d:List Int)(hd:Rd w w.heap.size D n d)(hD:∀a,D=some a->a.block≠b)(he:AJ.FU s now ⟨k,f,t,q,d⟩=0)(x:Int)(hr:P8 ⟨k,f,t,q,d⟩= .iface 226 (.agg #[.int .u8 x]))(dB:s.cmd≠0)(hq:q=s.seq)(hx:x=s.cmd)(m:Nat)(Rv:f=(m:Int))(Yo:m∉AJ.EC s):
  Calls prog 103 #[Pt b,Iv now,.agg #[Iv k,Iv f,Iv t,Iv q,.slice D n cap]] w (JX base b MA RA rc {s with now:=now} [] 0 w):=by
 obtain⟨hv,ht,hf,YN⟩:=Oh he;simp only[hd.1] at hv ht hf;(refine Ku ?_;intro QK HL HD HDN N RD VA CH c0 hb ZJ z X0 kx);(refine K1f ?_;intro ta1 HI T cv fk fm fs fd OW C en E8 CK CS m1 n1 q1 m2 n2 q2 A34 wk zq zx YQ HF);have SE:=Hd (λ(W:World)(hW:FC W base b MA mc RA rc {s with now:=now})=>l5 MA _ mc base (AJ.EC s) m W Cs hW.Vt (VL s) Yo);rw[<-Rv] at SE;obtain⟨n9,gF⟩:=BN ((AJ.EC s).length);rw[show(AJ.EC {s with now:=now}).length=n9 from gF.symm] at SE;have HN9:=Hd gF;clear gF YQ Rv Yo;clear h hs hd hD he hr hv ht hf YN dB hq hx C OW;go_enter func103,ntmps103;go_wp2_with fail;refine(N.out _ A9).mono ?_;rintro e w1 ⟨rfl,rfl⟩;go_wp2_with fail;(refine K2s ?_;intro RZ lx);(first|(go_region_held3 (λw'=>w'.cell? ⟨w.heap.size,0,none⟩=some (Iv k)/\w'.cell? ⟨w.heap.size,1,none⟩=some (Iv f)/\w'.cell? ⟨w.heap.size,2,none⟩=some (Iv t)/\w'.cell? ⟨w.heap.size,3,none⟩=some (Iv q)/\w'.cell? ⟨w.heap.size,4,none⟩=some (.slice D n cap)/\w'.cell? ⟨b,0,none⟩=some (Iv s.n)) (first|(refine⟨?_,?_,?_,?_,?_,?_⟩<;>simp[go_sem, *];done)|go_keep) (first|(go_at_call 133;refine(VA.out _).mono ?_;rintro e w4 ⟨rfl,GA⟩;have QP:=GA.size;(try simp at QP);have Qo:=(show Below w.heap.size w w4 from A9);have k4:=AH (q:=w.heap.size) Af GA Cm;(have Vy:=OH k4;have lz:=BG k4);have e0:w4.cell? (Ad b 0)=some (Iv s.n):=((BO GA).1 b _ Cm).trans Ew)))|fail);clear RZ lx;go_wp2_with fail;(refine K0e ?_;intro f3 c3 HS4 nj LX aA);go_wp2_with fail;(refine K0N ?_;intro w6 Se Xi);(try simp at Xi);(refine KI ?_;clear c3 f3 Se k4 Vy lz e0 Qo;intro aU k6 il ni dQ ly);(refine K1s ?_;intro c8 c4 Se);go_wp2_with fail;(refine K24 ?_;intro k9 c9);(first|(go_region_held3 (λw'=>w'.cell? ⟨b,8,none⟩=some (.iface T cv)/\w'.cell? ⟨b,4,none⟩=some (Iv s.seq)/\w'.cell? ⟨w.heap.size,3,none⟩=some (Iv q)/\w'.cell? ⟨w6.heap.size,0,none⟩=some (.int .u8 x)) (first|(refine⟨?_,?_,?_,?_⟩<;>simp[go_sem, *];done)|go_keep) (first|(refine(CK.out _).mono ?_;rintro e w7 ⟨rfl,Tt⟩;have wP:=Tt.size;(try simp at wP);have T3:=Hd (show Below w6.heap.size w6 w7 from A9);have e8:w7.cell? (Ad b 8)=some (.iface T cv):=((BO Tt).1 b _ Cm).trans Ew;have e4:w7.cell? (Ad b 4)=some (Iv s.seq):=((BO Tt).1 b _ Cm).trans Ew;have e3:w7.cell? (Ad w.heap.size 3)=some (Iv q):=((BO Tt).1 w.heap.size _ Cm).trans Ew;have e9:w7.cell? (Ad w6.heap.size 0)=some (.int .u8 x):=((BO Tt).1 w6.heap.size _ Cm).trans Ew)))|fail);(refine K1X ?_;clear e8 e4 e3 e9 k9 c9 c8 c4 k6 dQ ly;intro rQ f1 HK7 d9);go_wp2_with fail;(first|(go_region_held3 (λw'=>w'.cell? ⟨b,9,none⟩=some (.slice MA n9 mc)/\w'.cell? ⟨w.heap.size,1,none⟩=some (Iv f)) (first|(refine⟨?_,?_⟩<;>simp[go_sem, *];done)|go_keep) (first|(go_at_call 135;refine(SE.out _ Cv).mono ?_;rintro e w8 ⟨⟨i,rfl⟩,rfl⟩)))|fail);go_wp2_with fail;go_ret2;exact⟨_,MA,mc,rfl,rQ.out.drew,HK7.out.drew.mono (λi _ hi=> .inl hi),IF.nil _ _,.inl rfl⟩
theorem zJ(h:FC w base b MA mc RA rc s)(hs:AJ.Inv s)(now k f t q:Int)(D:Option Addr)(n cap:Nat)(d:List Int)(hd:Rd w w.heap.size D n d)(hD:∀a,D=some a->a.block≠b)(he:AJ.FU s now ⟨k,f,t,q,d⟩=0)(x:Int)(hr:P8 ⟨k,f,t,q,d⟩= .iface 226 (.agg #[.int .u8 x]))(dB:s.cmd≠0)(hq:q=s.seq)(hx:x=s.cmd)(m:Nat)(Rv:f=(m:Int))(GK:1<=m/\m<=s.n)(nA:m∈AJ.EC s):
  Calls prog 103 #[Pt b,Iv now,.agg #[Iv k,Iv f,Iv t,Iv q,.slice D n cap]] w (JX base b MA RA rc (AJ.MN {s with now:=now} m) [] 0 w):=by
 obtain⟨hv,ht,hf,YN⟩:=Oh he;simp only[hd.1] at hv ht hf;(refine Ku ?_;intro QK HL HD HDN N RD VA CH c0 hb ZJ z X0 kx);(refine K1f ?_;intro ta1 HI T cv fk fm fs fd OW C en E8 CK CS m1 n1 q1 m2 n2 q2 A34 wk zq zx YQ HF);have SE:=Hd (λ(W:World)(hW:FC W base b MA mc RA rc {s with now:=now})=>pC MA _ mc base (AJ.EC s) m W Cs hW.Vt (VL s) nA);rw[<-Rv] at SE;obtain⟨n9,gF⟩:=BN ((AJ.EC s).length);rw[show(AJ.EC {s with now:=now}).length=n9 from gF.symm] at SE;have HN9:=Hd gF;(have AbI:0<n9:=by rw[gF];exact List.length_pos_of_mem nA);have HMA:=Hd (λi hi=>qt {s with now:=now} m i dB GK.1 hi);have HSE:=Hd (show(AJ.MN {s with now:=now} m).st=if AJ.EC (AJ.MN {s with now:=now} m)=[] then AJ.full s.cmd else s.st by
  show(if _ then _ else _)=_;rw[Re (AJ.MN {s with now:=now} m) dB]
  by_cases hh:AJ.BP 1 (AJ.MN {s with now:=now} m).Rr=[]
  ·rw[AW hh,AW ⟨List.ne_nil_of_mem nA,hh⟩]
  ·rw[AO hh,AO (λh=>hh h.2)])
 have DL:=Hd (λ(W:World)(hW:FC W base b MA mc RA rc {s with now:=now})(i:Nat)(hi:i<n9)=>rm MA n9 mc base i _ W Ft (by rw[gF];exact hW.Vt) (na _) hi);(have AbL:n9<=64:=by omega);clear gF YQ Rv nA GK;clear h hs hd hD he hr hv ht hf YN dB hq hx C OW;go_enter func103,ntmps103;go_wp2_with fail;refine(N.out _ A9).mono ?_;rintro e w1 ⟨rfl,rfl⟩;go_wp2_with fail;(refine K2s ?_;intro RZ lx);(first|(go_region_held3 (λw'=>w'.cell? ⟨w.heap.size,0,none⟩=some (Iv k)/\w'.cell? ⟨w.heap.size,1,none⟩=some (Iv f)/\w'.cell? ⟨w.heap.size,2,none⟩=some (Iv t)/\w'.cell? ⟨w.heap.size,3,none⟩=some (Iv q)/\w'.cell? ⟨w.heap.size,4,none⟩=some (.slice D n cap)/\w'.cell? ⟨b,0,none⟩=some (Iv s.n)) (first|(refine⟨?_,?_,?_,?_,?_,?_⟩<;>simp[go_sem, *];done)|go_keep) (first|(go_at_call 133;refine(VA.out _).mono ?_;rintro e w4 ⟨rfl,GA⟩;have QP:=GA.size;(try simp at QP);have Qo:=(show Below w.heap.size w w4 from A9);have k4:=AH (q:=w.heap.size) Af GA Cm;(have Vy:=OH k4;have lz:=BG k4);have e0:w4.cell? (Ad b 0)=some (Iv s.n):=((BO GA).1 b _ Cm).trans Ew)))|fail);clear RZ lx;go_wp2_with fail;(refine K0e ?_;intro f3 c3 HS4 nj LX aA);go_wp2_with fail;(refine K0N ?_;intro w6 Se Xi);(try simp at Xi);(refine KI ?_;clear c3 f3 Se k4 Vy lz e0 Qo;intro aU k6 il ni dQ ly);(refine K1s ?_;intro c8 c4 Se);go_wp2_with fail;(refine K24 ?_;intro k9 c9);(first|(go_region_held3 (λw'=>w'.cell? ⟨b,8,none⟩=some (.iface T cv)/\w'.cell? ⟨b,4,none⟩=some (Iv s.seq)/\w'.cell? ⟨w.heap.size,3,none⟩=some (Iv q)/\w'.cell? ⟨w6.heap.size,0,none⟩=some (.int .u8 x)) (first|(refine⟨?_,?_,?_,?_⟩<;>simp[go_sem, *];done)|go_keep) (first|(refine(CK.out _).mono ?_;rintro e w7 ⟨rfl,Tt⟩;have wP:=Tt.size;(try simp at wP);have T3:=Hd (show Below w6.heap.size w6 w7 from A9);have e8:w7.cell? (Ad b 8)=some (.iface T cv):=((BO Tt).1 b _ Cm).trans Ew;have e4:w7.cell? (Ad b 4)=some (Iv s.seq):=((BO Tt).1 b _ Cm).trans Ew;have e3:w7.cell? (Ad w.heap.size 3)=some (Iv q):=((BO Tt).1 w.heap.size _ Cm).trans Ew;have e9:w7.cell? (Ad w6.heap.size 0)=some (.int .u8 x):=((BO Tt).1 w6.heap.size _ Cm).trans Ew)))|fail);(refine K1X ?_;clear e8 e4 e3 e9 k9 c9 c8 c4 k6 dQ ly;intro rQ f1 HK7 d9);go_wp2_with fail;(first|(go_region_held3 (λw'=>w'.cell? ⟨b,9,none⟩=some (.slice MA n9 mc)/\w'.cell? ⟨w.heap.size,1,none⟩=some (Iv f)) (first|(refine⟨?_,?_⟩<;>simp[go_sem, *];done)|go_keep) (first|(go_at_call 135;refine(SE.out _ Cv).mono ?_;rintro e w8 ⟨⟨i,hi,hxi,rfl⟩,rfl⟩;have HXI:=Hd hxi;clear hxi)))|fail);go_wp2_with fail;refine(DL.out _ rQ.out.drew i Ft).mono ?_;rintro e w9 ⟨rfl,A49,hk9⟩;have hM:=HMA.out i HXI.out;(have A4c:(AJ.EC (AJ.MN {s with now:=now} m)).length=n9-1:=by rw[hM,List.length_eraseIdx_of_lt (by show i<(AJ.EC s).length;rw[<-HN9.out];exact hi)];show(AJ.EC s).length-1=_;rw[<-HN9.out]);have X8:=Hd A4c;have kb9:=AR rQ.out.drew.BM hk9 (λh=>rQ.out.mne h rfl);(have A4a:Row w9 base 3 1 MA (n9-1) mc ((AJ.EC (AJ.MN {s with now:=now} m)).map (λ(i:Nat)=>Iv i)):=by rw[hM,<-gT];exact A49);have HR9:=Hd A4a;have oX:=Hd (rQ.out.drew.Y1.kept hk9 (λg hg e=>(rQ.out.Y1.ty hg).ne (rQ.out.Vt.ty e) Fj rfl));have HK9:=Hd (show AG (S8 b MA RA) w w9 from(HK7.out.drew.mono (λi _ hi=> .inl hi)).trans hk9 (λi _ hi=> .inr (.inl hi)));have KB9:=Hd kb9;(have g9:w9.cell? (Ad b 9)=some (.slice MA n9 mc):=by rw[HN9.out];exact AB kb9 9 rfl);(have g8:w9.cell? (Ad b 8)=some (.iface T cv):=by rw[<-E8.out];exact AB kb9 8 rfl);have gf9:=AE kb9 9;have HSB:=Hd (show ∀g,AK MA=some g->g≠b from λg hg=>rQ.out.mne hg);have HSR:=Hd (show ∀g,AK RA=some g->g≠b from λg hg=>rQ.out.rne hg);have HGE:=Hd rQ.out.ge;clear A49 hk9 hM A4c kb9 A4a;have hkb:=AP KB9.out 9 (.slice MA (n9-1) mc)
 by_cases h1:n9-1=0
 ·(have z1:(((n9-1:Nat):Int)==0)=true:=by simp;omega);have X7:=Hd (show(AJ.MN {s with now:=now} m).st=AJ.full s.cmd by rw[HSE.out,AW (a9 (by rw[X8.out];exact h1))]);have HKB:=Hd hkb;clear h1 hkb;go_wp2_with fail;refine(CS.out _).mono ?_;rintro e wa ⟨rfl,hba⟩;have A2Z:=AH (q:=b) HKB.out hba (BG HKB.out);(have g2:wa.cell? (Ad b 2)=some (Iv s.st):=by have:=A2Z;rw[Q8] at this;exact AB this 2 rfl);have gf2:=AE A2Z 2;have A9S:=Hd A2Z;have XJ:=Hd hba;clear A2Z hba;go_wp2_with fail;go_ret2;have X1:=AP A9S.out 2 (Iv (AJ.full s.cmd));rw[Q8,Q8] at X1;have hba:=XJ.out;refine⟨_,MA,mc,rfl,⟨?_,?_,?_,HGE.out⟩,?_,IF.nil _ _,.inl rfl⟩
  ·rw[show yK (AJ.MN {s with now:=now} m) MA mc RA rc=((yK {s with now:=now} MA mc RA rc).set 9 (.slice MA (n9-1) mc)).set 2 (Iv (AJ.full s.cmd)) from by rw[<-X7.out,<-X8.out];rfl];exact X1
  ·rw[X8.out];exact(((HR9.out.FY (p:=(Ad b 9)) HSB.out _).below hba (Lr _))).FY (p:=(Ad b 2)) HSB.out _
  ·exact(((oX.out.FY (p:=(Ad b 9)) HSR.out _).below hba (Lr _))).FY (p:=(Ad b 2)) HSR.out _
  ·exact(((HK9.out.setCell (p:=(Ad b 9)) (.inl (.inl rfl)) _).trans (AG.AS (S:=λ_=>False) hba) (λ_ _ h=>h.elim))).setCell (p:=(Ad b 2)) (.inl (.inl rfl)) _
 ·have z1:(((n9-1:Nat):Int)==0)=false:=JJ Ft;have X7:=Hd (show(AJ.MN {s with now:=now} m).st=s.st by rw[HSE.out,AO (λe=>h1 (by rw[<-X8.out,e];rfl))]);have HKB:=Hd hkb;clear h1 hkb;go_wp2_with fail;go_ret2;have X1:=HKB.out;rw[Q8] at X1;refine⟨_,MA,mc,rfl,⟨?_,?_,?_,HGE.out⟩,?_,IF.nil _ _,.inl rfl⟩
  ·rw[show yK (AJ.MN {s with now:=now} m) MA mc RA rc=(yK {s with now:=now} MA mc RA rc).set 9 (.slice MA (n9-1) mc) from by unfold yK;rw[X7.out,X8.out];rfl];exact X1
  ·rw[X8.out];exact HR9.out.FY (p:=(Ad b 9)) HSB.out _
  ·exact oX.out.FY (p:=(Ad b 9)) HSR.out _
  ·exact HK9.out.setCell (p:=(Ad b 9)) (.inl (.inl rfl)) _
end
theorem Ri.A6W(w:World)(l:List Int)(h:I64 l):Ri (w.alloc (.cells (iv l).toArray 3)) (w.heap.size+1) (some (Ad w.heap.size 0)) l.length l:=by
 refine⟨rfl,h,λ_=>⟨_,0,rfl,by omega,λi hi=> ?_⟩⟩;rw[PL];refine AB (l:=iv l) (AM _ _) i ?_;simp[iv,List.getD,Gg hi]
theorem lS(cur:Array Value)(o n i:Nat)(l:List AJ.Rep)(x:AJ.Rep)(h:(cur.toList.drop o).take (n*3)=S6 l)(hl:l.length=n)(hi:i<n)(Px:o+n*3<=cur.size):
  ((XW cur (o+i*3) (Xs x)).toList.drop o).take (n*3)=S6 (l.set i x):=by
 apply eT;intro k;rw[VU,TF,iO]
 by_cases hk:k<n*3
 ·rw[AW hk,Yt _ _ _ _ Ft];have hr:=TU (l.set i x) (k/3) (k%3) (by rw[T9];omega) Ft;rw[show k/3*3+k%3=k by omega] at hr;rw[hr];have hr0:=TU l (k/3) (k%3) Ft Ft;rw[show k/3*3+k%3=k by omega,<-h,VU,AW hk,TF,iO] at hr0;have h3:(Xs x).length=3:=rfl
  by_cases hki:k/3=i
  ·rw[AW (by rw[h3];omega)];rw[List.getElem_set,AW hki.symm];congr 1;omega
  ·rw[AO (by rw[h3];omega),hr0,List.getElem_set,AO (λe=>hki e.symm)]
 ·rw[AO hk,R3];rw[Sb,T9];omega
section
variable{w w':World}{base b mc rc:Nat}{MA RA:Option Addr}{s:AJ.St}
theorem zD(h:FC w base b MA mc RA rc s)(hs:AJ.Inv s)(now k f t q:Int)(D:Option Addr)(n cap:Nat)(d:List Int)(hd:Rd w w.heap.size D n d)(hD:∀a,D=some a->a.block≠b)(he:AJ.FU s now ⟨k,f,t,q,d⟩=0)(p:Int)(hr:P8 ⟨k,f,t,q,d⟩= .iface 232 (.agg #[Iv p]))(i:Nat)(hfi:f=(i:Int)+1):
  Calls prog 103 #[Pt b,Iv now,.agg #[Iv k,Iv f,Iv t,Iv q,.slice D n cap]] w (JX base b MA RA rc (AJ.reported {s with now:=now} (i+1) p now) [⟨7,0,f,q,AQ.IZ now++AQ.IZ now⟩] 0 w):=by
 obtain⟨hv,ht,hf,YN⟩:=Oh he;simp only[hd.1] at hv ht hf;(refine Ku ?_;intro QK HL HD HDN N RD VA CH c0 hb ZJ z X0 kx);(have ta1:∀W:World,(Instr.typeAssert (.iface 232 (.agg #[Iv p])) 20 226 true).run prog W= .ok (.tuple #[.agg #[.int .u8 0],.bool false]) W:=λW=>by kernel_rfl);(have ta2:∀W:World,(Instr.typeAssert (.iface 232 (.agg #[Iv p])) 20 232 true).run prog W= .ok (.tuple #[.agg #[Iv p],.bool true]) W:=λW=>by kernel_rfl);have Pj:=AJ.QS YN;have nz:=hs.now;(have U3:i<s.n:=by omega);have hsl:=hs.seen;obtain⟨g,o,cur,rfl,jj,hg,XO,Xz,GC,Px,OW,DD,A9t⟩:=h.Y1.some_ Ft;have A7o:g≠b:=h.rne rfl;obtain⟨v0,kk0⟩:∃v,w.cell? (Ad g (o+(i*3+0)))=some v:=⟨_,DD (i*3+0) _ Ca⟩;obtain⟨v1,kk1⟩:∃v,w.cell? (Ad g (o+(i*3+1)))=some v:=⟨_,DD (i*3+1) _ Ca⟩;obtain⟨v2,kk2⟩:∃v,w.cell? (Ad g (o+(i*3+2)))=some v:=⟨_,DD (i*3+2) _ Ca⟩;have HGB:=Hd XO;have HFT:=Hd Px;have HCU:=Hd OW;have HSL:=Hd hsl;have HFI:=Hd hfi;have A8U:=Hd hs;(have Qn:AQ.MI [now,now]=true:=by simp[AQ.MI,AQ.PM];omega);have PN:=Hd (λ(W:World)(A:Option Addr)(hW:Ri W W.heap.size A 2 [now,now])=>te A 2 2 [now,now] W hW Ft Qn);have KK0:=Hd kk0;have KK1:=Hd kk1;have KK2:=Hd kk2;have pg:=Hd Px;have HCM:=Hd (show s.n<=rc/\rc<=maxLen from⟨Xz,GC⟩);have HNW:=Hd (show 0<=now/\now<=3600000 by omega);clear h hs hd hD he hr hv ht hf YN DD XO OW hsl Qn A9t GC Px Xz kk0 kk1 kk2 Pj nz hfi;go_enter func103,ntmps103;go_wp2_with fail;refine(N.out _ A9).mono ?_;rintro e w1 ⟨rfl,rfl⟩;go_wp2_with fail;(refine K2s ?_;intro RZ lx);(first|(go_region_held3 (λw'=>w'.cell? ⟨w.heap.size,0,none⟩=some (Iv k)/\w'.cell? ⟨w.heap.size,1,none⟩=some (Iv f)/\w'.cell? ⟨w.heap.size,2,none⟩=some (Iv t)/\w'.cell? ⟨w.heap.size,3,none⟩=some (Iv q)/\w'.cell? ⟨w.heap.size,4,none⟩=some (.slice D n cap)/\w'.cell? ⟨b,0,none⟩=some (Iv s.n)) (first|(refine⟨?_,?_,?_,?_,?_,?_⟩<;>simp[go_sem, *];done)|go_keep) (first|(go_at_call 133;refine(VA.out _).mono ?_;rintro e w4 ⟨rfl,GA⟩;have QP:=GA.size;(try simp at QP);have Qo:=(show Below w.heap.size w w4 from A9);have k4:=AH (q:=w.heap.size) Af GA Cm;(have Vy:=OH k4;have lz:=BG k4);have e0:w4.cell? (Ad b 0)=some (Iv s.n):=((BO GA).1 b _ Cm).trans Ew)))|fail);clear RZ lx;go_wp2_with fail;(refine K0e ?_;intro f3 c3 HS4 nj LX aA);go_wp2_with fail;(refine K0N ?_;intro w6 Se Xi);(try simp at Xi);(refine KI ?_;clear c3 f3 Se k4 Vy lz e0 Qo;intro aU k6 il ni dQ ly);have Zt:w6.cell? (Ad b 10)=some (.slice (some (Ad g o)) s.n rc):=AB aU.out.BM 10 rfl;have Se:=aU.out.lt;have tF:w6.heap[g]?=some (.cells cur 165 (0,0)):=AR HGB.out il.out A7o;have hg6:=BG tF;have e0:w6.cell? (Ad g (o+i*3))=some v0:=((Cb (a:=(Ad g (o+i*3))) (tF.trans HGB.out.symm))).trans KK0.out;have e1:w6.cell? (Ad g (o+i*3+1))=some v1:=((Cb (a:=(Ad g (o+i*3+1))) (tF.trans HGB.out.symm))).trans (by rw[TE];exact KK1.out);have e2:w6.cell? (Ad g (o+i*3+2))=some v2:=((Cb (a:=(Ad g (o+i*3+2))) (tF.trans HGB.out.symm))).trans (by rw[TE];exact KK2.out);have z0:=AE tF (o+i*3);have z1:=AE tF (o+i*3+1);have z2:=AE tF (o+i*3+2);have HGW:=Hd tF;(have wf:IntKind.i64.wrap (f-1)=(i:Int):=by rw[HFI.out];rw[GF _ Ft];omega);(have wi:(i:Int)<(s.n:Int):=by omega);clear tF;go_wp2_with fail;go_region;go_wp2_with fail;obtain⟨V3,hV3⟩:=BN (((w6.setCell (Ad g (o+i*3)) (.bool true)).setCell (Ad g (o+i*3+1)) (Iv p)).setCell (Ad g (o+i*3+2)) (Iv now));rw[<-hV3];have hV3':V3=w6.setCells g (o+i*3) (Xs (true,p,now)):=hV3;(have hvg:V3.heap[g]?=some (.cells (XW cur (o+i*3) (Xs (true,p,now))) 165 (0,0)):=by rw[hV3'];exact Qd g _ _ _ _ _ HGW.out);(have hvk:AG (λj=>j=g) w6 V3:=by rw[hV3'];exact OL g _ _ _ _ (AG.refl _ _));(have hvs:V3.heap.size=w6.heap.size:=by rw[hV3];simp[World.setCell]);have hvx:V3.heap[w.heap.size]?=some (.cells #[Iv k,Iv f,Iv t,Iv q,.slice D n cap] 147 (0,0)):=AR k6 hvk Ft;(have hSV:FC V3 base b MA mc (some (Ad g o)) rc (AJ.reported {s with now:=now} (i+1) p now):=by refine⟨AR aU.out.BM hvk (λe=>A7o e.symm),aU.out.Vt.kept hvk (λj hj e=>(aU.out.Vt.ty hj).ne (f:=165) ⟨_,HGW.out⟩ Fj e),?_,aU.out.ge⟩;have Px:=pg.out;have hrc:=HCM.out;have VF:s.n*3<=rc*3:=cg _ hrc.1;refine Row.FK hvg jj hrc.1 hrc.2 (by rw[QJ];exact Px) ?_;have:=lS cur o s.n i s.seen (true,p,now) HCU.out HSL.out U3 Ft;exact this);have HSV:=Hd hSV;have HVK:=Hd hvk;have HVX:=Hd hvx;have HVS:=Hd hvs;(have hvs':w6.heap.size<=V3.heap.size:=by omega);clear hV3 hV3' hvg hvk hvx hSV e0 e1 e2 z0 z1 z2 k6 dQ ly Zt;refine(PN.out _ _ (by
  have h0:=HNW.out;have:=Ri.A6W (V3.alloc (.cells #[Iv p] 232)) [now,now] (by intro y hy;simp at hy;omega);(have e1:(V3.alloc (.cells #[Iv p] 232)).heap.size=w6.heap.size+1:=by simp[HVS.out]);rw[e1] at this;exact this.more (by simp[HVS.out]))).mono ?_
 rintro e wA ⟨A8,c8,rfl,hO8,x9⟩;have xT:=x9.size;(try simp at xT);have kA:=AH (q:=w.heap.size) (FX (AI (AI HVX.out _) _)) x9 (by have:=BG HVX.out;simp;omega);(refine K1w ?_;intro XJ);have HO8:=Hd (show Ow wA w.heap.size A8 8 c8 (AQ.IZ now++AQ.IZ now) from hO8.more (by have:=HVS.out;have:=il.out.size;simp;omega));have Aca:=OH kA;have lv:=BG kA;clear x9 hO8 kA;go_wp2_with fail;go_ret2;(have hws:w.heap.size<=wA.heap.size:=by have:=HVS.out;have:=il.out.size;omega);have hfa:=(HSV.out.below XJ.out (Lr _)).alloc (.cells #[Iv 7,Iv 0,Iv f,Iv q,.slice A8 8 c8] 147);refine⟨_,MA,mc,rfl,hfa,?_,⟨[⟨⟨7,0,f,q,AQ.IZ now++AQ.IZ now⟩,A8,c8⟩],rfl,mB wA #[Iv 7,Iv 0,Iv f,Iv q,.slice A8 8 c8] 1 hws Ee rfl,λy hy=> ?_⟩,.inl rfl⟩
 ·exact(((il.out.mono (λi _ hi=> .inl hi)).trans HVK.out (λj _ hj=> .inr (.inr (by rw[hj];rfl)))).trans (AG.AS (S:=λ_=>False) XJ.out) (λ_ _ h=>h.elim)).alloc _
 ·rw[List.mem_singleton.1 hy];exact HO8.out.alloc _
end
end
section
open RowKit
set_option maxRecDepth 512
section
variable{w w':World}{base b mc rc:Nat}{MA RA:Option Addr}{s:AJ.St}
theorem zI(h:FC w base b MA mc RA rc s)(hs:AJ.Inv s)(now:Int)(y:Fr)(D:Option Addr)(cap:Nat)(hn:y.d.length<=140737488355328)(hd:Rd w w.heap.size D y.d.length y.d)(hD:∀a,D=some a->a.block≠b):
  Calls prog 103 #[Pt b,Iv now,.agg #[Iv y.k,Iv y.f,Iv y.t,Iv y.s,.slice D y.d.length cap]] w (JX base b MA RA rc (AJ.recv s now y) (AJ.LB s now y) (AJ.FU s now y) w):=by
 obtain⟨k,f,t,q,d⟩:=y;simp only at hn hd⊢
 by_cases he:AJ.FU s now ⟨k,f,t,q,d⟩=0
 ·(have e1:AJ.recv s now ⟨k,f,t,q,d⟩=AJ.Qg s now ⟨k,f,t,q,d⟩:=by unfold AJ.recv;rw[AW he]);have Qn:=Oh he;have hx0:=hd.2.1.at_ 0;rw[he,e1]
  by_cases h1:d.length=1
  ·by_cases h8:k=8
   ·(have hr:P8 ⟨k,f,t,q,d⟩= .iface 226 (.agg #[.int .u8 (d.getD 0 0)]):=by unfold P8;rw[AW h1,AW h8]);(have RV:AJ.Sz ⟨k,f,t,q,d⟩=false:=by unfold AJ.Sz;simp[h8]);(refine K3M ?_;intro e2);rw[e2]
    by_cases ha:s.cmd≠0/\q=s.seq/\d.getD 0 0=s.cmd
    ·(have fj:AJ.Vm s ⟨k,f,t,q,d⟩=true:=by unfold AJ.Vm;simp only[IU h8,IU ha.1,IU ha.2.1,IU ha.2.2];rfl);obtain⟨m,hm⟩:∃m:Nat,f=(m:Int):=⟨f.toNat,by have:=AQ.OJ.1 Qn.1;simp only at this;omega⟩;have WY:=AQ.OJ.1 Qn.1;have wY:=Qn.2.2.1;simp only at WY wY;(have GK:1<=m/\m<=s.n:=by omega);(have e3:AJ.Qg s now ⟨k,f,t,q,d⟩=AJ.MN {s with now:=now} m:=by unfold AJ.Qg;rw[AW h1,AW fj];simp only[hm,Int.toNat_natCast]);rw[e3]
     by_cases nA:m∈AJ.EC s
     ·exact zJ h hs now k f t q D d.length cap d hd hD he _ hr ha.1 ha.2.1 ha.2.2 m hm GK nA
     ·rw[rL {s with now:=now} (AJ.Us hs Qn.2.2.2) m ha.1 GK nA];exact pP h hs now k f t q D d.length cap d hd hD he _ hr ha.1 ha.2.1 ha.2.2 m hm nA
    ·have fj:AJ.Vm s ⟨k,f,t,q,d⟩=false:=by
      exact Jc
     (refine K2N ?_;intro e3);rw[e3];exact vx h hs now k f t q D d.length cap d hd hD he _ hr (by
      by_cases g1:s.cmd=0
      ·exact .inl g1
      ·by_cases g2:q=s.seq
       ·exact .inr (.inr (λg3=>ha ⟨g1,g2,g3⟩))
       ·exact .inr (.inl g2))
   ·have fj:AJ.Vm s ⟨k,f,t,q,d⟩=false:=by unfold AJ.Vm;simp[h8]
    by_cases h7:d.getD 0 0<=7
    ·(have hr:P8 ⟨k,f,t,q,d⟩= .iface 232 (.agg #[Iv (d.getD 0 0)]):=by unfold P8;rw[AW h1,AO h8,AW h7]);(have RV:AJ.Sz ⟨k,f,t,q,d⟩=true:=by unfold AJ.Sz;rw[IU h8,IU h7];rfl);have WY:=AQ.OJ.1 Qn.1;have ht:=Qn.2.1;simp only at WY ht;(refine K1J ?_;intro i hi e2 e3);exact zD h hs now k f t q D d.length cap d hd hD he _ hr i hi
    ·(have hr:P8 ⟨k,f,t,q,d⟩= .nilIface:=by unfold P8;rw[AW h1,AO h8,AO h7]);(have RV:AJ.Sz ⟨k,f,t,q,d⟩=false:=by unfold AJ.Sz;rw[ME h7];simp);(refine K3M ?_;intro e2);(refine K2N ?_;intro e3);rw[e2,e3];exact fL h hs now k f t q D d.length cap d hd hD he hr
  ·(have hr:P8 ⟨k,f,t,q,d⟩= .nilIface:=by unfold P8;rw[AO h1]);(have e2:AJ.LB s now ⟨k,f,t,q,d⟩=[]:=by unfold AJ.LB;rw[AO (λhh=>h1 hh.2.1)]);(have e3:AJ.Qg s now ⟨k,f,t,q,d⟩={s with now:=now}:=by unfold AJ.Qg;rw[AO h1]);rw[e2,e3];exact fL h hs now k f t q D d.length cap d hd hD he hr
 ·(have e1:AJ.recv s now ⟨k,f,t,q,d⟩=s:=by unfold AJ.recv;rw[AO he]);(have e2:AJ.LB s now ⟨k,f,t,q,d⟩=[]:=by unfold AJ.LB;rw[AO (λhh=>he hh.1)]);rw[e1,e2];refine(uM h hs now k f t q D d.length cap d rfl hn he).mono ?_;rintro e w' ⟨rfl,hB⟩;exact JX.same h hB _
end
end
section
open RowKit
attribute [local go_sem ↓] wp_at_zero wp_at_succ
theorem IF.Tp{P:Nat->Prop}{w w':World}{base:Nat}{v:Value}{l:List Fr}(h:IF w base v l)(k:AG P w w')(hP:∀i,P i->i<w.heap.size->∃e,Ty w i e/\e≠147/\e≠5):IF w' base v l:=by
 obtain⟨vs,g1,g2,g3⟩:=h;have hk:∀i:Nat,i<w.heap.size->(∀e,Ty w i e->e=147\/e=5)->w'.heap[i]?=w.heap[i]?:=λi hi he=>k.block i hi (λhp=>by
  obtain⟨e,h1,h2,h3⟩:=hP i hp hi
  rcases he e h1 with h4|h4
  ·exact h2 h4
  ·exact h3 h4)
 have Ze:∀(i:Nat)(e f:TypeId),Ty w i e->Ty w i f->e=f:=λi e f h1 h2=>by
  by_cases hh:e=f
  ·exact hh
  ·exact absurd rfl (h1.ne h2 hh)
 refine⟨vs,g1,⟨g2.1,?_⟩,λy hy=>⟨⟨(g3 y hy).1.1,?_⟩,(g3 y hy).2⟩⟩
 ·rcases g2.2 with h1|⟨g,c,cur,h1,h2,h3,h4⟩
  ·exact .inl h1
  ·exact .inr ⟨g,c,cur,h1,h2,(hk g (BG h3) (λe he=> .inl (Ze g e _ he ⟨_,h3⟩))).trans h3,h4⟩
 ·rcases(g3 y hy).1.2 with h1|⟨g,c,cur,h1,h2,h3,h4⟩
  ·exact .inl h1
  ·exact .inr ⟨g,c,cur,h1,h2,(hk g (BG h3) (λe he=> .inr (Ze g e _ he ⟨_,h3⟩))).trans h3,h4⟩
def Sl(s:AJ.St)(D:Option Addr)(dc:Nat)(A:Option Addr)(ac:Nat)(S:Option Addr)(sc:Nat):List Value:=[Iv s.again,Iv s.st,Iv s.now,Iv s.seq,.bool s.some,Iv s.prog,Iv s.cmd,.slice D (AJ.data s).length dc,Iv s.BB,.slice A s.n ac,.slice S s.n sc]
def GY(l:List Bool):List Value:=l.map (Value.bool ·)
structure Q9(w:World)(D:Option Addr)(dc:Nat)(A:Option Addr)(ac:Nat)(S:Option Addr)(sc:Nat)(s:AJ.St):Prop where
 dr:Row w 0 5 1 D (AJ.data s).length dc (bv (AJ.data s))
 ar:Row w 0 4 1 A s.n ac (GY s.Rr)
 sr:Row w 0 207 3 S s.n sc (S6 s.seen)
section
variable{w w':World}{D A S:Option Addr}{dc ac sc:Nat}{s:AJ.St}
theorem Q9.below{B:Nat}(h:Q9 w D dc A ac S sc s)(k:Below B w w')(hB:w.heap.size<=B):Q9 w' D dc A ac S sc s:=⟨h.dr.below k hB,h.ar.below k hB,h.sr.below k hB⟩
theorem Q9.alloc(h:Q9 w D dc A ac S sc s)(o:Obj):Q9 (w.alloc o) D dc A ac S sc s:=⟨h.dr.alloc o,h.ar.alloc o,h.sr.alloc o⟩
theorem Q9.drew(h:Q9 w D dc A ac S sc s):Q9 w.drew D dc A ac S sc s:=⟨h.dr,h.ar,h.sr⟩
theorem Q9.drewN(h:Q9 w D dc A ac S sc s)(q:Nat):Q9 (w.drewN q) D dc A ac S sc s:=⟨h.dr,h.ar,h.sr⟩
theorem Q9.kept{P:Nat->Prop}(h:Q9 w D dc A ac S sc s)(k:AG P w w')(h1:∀g,AK D=some g->¬P g)(h2:∀g,AK A=some g->¬P g)(h3:∀g,AK S=some g->¬P g):Q9 w' D dc A ac S sc s:=
 ⟨h.dr.kept k h1,h.ar.kept k h2,h.sr.kept k h3⟩
theorem Q9.Tp{P:Nat->Prop}(h:Q9 w D dc A ac S sc s)(k:AG P w w')(hP:∀i,P i->i<w.heap.size->∃e,Ty w i e/\e≠5/\e≠4/\e≠207):Q9 w' D dc A ac S sc s:=by
 refine h.kept k (λg hg hh=> ?_) (λg hg hh=> ?_) (λg hg hh=> ?_)
 ·obtain⟨e,he,h1,_,_⟩:=hP g hh (h.dr.lt hg).2;exact he.ne (h.dr.ty hg) h1 rfl
 ·obtain⟨e,he,_,h1,_⟩:=hP g hh (h.ar.lt hg).2;exact he.ne (h.ar.ty hg) h1 rfl
 ·obtain⟨e,he,_,_,h1⟩:=hP g hh (h.sr.lt hg).2;exact he.ne (h.sr.ty hg) h1 rfl
theorem Q9.FY(h:Q9 w D dc A ac S sc s){b o:Nat}{e:TypeId}(hb:Ty w b e)(h1:e≠5)(h2:e≠4)(h3:e≠207)(u:Value):Q9 (w.setCell (Ad b o) u) D dc A ac S sc s:=
 ⟨h.dr.FY (p:=(Ad b o)) (λg hg=>(h.dr.ty hg).ne hb (λe=>h1 e.symm)) u,h.ar.FY (p:=(Ad b o)) (λg hg=>(h.ar.ty hg).ne hb (λe=>h2 e.symm)) u,h.sr.FY (p:=(Ad b o)) (λg hg=>(h.sr.ty hg).ne hb (λe=>h3 e.symm)) u⟩
end
theorem Zw(s:AJ.St)(D:Option Addr)(dl dc:Nat)(A:Option Addr)(al ac:Nat)(S:Option Addr)(sl sc:Nat)(now:Int)(w:World):
  Calls prog 110 #[.agg #[Iv s.again,Iv s.st,Iv s.now,Iv s.seq,.bool s.some,Iv s.prog,Iv s.cmd,.slice D dl dc,Iv s.BB,.slice A al ac,.slice S sl sc],Iv now] w (IL (Iv (AJ.DZ s now)) w):=by
 by_cases h1:now<s.now
 ·have E:=Hd (show AJ.DZ s now=3 by unfold AJ.DZ;rw[AO Ft]);exact Iw
 ·by_cases h2:3600000<now
  ·have E:=Hd (show AJ.DZ s now=3 by unfold AJ.DZ;rw[AO Ft]);exact Iw
  ·have E:=Hd (show AJ.DZ s now=0 by unfold AJ.DZ;rw[AW Ft]);exact Iw
theorem PY(k:Int)(w:World):Calls prog 113 #[Iv k] w (LP (.tuple #[Iv (AJ.given k),Iv (AJ.full k)]) w):=by
 by_cases h1:k=1
 ·subst h1;exact If
 by_cases h2:k=2
 ·subst h2;exact If
 by_cases h3:k=3
 ·subst h3;exact If
 by_cases h4:k=4
 ·subst h4;exact If
 by_cases h5:k=5
 ·subst h5;exact If
 (have z1:(k==1)=false:=by rw[Bf];exact h1);(have z2:(k==2)=false:=by rw[Bf];exact h2);(have z3:(k==3)=false:=by rw[Bf];exact h3);(have z4:(k==4)=false:=by rw[Bf];exact h4);(have z5:(k==5)=false:=by rw[Bf];exact h5);have E:=Hd (show AJ.given k=8/\AJ.full k=9 by simp only[AJ.given,AJ.full,AO h1,AO h2,AO h3,AO h4,AO h5,and_self]);clear h1 h2 h3 h4 h5;go_enter func113,ntmps113;go_wp2_with fail;go_ret2;rw[E.out.1,E.out.2];exact⟨rfl,rfl⟩
theorem Og(k s:Int)(w:World)(hk:1<=k/\k<=6)(hs:0<=s/\s<=9):Calls prog 111 #[Iv k,Iv s] w (LP (.bool (AJ.may k s)) w):=by
 (have hk':k=1\/k=2\/k=3\/k=4\/k=5\/k=6:=by omega);(have hs':s=0\/s=1\/s=2\/s=3\/s=4\/s=5\/s=6\/s=7\/s=8\/s=9:=by omega);clear hk hs
 rcases hk' with rfl|rfl|rfl|rfl|rfl|rfl<;>rcases hs' with rfl|rfl|rfl|rfl|rfl|rfl|rfl|rfl|rfl|rfl
 all_goals
  go_enter func111,ntmps111;exact He
theorem Vk:∀(l m:List Bool)(lo:Nat),AJ.BP lo (l++m)=AJ.BP lo l++AJ.BP (lo+l.length) m
 |[],m,lo=>by simp[AJ.BP]
 |a::l,m,lo=>by simp only[List.cons_append,AJ.BP,Vk l m (lo+1),List.length_cons];rw[show lo+1+l.length=lo+(l.length+1) by omega];split<;>simp
theorem eX(l:List Bool)(i:Nat)(h:i<l.length):AJ.BP 1 (l.take (i+1))=AJ.BP 1 (l.take i)++(if l[i] then [] else [i+1]):=by
 rw[eV h,Vk,Ul,mq Ft]
 cases l[i]<;>simp[AJ.BP]<;>omega
theorem Yk:∀(l:List Bool)(lo:Nat),(AJ.BP lo l).length<=l.length
 |[],_=>by simp[AJ.BP]
 |a::l,lo=>by
  unfold AJ.BP;have:=Yk l (lo+1);split
  ·simp;omega
  ·simp;omega
theorem Sa(s:AJ.St)(hs:AJ.Inv s)(D:Option Addr)(dl dc:Nat)(A:Option Addr)(ac:Nat)(S:Option Addr)(sl sc:Nat)(w:World)(ha:Row w 0 4 1 A s.n ac (GY s.Rr)):
  Calls prog 42 #[.agg #[Iv s.again,Iv s.st,Iv s.now,Iv s.seq,.bool s.some,Iv s.prog,Iv s.cmd,.slice D dl dc,Iv s.BB,.slice A s.n ac,.slice S sl sc]] w (TJ 3 1 (AJ.EC s).length ((AJ.EC s).map (λ(i:Nat)=>Iv i)) w):=by
 obtain⟨i0,OU,RR,IJ,Ot⟩:=MQ Ut;have HA:=Hd ha;have hal:=hs.Rr;have hn:=hs.n;have HAL:=Hd hal;have HC:=Hd hs.cmd;clear ha hs hal;go_enter func42,ntmps42;go_wp2_with fail;(refine K2b ?_;intro k0);have K0:=Hd k0;clear k0
 by_cases hc:s.cmd=0
 ·have E:=Hd (show AJ.EC s=[] by unfold AJ.EC;rw[AW hc]);have HC0:=Hd hc;go_loop [3,4] (λs3 s4=>∃i:Nat,s4=Iv i/\i<=s.n/\s3= .slice none 0 0) (λ_ s4=>s.n-(intOf s4).toNat)
  case atStart=>exact⟨0,by go_num,by omega,rfl⟩
  case round=>
   obtain⟨i,rfl,hi,rfl⟩:=hrel
   by_cases EK:i<s.n
   ·(have U3:(i:Int)<(s.n:Int):=by omega);go_wp2_with fail;go_round
    case rel=>first|exact⟨i+1,by go_num,by omega⟩|exact⟨i+1,by go_num,by omega,rfl⟩
    case measure=>simp[intOf];omega
   ·go_wp2_with fail;go_ret;rw[E.out];exact⟨none,0,rfl,Row.nil _ _ _ _,A9⟩
 ·(have z:(s.cmd !=0)=true:=by simpa using hc);have E:=Hd (Re s hc);clear hc;go_loopw[3,4] (λs3 s4 wr=>∃(i:Nat)(l:List Nat),s4=Iv i/\i<=s.n/\Hid (l=AJ.BP 1 (s.Rr.take i))/\l.length<=i/\wr.ownsRow (w.heap.size+1) 3 1 s3 l.length (l.map (λ(i:Nat)=>Iv i))/\Below (w.heap.size+1) (w.alloc (.cells #[Iv s.again,Iv s.st,Iv s.now,Iv s.seq,.bool s.some,Iv s.prog,Iv s.cmd,.slice D dl dc,Iv s.BB,.slice A s.n ac,.slice S sl sc] 51)) wr) (λ_ s4 _=>s.n-(intOf s4).toNat)
  case atStart=>exact⟨0,[],by go_num,by omega,Hd (by simp[AJ.BP]),by simp,Ta _ _ _ _,QZ _ _⟩
  case round=>
   obtain⟨i,l,rfl,hi,HL,hll,FZ,hB⟩:=hrel;have VE:=hB.size;simp at VE;have kr:=AH (q:=w.heap.size) K0.out hB Ft;have KR:=Hd kr;have BH:=GN kr;have la:=BG kr;clear kr;obtain⟨A3,c3,rfl⟩:=EZ FZ;have HOW:=Hd FZ;have HB:=Hd hB;have eM:=Hd (show Below w.heap.size w wr from((IH w).alloc (Lr _) _).trans (HB.out.mono Ft));clear FZ hB
   by_cases EK:i<s.n
   ·obtain⟨g,o,cur,rfl,_,hg,_,_,_,_,_,DD,_⟩:=HA.out.some_ Ft;refine K1H ?_;clear DD;intro x d1 U3 HMT
    cases x
    ·go_wp2_with (at_builtin;refine BD _ rfl (.tmp 23) (.tmp 26) _ rfl (w.heap.size+1) 3 i0 _ 1 8 underlying26 OU RR IJ Ot rfl Ft _ l.length _ rfl (HOW.out.alloc _) (wr.heap.size+1) (some (Ad wr.heap.size 0)) 1 1 [Iv ((i:Int)+1)] rfl (Reads.A0t wr #[Iv ((i:Int)+1)] 3 1 1 rfl) E9 Dk Ft Fp ?_;intro v1 w7 CE GQ LY;have oD:=Hd CE;have HG1:=Hd GQ;clear CE GQ LY);have HN:=Hd (show Below (w.heap.size+1) (w.alloc (.cells #[Iv s.again,Iv s.st,Iv s.now,Iv s.seq,.bool s.some,Iv s.prog,Iv s.cmd,.slice D dl dc,Iv s.BB,.slice (some (Ad g o)) s.n ac,.slice S sl sc] 51)) w7 from(HB.out.alloc Ft _).grown HG1.out Fp (λg hg=>(HOW.out.lt g hg).1));go_roundw
     case rel=>exact⟨i+1,l++[i+1],by go_num,by omega,Hd (by rw[HMT.out,HL.out];rfl),by simp;omega,by simpa using oD.out,HN.out⟩
     case measure=>simp[intOf];omega
    ·go_wp2_with fail;go_roundw
     case rel=>exact⟨i+1,l,by go_num,by omega,Hd (by rw[HMT.out,HL.out];simp),by omega,HOW.out,HB.out⟩
     case measure=>simp[intOf];omega
   ·(obtain rfl:i=s.n:=by omega);have e:=HL.out;rw[R8 (by rw[HAL.out];exact Lr _),<-E.out] at e;have HE:=Hd e;clear e;go_wp2_with fail;go_ret;rw[<-HE.out];exact⟨A3,c3,rfl,(Row.GR HOW.out).more Ft,eM.out⟩
theorem px(s:AJ.St)(hs:AJ.Inv s)(D:Option Addr)(dl dc:Nat)(A:Option Addr)(ac:Nat)(S:Option Addr)(sl sc:Nat)(w:World)(ha:Row w 0 4 1 A s.n ac (GY s.Rr)):
  Calls prog 116 #[.agg #[Iv s.again,Iv s.st,Iv s.now,Iv s.seq,.bool s.some,Iv s.prog,Iv s.cmd,.slice D dl dc,Iv s.BB,.slice A s.n ac,.slice S sl sc]] w (IL (.tuple #[Iv (TZ s),Iv (U0 s)]) w):=by
 have M:=Hd (λ(W:World)(hW:Row W 0 4 1 A s.n ac (GY s.Rr))=>Sa s hs D dl dc A ac S sl sc W hW);have HA:=Hd ha;have BX:=hs.BB;have CB:=hs.again;have JZ:=hs.now;(refine K2b ?_;intro k0);have YQ:=(Up s hs).1
 by_cases hm:AJ.EC s=[]
 ·have E1:=Hd (show TZ s=0 by unfold TZ;rw[AW hm]);have E2:=Hd (show U0 s=9 by unfold U0;rw[AW hm]);rw[hm] at M;clear ha hs hm YQ;go_enter func116,ntmps116;go_wp2_with fail;refine(M.out _ (HA.out.alloc _)).mono ?_;rintro e w1 ⟨A',c',rfl,_,hB⟩;have IJ:=hB.size;go_wp2_with fail;go_ret2;rw[E1.out,E2.out];exact⟨rfl,A9⟩
 ·have E1:=Hd (show TZ s=s.BB+s.again by unfold TZ;rw[AO hm]);have E2:=Hd (show U0 s=0 by unfold U0;rw[AO hm]);have hl:0<(AJ.EC s).length:=List.length_pos_iff.2 hm;have z:(((AJ.EC s).length:Int)==0)=false:=JJ Ft;obtain⟨n9,gF⟩:=BN ((AJ.EC s).length);rw[<-gF] at M z;clear ha hs hm YQ hl gF;go_enter func116,ntmps116;go_wp2_with fail;refine(M.out _ (HA.out.alloc _)).mono ?_;rintro e w1 ⟨A',c',rfl,_,hB⟩;have IJ:=hB.size;(try simp at IJ);have k1:=AH (q:=w.heap.size) k0 hB Fu;refine jD k1 ?_;intro BH OB OD Oz Od O8 MZ O7 Oc O6 Ob NZ IB NY MX NQ ML NP Oa NL GX GU;have la:=BG k1;go_wp2_with fail;go_ret2;rw[E1.out,E2.out];exact⟨rfl,A9⟩
theorem OM(s:AJ.St)(hs:AJ.Inv s)(hc:s.cmd≠0)(D:Option Addr)(dl dc:Nat)(A:Option Addr)(ac:Nat)(S:Option Addr)(sl sc:Nat)(w:World)(GZ:dl=(AJ.data s).length)(hd:Row w 0 5 1 D dl dc (bv (AJ.data s)))(ha:Row w 0 4 1 A s.n ac (GY s.Rr))(MB:By (AJ.data s))(hdn:dl<=1000):
  Calls prog 114 #[.agg #[Iv s.again,Iv s.st,Iv s.now,Iv s.seq,.bool s.some,Iv s.prog,Iv s.cmd,.slice D dl dc,Iv s.BB,.slice A s.n ac,.slice S sl sc]] w λe w'=>∃v,e= .returned v/\IF w' w.heap.size v (AJ.DX s)/\Below w.heap.size w w':=by
 obtain⟨i0,OU,RR,IJ,Ot⟩:=MQ ja;obtain⟨i1,hj0,hj1,hj2,hj3⟩:=MQ Sd;have HD:=Hd hd;have HA:=Hd ha;have ko:=Hd MB;have hn:=hs.n;have HAL:=Hd hs.Rr;have X9:=Hd GZ;have FE:=Hd (show AJ.DX s=(AJ.BP 1 s.Rr).map (λ(i:Nat)=>(⟨s.cmd,0,(i:Int),s.seq,AJ.data s⟩:Fr)) by unfold AJ.DX;rw[Re s hc]);(refine K2b ?_;intro k0);have K0:=Hd k0;obtain⟨dt,kh⟩:=BN (AJ.data s);rw[<-kh] at HD ko X9 FE;clear hd ha MB hs hc GZ k0 kh;go_enter func114,ntmps114;go_wp2_with fail;go_loopw[3,4] (λs3 s4 wr=>∃(i:Nat)(l:List Nat),s4=Iv i/\i<=s.n/\Hid (l=AJ.BP 1 (s.Rr.take i))/\l.length<=i/\Hid (IF wr (w.heap.size+1) s3 (l.map (λ(i:Nat)=>(⟨s.cmd,0,(i:Int),s.seq,dt⟩:Fr))))/\Below (w.heap.size+1) (w.alloc (.cells #[Iv s.again,Iv s.st,Iv s.now,Iv s.seq,.bool s.some,Iv s.prog,Iv s.cmd,.slice D dl dc,Iv s.BB,.slice A s.n ac,.slice S sl sc] 51)) wr) (λ_ s4 _=>s.n-(intOf s4).toNat)
 case atStart=>exact⟨0,[],by go_num,by omega,Hd (by simp[AJ.BP]),by simp,Hd (IF.nil _ _),QZ _ _⟩
 case round=>
  obtain⟨i,l,rfl,hi,HL,hll,HR,hB⟩:=hrel;have VE:=hB.size;simp at VE;have kr:=AH (q:=w.heap.size) K0.out hB Ft;have KR:=Hd kr;have HB:=Hd hB;have eM:=Hd (show Below w.heap.size w wr from((IH w).alloc (Lr _) _).trans (HB.out.mono Ft));have HDW:=Hd (HD.out.below eM.out (Lr _));refine jD kr ?_;intro BH OB OD Oz Od O8 MZ O7 Oc O6 Ob NZ IB NY MX NQ ML NP Oa NL GX GU;have la:=BG kr;clear kr hB
  by_cases EK:i<s.n
  ·obtain⟨g,o,cur,rfl,_,hg,_,_,_,_,_,DD,_⟩:=HA.out.some_ Ft;refine K1H ?_;clear DD;intro x d1 U3 HMT
   cases x
   ·obtain⟨vs,de,nk,qH⟩:=HR.out;rw[WW] at nk;obtain⟨A3,c3,rfl⟩:=EZ nk;have HV1:=Hd de;have rP:=Hd nk;have HV3:=Hd qH;have w1:=GF ((i:Int)+1) Ft;clear de nk qH;go_upto_region 6 with fail;go_region_held3 (λw'=>w'.cell? ⟨w.heap.size,6,none⟩=some (Iv s.cmd)/\w'.cell? ⟨w.heap.size,3,none⟩=some (Iv s.seq)/\w'.cell? ⟨w.heap.size,7,none⟩=some (.slice D dl dc)) (first|(refine⟨?_,?_,?_⟩<;>simp[go_sem, *];done)|go_keep) (first|(refine LH _ rfl (.const (.slice none 0 0)) (.tmp 26) _ rfl (w.heap.size+1) 5 i1 _ 1 1 underlying47 hj0 hj1 hj2 hj3 rfl Ft (.slice none 0 0) 0 [] rfl (Ta _ _ _ _) wr.heap.size D dl dc (bv dt) rfl (Reads.drew HDW.out.reads) (SX _) Dk Ft Fp ?_;intro v5 w5 Tq YR nL;(have jW:=YR.size);(try simp at jW);simp only[PL,List.nil_append] at Tq;obtain⟨A5,Zs,rfl⟩:=EZ Tq;have JD:=Hd (show Below wr.heap.size wr w5 from⟨YR.os,YR.tape,YR.output,YR.size,λj hj=>YR.block j hj Ea⟩);have HO5:=Hd (show Ow w5 (w.heap.size+1) A5 dl Zs dt from⟨Tq,ko.out⟩);have e6:w5.cell? (Ad w.heap.size 6)=some (Iv s.cmd):=((BO JD.out).1 w.heap.size _ Cm).trans IB;have e3:w5.cell? (Ad w.heap.size 3)=some (Iv s.seq):=((BO JD.out).1 w.heap.size _ Cm).trans MZ;have e7:w5.cell? (Ad w.heap.size 7)=some (.slice D dl dc):=((BO JD.out).1 w.heap.size _ Cm).trans MX;clear Tq YR nL)|(refine LH _ rfl (.tmp 18) (.tmp 29) _ rfl (w.heap.size+1) 147 i0 _ 5 56 underlying113 OU RR IJ Ot rfl Ft (.slice A3 l.length c3) l.length _ rfl ((WG rP.out JD.out).alloc _) (w5.heap.size+1) (some (Ad w5.heap.size 0)) 1 1 (FV.cells ⟨⟨s.cmd,0,(i:Int)+1,s.seq,dt⟩,A5,Zs⟩) rfl (by have:=Reads.A0t w5 (FV.cells ⟨⟨s.cmd,0,(i:Int)+1,s.seq,dt⟩,A5,Zs⟩).toArray 147 1 5 rfl;simpa[FV.cells,<-X9.out] using this) (FV.one _) Dk Ft Fp ?_;intro v1 w7 CE GQ LY;have HO7:=Hd CE;have HG7:=Hd GQ;have wP:=GQ.size;(try simp at wP);have e6:w7.cell? (Ad w.heap.size 6)=some (Iv s.cmd):=(Cb (GQ.block w.heap.size Fp (λe=>by have:=(rP.out.lt _ e.symm).1;omega))).trans Ew;have e3:w7.cell? (Ad w.heap.size 3)=some (Iv s.seq):=(Cb (GQ.block w.heap.size Fp (λe=>by have:=(rP.out.lt _ e.symm).1;omega))).trans Ew;have e7:w7.cell? (Ad w.heap.size 7)=some (.slice D dl dc):=(Cb (GQ.block w.heap.size Fp (λe=>by have:=(rP.out.lt _ e.symm).1;omega))).trans Ew;clear CE GQ LY));(have hO5':Ow w5 (w.heap.size+1) A5 dt.length Zs dt:=by rw[<-X9.out];exact HO5.out);have HR7:=Hd (IF.append (w':=w7) (v':=v1) (vs:=vs) (y:=⟨⟨s.cmd,0,(i:Int)+1,s.seq,dt⟩,A5,Zs⟩) HV1.out (by rw[WW];exact(WG rP.out JD.out).alloc _) (λy hy=>((HV3.out y hy).below (B:=wr.heap.size) JD.out (Lr _)).alloc _) (hO5'.alloc _) HG7.out (by rw[WW];exact HO7.out));have T3:=Hd (show Below (w.heap.size+1) (w.alloc (.cells #[Iv s.again,Iv s.st,Iv s.now,Iv s.seq,.bool s.some,Iv s.prog,Iv s.cmd,.slice D dl dc,Iv s.BB,.slice (some (Ad g o)) s.n ac,.slice S sl sc] 51)) w7 from(((HB.out.trans (JD.out.mono Ft)).alloc Ft _).grown HG7.out Fp (λg hg=>(rP.out.lt g hg).1)));clear e6 e3 e7 hO5';go_wp2_with fail;go_roundw
    case rel=>exact⟨i+1,l++[i+1],by go_num,by omega,Hd (by rw[HMT.out,HL.out];rfl),by simp;omega,Hd (by rw[bW];exact HR7.out),T3.out⟩
    case measure=>simp[intOf];omega
   ·go_wp2_with fail;go_roundw
    case rel=>exact⟨i+1,l,by go_num,by omega,Hd (by rw[HMT.out,HL.out];simp),by omega,HR,HB.out⟩
    case measure=>simp[intOf];omega
  ·(obtain rfl:i=s.n:=by omega);have e:=HL.out;rw[R8 (by rw[HAL.out];exact Lr _)] at e;have HE:=Hd e;clear e;go_wp2_with fail;go_ret;refine⟨_,rfl,?_,eM.out⟩;rw[FE.out,<-HE.out];exact HR.out.more Ft
def JA(D A0:Option Addr)(s':AJ.St)(fr:List Fr)(err:Int)(w:World)(e:Ending)(w':World):Prop:=
 ∃v D' dc A ac S sc,e= .returned (.tuple #[.agg (Sl s' D' dc A ac S sc).toArray,v,Iv err])/\Q9 w' D' dc A ac S sc s'/\IF w' w.heap.size v fr/\Below w.heap.size w w'/\(∀g,AK D'=some g->AK D=some g\/w.heap.size<=g)/\(∀g,AK A=some g->AK A0=some g\/w.heap.size<=g)
theorem za(s:AJ.St)(D:Option Addr)(dl dc:Nat)(A:Option Addr)(ac:Nat)(S:Option Addr)(sc:Nat)(now:Int)(w:World)(GZ:dl=(AJ.data s).length)(h:Q9 w D dc A ac S sc s)(ht:AJ.DZ s now≠0):
  Calls prog 83 #[.agg #[Iv s.again,Iv s.st,Iv s.now,Iv s.seq,.bool s.some,Iv s.prog,Iv s.cmd,.slice D dl dc,Iv s.BB,.slice A s.n ac,.slice S s.n sc],Iv now] w (JA D A s [] 3 w):=by
 (refine jN ?_;intro TM);rw[(GD s now).resolve_left ht] at TM;have H:=Hd h;have X9:=Hd GZ;clear h ht GZ;go_enter func83,ntmps83;go_wp2_with fail;(refine Ki ?_;intro V hV k0 k1);(refine Kb ?_;intro HB);(refine K07 ?_;clear hV;intro w1 Q6 j0 j1);(refine K1A ?_;intro DF);clear k0 k1 Q6;(refine yh ?_;intro BH la CI lb);go_wp2_with fail;(refine jO ?_;intro Wf MH);(refine K4h ?_;intro hf);(have hK:AG (λi=>i=w.heap.size+1) w1 Wf:=by rw[<-MH];exact Hw);clear MH;clear BH;clear CI;clear la lb;(refine uo ?_;intro IK lm);refine IT (v:= .tuple #[.agg #[Iv s.again,Iv s.st,Iv s.now,Iv s.seq,.bool s.some,Iv s.prog,Iv s.cmd,.slice D dl dc,Iv s.BB,.slice A s.n ac,.slice S s.n sc],.slice none 0 0,Iv 3]) ?_ rfl ⟨_,D,dc,A,ac,S,sc,?_,?_,IF.nil _ _,?_,λg hg=> .inl hg,λg hg=> .inl hg⟩
 ·simp[results,results83,go_sem,IK]
 ·rw[Sl,<-X9.out]
 ·(have aL:∀i:Nat,i=w.heap.size+1->Ty w1 i 51:=λi hi=>by rw[hi];exact⟨_,j1⟩);have Rw:=H.out.below DF.out (Lr _);exact Rw.kept hK (λg hg e=>(Rw.dr.ty hg).ne (aL g e) Fj rfl) (λg hg e=>(Rw.ar.ty hg).ne (aL g e) Fj rfl) (λg hg e=>(Rw.sr.ty hg).ne (aL g e) Fj rfl)
 ·exact DF.out.trans (hK.below (λi _ hi=>by omega) DF.out.size)
theorem kJ(s:AJ.St)(hs:AJ.Inv s)(D:Option Addr)(dl dc:Nat)(A:Option Addr)(ac:Nat)(S:Option Addr)(sc:Nat)(now:Int)(w:World)(GZ:dl=(AJ.data s).length)(hdn:dl<=1000)(MB:By (AJ.data s))(h:Q9 w D dc A ac S sc s):
  Calls prog 83 #[.agg #[Iv s.again,Iv s.st,Iv s.now,Iv s.seq,.bool s.some,Iv s.prog,Iv s.cmd,.slice D dl dc,Iv s.BB,.slice A s.n ac,.slice S s.n sc],Iv now] w (JA D A (AJ.tick s now) (AJ.DK s now) (AJ.DZ s now) w):=by
 by_cases ht:AJ.DZ s now=0
 ·have TM:=Hd (λW:World=>Zw s D dl dc A s.n ac S s.n sc now W);have NX:=Hd (show ∀(W:World)(hW:Row W 0 4 1 A s.n ac (GY s.Rr)),Calls prog 116 #[.agg #[Iv s.again,Iv s.st,Iv now,Iv s.seq,.bool s.some,Iv s.prog,Iv s.cmd,.slice D dl dc,Iv s.BB,.slice A s.n ac,.slice S s.n sc]] W (IL (.tuple #[Iv (TZ s),Iv (U0 s)]) W) from λW hW=>px {s with now:=now} (AJ.Us hs ht) D dl dc A ac S s.n sc W hW);rw[ht] at TM⊢;have H:=Hd h;have X9:=Hd GZ
  by_cases hy:AJ.Qa s now=true
  ·have hy':=hy;unfold AJ.Qa at hy';simp only[bY,eS] at hy';have E1:=Hd (show AJ.tick s now={s with now:=now,BB:=now} by unfold AJ.tick;rw[AW ht,AW hy]);have E2:=Hd (show AJ.DK s now=AJ.DX {s with now:=now,BB:=now} by unfold AJ.DK;rw[AW ⟨ht,hy⟩,E1.out]);(have hi5:AJ.Inv {s with now:=now,BB:=now}:=by have:=AJ.We (now:=now) hs;rw[E1.out] at this;exact this);(have dB:s.cmd≠0:=λe=>hy'.1 (by unfold AJ.EC;rw[AW e]));have FR:=Hd (show ∀(W:World)(hW:Below w.heap.size w W),Calls prog 114 #[.agg #[Iv s.again,Iv s.st,Iv now,Iv s.seq,.bool s.some,Iv s.prog,Iv s.cmd,.slice D dl dc,Iv now,.slice A s.n ac,.slice S s.n sc]] W λe w'=>∃v,e= .returned v/\IF w' W.heap.size v (AJ.DX {s with now:=now,BB:=now})/\Below W.heap.size W w' from λW hW=>OM {s with now:=now,BB:=now} hi5 dB D dl dc A ac S s.n sc W GZ (by rw[GZ];exact h.dr.below hW (Lr _)) (h.ar.below hW (Lr _)) MB hdn);(have e1:TZ s=s.BB+s.again:=by unfold TZ;rw[AO hy'.1]);(have e2:U0 s=0:=by unfold U0;rw[AO hy'.1]);rw[e1,e2] at NX;(have zz:decide (now<s.BB+s.again)=false:=by rw[eU];omega);clear h hs ht GZ hy hy' hi5 dB e1 e2;go_enter func83,ntmps83;go_wp2_with fail;(refine Ko ?_;intro V hV);(refine K1c ?_;intro k0 k1);(refine Kb ?_;intro HB);(refine K07 ?_;clear hV;intro w1 Q6 j0 j1);(refine K1A ?_;intro DF);clear k0 k1 Q6;(refine yh ?_;intro BH la CI lb);go_wp2_with fail;(refine KD ?_;clear BH CI la lb j0 j1;intro V1 HV w2 j0 j1 NB BH la CI lb);go_wp2_with fail;generalize hV:World.setCell _ _ _=V4;(have q0:V4.heap[w.heap.size]?=some (.cells #[Iv s.again,Iv s.st,Iv now,Iv s.seq,.bool s.some,Iv s.prog,Iv s.cmd,.slice D dl dc,Iv now,.slice A s.n ac,.slice S s.n sc] 51 (0,0)):=by rw[<-hV];exact Fl);(have q1:V4.heap[w.heap.size+1]?=some (.cells aS 51 (0,0)):=by rw[<-hV];exact Af);have YX:=Hd (show Below w.heap.size w V4 from by rw[<-hV];exact NB.out.setCell (Lr _) _);clear BH;clear CI;clear la lb hV j0 j1;(refine K1F ?_;intro BH la CI lb);go_region_held3 (λw'=>w'.cell? ⟨w.heap.size,0,none⟩=some (Iv s.again)/\w'.cell? ⟨w.heap.size,1,none⟩=some (Iv s.st)/\w'.cell? ⟨w.heap.size,2,none⟩=some (Iv now)/\w'.cell? ⟨w.heap.size,3,none⟩=some (Iv s.seq)/\w'.cell? ⟨w.heap.size,4,none⟩=some (.bool s.some)/\w'.cell? ⟨w.heap.size,5,none⟩=some (Iv s.prog)/\w'.cell? ⟨w.heap.size,6,none⟩=some (Iv s.cmd)/\w'.cell? ⟨w.heap.size,7,none⟩=some (.slice D dl dc)/\w'.cell? ⟨w.heap.size,8,none⟩=some (Iv now)/\w'.cell? ⟨w.heap.size,9,none⟩=some (.slice A s.n ac)/\w'.cell? ⟨w.heap.size,10,none⟩=some (.slice S s.n sc)) (first|(refine⟨?_,?_,?_,?_,?_,?_,?_,?_,?_,?_,?_⟩<;>simp[go_sem, *];done)|go_keep) (first|(go_at_call 114;refine(FR.out _ (by first|exact YX.out|exact YX.out.drew)).mono ?_;rintro e w5 ⟨v,rfl,hR,LM⟩;have p0:=AH (q:=w.heap.size) Af LM Cm;have p1:=AH (q:=w.heap.size+1) Af LM Cm;have HR:=Hd hR;have wT:=YX.out;have JD:=Hd (show Below w.heap.size w w5 from A9);have eB:w.heap.size<=V4.heap.size:=YX.out.size;have oX:=Hd (HR.out.more (base':=w.heap.size) D6);(have YE:=GN p0;have le:=BG p0);(have JH:=GN p1;have lg:=BG p1);clear hR LM wT));go_wp2_with fail;(refine jO ?_;intro Wf MH);(have hf:Wf.heap[w.heap.size+1]?=some (.cells #[Iv s.again,Iv s.st,Iv now,Iv s.seq,.bool s.some,Iv s.prog,Iv s.cmd,.slice D dl dc,Iv now,.slice A s.n ac,.slice S s.n sc] 51 (0,0)):=by rw[<-MH];exact Fl);(refine Kz ?_;clear MH BH CI YE JH la lb le lg;intro hK IK lm aL);rw[E1.out,E2.out];refine IT (v:= .tuple #[.agg #[Iv s.again,Iv s.st,Iv now,Iv s.seq,.bool s.some,Iv s.prog,Iv s.cmd,.slice D dl dc,Iv now,.slice A s.n ac,.slice S s.n sc],v,Iv 0]) Cq rfl ⟨v,D,dc,A,ac,S,sc,by rw[X9.out];rfl,?_,?_,?_,λg hg=> .inl hg,λg hg=> .inl hg⟩
   ·have hq:Q9 w5 D dc A ac S sc {s with now:=now,BB:=now}:=⟨(H.out.below JD.out (Lr _)).dr,(H.out.below JD.out (Lr _)).ar,(H.out.below JD.out (Lr _)).sr⟩;exact Ht
   ·exact oX.out.Tp hK (λi hi hl=>⟨_,aL i hi hl,by decide,by decide⟩)
   ·exact JD.out.trans (hK.below (λi _ hi=>by omega) JD.out.size)
  ·have E1:=Hd (show AJ.tick s now={s with now:=now} by unfold AJ.tick;rw[AW ht,AO hy]);have E2:=Hd (show AJ.DK s now=[] by unfold AJ.DK;rw[AO (λh=>hy h.2)])
   by_cases hm:AJ.EC s=[]
   ·(have e1:TZ s=0:=by unfold TZ;rw[AW hm]);(have e2:U0 s=9:=by unfold U0;rw[AW hm]);rw[e1,e2] at NX;exact Mo
   ·(have e1:TZ s=s.BB+s.again:=by unfold TZ;rw[AO hm]);(have e2:U0 s=0:=by unfold U0;rw[AO hm]);rw[e1,e2] at NX;have zz:decide (now<s.BB+s.again)=true:=by
     rw[pY]
     rcases ZY now (s.BB+s.again) with h1|h1
     ·exact h1
     ·exact absurd (by unfold AJ.Qa;rw[IU hm,IU h1];rfl) hy
    exact Mo
 ·(have E2:AJ.tick s now=s:=by unfold AJ.tick;rw[AO ht]);(have E3:AJ.DK s now=[]:=by unfold AJ.DK;rw[AO (λh=>ht h.1)]);rw[E2,E3,(GD s now).resolve_left ht];exact za s D dl dc A ac S sc now w GZ h ht
end
end Go.Proofs.YtdocdgcdldpagaaGreat

import Derived.Test.YtdocdgcdldpagaaGreatAw02
import Derived.Test.YtdocdgcdldpagaaGreatAw01
open Go.Proofs.Tryz
namespace Go.Proofs.YtdocdgcdldpagaaGreat
set_option maxHeartbeats 64000000
set_option maxRecDepth 100000
set_option linter.all false
section
namespace Ck
open Go.RowKit
def JA(w:World)(d r:Int)(s:Bool)(lo hi a g k h:Int)(e:Ending)(w':World):Prop:=
 e= .returned (.tuple #[.agg #[.int .i64 d,.int .i64 (AV.YI d r s lo hi a g k h),.bool (AV.YH d r s lo hi a g k h),.int .i64 (AV.S7 d r s lo hi a g k h),.int .i64 (AV.Tw d r s lo hi a g k h)],.int .i64 (AV.MF d r s lo hi a g k h)])/\Below w.heap.size w w'
theorem Q2{w w':World}{d r:Int}{s:Bool}{lo hi a g k h n:Int}(hE:AV.MF d r s lo hi a g k h=n)(hn:n≠0)(hb:Below w.heap.size w w'):JA w d r s lo hi a g k h (.returned (.tuple #[.agg #[.int .i64 d,.int .i64 r,.bool s,.int .i64 lo,.int .i64 hi],.int .i64 n])) w':=by
 (have:¬AV.MF d r s lo hi a g k h=0:=by omega);exact⟨by rw[AV.YI,AV.YH,AV.S7,AV.Tw,AO this,AO this,AO this,AO this,hE],hb⟩
theorem lJ{w w':World}{d r:Int}{s:Bool}{lo hi a g k h x y:Int}(hE:AV.MF d r s lo hi a g k h=0)(h1:AV.jV d r s lo hi k h=x)(h2:AV.mT d r s hi a g h=y)(hb:Below w.heap.size w w'):JA w d r s lo hi a g k h (.returned (.tuple #[.agg #[.int .i64 d,.int .i64 h,.bool true,.int .i64 x,.int .i64 y],.int .i64 0])) w':=
 ⟨by rw[AV.YI,AV.YH,AV.S7,AV.Tw,AW hE,AW hE,AW hE,AW hE,h1,h2,hE],hb⟩
theorem qu{k H:Int}(k0:0<=k)(v:k<=H)(hH:H<=1073741824):mLo (-1073741824) 1073741824 k H=k/\mHi (-1073741824) 1073741824 k H=H/\mE (-1073741824) 1073741824 k H=0:=by
 (have h:xR (-1073741824) 1073741824 k H=true:=by simp[xR,AV.aY];omega);obtain⟨e1,e2,e3⟩:=A5h h Ft;exact⟨by rw[e1];omega,by rw[e2];omega,e3⟩
theorem zY(d r:Int)(s:Bool)(lo hi a g k h:Int)(w:World)(x:AV.XL a g k h=false):
  Calls prog 148 #[.agg #[.int .i64 d,.int .i64 r,.bool s,.int .i64 lo,.int .i64 hi],.agg #[.int .i64 a,.int .i64 g,.int .i64 k,.int .i64 h]] w λe w'=>JA w d r s lo hi a g k h e w':=by
 have E:=Hd (AV.ov (d:=d) (r:=r) (s:=s) (lo:=lo) (hi:=hi) x);have V:=Hd (λW:World=>x▸Yv a g k h W);clear x;go_enter func148,ntmps148;go_wp2_with fail;refine(V.out _).mono ?_;rintro e w1 ⟨rfl,hb⟩;(have hz:=hb.size;simp at hz);(have SJ:=AH (q:=w.heap.size) Af hb Cm;have Uw:=AH (q:=w.heap.size+1) Af hb Cm;have Rw:=AH (q:=w.heap.size+1+1) Af hb Cm);(have A6p:=AB SJ 0 rfl;have A66:=AE SJ 0;have A6o:=AB SJ 1 rfl;have A65:=AE SJ 1;have A6n:=AB SJ 2 rfl;have A64:=AE SJ 2;have A6m:=AB SJ 3 rfl;have A63:=AE SJ 3;have A6l:=AB SJ 4 rfl;have A62:=AE SJ 4;have lC:=BG SJ);(have rD:=AB Uw 0 rfl;have A5W:=AE Uw 0;have A6f:=AB Uw 1 rfl;have A5V:=AE Uw 1;have A6e:=AB Uw 2 rfl;have A5U:=AE Uw 2;have A6d:=AB Uw 3 rfl;have A5T:=AE Uw 3;have lX:=BG Uw);(have A6k:=AB Rw 0 rfl;have A61:=AE Rw 0;have A6j:=AB Rw 1 rfl;have A60:=AE Rw 1;have A6i:=AB Rw 2 rfl;have A5Z:=AE Rw 2;have A6h:=AB Rw 3 rfl;have A5Y:=AE Rw 3;have A6g:=AB Rw 4 rfl;have A5X:=AE Rw 4;have lR:=BG Rw);go_wp2_with fail;refine IT (v:= .tuple #[.agg #[.int .i64 d,.int .i64 r,.bool s,.int .i64 lo,.int .i64 hi],.int .i64 2]) ?_ rfl (Q2 E.out Fj A9);exact Ig
theorem pU(d r lo hi a g k h:Int)(w:World)(x:AV.XL a g k h=true)(y:h<r):
  Calls prog 148 #[.agg #[.int .i64 d,.int .i64 r,.bool true,.int .i64 lo,.int .i64 hi],.agg #[.int .i64 a,.int .i64 g,.int .i64 k,.int .i64 h]] w λe w'=>JA w d r true lo hi a g k h e w':=by
 have E:=Hd (AV.ef (d:=d) (r:=r) (lo:=lo) (hi:=hi) x y);have V:=Hd (λW:World=>x▸Yv a g k h W);clear x;go_enter func148,ntmps148;go_wp2_with fail;refine(V.out _).mono ?_;rintro e w1 ⟨rfl,hb⟩;(have hz:=hb.size;simp at hz);(have SJ:=AH (q:=w.heap.size) Af hb Cm;have Uw:=AH (q:=w.heap.size+1) Af hb Cm;have Rw:=AH (q:=w.heap.size+1+1) Af hb Cm);(have A6p:=AB SJ 0 rfl;have A66:=AE SJ 0;have A6o:=AB SJ 1 rfl;have A65:=AE SJ 1;have A6n:=AB SJ 2 rfl;have A64:=AE SJ 2;have A6m:=AB SJ 3 rfl;have A63:=AE SJ 3;have A6l:=AB SJ 4 rfl;have A62:=AE SJ 4;have lC:=BG SJ);(have rD:=AB Uw 0 rfl;have A5W:=AE Uw 0;have A6f:=AB Uw 1 rfl;have A5V:=AE Uw 1;have A6e:=AB Uw 2 rfl;have A5U:=AE Uw 2;have A6d:=AB Uw 3 rfl;have A5T:=AE Uw 3;have lX:=BG Uw);(have A6k:=AB Rw 0 rfl;have A61:=AE Rw 0;have A6j:=AB Rw 1 rfl;have A60:=AE Rw 1;have A6i:=AB Rw 2 rfl;have A5Z:=AE Rw 2;have A6h:=AB Rw 3 rfl;have A5Y:=AE Rw 3;have A6g:=AB Rw 4 rfl;have A5X:=AE Rw 4;have lR:=BG Rw);go_wp2_with fail;refine IT (v:= .tuple #[.agg #[.int .i64 d,.int .i64 r,.bool true,.int .i64 lo,.int .i64 hi],.int .i64 3]) ?_ rfl (Q2 E.out Fj A9);exact Ig
theorem pT(d r lo hi a g k h:Int)(w:World)(x:AV.XL a g k h=true)(h0:0<=d)(h1:d<=100000):
  Calls prog 148 #[.agg #[.int .i64 d,.int .i64 r,.bool false,.int .i64 lo,.int .i64 hi],.agg #[.int .i64 a,.int .i64 g,.int .i64 k,.int .i64 h]] w λe w'=>JA w d r false lo hi a g k h e w':=by
 have V:=Hd (λW:World=>x▸Yv a g k h W);have X:=Hd x;obtain⟨x1,x2,x3,x4,x5,x6⟩:=AV.Wu.1 x;clear x;obtain⟨e1,e2,e3⟩:=sF (lo:=g) (hi:=g) (d:=d) (l:=h-a) x4 Ft Ft h0 h1 Ft;have R:=Hd (λW:World=>Wy g g d (h-a) W);rw[e1,e2,e3] at R;clear e1 e2 e3;go_enter func148,ntmps148;go_wp2_with fail;refine(V.out _).mono ?_;rintro e w1 ⟨rfl,hb⟩;(have hz:=hb.size;simp at hz);(have SJ:=AH (q:=w.heap.size) Af hb Cm;have Uw:=AH (q:=w.heap.size+1) Af hb Cm;have Rw:=AH (q:=w.heap.size+1+1) Af hb Cm);(have A6p:=AB SJ 0 rfl;have A66:=AE SJ 0;have A6o:=AB SJ 1 rfl;have A65:=AE SJ 1;have A6n:=AB SJ 2 rfl;have A64:=AE SJ 2;have A6m:=AB SJ 3 rfl;have A63:=AE SJ 3;have A6l:=AB SJ 4 rfl;have A62:=AE SJ 4;have lC:=BG SJ);(have rD:=AB Uw 0 rfl;have A5W:=AE Uw 0;have A6f:=AB Uw 1 rfl;have A5V:=AE Uw 1;have A6e:=AB Uw 2 rfl;have A5U:=AE Uw 2;have A6d:=AB Uw 3 rfl;have A5T:=AE Uw 3;have lX:=BG Uw);(have A6k:=AB Rw 0 rfl;have A61:=AE Rw 0;have A6j:=AB Rw 1 rfl;have A60:=AE Rw 1;have A6i:=AB Rw 2 rfl;have A5Z:=AE Rw 2;have A6h:=AB Rw 3 rfl;have A5Y:=AE Rw 3;have A6g:=AB Rw 4 rfl;have A5X:=AE Rw 4;have lR:=BG Rw);go_wp2_with fail;refine(R.out _).mono ?_;rintro e w2 ⟨rfl,CB⟩;(have Ot:=CB.size;try simp at Ot);have dC:=AH (q:=w.heap.size) Af CB Cm;have eG:=AH (q:=w.heap.size+1) Af CB Cm;have Zl:=AH (q:=w.heap.size+1+1) Af CB Cm;have hN2:=AH (q:=w1.heap.size) Af CB Cm;(have A8E:=AB dC 0 rfl;have A82:=AE dC 0;have A8D:=AB dC 1 rfl;have A81:=AE dC 1;have A8C:=AB dC 2 rfl;have A80:=AE dC 2;have A8B:=AB dC 3 rfl;have A7Z:=AE dC 3;have A8A:=AB dC 4 rfl;have A7Y:=AE dC 4;have lC2:=BG dC);(have A8s:=AB eG 0 rfl;have A7Q:=AE eG 0;have A8r:=AB eG 1 rfl;have A7P:=AE eG 1;have A8q:=AB eG 2 rfl;have A7O:=AE eG 2;have A8p:=AB eG 3 rfl;have A7N:=AE eG 3;have lX2:=BG eG);(have A8x:=AB Zl 0 rfl;have A7V:=AE Zl 0;have A8w:=AB Zl 1 rfl;have A7U:=AE Zl 1;have A8v:=AB Zl 2 rfl;have A7T:=AE Zl 2;have A8u:=AB Zl 3 rfl;have A7S:=AE Zl 3;have A8t:=AB Zl 4 rfl;have A7R:=AE Zl 4;have lR2:=BG Zl);(have A8z:=AB hN2 0 rfl;have A7X:=AE hN2 0;have A8y:=AB hN2 1 rfl;have A7W:=AE hN2 1;have lN2:=BG hN2);go_wp2_with fail
 ·obtain⟨e1,e2⟩:=AV.dJ (d:=d) (r:=r) (lo:=lo) (hi:=hi) (a:=a) (g:=g) (k:=k) (h:=h) X.out Fo;refine IT (v:= .tuple #[.agg #[.int .i64 d,.int .i64 r,.bool false,.int .i64 lo,.int .i64 hi],.int .i64 (AV.rE g d (h-a))]) ?_ rfl (Q2 e1 e2 A9);exact Ig
 ·have e1:=AV.ZO (d:=d) (r:=r) (lo:=lo) (hi:=hi) (a:=a) (g:=g) (k:=k) (h:=h) X.out Fo Fo;refine IT (v:= .tuple #[.agg #[.int .i64 d,.int .i64 r,.bool false,.int .i64 lo,.int .i64 hi],.int .i64 10]) ?_ rfl (Q2 e1 Fj A9);exact Ig
 ·(have z:(AV.rE g d (h-a) !=0)=false:=by with_reducible assumption);(have v:k<=AV.PK g d (h-a):=by with_reducible assumption);have E1:=Hd (AV.nR (d:=d) (r:=r) (lo:=lo) (hi:=hi) (a:=a) (g:=g) (k:=k) (h:=h) X.out z v);(have z':AV.rE g d (h-a)=0:=by simpa using z);obtain⟨_,_,o,_,_⟩:=AV.A2w (lo:=g) z' Ft Ft Ft h0 h1;obtain⟨m1,m2,m3⟩:=qu (k:=k) (H:=AV.PK g d (h-a)) Ft v o;have MM:=Hd (λW:World=>Z7 (-1073741824) 1073741824 k (AV.PK g d (h-a)) W);rw[m1,m2,m3] at MM;clear m1 m2 m3 z';refine(MM.out _).mono ?_;rintro e w3 ⟨rfl,JZ⟩;(have ZI:=JZ.size;simp at ZI);have Wo:=AH (q:=w.heap.size) Af JZ Cm;have WN:=AH (q:=w.heap.size+1) Af JZ Cm;have Ux:=AH (q:=w.heap.size+1+1) Af JZ Cm;(have hy1:w.heap.size<w3.heap.size:=by omega);(have hy2:w.heap.size+1<w3.heap.size:=by omega);(have hy3:w.heap.size+1+1<w3.heap.size:=by omega);(have A4R:=AB Wo 0 rfl;have A4y:=AE Wo 0;have A4Q:=AB Wo 1 rfl;have A4x:=AE Wo 1;have A4P:=AB Wo 2 rfl;have A4w:=AE Wo 2;have A4O:=AB Wo 3 rfl;have A4v:=AE Wo 3;have A4N:=AB Wo 4 rfl;have A4u:=AE Wo 4;have lC3:=BG Wo);(have A4H:=AB WN 0 rfl;have A4o:=AE WN 0;have A4G:=AB WN 1 rfl;have A4n:=AE WN 1;have A4F:=AB WN 2 rfl;have A4m:=AE WN 2;have A4E:=AB WN 3 rfl;have A4l:=AE WN 3;have lX3:=BG WN);(have A4M:=AB Ux 0 rfl;have A4t:=AE Ux 0;have A4L:=AB Ux 1 rfl;have A4s:=AE Ux 1;have A4K:=AB Ux 2 rfl;have A4r:=AE Ux 2;have A4J:=AB Ux 3 rfl;have A4q:=AE Ux 3;have A4I:=AB Ux 4 rfl;have A4p:=AE Ux 4;have lR3:=BG Ux);go_wp2_with fail;refine IT (v:= .tuple #[.agg #[.int .i64 d,.int .i64 h,.bool true,.int .i64 k,.int .i64 (AV.PK g d (h-a))],.int .i64 0]) ?_ rfl (lJ E1.out rfl rfl A9);exact Ig
theorem we{A B k H:Int}(l0:0<=A)(l1:A<=B)(l2:B<=1073741824)(k0:0<=k)(v:k<=H)(hH:H<=1073741824):
  (min B H<max A k->mLo A B k H=0/\mHi A B k H=0/\mE A B k H=10)/\(max A k<=min B H->mLo A B k H=max A k/\mHi A B k H=min B H/\mE A B k H=0):=by
 (have h:xR A B k H=true:=by simp[xR,AV.aY];omega);exact⟨tm h,A5h h⟩
theorem vC(d r lo hi a g k h:Int)(w:World)(x:AV.XL a g k h=true)(c:AV.Po d r lo hi)(l0:0<=lo)(y:r<=h):
  Calls prog 148 #[.agg #[.int .i64 d,.int .i64 r,.bool true,.int .i64 lo,.int .i64 hi],.agg #[.int .i64 a,.int .i64 g,.int .i64 k,.int .i64 h]] w λe w'=>JA w d r true lo hi a g k h e w':=by
 obtain⟨h0,h1,r0,r1,_,l1,l2⟩:=c;have V:=Hd (λW:World=>x▸Yv a g k h W);have X:=Hd x;obtain⟨x1,x2,x3,x4,x5,x6⟩:=AV.Wu.1 x;clear x;obtain⟨e1,e2,e3⟩:=sF (lo:=g) (hi:=g) (d:=d) (l:=h-a) x4 Ft Ft h0 h1 Ft;have R:=Hd (λW:World=>Wy g g d (h-a) W);rw[e1,e2,e3] at R;clear e1 e2 e3;obtain⟨e1,e2,e3⟩:=sF (lo:=lo) (hi:=hi) (d:=d) (l:=h-r) l0 l1 l2 h0 h1 Ft;have RN:=Hd (λW:World=>Wy lo hi d (h-r) W);rw[e1,e2,e3] at RN;clear e1 e2 e3;go_enter func148,ntmps148;go_wp2_with fail;refine(V.out _).mono ?_;rintro e w1 ⟨rfl,hb⟩;(have hz:=hb.size;simp at hz);(have SJ:=AH (q:=w.heap.size) Af hb Cm;have Uw:=AH (q:=w.heap.size+1) Af hb Cm;have Rw:=AH (q:=w.heap.size+1+1) Af hb Cm);(have A6p:=AB SJ 0 rfl;have A66:=AE SJ 0;have A6o:=AB SJ 1 rfl;have A65:=AE SJ 1;have A6n:=AB SJ 2 rfl;have A64:=AE SJ 2;have A6m:=AB SJ 3 rfl;have A63:=AE SJ 3;have A6l:=AB SJ 4 rfl;have A62:=AE SJ 4;have lC:=BG SJ);(have rD:=AB Uw 0 rfl;have A5W:=AE Uw 0;have A6f:=AB Uw 1 rfl;have A5V:=AE Uw 1;have A6e:=AB Uw 2 rfl;have A5U:=AE Uw 2;have A6d:=AB Uw 3 rfl;have A5T:=AE Uw 3;have lX:=BG Uw);(have A6k:=AB Rw 0 rfl;have A61:=AE Rw 0;have A6j:=AB Rw 1 rfl;have A60:=AE Rw 1;have A6i:=AB Rw 2 rfl;have A5Z:=AE Rw 2;have A6h:=AB Rw 3 rfl;have A5Y:=AE Rw 3;have A6g:=AB Rw 4 rfl;have A5X:=AE Rw 4;have lR:=BG Rw);go_wp2_with fail;refine(RN.out _).mono ?_;rintro e w4 ⟨rfl,GA⟩;(have QP:=GA.size;try simp at QP);have hC4:=AH (q:=w.heap.size) Af GA Cm;have xa:=AH (q:=w.heap.size+1) Af GA Cm;have kj:=AH (q:=w.heap.size+1+1) Af GA Cm;have hN4:=AH (q:=w1.heap.size) Af GA Cm;(have de:w.heap.size<w4.heap.size:=by omega);(have nk:w.heap.size+1<w4.heap.size:=by omega);(have qH:w.heap.size+1+1<w4.heap.size:=by omega);(have Abr:=AB hC4 0 rfl;have AaI:=AE hC4 0;have Abq:=AB hC4 1 rfl;have AaH:=AE hC4 1;have Abp:=AB hC4 2 rfl;have AaG:=AE hC4 2;have Abo:=AB hC4 3 rfl;have AaF:=AE hC4 3;have Abn:=AB hC4 4 rfl;have AaE:=AE hC4 4;have lC4:=BG hC4);(have Abf:=AB xa 0 rfl;have Aaw:=AE xa 0;have Abe:=AB xa 1 rfl;have Aav:=AE xa 1;have Abd:=AB xa 2 rfl;have Aau:=AE xa 2;have Abc:=AB xa 3 rfl;have Aat:=AE xa 3;have lX4:=BG xa);(have Abk:=AB kj 0 rfl;have AaB:=AE kj 0;have Abj:=AB kj 1 rfl;have AaA:=AE kj 1;have Abi:=AB kj 2 rfl;have Aaz:=AE kj 2;have Abh:=AB kj 3 rfl;have Aay:=AE kj 3;have Abg:=AB kj 4 rfl;have Aax:=AE kj 4;have lR4:=BG kj);(have Abm:=AB hN4 0 rfl;have AaD:=AE hN4 0;have Abl:=AB hN4 1 rfl;have AaC:=AE hN4 1;have lN4:=BG hN4);go_wp2_with fail
 ·obtain⟨e1,e2⟩:=AV.mO (d:=d) (r:=r) (lo:=lo) (hi:=hi) (a:=a) (g:=g) (k:=k) (h:=h) X.out y Fo;refine IT (v:= .tuple #[.agg #[.int .i64 d,.int .i64 r,.bool true,.int .i64 lo,.int .i64 hi],.int .i64 (AV.rE hi d (h-r))]) ?_ rfl (Q2 e1 e2 A9);exact Ig
 (have u:(AV.rE hi d (h-r) !=0)=false:=by with_reducible assumption);(have u':AV.rE hi d (h-r)=0:=by simpa using u);obtain⟨o1,o2,o3,o4,o5⟩:=AV.A2w (lo:=lo) u' Ft Ft Ft h0 h1;have U:=Hd u;clear u';refine(R.out _).mono ?_;rintro e w2 ⟨rfl,CB⟩;(have Ot:=CB.size;try simp at Ot);have dC:=AH (q:=w.heap.size) Af CB Cm;have eG:=AH (q:=w.heap.size+1) Af CB Cm;have Zl:=AH (q:=w.heap.size+1+1) Af CB Cm;have hN2:=AH (q:=w1.heap.size) (x:= .cells #[.int .i64 (AV.Ti lo hi d (h-r)),.int .i64 (AV.PK hi d (h-r))] 65 (0,0)) Fl CB Cm;(have ht1:w.heap.size<w2.heap.size:=by omega);(have ht2:w.heap.size+1<w2.heap.size:=by omega);(have nl:w.heap.size+1+1<w2.heap.size:=by omega);(have ht4:w1.heap.size<w2.heap.size:=by omega);(have A8E:=AB dC 0 rfl;have A82:=AE dC 0;have A8D:=AB dC 1 rfl;have A81:=AE dC 1;have A8C:=AB dC 2 rfl;have A80:=AE dC 2;have A8B:=AB dC 3 rfl;have A7Z:=AE dC 3;have A8A:=AB dC 4 rfl;have A7Y:=AE dC 4;have lC2:=BG dC);(have A8s:=AB eG 0 rfl;have A7Q:=AE eG 0;have A8r:=AB eG 1 rfl;have A7P:=AE eG 1;have A8q:=AB eG 2 rfl;have A7O:=AE eG 2;have A8p:=AB eG 3 rfl;have A7N:=AE eG 3;have lX2:=BG eG);(have A8x:=AB Zl 0 rfl;have A7V:=AE Zl 0;have A8w:=AB Zl 1 rfl;have A7U:=AE Zl 1;have A8v:=AB Zl 2 rfl;have A7T:=AE Zl 2;have A8u:=AB Zl 3 rfl;have A7S:=AE Zl 3;have A8t:=AB Zl 4 rfl;have A7R:=AE Zl 4;have lR2:=BG Zl);(have A8z:=AB hN2 0 rfl;have A7X:=AE hN2 0;have A8y:=AB hN2 1 rfl;have A7W:=AE hN2 1;have lN2:=BG hN2);go_wp2_with fail
 ·obtain⟨e1,e2⟩:=AV.gh (d:=d) (r:=r) (lo:=lo) (hi:=hi) (a:=a) (g:=g) (k:=k) (h:=h) X.out y U.out Fo;refine IT (v:= .tuple #[.agg #[.int .i64 d,.int .i64 r,.bool true,.int .i64 lo,.int .i64 hi],.int .i64 (AV.rE g d (h-a))]) ?_ rfl (Q2 e1 e2 A9);exact Ig
 ·(have v:AV.PK g d (h-a)<k:=by with_reducible assumption);have e1:=AV.cT (d:=d) (r:=r) (lo:=lo) (hi:=hi) (a:=a) (g:=g) (k:=k) (h:=h) X.out y U.out Fo Ft;refine IT (v:= .tuple #[.agg #[.int .i64 d,.int .i64 r,.bool true,.int .i64 lo,.int .i64 hi],.int .i64 10]) ?_ rfl (Q2 e1 Fj A9);exact Ig
 ·(have z:(AV.rE g d (h-a) !=0)=false:=by with_reducible assumption);(have v:k<=AV.PK g d (h-a):=by with_reducible assumption);(have z':AV.rE g d (h-a)=0:=by simpa using z);obtain⟨_,_,oo,_,_⟩:=AV.A2w (lo:=g) z' Ft Ft Ft h0 h1;obtain⟨n1,n2⟩:=we (A:=AV.Ti lo hi d (h-r)) (B:=AV.PK hi d (h-r)) (k:=k) (H:=AV.PK g d (h-a)) Ft o2 o3 Ft v oo;clear z'
  rcases ZY (min (AV.PK hi d (h-r)) (AV.PK g d (h-a))) (max (AV.Ti lo hi d (h-r)) k) with hv|hv
  ·have E1:=Hd (AV.cT (d:=d) (r:=r) (lo:=lo) (hi:=hi) (a:=a) (g:=g) (k:=k) (h:=h) X.out y U.out z hv);obtain⟨m1,m2,m3⟩:=n1 hv;have MM:=Hd (λW:World=>Z7 (AV.Ti lo hi d (h-r)) (AV.PK hi d (h-r)) k (AV.PK g d (h-a)) W);rw[m1,m2,m3] at MM;clear m1 m2 m3 n1 n2;refine(MM.out _).mono ?_;rintro e w3 ⟨rfl,JZ⟩;(have ZI:=JZ.size;simp at ZI);have Wo:=AH (q:=w.heap.size) Af JZ Cm;have WN:=AH (q:=w.heap.size+1) Af JZ Cm;have Ux:=AH (q:=w.heap.size+1+1) Af JZ Cm;(have hy1:w.heap.size<w3.heap.size:=by omega);(have hy2:w.heap.size+1<w3.heap.size:=by omega);(have hy3:w.heap.size+1+1<w3.heap.size:=by omega);(have A4R:=AB Wo 0 rfl;have A4y:=AE Wo 0;have A4Q:=AB Wo 1 rfl;have A4x:=AE Wo 1;have A4P:=AB Wo 2 rfl;have A4w:=AE Wo 2;have A4O:=AB Wo 3 rfl;have A4v:=AE Wo 3;have A4N:=AB Wo 4 rfl;have A4u:=AE Wo 4;have lC3:=BG Wo);(have A4H:=AB WN 0 rfl;have A4o:=AE WN 0;have A4G:=AB WN 1 rfl;have A4n:=AE WN 1;have A4F:=AB WN 2 rfl;have A4m:=AE WN 2;have A4E:=AB WN 3 rfl;have A4l:=AE WN 3;have lX3:=BG WN);(have A4M:=AB Ux 0 rfl;have A4t:=AE Ux 0;have A4L:=AB Ux 1 rfl;have A4s:=AE Ux 1;have A4K:=AB Ux 2 rfl;have A4r:=AE Ux 2;have A4J:=AB Ux 3 rfl;have A4q:=AE Ux 3;have A4I:=AB Ux 4 rfl;have A4p:=AE Ux 4;have lR3:=BG Ux);go_wp2_with fail;refine IT (v:= .tuple #[.agg #[.int .i64 d,.int .i64 r,.bool true,.int .i64 lo,.int .i64 hi],.int .i64 10]) ?_ rfl (Q2 E1.out Fj A9);exact Ig
  ·have E1:=Hd (AV.A2F (d:=d) (r:=r) (lo:=lo) (hi:=hi) (a:=a) (g:=g) (k:=k) (h:=h) X.out y U.out z hv);have e4:=Hd (show AV.jV d r true lo hi k h=max (AV.Ti lo hi d (h-r)) k by rw[AV.jV,AW rfl]);have e5:=Hd (show AV.mT d r true hi a g h=min (AV.PK hi d (h-r)) (AV.PK g d (h-a)) by rw[AV.mT,AW rfl]);obtain⟨m1,m2,m3⟩:=n2 hv;have MM:=Hd (λW:World=>Z7 (AV.Ti lo hi d (h-r)) (AV.PK hi d (h-r)) k (AV.PK g d (h-a)) W);rw[m1,m2,m3] at MM;clear m1 m2 m3 n1 n2;generalize max (AV.Ti lo hi d (h-r)) k=mx at MM e4;generalize min (AV.PK hi d (h-r)) (AV.PK g d (h-a))=mn at MM e5;refine(MM.out _).mono ?_;rintro e w3 ⟨rfl,JZ⟩;(have ZI:=JZ.size;simp at ZI);have Wo:=AH (q:=w.heap.size) Af JZ Cm;have WN:=AH (q:=w.heap.size+1) Af JZ Cm;have Ux:=AH (q:=w.heap.size+1+1) Af JZ Cm;(have hy1:w.heap.size<w3.heap.size:=by omega);(have hy2:w.heap.size+1<w3.heap.size:=by omega);(have hy3:w.heap.size+1+1<w3.heap.size:=by omega);(have A4R:=AB Wo 0 rfl;have A4y:=AE Wo 0;have A4Q:=AB Wo 1 rfl;have A4x:=AE Wo 1;have A4P:=AB Wo 2 rfl;have A4w:=AE Wo 2;have A4O:=AB Wo 3 rfl;have A4v:=AE Wo 3;have A4N:=AB Wo 4 rfl;have A4u:=AE Wo 4;have lC3:=BG Wo);(have A4H:=AB WN 0 rfl;have A4o:=AE WN 0;have A4G:=AB WN 1 rfl;have A4n:=AE WN 1;have A4F:=AB WN 2 rfl;have A4m:=AE WN 2;have A4E:=AB WN 3 rfl;have A4l:=AE WN 3;have lX3:=BG WN);(have A4M:=AB Ux 0 rfl;have A4t:=AE Ux 0;have A4L:=AB Ux 1 rfl;have A4s:=AE Ux 1;have A4K:=AB Ux 2 rfl;have A4r:=AE Ux 2;have A4J:=AB Ux 3 rfl;have A4q:=AE Ux 3;have A4I:=AB Ux 4 rfl;have A4p:=AE Ux 4;have lR3:=BG Ux);go_wp2_with fail;refine IT (v:= .tuple #[.agg #[.int .i64 d,.int .i64 h,.bool true,.int .i64 mx,.int .i64 mn],.int .i64 0]) ?_ rfl (lJ E1.out e4.out e5.out A9);exact Ig
theorem zZ(d r:Int)(s:Bool)(lo hi a g k h:Int)(w:World)(c:AV.Po d r lo hi)(l0:s=true->0<=lo):
  Calls prog 148 #[.agg #[.int .i64 d,.int .i64 r,.bool s,.int .i64 lo,.int .i64 hi],.agg #[.int .i64 a,.int .i64 g,.int .i64 k,.int .i64 h]] w λe w'=>JA w d r s lo hi a g k h e w':=by
 cases x:AV.XL a g k h with
 |false=>exact zY d r s lo hi a g k h w x
 |true=>
  cases s with
  |false=>exact pT d r lo hi a g k h w x c.1 c.2.1
  |true=>
   by_cases y:h<r
   ·exact pU d r lo hi a g k h w x y
   ·exact vC d r lo hi a g k h w x c (l0 rfl) Ft
end Ck
end
section
open RowKit
set_option maxRecDepth 512
def Ty(w:World)(i:Nat)(e:TypeId):Prop:=∃cs,w.heap[i]?=some (.cells cs e (0,0))
theorem Ty.ne{w:World}{i j:Nat}{e f:TypeId}(h:Ty w i e)(g:Ty w j f)(LX:e≠f):i≠j:=by
 rintro rfl;obtain⟨a,ha⟩:=h;obtain⟨c,hc⟩:=g;rw[ha] at hc;injection hc with hc;injection hc with _ hc;exact LX hc
theorem AG.Ui{w w':World}{b:Nat}(h:AG (λi=>i=b) w w')(o:Nat)(u:Value):AG (λi=>i=b) w (w'.setCell (Ad b o) u):=h.setCell (.inl rfl) u
end
section
open RowKit
section
variable{P:Program}
theorem bw(w:World)(b off:Nat)(ty:TypeId)(l:List Value)(d:TypeDesc)(hg:∀j u,l[j]?=some u->w.cell? (Ad b (off+j))=some u)
  (hu:P.underlying ty=some d)(hd:(match d with| .struct _| .array _ _=>true|_=>false)=true)(hi:(P.info? ty).map (·.size)=some l.length):
  (loadVar ty (Ad b off)).run P w= .ok (.agg l.toArray) w:=by
 have hl:(loadCells (Ad b off) l.length).run P w= .ok l.toArray w:=
  run_loadCells_list (P:=P) w (Ad b off) l (λj v hv=>by rw[CP];exact hg j v hv)
 cases hq:P.info? ty with
 |none=>simp[hq] at hi
 |some i=>
  (have hs:i.size=l.length:=by simpa[hq] using hi);have A9z:(isAgg ty).run P w= .ok true w:=by
   unfold isAgg;rw[eQ,cA hu w]
   cases d<;>simp_all
  simp[loadVar,eQ,A9z,sizeOf,typeInfo,hq,hs,hl]
theorem VI{ops:Array Oper}{S:World->Prop}{o:Oper}{a:Act}(hw:Region.wanted o (yielded ops a.tmps)=true)(ty:TypeId)(x:Operand)(ho:o.op= .load ty x)
  (b off:Nat)(hx:a.eval x= .pointer (some (Ad b off)))(l:List Value)(d:TypeDesc)(hg:∀w,S w->∀j u,l[j]?=some u->w.cell? (Ad b (off+j))=some u)
  (hu:P.underlying ty=some d)(hd:(match d with| .struct _| .array _ _=>true|_=>false)=true)(hi:(P.info? ty).map (·.size)=some l.length):YieldsIf P ops S o (.agg l.toArray) a:=
 Or.inl ⟨hw,λw hS=>by
  unfold execOp;simp only[ho,hx,Instr.loadAt,Instr.sureAddr,eQ,Sem.run_pure,Result.andThen_ok,bw w b off ty l d (hg w hS) hu hd hi]⟩
theorem CW{ops:Array Oper}{S:World->Prop}{o:Oper}{a:Act}(hw:Region.wanted o (yielded ops a.tmps)=true)(ty:TypeId)(x:Operand)(ho:o.op= .load ty x)
  (g:Nat)(hx:a.eval x=Pt g)(t:TypeId)(cs:Array Value)(fr:Nat×Nat)(d:TypeDesc)(hg:∀w,S w->w.heap[g]?=some (.cells cs t fr))
  (hu:P.underlying ty=some d)(hd:(match d with| .struct _| .array _ _=>true|_=>false)=true)(hi:(P.info? ty).map (·.size)=some cs.size):YieldsIf P ops S o (.agg cs) a:=
 Or.inl ⟨hw,λw hS=>by
  unfold execOp;simp only[ho,hx,Instr.loadAt,Instr.sureAddr,eQ,Sem.run_pure,Result.andThen_ok,run_loadVar_row w g t ty cs fr d (hg w hS) hu hd hi]⟩
theorem pO{fn:Func}{p:Tmp}{ty:TypeId}(h:fn.results= #[.cell p ty])(tmps:Array Value)(w:World)(g:Nat)(t:TypeId)(cs:Array Value)(fr:Nat×Nat)(d:TypeDesc)
  (hp:tmps.getD p undef=Pt g)(hg:w.heap[g]?=some (.cells cs t fr))
  (hu:P.underlying ty=some d)(hd:(match d with| .struct _| .array _ _=>true|_=>false)=true)(hi:(P.info? ty).map (·.size)=some cs.size):
  (results fn tmps).run P w= .ok (.agg cs) w:=by
 exact I7
end
theorem ZW{P:Program}{w:World}{a:Addr}{t:TypeId}{v:Value}{d:TypeDesc}(hu:P.underlying t=some d)(hd:(match d with| .struct _| .array _ _=>true|_=>false)=false)(hc:w.cell? a=some v):(loadVar t a).run P w= .ok v w:=by
 have h1:(isAgg t).run P w= .ok false w:=by
  unfold isAgg;rw[eQ,cA hu w]
  cases d<;>simp_all
 unfold loadVar;simp[h1,hc]
theorem bL{P:Program}{fn:Func}{p:Tmp}{t1:TypeId}(h:fn.results= #[.cell p t1])(tmps:Array Value)(w:World)(g1:Nat)(v1:Value)(d1:TypeDesc)
  (h1:tmps.getD p undef=Pt g1)(c1:w.cell? (Ad g1 0)=some v1)(wU:P.underlying t1=some d1)(x8:(match d1 with| .struct _| .array _ _=>true|_=>false)=false):
  (results fn tmps).run P w= .ok v1 w:=by
 (have h1':tmps[p]?.getD undef=Pt g1:=by simpa using h1);simp[results,h,h1',asAddr,ZW wU x8 c1]
end
section
open RowKit Shelf
set_option maxRecDepth 512
def A8H{α:Type}(F:Fence)(n:Nat)(P:Program)(g:Nat)(lb:Array Value)(encs:α->Array Value)(Pr:List α->α->World->Prop)(Kp:World->World->Prop)(S Sp:List α->Prop)(N:Nat)(w:World):Prop:=
 ∀(l:Nat)(J Jx:List α->World->Prop)(W:World),Below w.heap.size w W->OwnFrom W.heap.size J->OwnFrom W.heap.size Jx->
  (∀pre x W1,J pre W1->Pr pre x W1->pre.length<N->YieldAt F (n-1) P l (encs x) W1 λe W'=>(e= .returned (.bool true)/\J (pre++[x]) W'/\Kp W1 W'/\KeepsFrom W.heap.size W1 W')\/(e= .returned (.bool false)/\Jx (pre++[x]) W'/\KeepsFrom W.heap.size W1 W'))->
  J [] W->
  CallsIn F n P g (#[.func (.yield l) #[] #[]]++lb) W λe W'=>(∃v,e= .returned v)/\((∃xs,S xs/\J xs W')\/(∃pre,Sp pre/\Jx pre W'))
theorem KeepsFrom.up{B B':Nat}{W W':World}(h:KeepsFrom B W W')(hB:B<=B'):KeepsFrom B' W W':=⟨h.size,λk o hk=>h.same k o (Lt hB hk)⟩
theorem Pv{B l:Nat}{W:World}{o':Obj}(hl:l<B):KeepsFrom B W (W.putObj l o'):=KeepsFrom.of_grownBy (mr W l o') (λj e=>by cases e;exact hl)
theorem Vl{B:Nat}{W W':World}(hb:Below W.heap.size W W'):KeepsFrom B W W':=⟨hb.size,λk o _ hk _=>(hb.block k (Array.getElem?_eq_some_iff.1 hk).1).trans hk⟩
section
variable{F:Fence}{n:Nat}{P:Program}{α:Type}
def T4(w:World)(rec:LoopState->Option Code->Loop)(st:LoopState)(pe:Option Code)(W:World):Prop:=
 W.heap[w.heap.size+1]?=some (.loop (rec st pe))/\W.heap[w.heap.size]?=some (.deferred (some []))
theorem T4.kG{w W:World}{rec:LoopState->Option Code->Loop}{st st':LoopState}{pe pe':Option Code}(h:T4 w rec st pe W):T4 w rec st' pe' (W.putObj (w.heap.size+1) (.loop (rec st' pe'))):=
 ⟨World.putObj_heap_same (Array.getElem?_eq_some_iff.1 h.1).1,(qa Ft).trans h.2⟩
theorem T4.kept{w W W':World}{rec:LoopState->Option Code->Loop}{st:LoopState}{pe:Option Code}(h:T4 w rec st pe W)(k:KeepsFrom w.heap.size W W'):T4 w rec st pe W':=
 ⟨k.same _ _ Ft h.1 rfl,k.same _ _ (Lr _) h.2 rfl⟩
theorem T4.own{β:Type}{w W1:World}{rec:LoopState->Option Code->Loop}{st:LoopState}{pe:Option Code}(hz:w.heap.size+2<=W1.heap.size):OwnFrom W1.heap.size (λ(_:β) W=>T4 w rec st pe W):=
 λ_ A B row hs hg hr=>⟨(hg.block _ (Array.getElem?_eq_some_iff.1 hs.1).1 (λe=>by have:=(hr _ e.symm).1;omega)).trans hs.1,(hg.block _ (Array.getElem?_eq_some_iff.1 hs.2).1 (λe=>by have:=(hr _ e.symm).1;omega)).trans hs.2⟩
theorem cK{β:Type}{B B':Nat}{I:β->World->Prop}(h:OwnFrom B I)(hB:B<=B'):OwnFrom B' I:=λs A C row hs hg hr=>h s A C row hs hg (λr e=>⟨Lt hB (hr r e).1,(hr r e).2⟩)
def A6x(B:Nat)(Kp:World->World->Prop)(I:List α->World->Prop)(Ix:Code->List α->World->Prop)(xs:List α)(W:World):Exit->Act->World->Prop
 | .normal,_,W'=>KeepsFrom B W W'/\Kp W W'/\I xs W'
 | .ret,_,W'=>KeepsFrom B W W'/\Ix .ret xs W'
 | .exit id,_,W'=>KeepsFrom B W W'/\Ix (.exit id) xs W'
 | .goto t,_,W'=>KeepsFrom B W W'/\Ix (.goto t) xs W'
 | .panic _,_,_=>False
 | .outgrown,_,_=>False
theorem fN{g:Operand}{ps:Array Tmp}{assign body:Code}{Q:Exit->Act->World->Prop}{a:Act}{w:World}
  (hro:F.round=none)(h1:1<=n){gf:Nat}{lb:Array Value}(hg:a.eval g= .func (.func gf) #[] lb)(hFg:F.fn gf)(eg:∀args w,(callFunc gf args).run P w= .ok (.enter gf args) w)
  {encs:α->Array Value}{Pr:List α->α->World->Prop}{Kp:World->World->Prop}{S Sp:List α->Prop}{N:Nat}(Vw:A8H F (n-1) P gf lb encs Pr Kp S Sp N w)
  (hKt:∀{A B C:World},Kp A B->Kp B C->Kp A C)(hKb:∀(W:World)(l:Nat)(o o':Obj),w.heap.size<=l->W.heap[l]?=some o->o.isCells=false->Kp W (W.putObj l o'))(hps:∀x,(encs x).size=ps.size)
  (I:List α->World->Prop)(Ix:Code->List α->World->Prop)(Ax:α->Act->World->Prop)(hI:OwnFrom w.heap.size I)(hIx:∀c,OwnFrom w.heap.size (Ix c))(hPr:∀pre,OwnFrom w.heap.size (Pr pre))(hAx:∀a',OwnFrom w.heap.size (λx W=>Ax x a' W))(h0:I [] w)
  (A36:∀(l:Nat)(pre:List α)(x:α)(W:World)(K:Act->World->Prop),I pre W->Pr pre x W->(∀a' W',KeepsFrom w.heap.size W W'->Kp W W'->I pre W'->Pr pre x W'->Ax x a' W'->K a' W')->
   assign.wpIn (F.inRound l) (n-1-1) P (Exit.then K (λ_ _ _=>False)) {tmps:=(ps.zip (encs x)).foldl (λt (p,v)=>t.setIfInBounds p v) a.tmps,defers:=[]} W)
  (A7w:∀(l:Nat)(pre:List α)(x:α)(a':Act)(W:World),I pre W->Pr pre x W->Ax x a' W->pre.length<N->body.wpIn (F.inRound l) (n-1-1) P (A6x w.heap.size Kp I Ix (pre++[x]) W) a' W)
  (A7q:∀(D:Nat)(xs:List α)(W:World),w.heap.size<=D->S xs->I xs W->W.heap[D]?=some (.deferred (some []))->Q .normal {a with defers:={target:= .collected D,args:= #[]}::a.defers} W)
  (A7a:∀(D:Nat)(c:Code)(pre:List α)(W:World),w.heap.size<=D->Sp pre->Ix c pre W->W.heap[D]?=some (.deferred (some []))->c.wpIn F n P Q {a with defers:={target:= .collected D,args:= #[]}::a.defers} W):
  (Code.rangeFunc g ps assign body).wpIn F n P Q a w:=by
 (refine wpIn_rangeFunc λfn wY=> ?_);rw[hro];(obtain⟨rec,dk⟩:∃rec:LoopState->Option Code->Loop,rec=λst pe=>{state:=st,pending:=pe,fn,tmps:=a.tmps,params:=ps,assign,body,defers:=w.heap.size}:=⟨_,rfl⟩);obtain⟨W1,YT⟩:=BN ((w.alloc (.deferred (some []))).alloc (.loop (rec .ready none)));(have IJ:W1.heap.size=w.heap.size+2:=by rw[YT];simp);(have hbk:T4 w rec .ready none W1:=by rw[YT];exact⟨BK _ _ _ Fu,AI (AM _ _) _⟩);(have hI1:I [] W1:=by rw[YT];exact hI.alloc _ (hI.alloc _ h0));(have BX:Below w.heap.size w W1:=by rw[YT];exact((IH w).alloc (Lr _) _).alloc Fu _);refine⟨w.heap.size+1,[{target:= .collected w.heap.size,args:= #[]}],W1,{target:= .fn (.func gf) lb,args:= #[.func (.yield (w.heap.size+1)) #[] #[]]},W1,gf,#[.func (.yield (w.heap.size+1)) #[] #[]]++lb,W1,?_,?_,?_,?_,λ_=>h1,?_⟩
 ·rw[YT,dk];exact run_enterLoop_outer _ _ _ _ _
 ·simp only[resolve,hg];simp[go_sem]
 ·intro f' X0;simp[Target.leads] at X0;subst X0;exact hFg
 ·simp[invoke,go_sem,eg]
 refine(Vw (w.heap.size+1) (λpre W=>I pre W/\T4 w rec .ready none W) (λpre W=>∃c,Ix c pre W/\T4 w rec .done (some c) W) W1 BX ((cK hI Ft).and (T4.own Ft)) ?_ ?_ ⟨hI1,hbk⟩).mono ?_
 ·rintro s A B row ⟨c,hc,hb⟩ hgr hr;exact⟨c,cK (hIx c) Ft s A B row hc hgr hr,T4.own (β:=Unit) Ft () A B row hb hgr hr⟩
 ·rintro pre x W ⟨hi,hb⟩ hp hlen;have hy:=run_yield (P:=P) (args:=encs x) hb.1 (by rw[dk];exact hps x);rw[dk] at hy;refine⟨fn,_,assign,body,hy,roundIn_of_wpIn wY (A36 _ pre x W _ hi hp ?_)⟩;clear hy;intro a' W2 hkf hkp tE Pp hax;have CB:=hb.kept hkf;refine⟨_,run_beginRound CB.1 (by rw[dk]),?_⟩;(have JZ:T4 w rec .busy none (W2.putObj (w.heap.size+1) (.loop {rec .ready none with state:= .busy})):=by have:=CB.kG (st':= .busy) (pe':=none);rw[dk] at this⊢;exact this);have A0Z:KeepsFrom W1.heap.size W (W2.putObj (w.heap.size+1) (.loop {rec .ready none with state:= .busy})):=(KeepsFrom.up hkf Ft).trans (Pv Ft);have af:Kp W2 (W2.putObj (w.heap.size+1) (.loop {rec .ready none with state:= .busy})):=hKb _ _ _ _ Ft CB.1 rfl;refine wpIn_mono (A7w _ pre x a' _ (hI.putObj _ tE Ft CB.1 rfl) ((hPr pre).putObj (s:=x) _ Pp Ft CB.1 rfl) ((hAx a').putObj (s:=x) _ hax Ft CB.1 rfl) hlen) ?_;generalize W2.putObj (w.heap.size+1) (.loop {rec .ready none with state:= .busy})=W3 at JZ af A0Z⊢;(have fin:∀(jump:Option Code)(W4:World),KeepsFrom w.heap.size W3 W4->(Instr.endRound (w.heap.size+1) jump).run P W4= .ok (.bool jump.isNone) (W4.putObj (w.heap.size+1) (.loop (rec (if jump.isNone then .ready else .done) jump)))/\T4 w rec .busy none W4:=λjump W4 hk=>by have GA:=JZ.kept hk;have:=run_endRound (P:=P) jump GA.1;rw[dk] at this⊢;rw[dk] at GA;exact⟨this,GA⟩);rintro e a4 W4 qK
  cases e with
  |normal=>obtain⟨eE,A9m,hi4⟩:=qK;obtain⟨hr,GA⟩:=fin none W4 eE;exact⟨_,_,hr,.inl ⟨rfl,⟨hI.putObj _ hi4 Ft GA.1 rfl,GA.kG⟩,hKt hkp (hKt af (hKt A9m (hKb _ _ _ _ Ft GA.1 rfl))),A0Z.trans ((KeepsFrom.up eE Ft).trans (Pv Ft))⟩⟩
  |ret=>obtain⟨eE,hi4⟩:=qK;obtain⟨hr,GA⟩:=fin (some .ret) W4 eE;exact⟨_,_,hr,.inr ⟨rfl,⟨.ret,(hIx _).putObj _ hi4 Ft GA.1 rfl,GA.kG⟩,A0Z.trans ((KeepsFrom.up eE Ft).trans (Pv Ft))⟩⟩
  |exit id=>obtain⟨eE,hi4⟩:=qK;obtain⟨hr,GA⟩:=fin (some (.exit id)) W4 eE;exact⟨_,_,hr,.inr ⟨rfl,⟨.exit id,(hIx _).putObj _ hi4 Ft GA.1 rfl,GA.kG⟩,A0Z.trans ((KeepsFrom.up eE Ft).trans (Pv Ft))⟩⟩
  |goto t=>obtain⟨eE,hi4⟩:=qK;obtain⟨hr,GA⟩:=fin (some (.goto t)) W4 eE;exact⟨_,_,hr,.inr ⟨rfl,⟨.goto t,(hIx _).putObj _ hi4 Ft GA.1 rfl,GA.kG⟩,A0Z.trans ((KeepsFrom.up eE Ft).trans (Pv Ft))⟩⟩
  |panic ch=>exact qK.elim
  |outgrown=>exact qK.elim
 ·rintro e W2 ⟨⟨v,rfl⟩,(⟨xs,hS,hi,hb⟩|⟨pre,hSp,c,hi,hb⟩)⟩
  ·have:=run_endLoop (P:=P) hb.1 (by rw[dk];simp);rw[dk] at this;exact⟨none,_,this,A7q _ xs _ (Lr _) hS (hI.putObj _ hi Ft hb.1 rfl) ((qa Ft).trans hb.2)⟩
  ·have:=run_endLoop (P:=P) hb.1 (by rw[dk];simp);rw[dk] at this;exact⟨some c,_,this,A7a _ c pre _ (Lr _) hSp ((hIx c).putObj _ hi Ft hb.1 rfl) ((qa Ft).trans hb.2)⟩
end
section
variable{F:Fence}{n:Nat}{P:Program}{ops:Array Oper}{rest:List Oper}{o:Oper}{a:Act}{w:World}{Q:Exit->Act->World->Prop}
end
theorem vN{β:Type}{B:Nat}{J:β->World->Prop}(hJ:OwnFrom B J){s:β}{W W':World}(h:J s W)(hb:Below W.heap.size W W'):J s W':=
 hJ s W W' none h ⟨hb.os,hb.tape,hb.output,hb.size,λi hi _=>hb.block i hi⟩ (λr e=>by cases e)
end
section
open RowKit
set_option maxRecDepth 512
section
variable{P:Program}{ops:Array Oper}{Q:Exit->Act->World->Prop}{md:Region.Mode}{S:World->Prop}{nd:Nat->Bool}
def PT(P:Program)(md:Region.Mode)(ops:Array Oper)(Q:Exit->Act->World->Prop)(S:World->Prop)(nd:Nat->Bool):Nat->Array Bool->Act->World->Prop
 |0,listed,a,w=>Region.ready md ops listed=[]/\Q .normal a w
 |fuel+1,listed,a,w=>
  (Region.ready md ops listed=[]->Q .normal a w)/\
  ∀i∈Region.ready md ops listed,wpOp P ops Q i (λa' w'=>(nd i=true->S w')/\PT P md ops Q S nd fuel (listed.setIfInBounds i true) a' w') a w
theorem aX:∀(fuel:Nat)(listed:Array Bool)(a:Act)(w:World),PT P md ops Q S nd fuel listed a w->wpAny P md ops Q fuel listed a w
 |0,_,_,_,h=>h
 |fuel+1,_,_,_,h=>⟨h.1,λi hi=>wpOp_mono (λa' w' h'=>aX fuel _ a' w' h'.2) (h.2 i hi)⟩
theorem dG{l:Array Bool}{i j:Nat}(b:Bool)(h:j≠i):(l.setIfInBounds j true).getD i b=l.getD i b:=by
 simp[A05,A0i h]
def YL(md:Region.Mode)(ops:Array Oper)(listed:Array Bool):Prop:=∀j oj,ops[j]?=some oj->listed.getD j false=true->∀e∈oj.after,Region.binds md e=true->listed.getD e.on false=true
def aO(md:Region.Mode)(ops:Array Oper)(listed:Array Bool):Bool:=(List.range ops.size).all λj=>match ops[j]? with
 |some oj=> !(listed.getD j false)||oj.after.all λe=> !(Region.binds md e)||listed.getD e.on false
 |none=>true
theorem YD{listed:Array Bool}(h:aO md ops listed=true):YL md ops listed:=by
 intro j oj hj hl e he hb;(have hjs:j<ops.size:=by exact Ld);have:=List.all_eq_true.1 h j (List.mem_range.2 hjs);rw[hj] at this;simp only[hl,sK,Bool.false_or] at this;have h2:=Array.all_eq_true'.1 this e he;rw[hb] at h2;simpa using h2
theorem YL.step{listed:Array Bool}{j:Nat}{oj:Oper}(h:YL md ops listed)(hj:ops[j]?=some oj)(hr:∀e∈oj.after,Region.binds md e=true->listed.getD e.on false=true):YL md ops (listed.setIfInBounds j true):=by
 intro k ok hk hl e he hb;have up:∀i,listed.getD i false=true->(listed.setIfInBounds j true).getD i false=true:=λi hi=>by
  by_cases hij:i=j
  ·subst hij;have hs:i<listed.size:=by
    rcases Oj i listed.size with g|g
    ·exact g
    ·simp[A05,A03 g] at hi
   simp[A05,Array.getElem?_setIfInBounds_self_of_lt hs]
  ·simpa[A05,A0i (Ne.symm hij)] using hi
 by_cases hkj:k=j
 ·subst hkj;rw[hj] at hk
  cases hk
  exact up _ (hr e he hb)
 ·refine up _ (h k ok hk ?_ e he hb);simpa[A05,A0i (Ne.symm hkj)] using hl
def A3Y(md:Region.Mode)(ops:Array Oper)(k1 k2 i j:Nat):Prop:=Region.waitsFor md ops j k1=true/\Region.waitsFor md ops k1 k2=true/\Region.waitsFor md ops k2 i=true
theorem XS{R:World->Prop}{i:Nat}{oi:Oper}{v:Value}(hi:ops[i]?=some oi)(A7b:∀(j:Nat)(o:Oper) cs b,ops[j]?=some o->o.op≠ .select cs b)
  (hQ:∀c a w,Q (.panic c) (a.put oi.dst v) w->Q (.panic c) a w)(nM:∀w,R w->nd i=true->S w){k1 k2:Nat}:
  ∀(fuel:Nat)(listed:Array Bool)(a:Act)(w:World),YL md ops listed->
   (∀j oj,ops[j]?=some oj->j≠i->listed.getD j true=false->(∀e∈oj.after,Region.binds md e=true->e.on≠i)->oi.apart ops oj=true/\(¬A3Y md ops k1 k2 i j->∀w,(nd j=true->S w)->R w))->
   i∈Region.ready md ops listed->YieldsIf P ops R oi v a->R w->
   PT P md ops Q S nd fuel (listed.setIfInBounds i true) (a.put oi.dst v) w->PT P md ops Q S nd (fuel+1) listed a w:=by
 intro fuel
 induction fuel with
 |zero=>
  intro listed a w GG _ hr hy hS H;refine⟨λh=>(by rw[h] at hr;cases hr),λj hj=> ?_⟩
  by_cases Yp:j=i
  ·subst Yp;exact hy.wpOp hi hS ⟨nM w hS,H⟩
  ·have:=ready_mono hj Yp;rw[H.1] at this
   cases this
 |succ fuel ih=>
  intro listed a w GG Yr hr hy hS H;refine⟨λh=>(by rw[h] at hr;cases hr),λj hj=> ?_⟩
  by_cases Yp:j=i
  ·subst Yp;exact hy.wpOp hi hS ⟨nM w hS,H⟩
  ·have h1:=H.2 j (ready_mono hj Yp);obtain⟨A7m,oj,hoj,fh⟩:=mem_ready.1 hj;have A9h:∀e∈oj.after,Region.binds md e=true->e.on≠i:=λe he hb heq=>by
    have h1:=fh e he hb;have h0:=(mem_ready.1 hr).1;rw[heq] at h1
    rcases Oj i listed.size with h'|h'
    ·simp[h'] at h0 h1;rw[h0] at h1;cases h1
    ·simp[A03 h'] at h1
   have hg:=Yr j oj hoj Yp A7m A9h;have A11:¬A3Y md ops k1 k2 i j:=by
    rintro⟨f1,f2,f3⟩;obtain⟨o1,ho1,e1,he1,BX,YO⟩:=sX f1;obtain⟨o2,ho2,e2,he2,CB,IM⟩:=sX f2;obtain⟨o3,ho3,e3,he3,JZ,hn3⟩:=sX f3;rw[hoj] at ho1
    cases ho1
    have l1:=fh e1 he1 BX;rw[YO] at l1;have l2:=GG k1 o2 ho2 l1 e2 he2 CB;rw[IM] at l2;have l3:=GG k2 o3 ho3 l2 e3 he3 JZ;rw[hn3] at l3;have h0:=(mem_ready.1 hr).1
    rcases Oj i listed.size with h'|h'
    ·simp[h'] at h0 l3;rw[h0] at l3;cases l3
    ·simp[A03 h'] at l3
   have h2:=wpOp_putIf hoj hg.1 (λcs b=>A7b i oi cs b hi) (λcs b=>A7b j oj cs b hoj) hQ hy h1;have hfree':∀k ok,ops[k]?=some ok->k≠i->(listed.setIfInBounds j true).getD k true=false->
     (∀e∈ok.after,Region.binds md e=true->e.on≠i)->oi.apart ops ok=true/\(¬A3Y md ops k1 k2 i k->∀w,(nd k=true->S w)->R w):=λk ok hk hki hun Yo=>by
    refine Yr k ok hk hki ?_ Yo
    by_cases hjk:j=k
    ·subst hjk;exact A7m
    ·rw[dG true hjk] at hun;exact hun
   refine wpOp_mono (λa' w' h3=>⟨h3.2.1,ih (listed.setIfInBounds j true) a' w' (GG.step hoj fh) hfree' (ready_mono hr (Ne.symm Yp)) h3.1 (hg.2 A11 w' h3.2.1) ?_⟩) h2;rw[Array.setIfInBounds_comm _ _ Yp];exact h3.2.2
def A17(md:Region.Mode)(ops:Array Oper)(nd:Nat->Bool)(listed:Array Bool)(k1 k2 i:Nat):Bool:=
 (List.range ops.size).all λj=>decide (j=i)||listed.getD j true||Region.waitsFor md ops j i||nd j||(Region.waitsFor md ops j k1&&Region.waitsFor md ops k1 k2&&Region.waitsFor md ops k2 i)
theorem qZ{listed:Array Bool}{k1 k2 i:Nat}(h:A17 md ops nd listed k1 k2 i=true):∀j oj,ops[j]?=some oj->j≠i->listed.getD j true=false->(∀e∈oj.after,Region.binds md e=true->e.on≠i)->¬A3Y md ops k1 k2 i j->nd j=true:=by
 intro j oj hj Yp hl Yo A11;(have hjs:j<ops.size:=by exact Ld);have:=List.all_eq_true.1 h j (List.mem_range.2 hjs);rw[hl] at this;simp only[Bool.or_eq_true,bY,eS,A07,or_false] at this
 rcases this with((g|g)|g)|⟨⟨g1,g2⟩,g3⟩
 ·exact absurd g Yp
 ·obtain⟨oj',ho,e,he,hb,xY⟩:=sX g;rw[hj] at ho
  cases ho
  exact absurd xY (Yo e he hb)
 ·exact g
 ·exact absurd ⟨g1,g2,g3⟩ A11
theorem EI(k1 k2:Nat){i:Nat}{oi:Oper}{v:Value}{fuel:Nat}{listed:Array Bool}{a:Act}{w:World}(hi:ops[i]?=some oi)
  (hs:Region.noSelect ops=true)(hf:Region.free md ops listed i=true)(hc:aO md ops listed=true)(hg:A17 md ops nd listed k1 k2 i=true)(hr:(Region.ready md ops listed).contains i=true)
  (hQ:∀c a w,Q (.panic c) (a.put oi.dst v) w->Q (.panic c) a w)(hy:YieldsIf P ops S oi v a)(hS:S w)
  (h:PT P md ops Q S nd fuel (listed.setIfInBounds i true) (a.put oi.dst v) w):PT P md ops Q S nd (fuel+1) listed a w:=
 XS (R:=S) (k1:=k1) (k2:=k2) hi (Region.noSelect_spec hs) hQ (λ_ h _=>h) fuel listed a w (YD hc) (λj oj hj Yp hl Yo=>⟨Region.free_spec hi hf j oj hj Yp hl Yo,λA11 w hw=>hw (qZ hg j oj hj Yp hl Yo A11)⟩) (by simpa using hr) hy hS h
theorem DC{i:Nat}{oi:Oper}{v:Value}{fuel:Nat}{listed:Array Bool}{a:Act}{w:World}(hi:ops[i]?=some oi)
  (hs:Region.noSelect ops=true)(hf:Region.free md ops listed i=true)(hc:aO md ops listed=true)(hg:nd i=false)(hr:(Region.ready md ops listed).contains i=true)
  (hQ:∀c a w,Q (.panic c) (a.put oi.dst v) w->Q (.panic c) a w)(hy:YieldsIf P ops (λ_=>True) oi v a)
  (h:PT P md ops Q S nd fuel (listed.setIfInBounds i true) (a.put oi.dst v) w):PT P md ops Q S nd (fuel+1) listed a w:=
 XS (R:=λ_=>True) (k1:=0) (k2:=0) hi (Region.noSelect_spec hs) hQ (λ_ _ h=>by rw[hg] at h;cases h) fuel listed a w (YD hc) (λj oj hj Yp hl Yo=>⟨Region.free_spec hi hf j oj hj Yp hl Yo,λ_ _ _=>trivial⟩) (by simpa using hr) hy trivial h
theorem Td{listed:Array Bool}{a:Act}{w:World}(hr:Region.ready md ops listed=[])(h:Q .normal a w):∀fuel,PT P md ops Q S nd fuel listed a w
 |0=>⟨hr,h⟩
 |_+1=>⟨λ_=>h,by rw[hr];simp⟩
def AU(P:Program)(md:Region.Mode)(ops:Array Oper)(Q:Exit->Act->World->Prop)(S:World->Prop)(nd:Nat->Bool)(fuel:Nat)(listed:Array Bool)(a:Act)(w:World)(rs:List Nat):Prop:=
 ∀i∈rs,wpOp P ops Q i (λa' w'=>(nd i=true->S w')/\PT P md ops Q S nd fuel (listed.setIfInBounds i true) a' w') a w
theorem AU.nil{fuel:Nat}{listed:Array Bool}{a:Act}{w:World}:AU P md ops Q S nd fuel listed a w []:=λ_ h=>by cases h
theorem AU.cons{fuel:Nat}{listed:Array Bool}{a:Act}{w:World}{i:Nat}{o:Oper}{rs:List Nat}(ho:ops[i]?=some o)
  (h:∀K':Act->World->Prop,Shut (∀a w,(nd i=true->S w)->PT P md ops Q S nd fuel (listed.setIfInBounds i true) a w->K' a w)->if Region.wanted o (yielded ops a.tmps)=true then Oper.wp P o a w K' Q else K' (a.put o.dst undef) w)
  (hs:AU P md ops Q S nd fuel listed a w rs):AU P md ops Q S nd fuel listed a w (i::rs):=λj hj=>by
 rcases List.mem_cons.1 hj with rfl|hj
 ·exact wpOp_step ho (λK' hK=>h K' (λa w hS hW=>hK a w ⟨hS,hW⟩))
 ·exact hs j hj
theorem CQ{rs:List Nat}{fuel:Nat}{listed:Array Bool}{a:Act}{w:World}(hr:Region.ready md ops listed=rs)(LX:rs≠[])
 (h:AU P md ops Q S nd fuel listed a w rs):PT P md ops Q S nd (fuel+1) listed a w:=⟨λh0=>absurd (hr▸h0) LX,hr▸h⟩
theorem VJ{id:Nat}{a:Act}{w:World}(hm:P.follows .mixedOrders=true)
 (h:PT P .any ops Q S nd ops.size (Array.replicate ops.size false) a w.drew):(Code.region id ops true).wp P Q a w:=wp_region_any hm (aX _ _ _ _ h)
end
theorem yx{P:Program}{md:Region.Mode}{ops:Array Oper}{Q:Exit->Act->World->Prop}{S:World->Prop}{nd:Nat->Bool}(i:Nat){oi:Oper}{v:Value}{fuel:Nat}{listed:Array Bool}{a:Act}{w:World}{q:Prop}(hS:S w)(h:q)(hi:ops[i]?=some oi:=by rfl)(hs:Region.noSelect ops=true:=by as_aux_lemma=>kernel_rfl)(hf:Region.free md ops listed i=true:=by as_aux_lemma=>kernel_rfl)(hc:aO md ops listed=true:=by as_aux_lemma=>kernel_rfl)(hg:A17 md ops nd listed 0 0 i=true:=by as_aux_lemma=>kernel_rfl)(hr:(Region.ready md ops listed).contains i=true:=by as_aux_lemma=>kernel_rfl)(hQ:∀c a w,Q (.panic c) (a.put oi.dst v) w->Q (.panic c) a w:=by exact λ_ _ _ h=>h)(hy:YieldsIf P ops S oi v a:=by refine Or.inl ⟨by rfl,?_⟩;intro w' b;repeat(have a:=And.left b;replace b:=And.right b);go_simp;(try with_reducible rfl))(f:q->PT P md ops Q S nd fuel (listed.setIfInBounds i true) (a.put oi.dst v) w:=by intro zz;(try simp only[R2,R7,R6,Act.put,Q8,P3,P0]);exact zz):PT P md ops Q S nd (fuel+1) listed a w:=EI 0 0 hi hs hf hc hg hr hQ hy hS (f h)
end
end Go.Proofs.YtdocdgcdldpagaaGreat

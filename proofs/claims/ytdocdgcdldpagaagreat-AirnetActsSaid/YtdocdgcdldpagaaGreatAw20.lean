import Derived.Test.YtdocdgcdldpagaaGreatAw19
open Go.Proofs.Tryz
namespace Go.Proofs.YtdocdgcdldpagaaGreat
set_option maxHeartbeats 64000000
set_option maxRecDepth 100000
set_option linter.all false
section
open RowKit
attribute [local go_sem ↓] wp_at_zero wp_at_succ
theorem FF{P:Program}{w:World}{ops:Array Oper}{o:Oper}{a:Act}{K:Act->World->Prop}{Q:Exit->Act->World->Prop}{E:Prop}(hgd:o.guard=none)(s x:Operand)(t:TypeId)
  (ho:o.op= .call {callee:= .builtin .append,args:= #[s,x],argTypes:= #[t,t]})
  (base:Nat)(e:TypeId)(i:TypeInfo)(z:Value)(size bytes:Nat)(ht:P.underlying t=some (.slice e))(hi:P.info? e=some i)(hz:i.zero=some z)
  (SC:i.size=size)(MB:i.bytes=bytes)(fc:z.cells.size=size)(A:Option Addr)(n c:Nat)(xs:List Value)(hs:a.eval s= .slice A n c)(FZ:Row w base e size A n c xs)
  (ad:Addr)(m d:Nat)(news:List Value)(hx:a.eval x= .slice (some ad) m d)(hl:news.length=m*size)(Tr:∀j u,news[j]?=some u->w.cell? (ad.add j)=some u)(h1:∀u∈news,u.oneCell'=true)(hm:0<m)
  (oT:n+m<=maxLen)(Qj:(n+m)*bytes<=140737488355328)(BJ:base<=w.heap.size)
  (h:∀A' c' w',Row w' base e size A' (n+m) c' (xs++news)->w.grownBy w' (AK A)->(AK A'=AK A\/AK A'=some w.heap.size)->K (a.put o.dst (.slice A' (n+m) c')) w'):
  if Region.wanted o (yielded ops a.tmps)=true then Oper.wp P o a w K Q else E:=by
 (refine K3P ?_;intro hw);exact Xa s x t ho base e i z size bytes ht hi hz SC MB fc A n c xs hs FZ ad m d news hx hl Tr h1 hm oT Qj BJ h
theorem jb:(prog.info? 58).map (λi=>(i.zero,i.size,i.bytes))=some (some (.agg #[Iv 0,Iv 0,Iv 0]),3,24):=by kernel_rfl
section
variable{w w':World}{base b k N:Nat}{m:NM}{s s':Nt.St}
theorem BQ.kH(h:BQ w base b m k s){EA':Option Addr}{ec':Nat}(DJ:s'.st=s.st)(hr:s'.r=s.r)(tI:s'.cr=s.cr)(hcut:s'.cut=s.cut)(kk:AG (λq=>q=b\/AK m.EA=some q) w w')
  (hb:w'.heap[b]?=some (.cells (ql {m with EA:=EA',ec:=ec'} s').toArray 86 (0,0)))(he:Row w' base 58 3 EA' s'.ev.length ec' (UQ s'.ev))(hE:AK EA'=AK m.EA\/∃g,AK EA'=some g/\w.heap.size<=g):Q4 base b m k s' w w':=by
 have hn:∀(q:Nat)(e:TypeId),Ty w q e->e≠86->e≠58->¬(q=b\/AK m.EA=some q):=λq e g h1 h2 hq=>by
  rcases hq with rfl|hq
  ·exact g.ne ⟨_,h.BM⟩ h1 rfl
  ·exact g.ne (h.GM.ty hq) h2 rfl
 refine⟨{m with EA:=EA',ec:=ec'},⟨hb,?_,?_,?_,?_,he,?_,by rw[tI];exact h.len,by rw[tI];exact h.gW,?_,h.ge,h.so⟩,kk.mono (λq _ hq=>hq.elim .inl (λg=> .inr (.inr (.inr (.inr (.inr (.inr (.inl g)))))))),?_,rfl⟩
 ·rw[DJ];exact h.st.kept kk (λq hq=>by rcases h.st.three hq with t|t|t<;>exact hn _ _ t Fj Fj)
 ·rw[hr];exact h.CJ.kept kk (λq hq=>hn _ _ (h.CJ.ty hq) Fj Fj)
 ·rw[hr];exact h.BL.kept kk (λq hq=>hn _ _ (h.BL.ty hq) Fj Fj)
 ·rw[tI];exact h.S1.kept kk (λq hq=>hn _ _ (h.S1.ty hq) Fj Fj)
 ·rw[tI,hr];intro i hi;(have e:Nt.at_ s' i=Nt.at_ s i:=by unfold Nt.at_;rw[tI]);rw[e];exact(h.cr i hi).kept kk (λq hq=>by rcases(h.cr i hi).ty hq with t|t|t|t<;>exact hn _ _ t Fj Fj)
 ·rw[hcut];obtain⟨k',h1,h2⟩:=h.cut;exact⟨k',h1,h2.kept kk (λhq=>by
   rcases hq with hq|hq
   ·exact h2.Ol ⟨_,h.BM⟩ hq.symm
   ·exact h2.Ol (h.GM.ty hq) rfl)⟩
 ·rintro q (hq|hq|hq|hq|hq|hq|hq|hq)
  ·exact .inl (.inl hq)
  ·exact .inl (.inr (.inl hq))
  ·exact .inl (.inr (.inr (.inl hq)))
  ·exact .inl (.inr (.inr (.inr (.inl hq))))
  ·exact .inl (.inr (.inr (.inr (.inr (.inl hq)))))
  ·exact .inl (.inr (.inr (.inr (.inr (.inr (.inl hq))))))
  ·have hq:AK EA'=some q:=hq;exact Jb
  ·exact .inl (.inr (.inr (.inr (.inr (.inr (.inr (.inr hq)))))))
theorem Zo(l:List (Int×Int×Int))(e:Int×Int×Int):UQ (l++[e])=UQ l++jz e:=by simp[UQ]
theorem gg(h:BQ w base b m k s)(hs:Nt.Inv N s)(BJ:base<=w.heap.size)(hN:N<=1000000000000):Calls prog 61 #[Pt b] w λe w'=>e= .returned (.tuple #[])/\Q4 base b m k (Nt.look s) w w':=by
 obtain⟨i0,OU,da,xS,wO⟩:=MQ jb;have ST:=Hd (fC h.st hs.st);(refine K4D ?_;intro ao);have c24:w.cell? (Ad b 24)=some (Iv s.ss):=AB h.BM 24 rfl;have f24:=AE h.BM 24;have HH:=Hd h;have hev:=hs.ev;have QQ:=BG h.BM;clear hs;obtain⟨x,hx⟩:=BN s.st.st;rw[<-hx] at ST;have HX:=Hd hx
 by_cases he:x=s.ss
 ·(have zE:(x !=s.ss)=false:=by simp[he]);have E:=Hd (show Nt.look s=s by unfold Nt.look;rw[AW (by rw[<-hx];exact he)]);clear h he hx;go_enter func61,ntmps61;go_wp2_with (refine ST.out.mono ?_;rintro e w' ⟨rfl,rfl⟩);exact iL (bT rfl _ _ _) rfl ⟨rfl,by rw[E.out];exact Q4.refl HH.out⟩
 ·(have zE:(x !=s.ss)=true:=by simp[he]);have E:=Hd (show Nt.look s={s with ss:=s.st.st,ev:=s.ev++[(s.now,0,s.st.st)]} by unfold Nt.look;rw[AO (by rw[<-hx];exact he)]);have hB:=h.BM;clear h he hx;go_enter func61,ntmps61;go_wp2_with (refine ST.out.mono ?_;rintro e w' ⟨rfl,rfl⟩);have DF:=AP hB 24 (Iv x);have ER:=Hd (HH.out.GM.FY (p:=(Ad b 24)) (λg hg=>by
   have:=(HH.out.GM.ty hg).ne ⟨_,HH.out.BM⟩ Fj;exact this) (Iv x))
  have KW:=Hd ((AG.refl (λq=>q=b\/AK m.EA=some q) w).setCell (p:=(Ad b 24)) (.inl (.inl rfl)) (Iv x));(have eZ:(w.setCell (Ad b 24) (Iv x)).heap.size=w.heap.size:=by simp);obtain⟨s1,Om⟩:∃s1:Nt.St,s1={s with ss:=x}:=⟨_,rfl⟩;(have Q6:(w.setCell (Ad b 24) (Iv x)).heap[b]?=some (.cells (ql m s1).toArray 86 (0,0)):=by rw[Q8] at DF;rw[Om];exact DF);have rR:=Hd Om;clear hB ao c24 f24 DF Om;generalize w.setCell (Ad b 24) (Iv x)=W1 at*;(have c27:W1.cell? (Ad b 27)=some (.slice m.EA s.ev.length m.ec):=by have:W1.cell? (Ad b 27)=some (.slice m.EA s1.ev.length m.ec):=AB Q6 27 rfl;rw[this,rR.out]);(have Pb:W1.cell? (Ad b 21)=some (Iv s.now):=by have:W1.cell? (Ad b 21)=some (Iv s1.now):=AB Q6 21 rfl;rw[this,rR.out]);have f27:=AE Q6 27;have HEB:=Hd (show ∀g,AK m.EA=some g->g≠b from λg hg=>(HH.out.GM.ty hg).ne ⟨_,HH.out.BM⟩ Fj);(have A9w:b<W1.heap.size:=by omega);(have A7u:base<=W1.heap.size:=by omega);have HZW:=Hd eZ;have DF:=Hd Q6;clear Q6 eZ;obtain⟨n,hn⟩:=BN s.ev.length;rw[<-hn] at c27 ER hev;have HN:=Hd hn;clear hn;go_region_law (first|(refine FF rfl (.tmp 22) (.tmp 29) 45 rfl base 58 i0 _ 3 24 underlying45 OU da xS wO rfl m.EA n m.ec (UQ s.ev) rfl Av (Ad W1.heap.size 0) 1 1 [Iv s.now,Iv 0,Iv x] rfl rfl (λj u hu=>by rw[CP,PL];exact AB (l:=[_,_,_]) Bi j hu) E9 Ft Dk Ft F0 ?_;intro pj ec2 w6 CF hg JV;have K6:=Hd (show AG (λi=>AK m.EA=some i) W1 w6 from AG.trans (S':=λi=>AK m.EA=some i) Al (AG.JK hg (λg e=>e)) (λ_ _ h=>h));have kp:=Hd (AR DF.out K6.out (λe=>HEB.out b e rfl));have f6:=AE kp.out 27;have c6:=(show w6.cell? (Ad b 27)=some (.slice m.EA s1.ev.length m.ec) from AB kp.out 27 rfl);have AT:=Hd (show AK pj=AK m.EA\/∃g,AK pj=some g/\W1.heap.size<=g from JV.imp id (λe=>⟨_,e,by simp⟩));have RO:=Hd CF;clear CF hg JV))
  all_goals
   have HSb:=AP kp.out 27 (.slice pj (n+1) ec2);refine iL (bT rfl _ _ _) rfl ⟨rfl,?_⟩;rw[E.out,<-HX.out];refine HH.out.kH (EA':=pj) (ec':=ec2) rfl rfl rfl rfl ((KW.out.trans K6.out (λi _ hi=> .inr hi)).setCell (p:=(Ad b 27)) (.inl (.inl rfl)) _) ?_ ?_ (AT.out.imp id (λ⟨g,e,hg⟩=>⟨g,e,by have:=HZW.out;omega⟩))
   ·rw[Q8] at HSb;rw[HSb,rR.out,HN.out];simp[ql]
   ·rw[Zo,TW,List.length_singleton,<-HN.out];exact Io
end
end
section
set_option maxRecDepth 512
namespace Nt
open Go.RowKit
theorem Inv.bp{N:Nat}{s:St}(h:Inv N s){t:AJ.St}(ht:AJ.Inv t)(hn:t.n=s.st.n):Inv N {s with st:=t}:={h with st:=ht,sn:=hn.trans h.sn}
theorem Inv.look{N:Nat}{s:St}(h:Inv N s):Inv (N+1) (look s):=by
 unfold Nt.look;split
 ·exact h.mono Ft
 ·exact{h.mono (M:=N+1) Ft with ev:=by have:=h.ev;simp only[TW,List.length_singleton];omega}
theorem bP{l:List AN.Q7}(h:∀m∈l,AN.MOk m):∀f∈Qq l,By f.d/\f.d.length<=64:=by
 intro f hf;unfold Qq at hf;obtain⟨m,hm,he⟩:=List.mem_filterMap.1 hf;have hb:=(h m hm).2.2.1;unfold dec at he;split at he
 ·rename_i h0
  injection he with he;subst he;have hl:=AQ.A1x h0;refine⟨λx hx=>hb x (vF (cj hx)),?_⟩;show(AQ.dd m.2).length<=64;rw[AQ.A1v Ft];unfold AQ.dE at h0;split at h0
  ·omega
  ·split at h0
   ·omega
   ·rename_i h1
    have h1:=Classical.not_not.1 h1;unfold AQ.dm;omega
 ·cases he
theorem WO{l:AN.St}(h:AN.Inv l)(now:Int):(∀m∈AN.Vo l now,AN.MOk m)/\(AN.Vo l now).length<=1000:=by
 unfold AN.Vo;split
 ·refine⟨λm hm=>h.2.2.2.1 m (List.mem_filter.1 (AN.iX.1 hm)).1,?_⟩;rw[AN.JU];exact Lt (A0d _ _) h.2.2.1
 ·exact⟨λm hm=>(by cases hm),by simp⟩
theorem bQ(l:List AN.Q7):(Qq l).length<=l.length:=List.length_filterMap_le _ _
theorem Inv.JG{N:Nat}{s:St}(h:Inv N s){f:Fr}(hf:By f.d)(hN:N+1<=1000000000000000):Inv (N+1) (JG s f):=by
 unfold Nt.JG;have ok:=lU s.st h.st s.now h.now f;have h1:=h.bp (t:=AJ.recv s.st s.now f) (AJ.Wg h.st hf) (zG _ _ _);have h2:=h1.FP (l:=AJ.LB s.st s.now f) (λg hg=>by have:=ok.1 g hg;rw[h.sn] at this;exact this) Ft;exact h2.mono Ft
theorem qS(s:St)(f:Fr):(JG s f).cr.length=s.cr.length/\(JG s f).now=s.now/\(JG s f).steps=s.steps/\(JG s f).r=s.r:=by
 unfold JG;have h1:=Qb (AJ.LB s.st s.now f) {s with st:=AJ.recv s.st s.now f};have h2:=Q1 (AJ.LB s.st s.now f) {s with st:=AJ.recv s.st s.now f};exact⟨h1,h2.1,h2.2.1,h2.2.2.1⟩
theorem XB:∀(l:List Fr)(s:St),(l.foldl JG s).cr.length=s.cr.length/\(l.foldl JG s).now=s.now/\(l.foldl JG s).steps=s.steps/\(l.foldl JG s).r=s.r
 |[],s=>⟨rfl,rfl,rfl,rfl⟩
 |f::l,s=>by have h1:=XB l (JG s f);have h2:=qS s f;rw[List.foldl_cons,h1.1,h1.2.1,h1.2.2.1,h1.2.2.2];exact h2
theorem Inv.tG{N:Nat}:∀{l:List Fr}{s:St},Inv N s->(∀f∈l,By f.d)->N+l.length<=1000000000000000->Inv (N+l.length) (l.foldl Nt.JG s)
 |[],s,h,_,_=>h
 |f::l,s,h,hf,hN=>by simp only[List.length_cons] at hN⊢;have h1:=h.JG (hf f (A08 ..)) Ft;have h2:=Inv.tG (l:=l) h1 (λg hg=>hf g (A0b _ hg)) Ft;exact Ln
theorem Po.pQ{N i:Nat}{now:Int}{c:Cr}(h:Po N i c):Po N i {c with up:=AN.recv c.up now}:={h with up:=AN.Wg h.up,us:=by have:=h.us;simp only[fE];exact this}
theorem Po.pR{N i:Nat}{now:Int}{c:Cr}(h:Po N i c):Po N i {c with dn:=AN.recv c.dn now}:={h with dn:=AN.Wg h.dn,ds:=by have:=h.ds;simp only[fE];exact this}
theorem Inv.Zg{N:Nat}{s:St}(h:Inv N s){i:Nat}(hi:i<s.cr.length)(hN:N+1000<=1000000000000000):Inv (N+1000) (Zg s i):=by
 unfold Nt.Zg;have hc:=h.cr i hi;have hg:=WO hc.up s.now;have hl:=bQ (AN.Vo (at_ s i).up s.now);have h1:=(h.put hi (hc.pQ (now:=s.now))).tG (l:=Qq (AN.Vo (at_ s i).up s.now)) (λf hf=>(bP hg.1 f hf).1) Ft;exact h1.mono Ft
theorem wZ(s:St)(i:Nat):(Zg s i).cr.length=s.cr.length/\(Zg s i).now=s.now/\(Zg s i).steps=s.steps/\(Zg s i).r=s.r:=by
 unfold Zg;have h:=XB (Qq (AN.Vo (at_ s i).up s.now)) (put s i {at_ s i with up:=AN.recv (at_ s i).up s.now});rw[JF] at h;exact h
theorem Ya(s:AL.St)(l:Int)(f:Fr):(AL.QY s l f).AZ=s.AZ/\(AL.QY s l f).id=s.id:=by
 unfold AL.QY;split
 ·obtain⟨u,hu⟩:=BN ({AL.T6 s l with heard:=l}:AL.St);(have e:AL.recv s l (AL.MK f)=AL.T6 (AL.take u (AL.MK f)).1 l:=by rw[hu];rfl);(have ur:u.AZ=(AL.T6 s l).AZ:=by rw[hu]);(have ui:u.id=(AL.T6 s l).id:=by rw[hu]);rw[e];have h1:=AL.TX s l;have i1:=AL.VV s l;have h2:=AL.Z0 u (AL.MK f);have h3:=AL.TX (AL.take u (AL.MK f)).1 l;have i3:=AL.VV (AL.take u (AL.MK f)).1 l;clear hu e;constructor<;>omega
 ·exact⟨rfl,rfl⟩
theorem Xd(s:AL.St)(l:Int):(AL.LQ s l).AZ<=s.AZ+1/\(AL.LQ s l).id=s.id:=by
 unfold AL.LQ;split
 ·have h:=AL.TX s l;have hi:=AL.VV s l;unfold AL.tick;split
  ·omega
  ·simp only;omega
 ·omega
theorem Po.A6S{N i:Nat}{l:Int}{c:Cr}(h:Po N i c){f:Fr}(hf:By f.d):Po N i {c with p:=AL.QY c.p l f}:=
 {h with p:=AL.zQ h.p l hf,id:=(Ya c.p l f).2.trans h.id,MO:=by have:=(Ya c.p l f).1;have:=h.MO;simp only;omega}
theorem Inv.MW{N:Nat}{s:St}(h:Inv N s){i:Nat}(hi:i<s.cr.length){f:Fr}(hf:By f.d)(hN:N+1<=1000000000000000):Inv (N+1) (MW i s f):=by
 unfold Nt.MW;have hc:=h.cr i hi;have ok:=sH (at_ s i).p hc.p (n:=s.cr.length) Ei (Sc s i) hf;have h2:=(h.put hi (hc.A6S (l:=Sc s i) hf)).FP (l:=AL.RI (at_ s i).p (Sc s i) f) (λg hg=>by rw[JF];exact ok.1 g hg) Ft;exact h2.mono Ft
theorem gR(i:Nat)(s:St)(f:Fr):(MW i s f).cr.length=s.cr.length/\(MW i s f).now=s.now/\(MW i s f).steps=s.steps/\(MW i s f).r=s.r:=by
 unfold MW;have h1:=Qb (AL.RI (at_ s i).p (Sc s i) f) (put s i {at_ s i with p:=AL.QY (at_ s i).p (Sc s i) f});have h2:=Q1 (AL.RI (at_ s i).p (Sc s i) f) (put s i {at_ s i with p:=AL.QY (at_ s i).p (Sc s i) f});rw[JF] at h1;exact⟨h1,h2.1,h2.2.1,h2.2.2.1⟩
theorem QL(i:Nat):∀(l:List Fr)(s:St),(l.foldl (MW i) s).cr.length=s.cr.length/\(l.foldl (MW i) s).now=s.now/\(l.foldl (MW i) s).steps=s.steps/\(l.foldl (MW i) s).r=s.r
 |[],s=>⟨rfl,rfl,rfl,rfl⟩
 |f::l,s=>by have h1:=QL i l (MW i s f);have h2:=gR i s f;rw[List.foldl_cons,h1.1,h1.2.1,h1.2.2.1,h1.2.2.2];exact h2
theorem Inv.xm{N i:Nat}:∀{l:List Fr}{s:St},Inv N s->i<s.cr.length->(∀f∈l,By f.d)->N+l.length<=1000000000000000->Inv (N+l.length) (l.foldl (Nt.MW i) s)
 |[],s,h,_,_,_=>h
 |f::l,s,h,hi,hf,hN=>by simp only[List.length_cons] at hN⊢;have h1:=h.MW hi (hf f (A08 ..)) Ft;have h2:=Inv.xm (l:=l) h1 (by rw[(gR i s f).1];exact hi) (λg hg=>hf g (A0b _ hg)) Ft;exact Ln
theorem Po.A41{N i:Nat}{l:Int}{c:Cr}(h:Po N i c):Po (N+1) i {c with p:=AL.LQ c.p l}:=
 {h with p:=AL.uF h.p l,id:=(Xd c.p l).2.trans h.id,MO:=by have:=(Xd c.p l).1;have:=h.MO;simp only;omega,us:=by have:=h.us;simp only;omega,ds:=by have:=h.ds;simp only;omega}
theorem Zn(i:Nat)(s:St):(SO i s).cr.length=s.cr.length/\(SO i s).now=s.now/\(SO i s).steps=s.steps/\(SO i s).r=s.r:=by
 unfold SO;have h1:=Qb (AL.DK (at_ s i).p (Sc s i)) (put s i {at_ s i with p:=AL.LQ (at_ s i).p (Sc s i)});have h2:=Q1 (AL.DK (at_ s i).p (Sc s i)) (put s i {at_ s i with p:=AL.LQ (at_ s i).p (Sc s i)});rw[JF] at h1;exact⟨h1,h2.1,h2.2.1,h2.2.2.1⟩
theorem vU(i:Nat)(s:St):(note i s).cr.length=s.cr.length/\(note i s).now=s.now/\(note i s).steps=s.steps/\(note i s).r=s.r:=by
 unfold note;split
 ·exact⟨rfl,rfl,rfl,rfl⟩
 ·exact⟨JF _ _ _,rfl,rfl,rfl⟩
theorem A1f(s:St)(i:Nat):(gS s i).cr.length=s.cr.length/\(gS s i).now=s.now/\(gS s i).steps=s.steps/\(gS s i).r=s.r:=by
 unfold gS;have h1:=QL i (Qq (AN.Vo (at_ s i).dn s.now)) (put s i {at_ s i with dn:=AN.recv (at_ s i).dn s.now});have h2:=Zn i ((Qq (AN.Vo (at_ s i).dn s.now)).foldl (MW i) (put s i {at_ s i with dn:=AN.recv (at_ s i).dn s.now}));have h3:=vU i (SO i ((Qq (AN.Vo (at_ s i).dn s.now)).foldl (MW i) (put s i {at_ s i with dn:=AN.recv (at_ s i).dn s.now})));rw[JF] at h1;rw[h3.1,h3.2.1,h3.2.2.1,h3.2.2.2,h2.1,h2.2.1,h2.2.2.1,h2.2.2.2];exact h1
theorem Inv.SO{N:Nat}{s:St}(h:Inv N s){i:Nat}(hi:i<s.cr.length)(hN:N+2<=1000000000000000):Inv (N+2) (SO i s):=by
 unfold Nt.SO;have hc:=h.cr i hi;have ok:=cH (at_ s i).p hc.p (n:=s.cr.length) Ei (Sc s i);have h2:=((h.mono (M:=N+1) Ft).put hi (hc.A41 (l:=Sc s i))).FP (l:=AL.DK (at_ s i).p (Sc s i)) (λg hg=>by rw[JF];exact ok.1 g hg) Ft;exact h2.mono Ft
theorem Inv.note{N:Nat}{s:St}(h:Inv N s){i:Nat}(hi:i<s.cr.length):Inv (N+1) (note i s):=by
 unfold Nt.note;split
 ·exact h.mono Ft
 ·have hc:=(h.mono (M:=N+1) Ft).cr i hi;have h1:=(h.mono (M:=N+1) Ft).put hi (c:={at_ s i with s:=(at_ s i).p.st}) {hc with};exact{h1 with ev:=by have:=h.ev;simp only[TW,List.length_singleton];omega}
theorem Inv.gS{N:Nat}{s:St}(h:Inv N s){i:Nat}(hi:i<s.cr.length)(hN:N+1003<=1000000000000000):Inv (N+1003) (gS s i):=by
 unfold Nt.gS;have hc:=h.cr i hi;have hg:=WO hc.dn s.now;have hl:=bQ (AN.Vo (at_ s i).dn s.now);have h1:=(h.put hi (hc.pR (now:=s.now))).xm (i:=i) (l:=Qq (AN.Vo (at_ s i).dn s.now)) (by rw[JF];exact hi) (λf hf=>(bP hg.1 f hf).1) Ft;have hl1:=(QL i (Qq (AN.Vo (at_ s i).dn s.now)) (Nt.put s i {at_ s i with dn:=AN.recv (at_ s i).dn s.now})).1;rw[JF] at hl1;have h2:=h1.SO (i:=i) (by rw[hl1];exact hi) Ft;have h3:=h2.note (i:=i) (by rw[(Zn i _).1,hl1];exact hi);exact h3.mono Ft
theorem OV(s:St):∀k,(hears s k).cr.length=s.cr.length/\(hears s k).now=s.now/\(hears s k).steps=s.steps/\(hears s k).r=s.r
 |0=>⟨rfl,rfl,rfl,rfl⟩
 |k+1=>by have h1:=wZ (hears s k) k;have h2:=OV s k;rw[hears,h1.1,h1.2.1,h1.2.2.1,h1.2.2.2];exact h2
theorem SP(s:St):∀k,(LW s k).cr.length=s.cr.length/\(LW s k).now=s.now/\(LW s k).steps=s.steps/\(LW s k).r=s.r
 |0=>⟨rfl,rfl,rfl,rfl⟩
 |k+1=>by have h1:=A1f (LW s k) k;have h2:=SP s k;rw[LW,h1.1,h1.2.1,h1.2.2.1,h1.2.2.2];exact h2
theorem Inv.hears{N:Nat}{s:St}(h:Inv N s)(hN:N+64000<=1000000000000000):∀k,k<=s.cr.length->Inv (N+1000*k) (hears s k)
 |0,_=>h
 |k+1,hk=>by have:=h.n;have h1:=(Inv.hears h hN k Ft).Zg (i:=k) (by rw[(OV s k).1];omega) Ft;rw[Nt.hears,show N+1000*(k+1)=N+1000*k+1000 by omega];exact h1
theorem Inv.LW{N:Nat}{s:St}(h:Inv N s)(hN:N+64192<=1000000000000000):∀k,k<=s.cr.length->Inv (N+1003*k) (LW s k)
 |0,_=>h
 |k+1,hk=>by have:=h.n;have h1:=(Inv.LW h hN k Ft).gS (i:=k) (by rw[(SP s k).1];omega) Ft;rw[Nt.LW,show N+1003*(k+1)=N+1003*k+1003 by omega];exact h1
theorem kL{s:St}(h:FB s=0):s.now+s.r.step<=3600000/\s.steps≠100000:=by
 unfold FB at h;split at h
 ·omega
 ·split at h
  ·omega
  ·omega
def fB(s:St):St:={s with steps:=s.steps+1,now:=s.now+s.r.step,st:=AJ.tick s.st (s.now+s.r.step)}
theorem Inv.fB{N:Nat}{s:St}(h:Inv N s)(he:FB s=0):Inv N (fB s):=by
 have hk:=kL he;have h1:=h.now;have h2:=h.step;have h3:=h.steps;have h4:=h.bp (t:=AJ.tick s.st (s.now+s.r.step)) (AJ.We h.st) (po _ _);exact{h4 with now:=by simp only[Nt.fB];omega,steps:=by simp only[Nt.fB];omega}
theorem Inv.P7{N:Nat}{s:St}(h:Inv N s)(he:FB s=0)(hN:N+64<=1000000000000000):Inv (N+64) (P7 s):=by
 have ok:=bd s.st h.st (s.now+s.r.step);have h2:=(h.fB he).FP (l:=AJ.DK s.st (s.now+s.r.step)) (λg hg=>by have:=ok.1 g hg;rw[h.sn] at this;exact this) Ft;exact h2.mono Ft
theorem TR(s:St):(P7 s).cr.length=s.cr.length:=Qb _ _
theorem Inv.yM{N:Nat}{s:St}(h:Inv N s)(hN:N+200000<=1000000000000000):Inv (N+200000) (Nt.step s):=by
 unfold Nt.step;split
 ·rename_i he
  have hn:=h.n;have h1:=h.P7 he Ft;have e1:=TR s;have h2:=h1.hears Ft s.cr.length Ft;have e2:=(OV (Nt.P7 s) s.cr.length).1;have h3:=h2.look;have e3:(Nt.look (Nt.hears (Nt.P7 s) s.cr.length)).cr.length=s.cr.length:=by
   (have k:∀t:St,(Nt.look t).cr.length=t.cr.length:=by intro t;unfold Nt.look;split<;>rfl);rw[k,e2,e1]
  have h4:=h3.LW Ft s.cr.length Ft;exact h4.mono Ft
 ·exact h.mono Ft
theorem A84{s:St}{k x:Int}(h:Yy s k x=0):(1<=k/\k<=6)/\AJ.BZ s.st k s.now x=0:=by
 unfold Yy at h;split at h
 ·rename_i hk;exact⟨hk,h⟩
 ·omega
theorem Inv.Rq{N:Nat}{s:St}(h:Inv N s)(k x:Int)(hN:N+65<=1000000000000000):Inv (N+65) (Rq s k x):=by
 unfold Nt.Rq;split
 ·rename_i he
  have hk:=(A84 he).1;have ok:=dF s.st h.st k s.now x hk;have h1:=(h.bp (t:=AJ.JP s.st k s.now x) (AJ.Pw h.st hk) (ju _ _ _ _)).FP (l:=AJ.FM s.st k s.now x) (λg hg=>by have:=ok.1 g hg;rw[h.sn] at this;exact this) Ft;exact h1.look.mono Ft
 ·exact h.mono Ft
theorem Inv.Vz{N:Nat}{s:St}(h:Inv N s)(a:Nat)(b:Bool):Inv N (Vz s a b):={h with cut:=by simp only[Nt.Vz,T9];exact h.cut}
end Nt
end
section
open RowKit
attribute [local go_sem ↓] wp_at_zero wp_at_succ
namespace Nt
theorem nE{N:Nat}{s:St}(h:Inv N s){f:Fr}(hf:By f.d):Inv N {s with st:=AJ.recv s.st s.now f}/\(∀g∈AJ.LB s.st s.now f,aB s.cr.length g)/\(AJ.LB s.st s.now f).length<=1:=by
 have ok:=lU s.st h.st s.now h.now f;exact⟨h.bp (t:=AJ.recv s.st s.now f) (AJ.Wg h.st hf) (zG _ _ _),λg hg=>by have:=ok.1 g hg;rw[h.sn] at this;exact this,ok.2⟩
end Nt
theorem IF.at_{w:World}{base n cap:Nat}{A:Option Addr}{l:List Fr}(h:IF w base (.slice A n cap) l){j:Nat}(hj:j<n):∃(g o:Nat)(D:Option Addr)(dc:Nat),A=some (Ad g o)/\g<w.heap.size/\Ty w g 147/\
  w.cell? (Ad g (o+j*5))=some (Iv (l.getD j jw).k)/\w.cell? (Ad g (o+j*5+1))=some (Iv (l.getD j jw).f)/\w.cell? (Ad g (o+j*5+2))=some (Iv (l.getD j jw).t)/\w.cell? (Ad g (o+j*5+3))=some (Iv (l.getD j jw).s)/\
  w.cell? (Ad g (o+j*5+4))=some (.slice D (l.getD j jw).d.length dc)/\Ow w base D (l.getD j jw).d.length dc (l.getD j jw).d:=by
 have hl:=h.len;obtain⟨vs,h1,h2,h3⟩:=h;rw[hl] at h2
 rcases h2.2 with⟨_,h0⟩|⟨g,c,cur,e,_,hh,_⟩
 ·omega
 ·injection e with e1 e2 e3;(subst e1;subst e3);(have hvl:vs.length=n:=by rw[<-hl,<-h1];simp);(have tD:j<vs.length:=by omega);(have hx:l.getD j jw=vs[j].x:=by rw[<-h1];simp[List.getD,Gg tD]);(have hc:∀q u,q<5->(FV.cells vs[j])[q]?=some u->w.cell? (Ad g (j*5+q))=some u:=λq u hq hu=>by have:=sZ h2 (g:=g) (j*5+q) Ft;rw[this,FV.dV vs j q tD hq,hu]);refine⟨g,0,vs[j].A,vs[j].cap,rfl,BG hh,⟨_,hh⟩,?_⟩;rw[hx];refine⟨?_,?_,?_,?_,?_,h3 vs[j] (bZ tD)⟩
  ·have:=hc 0 _ Ft rfl;simpa using this
  ·have:=hc 1 _ Ft rfl;simpa using this
  ·have:=hc 2 _ Ft rfl;simpa using this
  ·have:=hc 3 _ Ft rfl;simpa using this
  ·have:=hc 4 _ Ft rfl;simpa using this
theorem Ow.ty{w:World}{base n cap:Nat}{A:Option Addr}{l:List Int}(h:Ow w base A n cap l):∀a,A=some a->Ty w a.block 5:=by
 intro a ha
 rcases h.form with⟨e,_⟩|⟨g,e,_⟩
 ·rw[e] at ha;cases ha
 ·subst e;injection ha with ha;subst ha;obtain⟨cur,hc,_⟩:=h.block;exact⟨_,hc⟩
def HS(base b k:Nat)(m:NM)(w0:World)(fb:Nat)(v:Value)(L:List Fr)(s:Nt.St)(w:World)(m1:NM):Prop:=BQ w base b m1 k s/\AG (NF b m) w0 w/\NG b m m1 w0.heap.size/\IF w fb v L
section
variable{w w' w0:World}{base b k N fb:Nat}{m m1:NM}{s s':Nt.St}{v:Value}{L:List Fr}
theorem HS.below(h:HS base b k m w0 fb v L s w m1)(g:Below w.heap.size w w'):HS base b k m w0 fb v L s w' m1:=
 ⟨h.1.below g,h.2.1.trans (AG.AS (S:=λ_=>False) g) (λ_ _ h=>h.elim),h.2.2.1,h.2.2.2.below g (Lr _)⟩
theorem HS.to(h:HS base b k m w0 fb v L s w m1)(g:Q4 base b m1 k s' w w'):∃m2,HS base b k m w0 fb v L s' w' m2:=by
 obtain⟨m2,g1,g2,g3⟩:=Q4.trans h.2.1 h.2.2.1 g;obtain⟨_,_,k2,_⟩:=g;exact⟨m2,g1,g2,g3,sE h.1 k2 h.2.2.2⟩
theorem vV(h:BQ w base b m k s)(hs:Nt.Inv N s){i:Nat}(hi:i<s.cr.length)(BJ:base<=w.heap.size)(hN:N+1000<=1000000000000000):
  Calls prog 59 #[Pt b,Iv i] w λe w'=>e= .returned (.tuple #[])/\Q4 base b m k (Nt.Zg s i) w w':=by
 obtain⟨g,o,qY,hTc,d0,d1,d2,d3,_⟩:=h.cells hi;(refine K1Q ?_;intro Ud);(refine K4y ?_;intro Pb);rw[qY] at Ud;have hc:=h.cr i hi;have ki:=hs.cr i hi;have RC:=Hd (ga b base _ _ _ _ _ s.now w Pb hc.up ki.up BJ);have hgm:=Nt.WO ki.up s.now;obtain⟨L,hL⟩:=BN (Nt.Qq (AN.Vo (Nt.at_ s i).up s.now));(refine K43 ?_;intro hLl HLB);obtain⟨s1,Om⟩:=BN (Nt.put s i {Nt.at_ s i with up:=AN.recv (Nt.at_ s i).up s.now});have rR:=Hd (show Nt.Inv N s1 from by rw[Om];exact hs.put hi ki.pQ);have E:=Hd (show Nt.Zg s i=L.foldl Nt.JG s1 from by rw[hL,Om];rfl);have TO:=Hd (show ∀w1:World,VC base (m.cs.getD i Qp).ub (m.cs.getD i Qp).uA (Nt.JQ s.r.up i) (AN.recv (Nt.at_ s i).up s.now) w w1->Q4 base b m k s1 w w1 from λw1 g=>by rw[Om];exact h.yt hi g);(refine K3R ?_;intro ic i0);have QK:=hs.n.2;unfold jK at RC;rw[<-hL] at RC;obtain⟨cm,GC⟩:=BN (m.cs.getD i Qp);rw[<-GC] at RC TO d1;clear h hs hc ki hgm Om hL d0 d2 d3 GC;go_enter func59,ntmps59;go_wp2_with fail;refine RC.out.mono ?_;rintro _ w1 ⟨v,rfl,hR,Xk⟩;obtain⟨m1,n1,n2,n3⟩:=TO.out _ Xk;have IJ:=n2.size;obtain⟨n,hn⟩:=BN L.length;have hH:=Hd (show HS base b k m w w.heap.size v L s1 w1 m1 from⟨n1,n2,n3,hR⟩);obtain⟨A,cap,rfl⟩:=hR.form;rw[<-hn] at hH hLl⊢;have oY:=Hd hn;clear Xk hR n1 n2 n3 hn Pb Ud d1 RC TO hTc;go_wp2_with fail;go_loopw[19] (λs19 wr=>∃(j:Nat)(m2:NM),s19=Iv j/\j<=n/\w.heap.size<=wr.heap.size/\Hid (HS base b k m w w.heap.size (.slice A n cap) L ((L.take j).foldl Nt.JG s1) wr m2)) (λs19 _=>n-(intOf s19).toNat)
 case atStart=>exact⟨0,m1,by go_num,by omega,IJ,hH⟩
 case round=>
  obtain⟨j,m2,rfl,hj,VE,HI⟩:=hrel
  by_cases EK:j<n
  ·(have Yp:(j:Int)<(n:Int):=by omega);(have Wl:j<L.length:=by rw[<-oY.out];exact EK);obtain⟨t,ht⟩:=BN ((L.take j).foldl Nt.JG s1);(refine K3A ?_;intro hlj f hf hfm hfb);(have eB:Nt.Inv (N+j) t:=by rw[ht,<-hlj];have:=rR.out.tG (l:=L.take j) (λf hf=>(HLB.out f (cj hf)).1) Ft;rw[hlj] at this⊢;exact this);have SN:=Hd (show(L.take (j+1)).foldl Nt.JG s1=Nt.FP {t with st:=AJ.recv t.st t.now f} (AJ.LB t.st t.now f) from by
    rw[ht,eV Wl,pV,hf,List.getD,Gg Wl];rfl)
   have Qn:=Nt.nE eB hfb.1;(refine K23 ?_;intro ax Ws gD);rw[<-ht] at HI;obtain⟨gf,of,D,dc,rfl,hgf,ag,q0,q1,q2,q3,q4,Xj⟩:=HI.out.2.2.2.at_ EK;rw[<-hf] at q0 q1 q2 q3 q4 Xj;(have hds:∀a,D=some a->a.block≠m2.sb:=λa ha=>(Xj.ty a ha).ne ⟨_,HI.out.1.st.BM⟩ Fj);have hfd:=hfb.2;have ao:wr.cell? (Ad b 23)=some (Pt m2.sb):=AB HI.out.1.BM 23 rfl;have Pb:wr.cell? (Ad b 21)=some (Iv t.now):=AB HI.out.1.BM 21 rfl;have hbw:=HI.out.1.lt (.inl rfl);have ay:=Hd (show ∀W:World,Below wr.heap.size wr W->Calls prog 103 #[Pt m2.sb,Iv t.now,.agg #[Iv f.k,Iv f.f,Iv f.t,Iv f.s,.slice D f.d.length dc]] W λe w'=>∃(v:Value)(er:Int)(m3:NM),e= .returned (.tuple #[v,Iv er])/\IF w' W.heap.size v (AJ.LB t.st t.now f)/\HS base b k m w w.heap.size (.slice (some (Ad gf of)) n cap) L {t with st:=AJ.recv t.st t.now f} w' m3 from λW hW=>by
    have h1:=HI.out.below hW;refine(zI h1.1.st eB.st t.now f D dc Ft ((Xj.rd.below hW (Lr _)).more hW.size) hds).mono ?_;rintro e w' ⟨v,km,wh,e1,g1,g2,g3,g4⟩;obtain⟨m3,h3⟩:=h1.to (h1.1.pk g1 g2 g4);exact⟨v,_,m3,e1,g3,h3⟩)
   clear Qn eB ht hds Xj ag hfm hfb hf hlj Wl hfd;go_upto_region 3 with fail;(refine K1B ?_;intro Wa ZL bA yF);have a23:=(bA.cell (p:=(Ad b 23)) hbw.2).trans ao;have a21:=(bA.cell (p:=(Ad b 21)) hbw.2).trans Pb;have u0:=AB yF 0 rfl;have u1:=AB yF 1 rfl;have u2:=AB yF 2 rfl;have u3:=AB yF 3 rfl;have u4:=AB yF 4 rfl;clear ZL Pb ao q0 q1 q2 q3 q4 yF;go_region_with (first|(go_at_call 103;refine(ay.out _ Bo).mono ?_;rintro e w5 ⟨v5,er,m5,rfl,Vn,h5⟩;have R5:=Hd Vn;have H5:=Hd h5;clear Vn h5))
   all_goals
    exact Hx
  ·(have hj':j=n:=by omega);subst hj';have E2:=Hd (show L.take j=L by rw[R8 Df]);rw[E2.out] at HI;(refine K3u ?_;intro ik);go_wp2_with fail;exact iL (bT rfl _ _ _) rfl ⟨rfl,m2,by rw[E.out];exact HI.out.1,HI.out.2.1,HI.out.2.2.1⟩
end
namespace Nt
theorem tQ{N:Nat}{s:St}(h:Inv N s){i:Nat}(hi:i<s.cr.length){f:Fr}(hf:By f.d)(l:Int):Inv N (put s i {at_ s i with p:=AL.QY (at_ s i).p l f})/\(∀g∈AL.RI (at_ s i).p l f,aB (put s i {at_ s i with p:=AL.QY (at_ s i).p l f}).cr.length g)/\(AL.RI (at_ s i).p l f).length<=1:=by
 have hc:=h.cr i hi;have ok:=sH (at_ s i).p hc.p (n:=s.cr.length) Ei l hf;exact⟨h.put hi (hc.A6S (l:=l) hf),λg hg=>by rw[JF];exact ok.1 g hg,ok.2⟩
theorem tP{N:Nat}{s:St}(h:Inv N s){i:Nat}(hi:i<s.cr.length)(l:Int):Inv (N+1) (put s i {at_ s i with p:=AL.LQ (at_ s i).p l})/\(∀g∈AL.DK (at_ s i).p l,aB (put s i {at_ s i with p:=AL.LQ (at_ s i).p l}).cr.length g)/\(AL.DK (at_ s i).p l).length<=1:=by
 have hc:=h.cr i hi;have ok:=cH (at_ s i).p hc.p (n:=s.cr.length) Ei l;exact⟨(h.mono (M:=N+1) Ft).put hi hc.A41,λg hg=>by rw[JF];exact ok.1 g hg,ok.2⟩
def Yf(i:Nat)(x:Int)(s:St):St:={s with cr:=s.cr.set i {s.cr.getD i c0 with s:=x},ev:=s.ev++[(s.now,(i:Int)+1,x)]}
theorem A2D{i:Nat}{s:St}{x:Int}(hx:x=(at_ s i).p.st)(h:¬x=(at_ s i).s):note i s=Yf i x s:=by
 subst hx;unfold note;rw[AO h];rfl
theorem A0p{i:Nat}{x:Int}{s:St}(hi:i<s.cr.length)(j:Nat):(at_ (Yf i x s) j).p=(at_ s j).p/\(at_ (Yf i x s) j).up=(at_ s j).up/\(at_ (Yf i x s) j).dn=(at_ s j).dn:=by
 have e:=Ve s i j {at_ s i with s:=x} hi;have e':at_ (Yf i x s) j=at_ (put s i {at_ s i with s:=x}) j:=rfl;rw[e',e];split
 ·rename_i h
  subst h;exact⟨rfl,rfl,rfl⟩
 ·exact⟨rfl,rfl,rfl⟩
theorem A5j{s t:St}(h1:t.now=s.now)(h2:t.r=s.r)(i:Nat):Sc t i=Sc s i:=by unfold Sc;rw[h1,h2]
end Nt
section
variable{w w' w0:World}{base b k N fb:Nat}{m m1:NM}{s s':Nt.St}{v:Value}{L:List Fr}
theorem HS.cells(h:HS base b k m w0 fb v L s w m1){g o i:Nat}(qY:m.CA=some (Ad g o))(hi:i<s.cr.length):Ty w g 108/\w.cell? (Ad g (o+i*4))=some (Pt ((m1.cs.getD i Qp).pb))/\w.cell? (Ad g (o+i*4+2))=some (Pt ((m1.cs.getD i Qp).db))/\w.cell? (Ad g (o+i*4+3))=some (Iv (Nt.at_ s i).s)/\∀j,w.frozen? (Ad g j)=false:=by
 obtain⟨g',o',e,h1,h2,_,h3,h4,h5⟩:=h.1.cells hi;rw[h.2.2.1.CA,qY] at e;injection e with e;injection e with e1 e2;subst e1 e2;exact⟨h1,h2,h3,h4,h5⟩
theorem Row.yT{g o p c n size q:Nat}{e:TypeId}{xs:List Value}(h:Row w base e size (some (Ad g o)) n c xs)(hn:0<n)(hq:q<n*size)(hp:p=o+q)(u:Value):Row (w.setCell (Ad g p) u) base e size (some (Ad g o)) n c (xs.set q u):=by
 obtain⟨g',o',cur,he,hb,_,hh,Xz,GC,Px,OW,_⟩:=h.some_ hn;(injection he with he;injection he with e1 e2);(subst e1;subst e2;subst hp);have XM:=h.1;have hle:n*size<=c*size:=cg _ Xz;refine Row.FK (AP hh (o+q) u) hb Xz GC (by rw[A0e];omega) ?_;apply eT;intro k;rw[VU,TF,iO,A2y,A06];have hxk:∀j,j<n*size->xs[j]?=cur[o+j]?:=λj hj=>by rw[<-OW,VU,AW hj,TF,iO]
 by_cases hk:k<n*size
 ·rw[AW hk]
  by_cases hki:q=k
  ·subst hki;rw[AW rfl,AW rfl,AW Ft,AW Ft]
  ·rw[AO Ft,AO hki,hxk k hk]
 ·rw[AO hk,AO Ft,R3 Ft]
theorem Ow.A9F{n cap:Nat}{A:Option Addr}{l:List Int}(h:Ow w base A n cap l):n<=cap/\cap<=maxLen:=by
 rcases h.form with⟨_,e1,e2⟩|⟨g,_,_,_,h1,h2⟩
 ·omega
 ·exact⟨h1,h2⟩
theorem BQ.A4U(h:BQ w base b m k s){EA':Option Addr}{ec':Nat}(DJ:s'.st=s.st)(hr:s'.r=s.r)(hcut:s'.cut=s.cut)(GG:s'.cr.length=s.cr.length)(JV:∀j,j<s.cr.length->(Nt.at_ s' j).p=(Nt.at_ s j).p/\(Nt.at_ s' j).up=(Nt.at_ s j).up/\(Nt.at_ s' j).dn=(Nt.at_ s j).dn)
  (kk:AG (λq=>q=b\/AK m.EA=some q\/AK m.CA=some q) w w')
  (hb:w'.heap[b]?=some (.cells (ql {m with EA:=EA',ec:=ec'} s').toArray 86 (0,0)))(hc:Row w' base 108 4 m.CA s'.cr.length m.cc (Pk m.cs s'.cr))(he:Row w' base 58 3 EA' s'.ev.length ec' (UQ s'.ev))(hE:AK EA'=AK m.EA\/∃g,AK EA'=some g/\w.heap.size<=g):Q4 base b m k s' w w':=by
 have hn:∀(q:Nat)(e:TypeId),Ty w q e->e≠86->e≠58->e≠108->¬(q=b\/AK m.EA=some q\/AK m.CA=some q):=λq e g h1 h2 h3 hq=>by
  rcases hq with rfl|hq|hq
  ·exact g.ne ⟨_,h.BM⟩ h1 rfl
  ·exact g.ne (h.GM.ty hq) h2 rfl
  ·exact g.ne (h.S1.ty hq) h3 rfl
 refine⟨{m with EA:=EA',ec:=ec'},⟨hb,?_,?_,?_,hc,he,?_,by rw[GG];exact h.len,by rw[GG];exact h.gW,?_,h.ge,h.so⟩,kk.mono (λq _ hq=> ?_),?_,rfl⟩
 ·rw[DJ];exact h.st.kept kk (λq hq=>by rcases h.st.three hq with t|t|t<;>exact hn _ _ t Fj Fj Fj)
 ·rw[hr];exact h.CJ.kept kk (λq hq=>hn _ _ (h.CJ.ty hq) Fj Fj Fj)
 ·rw[hr];exact h.BL.kept kk (λq hq=>hn _ _ (h.BL.ty hq) Fj Fj Fj)
 ·rw[GG,hr];intro i hi;obtain⟨e1,e2,e3⟩:=JV i hi;have hk:=(h.cr i hi).kept kk (λq hq=>by rcases(h.cr i hi).ty hq with t|t|t|t<;>exact hn _ _ t Fj Fj Fj);exact⟨by rw[e1];exact hk.p,by rw[e2];exact hk.up,by rw[e3];exact hk.dn,hk.ne⟩
 ·rw[hcut];obtain⟨k',h1,h2⟩:=h.cut;exact⟨k',h1,h2.kept kk (λhq=>by
   rcases hq with hq|hq|hq
   ·exact h2.Ol ⟨_,h.BM⟩ hq.symm
   ·exact h2.Ol (h.GM.ty hq) rfl
   ·exact h2.Ol (h.S1.ty hq) rfl)⟩
 ·rcases hq with hq|hq|hq
  ·exact .inl hq
  ·exact .inr (.inr (.inr (.inr (.inr (.inr (.inl hq))))))
  ·exact .inr (.inr (.inr (.inr (.inl hq))))
 ·rintro q (hq|hq|hq|hq|hq|hq|hq|hq)
  ·exact .inl (.inl hq)
  ·exact .inl (.inr (.inl hq))
  ·exact .inl (.inr (.inr (.inl hq)))
  ·exact .inl (.inr (.inr (.inr (.inl hq))))
  ·exact .inl (.inr (.inr (.inr (.inr (.inl hq)))))
  ·exact .inl (.inr (.inr (.inr (.inr (.inr (.inl hq))))))
  ·have hq:AK EA'=some q:=hq;exact Jb
  ·exact .inl (.inr (.inr (.inr (.inr (.inr (.inr (.inr hq)))))))
end
section
variable{w w' w0:World}{base b k N fb:Nat}{m m1:NM}{s s':Nt.St}{v:Value}{L:List Fr}
theorem A2U(h:HS base b k m w0 fb v L s w m1)(hs:Nt.Inv N s){i:Nat}(hi:i<s.cr.length)(hN:N<1000000000000000)(l:Int)(f:Fr){B:Nat}{D:Option Addr}{dc:Nat}(Xj:Ow w B D f.d.length dc f.d)(W:World)(hW:Below w.heap.size w W):
  Calls prog 104 #[Pt ((m1.cs.getD i Qp).pb),Iv l,.agg #[Iv f.k,Iv f.f,Iv f.t,Iv f.s,.slice D f.d.length dc]] W λe w'=>∃(v1:Value)(er:Int)(m3:NM),e= .returned (.tuple #[v1,Iv er])/\IF w' W.heap.size v1 (AL.RI (Nt.at_ s i).p l f)/\HS base b k m w0 fb v L (Nt.put s i {Nt.at_ s i with p:=AL.QY (Nt.at_ s i).p l f}) w' m3:=by
 have h1:=h.below hW;have hc:=h.1.cr i hi;have eF:=h1.1.cr i hi;have ki:=hs.cr i hi;have hcd:=Xj.A9F;have hmx:maxLen=9223372036854775807:=rfl;refine(vL eF.p ki.p f.k f.f f.t f.s D f.d.length dc f.d rfl Ft hcd.1 Ft ((Xj.rd.below hW (Lr _)).more hW.size) (λa ha=>⟨(Xj.ty a ha).ne ⟨_,hc.p.BM⟩ Fj,(Xj.ty a ha).ne ⟨_,hc.p.Tc⟩ Fj⟩) (by have:=ki.MO;omega) l).mono ?_;exact L3
theorem A2T(h:HS base b k m w0 fb v L s w m1)(hs:Nt.Inv N s){i:Nat}(hi:i<s.cr.length)(hN:N<1000000000000000)(l:Int)(W:World)(hW:Below w.heap.size w W):
  Calls prog 105 #[Pt ((m1.cs.getD i Qp).pb),Iv l] W λe w'=>∃(v1:Value)(er:Int)(m3:NM),e= .returned (.tuple #[v1,Iv er])/\IF w' W.heap.size v1 (AL.DK (Nt.at_ s i).p l)/\HS base b k m w0 fb v L (Nt.put s i {Nt.at_ s i with p:=AL.LQ (Nt.at_ s i).p l}) w' m3:=by
 have h1:=h.below hW;have eF:=h1.1.cr i hi;have ki:=hs.cr i hi;refine(vJ eF.p ki.p (by have:=ki.MO;omega) l).mono ?_;exact L3
theorem A0r(h:BQ w base b m k s)(hs:Nt.Inv N s){i:Nat}(hi:i<s.cr.length)(BJ:base<=w.heap.size)(hN:N+2000<=1000000000000):
  Calls prog 60 #[Pt b,Iv i] w λe w'=>e= .returned (.tuple #[])/\Q4 base b m k (Nt.gS s i) w w':=by
 obtain⟨i0,A9q,da,xS,wO⟩:=MQ jb;obtain⟨g,o,qY,hTc,_,_,d2,_,_⟩:=h.cells hi;have QK:=hs.n.2;have LO:=Hd (show ∀W:World,Below w.heap.size w W->Calls prog 55 #[Pt b,Iv ((i:Int)+1)] W λe w'=>e= .returned (Iv (Nt.Sc s i))/\∃q,w'=W.drewN q from λW hW=>Xw (h.below hW) hs hi);(refine K1Q ?_;intro Ud);rw[qY] at Ud;(have ic:(i:Int)<(s.cr.length:Int):=by omega);(have ip:(0:Int)<=(i:Int):=by omega);have wi:=GF ((i:Int)+1) Ft;obtain⟨l,hl⟩:=BN (Nt.Sc s i);rw[<-hl] at LO;have oZ:=Hd hl;have HH:=Hd h;have HSV:=Hd hs;(have XA:g<w.heap.size:=by obtain⟨_,hh⟩:=hTc;exact BG hh);have HI:=Hd hi;have HCA:=Hd qY;clear h hs hTc hl hi qY d2;go_enter func60,ntmps60;go_upto_region 0 with fail;go_quiet ((go_at_call 55;exact Calls.quiet_of (LO.out _ (below_drewN (IH _) _))));generalize YT:World.drewN _ _=W1;(have b1:Below w.heap.size w W1:=by rw[<-YT];exact below_drewN (IH _) _);have IJ:=b1.size;have H1:=Hd (show HS base b k m w w.heap.size (.slice none 0 0) [] s W1 m from⟨HH.out.below b1,AG.AS b1,NG.refl,IF.nil _ _⟩);have GG:=H1.out.cells HCA.out HI.out;obtain⟨_,_,d2,_,_⟩:=GG;have Pb:W1.cell? (Ad b 21)=some (Iv s.now):=AB H1.out.1.BM 21 rfl;have hc:=H1.out.1.cr i HI.out;have ki:=HSV.out.cr i HI.out;have RC:=Hd (ga b base _ _ _ _ _ s.now W1 Pb hc.dn ki.dn Ft);have hgm:=Nt.WO ki.dn s.now;obtain⟨L,hL⟩:=BN (Nt.Qq (AN.Vo (Nt.at_ s i).dn s.now));(refine K43 ?_;intro hLl HLB);obtain⟨s1,Om⟩:=BN (Nt.put s i {Nt.at_ s i with dn:=AN.recv (Nt.at_ s i).dn s.now});have rR:=Hd (show Nt.Inv N s1 from by rw[Om];exact HSV.out.put HI.out ki.pR);have E:=Hd (show Nt.gS s i=Nt.note i (Nt.SO i (L.foldl (Nt.MW i) s1)) from by rw[hL,Om];rfl);have SL:=Hd (show s1.cr.length=s.cr.length/\s1.now=s.now/\s1.r=s.r from by rw[Om];exact⟨Nt.JF _ _ _,rfl,rfl⟩);have TO:=Hd (show ∀w1:World,VC base (m.cs.getD i Qp).db (m.cs.getD i Qp).dA (Nt.JQ s.r.dn i) (AN.recv (Nt.at_ s i).dn s.now) W1 w1->Q4 base b m k s1 W1 w1 from λw1 g=>by rw[Om];exact H1.out.1.yu HI.out g);unfold jK at RC;rw[<-hL] at RC;obtain⟨cm,GC⟩:=BN (m.cs.getD i Qp);rw[<-GC] at RC TO d2;clear hc ki hgm Om hL GC YT b1 LO Ud Pb ic ip;go_wp2_with fail;refine RC.out.mono ?_;rintro _ w1 ⟨v,rfl,hR,Xk⟩;obtain⟨m1,h1⟩:=H1.out.to (TO.out _ Xk);have Ot:=h1.2.1.size;obtain⟨n,hn⟩:=BN L.length;have hH:=Hd (show HS base b k m w W1.heap.size v L s1 w1 m1 from⟨h1.1,h1.2.1,h1.2.2.1,hR⟩);obtain⟨A,cap,rfl⟩:=hR.form;rw[<-hn] at hH hLl⊢;have oY:=Hd hn;clear Xk hR h1 hn d2 RC TO H1;go_wp2_with fail;go_loopw[30] (λs30 wr=>∃(j:Nat)(m2:NM),s30=Iv j/\j<=n/\w.heap.size<=wr.heap.size/\Hid (HS base b k m w W1.heap.size (.slice A n cap) L ((L.take j).foldl (Nt.MW i) s1) wr m2)) (λs30 _=>n-(intOf s30).toNat)
 case atStart=>exact⟨0,m1,by go_num,by omega,Ot,hH⟩
 case round=>
  obtain⟨j,m2,rfl,hj,VE,HR⟩:=hrel
  by_cases EK:j<n
  ·(have Yp:(j:Int)<(n:Int):=by omega);(have Wl:j<L.length:=by rw[<-oY.out];exact EK);obtain⟨t,ht⟩:=BN ((L.take j).foldl (Nt.MW i) s1);(refine K3A ?_;intro hlj f hf hfm hfb);(have hi1:i<s1.cr.length:=by rw[SL.out.1];exact HI.out);(have eB:Nt.Inv (N+j) t:=by rw[ht,<-hlj];have:=rR.out.xm (l:=L.take j) hi1 (λf hf=>(HLB.out f (cj hf)).1) Ft;rw[hlj] at this⊢;exact this);have XN:=Nt.QL i (L.take j) s1;rw[<-ht] at XN;(refine K45 ?_;intro hit TP);have SN:=Hd (show(L.take (j+1)).foldl (Nt.MW i) s1=Nt.FP (Nt.put t i {Nt.at_ t i with p:=AL.QY (Nt.at_ t i).p l f}) (AL.RI (Nt.at_ t i).p l f) from by
    rw[eV Wl,pV,<-ht,<-TP,hf,List.getD,Gg Wl];rfl)
   have Qn:=Nt.tQ eB hit hfb.1 l;(refine K23 ?_;intro ax Ws gD);rw[<-ht] at HR;obtain⟨gf,of,D,dc,rfl,hgf,ag,q0,q1,q2,q3,q4,Xj⟩:=HR.out.2.2.2.at_ EK;rw[<-hf] at q0 q1 q2 q3 q4 Xj;have GG:=HR.out.cells HCA.out hit;obtain⟨⟨_,XO⟩,d0,_,_,_⟩:=GG;have A5z:=BG XO;have ay:=Hd (A2U HR.out eB hit Ft l f Xj);obtain⟨pb,hpb⟩:=BN ((m2.cs.getD i Qp).pb);rw[<-hpb] at d0 ay;clear Qn eB ht Xj ag hfm hfb hf hlj Wl hpb XN TP hit hi1 XO;go_upto_region 4 with fail;(refine K1B ?_;intro Wa ZL bA yF);have a0:=(bA.cell (p:=(Ad g (o+i*4))) A5z).trans d0;have u0:=AB yF 0 rfl;have u1:=AB yF 1 rfl;have u2:=AB yF 2 rfl;have u3:=AB yF 3 rfl;have u4:=AB yF 4 rfl;clear ZL d0 q0 q1 q2 q3 q4 yF;go_region_with (first|(go_at_call 104;refine(ay.out _ Bo).mono ?_;rintro e w5 ⟨v5,er,m5,rfl,Vn,h5⟩;have R5:=Hd Vn;have H5:=Hd h5;clear Vn h5))
   all_goals
    exact Hx
  ·(have hj':j=n:=by omega);subst hj';have E2:=Hd (show L.take j=L by rw[R8 Df]);rw[E2.out] at HR;(refine K3u ?_;intro ik);obtain⟨t,ht⟩:=BN (L.foldl (Nt.MW i) s1);(have hi1:i<s1.cr.length:=by rw[SL.out.1];exact HI.out);(have eB:Nt.Inv (N+j) t:=by have:=rR.out.xm (l:=L) hi1 (λf hf=>(HLB.out f hf).1) (by have:=oY.out;omega);rw[ht];rw[<-oY.out] at this;exact this);have XN:=Nt.QL i L s1;rw[<-ht] at XN;(refine K45 ?_;intro hit TP);have FT:=Hd (show Nt.gS s i=Nt.note i (Nt.FP (Nt.put t i {Nt.at_ t i with p:=AL.LQ (Nt.at_ t i).p l}) (AL.DK (Nt.at_ t i).p l)) from by rw[E.out,<-ht,<-TP];rfl);have Qn:=Nt.tP eB hit l;obtain⟨t1,ht1⟩:=BN (Nt.put t i {Nt.at_ t i with p:=AL.LQ (Nt.at_ t i).p l});rw[<-ht] at HR;have ay:=Hd (A2T HR.out eB hit Ft l);rw[<-ht1] at Qn FT ay;(refine K23 ?_;intro ax Ws gD);have GG:=HR.out.cells HCA.out hit;obtain⟨⟨_,XO⟩,d0,_,_,_⟩:=GG;have A5z:=BG XO;obtain⟨pb,hpb⟩:=BN ((m2.cs.getD i Qp).pb);rw[<-hpb] at d0 ay;(have A7n:i<t1.cr.length:=by rw[ht1,Nt.JF];exact hit);obtain⟨fr,Rv⟩:=BN (AL.DK (Nt.at_ t i).p l);rw[<-Rv] at ay Ws FT gD;obtain⟨t2,ht2⟩:=BN (Nt.FP t1 fr);(have A5x:Nt.Inv (N+j+1+fr.length) t2:=by rw[ht2];exact ax.out.FP Ws.out Ft);(have wW:i<t2.cr.length:=by rw[ht2,Nt.Qb];exact A7n);(have hev:t2.ev.length+1<=1000000000000:=by have:=A5x.ev;omega);rw[<-ht2] at FT;clear Qn eB ht hpb XN TP hit hi1 XO E HLB oZ rR;go_wp2_with fail;refine(ay.out wr (IH _)).mono ?_;rintro e w3 ⟨v3,er,m3,rfl,hr3,h3⟩;have SD:=Hd (WJ h3.1 ax.out Ws.out hr3 (Lt BJ h3.2.1.size) Ft Ft);have H3:=Hd h3;clear hr3 h3 d0 ay;go_wp2_with fail;refine SD.out.mono ?_;rintro e w4 ⟨rfl,aI⟩;rw[<-ht2] at aI;obtain⟨m4,h4⟩:=H3.out.to aI;have H4:=Hd h4;have QP:=h4.2.1.size;have GG:=h4.cells HCA.out wW;obtain⟨hTg,d0,d2,d3,hfz⟩:=GG;have PS:=Hd (cC (h4.1.cr i wW).p (A5x.cr i wW).p);obtain⟨pb4,A7f⟩:=BN ((m4.cs.getD i Qp).pb);rw[<-A7f] at d0 PS;obtain⟨x,hx⟩:=BN ((Nt.at_ t2 i).p.st);obtain⟨y,hy⟩:=BN ((Nt.at_ t2 i).s);rw[<-hx] at PS;rw[<-hy] at d3;clear aI h4 A7f SD H3 ax Ws d2 gD A7n ht2 ht1 Rv
   by_cases oL:x=y
   ·(have zE:(x !=y)=false:=by simp[oL]);have EN:=Hd (show Nt.gS s i=t2 from by rw[FT.out];unfold Nt.note;rw[AW (by rw[<-hx,<-hy];exact oL)]);clear hx hy oL;go_wp2_with (refine PS.out.mono ?_;rintro e w5 ⟨rfl,rfl⟩);exact iL (bT rfl _ _ _) rfl ⟨rfl,m4,by rw[EN.out];exact H4.out.1,H4.out.2.1,H4.out.2.2.1⟩
   ·(have zE:(x !=y)=true:=by simp[oL]);have EN:=Hd (show Nt.gS s i=Nt.Yf i x t2 from by rw[FT.out];exact Nt.A2D hx (by rw[<-hy];exact oL));clear hx hy oL;go_wp2_with (refine PS.out.mono ?_;rintro e w5 ⟨rfl,rfl⟩);have A37:m4.CA=some (Ad g o):=H4.out.2.2.1.CA.trans HCA.out;have XO:g≠b:=hTg.ne ⟨_,H4.out.1.BM⟩ Fj;obtain⟨s5,hs5⟩:=BN (Nt.Yf i x t2);(have A7s:s5.cr=t2.cr.set i {t2.cr.getD i Nt.c0 with s:=x}:=by rw[hs5];rfl);(have hn5:0<t2.cr.length:=by omega);have CR:=Hd (show Row (w4.setCell (Ad g (o+i*4+3)) (Iv x)) base 108 4 (some (Ad g o)) s5.cr.length m4.cc (Pk m4.cs s5.cr) from by
     have h0:=H4.out.1.S1;rw[A37] at h0;have:=h0.yT hn5 (q:=i*4+3) (p:=o+i*4+3) Ft Ft (Iv x);rw[A7s,T9,A1C _ _ _ _ H4.out.1.len wW];exact this)
    have ER:=Hd (H4.out.1.GM.FY (p:=(Ad g (o+i*4+3))) (λq hq=>((H4.out.1.GM.ty hq).ne hTg Fj:q≠g)) (Iv x));have KW:=Hd ((AG.refl (λq=>q=b\/AK m4.EA=some q\/AK m4.CA=some q) w4).setCell (p:=(Ad g (o+i*4+3))) (.inl (.inr (.inr (by rw[A37];rfl)))) (Iv x));have Q6:=AR H4.out.1.BM ((AG.refl (λq=>q=g) w4).setCell (p:=(Ad g (o+i*4+3))) (.inl rfl) (Iv x)) (λe=>XO e.symm);(have eZ:(w4.setCell (Ad g (o+i*4+3)) (Iv x)).heap.size=w4.heap.size:=by simp);have HGE:=Hd (show ∀q,AK m4.EA=some q->q≠g from λq hq=>(H4.out.1.GM.ty hq).ne hTg Fj);have HEB:=Hd (show ∀q,AK m4.EA=some q->q≠b from λq hq=>(H4.out.1.GM.ty hq).ne ⟨_,H4.out.1.BM⟩ Fj);have HS5:=Hd hs5;have A9W:=Hd A37;have HGB:=Hd XO;have A9v:=BG H4.out.1.BM;have im:=Hd wW;clear hTg hfz d0 d3 PS hs5 A37 XO A7s A5x wW hn5 zE hj QK XA A5z hLl ik IJ Ot;generalize w4.setCell (Ad g (o+i*4+3)) (Iv x)=W5 at*;have c27:W5.cell? (Ad b 27)=some (.slice m4.EA t2.ev.length m4.ec):=AB Q6 27 rfl;have Pb:W5.cell? (Ad b 21)=some (Iv t2.now):=AB Q6 21 rfl;have f27:=AE Q6 27;(have A9w:b<W5.heap.size:=by omega);(have A7u:base<=W5.heap.size:=by omega);have HZW:=Hd eZ;have DF:=Hd Q6;obtain⟨q,hq⟩:=BN t2.ev.length;rw[<-hq] at c27 ER hev;have HQ:=Hd hq;clear Q6 eZ hq A9v QP;go_region_law (first|(refine FF rfl (.tmp 79) (.tmp 88) 45 rfl base 58 i0 _ 3 24 underlying45 A9q da xS wO rfl m4.EA q m4.ec (UQ t2.ev) rfl Av (Ad W5.heap.size 0) 1 1 [Iv t2.now,Iv ((i:Int)+1),Iv x] rfl rfl (λj u hu=>by rw[CP,PL];exact AB (l:=[_,_,_]) Bi j hu) E9 Ft Dk Ft F0 ?_;intro pj ec2 w6 CF hg JV;have K6:=Hd (show AG (λi=>AK m4.EA=some i) W5 w6 from AG.trans (S':=λi=>AK m4.EA=some i) Al (AG.JK hg (λg e=>e)) (λ_ _ h=>h));have kp:=Hd (AR DF.out K6.out (λe=>HEB.out b e rfl));have f6:=AE kp.out 27;have c6:=(show w6.cell? (Ad b 27)=some (.slice m4.EA t2.ev.length m4.ec) from AB kp.out 27 rfl);have AT:=Hd (show AK pj=AK m4.EA\/∃g,AK pj=some g/\W5.heap.size<=g from JV.imp id (λe=>⟨_,e,by simp⟩));have RO:=Hd CF;clear CF hg JV))
    all_goals
     have HSb:=AP kp.out 27 (.slice pj (q+1) ec2);refine iL (bT rfl _ _ _) rfl ⟨rfl,?_⟩;rw[EN.out];refine Q4.trans H4.out.2.1 H4.out.2.2.1 (H4.out.1.A4U (s':=Nt.Yf i x t2) (EA':=pj) (ec':=ec2) rfl rfl rfl T9 (λj _=>Nt.A0p im.out j) ((KW.out.trans K6.out (λi _ hi=> .inr (.inl hi))).setCell (p:=(Ad b 27)) (.inl (.inl rfl)) _) ?_ ?_ ?_ (AT.out.imp id (λ⟨g,e,hg⟩=>⟨g,e,by have:=HZW.out;omega⟩)))
     ·rw[Q8] at HSb;rw[HSb,HQ.out];simp[ql,Nt.Yf]
     ·rw[A9W.out,<-HS5.out];exact(CR.out.kept K6.out (λg' Yq hE=>HGE.out g' hE (by injection Yq with Yq;exact Yq.symm))).FY (p:=(Ad b 27)) (λg' Yq=>by injection Yq with Yq;rw[<-Yq];exact HGB.out) _
     ·show Row _ base _ 3 pj (t2.ev++[(t2.now,(i:Int)+1,x)]).length ec2 (UQ (t2.ev++[(t2.now,(i:Int)+1,x)]));rw[Zo,TW,List.length_singleton,<-HQ.out];exact Io
end
namespace Nt
theorem yO{N:Nat}{s:St}(h:Inv N s)(he:FB s=0):Inv N {s with steps:=s.steps+1,now:=s.now+s.r.step,st:=AJ.tick s.st (s.now+s.r.step)}/\(∀g∈AJ.DK s.st (s.now+s.r.step),aB s.cr.length g)/\(AJ.DK s.st (s.now+s.r.step)).length<=64:=by
 have ok:=bd s.st h.st (s.now+s.r.step);exact⟨h.fB he,λg hg=>by have:=ok.1 g hg;rw[h.sn] at this;exact this,ok.2⟩
def pt(s:St):Nat->St
 |0=>s
 |1=>look (hears s s.cr.length)
 |_=>LW (look (hears s s.cr.length)) s.cr.length
end Nt
section
variable{w w' w0:World}{base b k N fb:Nat}{m m1:NM}{s s':Nt.St}{v:Value}{L:List Fr}
theorem A2X:∀(fn:Fn)(first cap:Array Value)(w:World),(Instr.makeFunc fn first cap).run prog w= .ok (.func fn first cap) w:=λ_ _ _ _=>rfl
theorem A0o(h:BQ w base b m k s)(hs:Nt.Inv N s){e:Int}(he:Nt.FB s=e)(h0:e≠0):
  Calls prog 24 #[Pt b] w λx w'=>x= .returned (Iv e)/\Q4 base b m k s w w':=by
 (refine K15 ?_;intro NO Pb);have aQ:w.cell? (Ad b 22)=some (Iv s.steps):=AB h.BM 22 rfl;have c2:w.cell? (Ad b 2)=some (Iv s.r.step):=AB h.BM 2 rfl;have hnw:=hs.now;have DJ:=hs.step;have zw:=GF (s.now+s.r.step) Ft;obtain⟨a,ha⟩:=BN (s.now+s.r.step);rw[<-ha] at zw;have HH:=Hd h
 by_cases h1:3600000<a
 ·(have ee:e=3:=by rw[<-he];unfold Nt.FB;rw[AW Ft]);(have z1:decide (3600000<a)=true:=by simp[h1]);subst ee;clear h hs he h0 h1 hnw DJ aQ;go_enter func24,ntmps24;go_wp2_with (refine NO.out.mono ?_;rintro e w' ⟨rfl,rfl⟩);rw[ha] at zw z1;go_quiet (fail);go_wp2_with fail;go_ret;exact⟨rfl,Q4.AS HH.out Bl⟩
 ·have h7:s.steps=100000:=by
   unfold Nt.FB at he;rw[AO Ft] at he;split at he
   ·assumption
   ·exact absurd he.symm h0
  (have ee:e=7:=by rw[<-he];unfold Nt.FB;rw[AO Ft,AW h7]);(have z1:decide (3600000<a)=false:=by simp;omega);rw[h7] at aQ;subst ee;clear h hs he h0 h1 hnw DJ h7;go_enter func24,ntmps24;go_wp2_with (refine NO.out.mono ?_;rintro e w' ⟨rfl,rfl⟩);rw[ha] at zw z1;go_quiet (fail);have bq:=below_drewN (QZ w.heap.size w);go_wp2_with fail;go_ret;exact⟨rfl,Q4.AS HH.out Bl⟩
theorem A0Q(h:HS base b k m w0 fb v L s w m1)(DJ:AJ.Inv s.st)(BJ:base<=w.heap.size)(W:World)(hW:Below w.heap.size w W):
  Calls prog 57 #[Pt m1.sb,Iv s.now] W λe w'=>∃(v1:Value)(er:Int)(m3:NM),e= .returned (.tuple #[v1,Iv er])/\IF w' W.heap.size v1 (AJ.DK s.st s.now)/\HS base b k m w0 fb v L {s with st:=AJ.tick s.st s.now} w' m3:=by
 have h1:=h.below hW;refine(yA h1.1.st DJ s.now (Lt BJ hW.size)).mono ?_;rintro e w' ⟨v1,km,wh,e1,g1,g2,g3,g4⟩;obtain⟨m3,h3⟩:=h1.to (h1.1.pk g1 g2 g4);exact⟨v1,_,m3,e1,g3,h3⟩
theorem vQ(h:BQ w base b m k s)(hs:Nt.Inv N s)(he:Nt.FB s=0)(BJ:base<=w.heap.size)(hN:N+200000<=1000000000000):
  Calls prog 24 #[Pt b] w λx w'=>x= .returned (Iv 0)/\Q4 base b m k (Nt.step s) w w':=by
 have hmf:= @A2X;(refine K15 ?_;intro NO Pb);have aQ:w.cell? (Ad b 22)=some (Iv s.steps):=AB h.BM 22 rfl;have c2:w.cell? (Ad b 2)=some (Iv s.r.step):=AB h.BM 2 rfl;have f21:=AE h.BM 21;have f22:=AE h.BM 22;have hnw:=hs.now;have DJ:=hs.step;have hsp:=hs.steps;have QK:=hs.n.2;have hsE:=Nt.kL he;have zw:=GF (s.now+s.r.step) Ft;have zw2:=GF (s.steps+1) Ft;(have z1:decide (3600000<s.now+s.r.step)=false:=by simp;omega);(have z2:(s.steps==100000)=false:=by simp[hsE.2]);have HH:=Hd h;have HSV:=Hd hs;obtain⟨n,hn⟩:=BN s.cr.length;have HN:=Hd hn;have Qn:=Nt.yO hs he;have E0:=Hd (show Nt.P7 s=Nt.FP {s with steps:=s.steps+1,now:=s.now+s.r.step,st:=AJ.tick s.st (s.now+s.r.step)} (AJ.DK s.st (s.now+s.r.step)) from rfl);have ES:=Hd (show Nt.step s=Nt.pt (Nt.P7 s) 2 from by unfold Nt.step;rw[AW he];show _=Nt.LW (Nt.look (Nt.hears (Nt.P7 s) (Nt.P7 s).cr.length)) (Nt.P7 s).cr.length;rw[Nt.TR]);have IV0:=Hd (hs.P7 he Ft);have hB:=h.BM;clear h hs hnw DJ hsp he hsE hn;go_enter func24,ntmps24;go_wp2_with (refine NO.out.mono ?_;rintro e w' ⟨rfl,rfl⟩);go_quiet (fail);go_upto_region 7 with fail;generalize YT:World.drewN _ _=W1;(have b1:Below w.heap.size w W1:=by rw[<-YT];exact below_drewN (IH _) _);have Q6:=GH hB b1;have H1:=Hd (HH.out.below b1);have DF:=Hd b1;have Pb:W1.cell? (Ad b 21)=some (Iv s.now):=AB Q6 21 rfl;have aQ:W1.cell? (Ad b 22)=some (Iv s.steps):=AB Q6 22 rfl;have c2:W1.cell? (Ad b 2)=some (Iv s.r.step):=AB Q6 2 rfl;have f21:=AE Q6 21;have f22:=AE Q6 22;clear YT b1 hB NO;go_upto_region 8 with fail;have YU:=AP Q6 22 (Iv (s.steps+1));rw[Q8] at YU;have K2:=Hd ((AG.refl (λq=>q=b) W1).setCell (p:=(Ad b 22)) (.inl rfl) (Iv (s.steps+1)));generalize W1.setCell (Ad b 22) (Iv (s.steps+1))=W2 at*;have hB2':W2.heap[b]?=some (.cells (ql m {s with steps:=s.steps+1}).toArray 86 (0,0)):=YU;have d21:W2.cell? (Ad b 21)=some (Iv s.now):=AB hB2' 21 rfl;have d2:W2.cell? (Ad b 2)=some (Iv s.r.step):=AB hB2' 2 rfl;have e21:=AE hB2' 21;clear YU Pb aQ c2 f21 f22;go_cut[0] from 36 to 93 (λs0 wx=>s0=Pt b/\wx.heap[b]?=some (.cells (ql m {s with steps:=s.steps+1,now:=s.now+s.r.step}).toArray 86 (0,0))/\AG (λq=>q=b) W2 wx)
 case first=>
  go_region;go_wp2_with fail;go_meet;refine⟨rfl,?_,?_⟩
  ·have:=AP hB2' 21 (Iv (s.now+s.r.step));exact Ik
  ·first|exact((AG.refl (λq=>q=b) W2).setCell (p:=(Ad b 21)) (.inl rfl) (Iv (s.now+s.r.step))).drew|exact(AG.refl (λq=>q=b) W2).setCell (p:=(Ad b 21)) (.inl rfl) (Iv (s.now+s.r.step))
 case rest=>
  obtain⟨rfl,hB3,kl⟩:=hcut;obtain⟨sA,hsA⟩:∃sA:Nt.St,sA={s with steps:=s.steps+1,now:=s.now+s.r.step,st:=AJ.tick s.st (s.now+s.r.step)}:=⟨_,rfl⟩;(have LX:∀q,AK m.EA=some q->¬q=b:=λq hq=>(H1.out.GM.ty hq).ne ⟨_,H1.out.BM⟩ Fj);have k3:=K2.out.trans kl (λi _ hi=>hi);have nt:=H1.out.kH (s':={s with steps:=s.steps+1,now:=s.now+s.r.step}) (EA':=m.EA) (ec':=m.ec) rfl rfl rfl rfl (k3.mono (λq _ h=> .inl h)) hB3 (H1.out.GM.kept k3 LX) (.inl rfl);obtain⟨m3,h3⟩:=HS.to (w0:=w) (fb:=0) (v:= .slice none 0 0) (L:=[]) (m:=m) ⟨H1.out,AG.AS DF.out,NG.refl,IF.nil _ _⟩ nt;have TK:=Hd (A0Q h3 HSV.out.st (Lt BJ h3.2.1.size));have XD:wc.cell? (Ad b 23)=some (Pt m3.sb):=AB h3.1.BM 23 rfl;have e21:wc.cell? (Ad b 21)=some (Iv (s.now+s.r.step)):=AB h3.1.BM 21 rfl;rw[<-hsA] at Qn E0;obtain⟨fr,Rv⟩:=BN (AJ.DK s.st (s.now+s.r.step));rw[<-Rv] at Qn E0;have ax:=Hd Qn.1;have Ws:=Hd (show ∀g∈fr,Nt.aB sA.cr.length g from by rw[hsA];exact Qn.2.1);have gD:=Qn.2.2;have TK2:=Hd (show ∀W:World,Below wc.heap.size wc W->Calls prog 57 #[Pt m3.sb,Iv (s.now+s.r.step)] W λe w'=>∃(v1:Value)(er:Int)(m4:NM),e= .returned (.tuple #[v1,Iv er])/\IF w' 0 v1 fr/\HS base b k m w 0 (.slice none 0 0) [] sA w' m4 from λW hW=>(TK.out W hW).mono (λe w' ⟨v1,er,m4,h1,h2,h3⟩=>⟨v1,er,m4,h1,by rw[Rv];exact h2.more (Pe _),by rw[hsA];exact h3⟩));clear Qn hsA Rv nt k3 LX h3 TK hB3 kl hB2' H1 K2 HSV d21 d2 zw zw2 z1 z2;go_upto_region 9 with fail;go_cut[3] from 3 to 93 (λv3 wx=>∃m4:NM,Hid (IF wx 0 v3 fr)/\Hid (HS base b k m w 0 (.slice none 0 0) [] sA wx m4))
  case first=>
   go_region_with (first|(go_at_call 57;refine(TK2.out _ (by first|exact below_drewN (IH wc) _|exact(IH wc).drew|exact QZ _ wc)).mono ?_;rintro e w5 ⟨v5,er,m5,rfl,Vn,h5⟩;have R5:=Hd Vn;have H5:=Hd h5;clear Vn h5))
   all_goals(go_wp2_with fail;go_meet;exact⟨m5,R5,H5⟩)
  case rest=>
   obtain⟨m4,R4,H4⟩:=hcut;have SD:=Hd (WJ H4.out.1 ax.out Ws.out R4.out (Lt BJ H4.out.2.1.size) Ft Ft);rw[<-E0.out] at SD;clear TK2 XD e21 Ws gD;go_wp2_with (refine SD.out.mono ?_;rintro e w5 ⟨rfl,aI⟩;obtain⟨m5,h5⟩:=H4.out.to aI;have H5:=Hd h5;have jW:=h5.2.1.size;clear h5 aI);generalize hW6:World.alloc _ _=W6;(have b6:Below w5.heap.size w5 W6:=by rw[<-hW6];exact(IH w5).alloc (Lr _) _);(have y6:W6.heap[w5.heap.size]?=some (.cells #[.func (Fn.func 59) #[Pt b] #[],.func (Fn.func 60) #[Pt b] #[]] 119 (0,0)):=by rw[<-hW6];exact AM _ _);obtain⟨s0,tB⟩:=BN (Nt.P7 s);(have dv:s0.cr.length=n:=by rw[tB,Nt.TR,HN.out]);rw[<-tB] at H5 IV0 ES;have H6:=Hd (show HS base b k m5 W6 0 (.slice none 0 0) [] (Nt.pt s0 0) W6 m5 from⟨H5.out.1.below b6,AG.refl _ _,NG.refl,IF.nil _ _⟩);have Vh:=Hd b6;have Y0:=Hd y6;have Xi:w.heap.size<=W6.heap.size:=Lt jW b6.size;have IV:=IV0;have HN0:=Hd dv;obtain⟨sL,hsL⟩:=BN (Nt.look (Nt.hears s0 n));(have hn64':n<=64:=by rw[HN.out];exact QK);have IVL:=Hd (show Nt.Inv (N+70000) sL/\sL.cr.length=n from by
    rw[hsL];have h1:=(IV.out.hears Ft n (by rw[dv];exact Lr _)).look;refine⟨h1.mono Ft,?_⟩;(have e:∀t:Nt.St,(Nt.look t).cr.length=t.cr.length:=by intro t;unfold Nt.look;split<;>rfl);rw[e,(Nt.OV s0 n).1,dv])
   have HL:=Hd hsL;have E1:=Hd (show Nt.pt s0 1=sL from by rw[hsL,<-dv];rfl);clear hW6 b6 y6 tB hsL dv SD E0 ax R4 H4 IV0 QK;go_loopw[71] (λs71 wr=>∃(x:Int)(q:Nat)(m6:NM),s71=Iv x/\x=(q:Int)/\q<=2/\W6.heap.size<=wr.heap.size/\Hid (wr.heap[w5.heap.size]?=some (.cells #[.func (Fn.func 59) #[Pt b] #[],.func (Fn.func 60) #[Pt b] #[]] 119 (0,0)))/\Hid (HS base b k m5 W6 0 (.slice none 0 0) [] (Nt.pt s0 q) wr m6)) (λs71 _=>2-(intOf s71).toNat)
   case atStart=>exact⟨0,0,m5,rfl,rfl,by omega,Lr _,Y0,H6⟩
   case round=>
    obtain⟨x,q,m6,rfl,hx,hq,VE,Y6,HR⟩:=hrel;clear Y0 H6;obtain rfl|rfl|rfl:q=0\/q=1\/q=2:=by omega
    ·(obtain rfl:x=0:=by omega);clear hx hq;have HR:Hid (HS base b k m5 W6 0 (.slice none 0 0) [] (Nt.hears s0 0) wr m6):=HR;(have Ud:wr.cell? (Ad b 25)=some (.slice m6.CA n m6.cc):=by have:=AB HR.out.1.BM 25 rfl;rw[this,show(Nt.hears s0 0).cr.length=n from HN0.out]);have g0:wr.cell? (Ad w5.heap.size 0)=some (.func (Fn.func 59) #[Pt b] #[]):=AB (l:=[_,_]) Y6.out 0 rfl;have QQ:=BG HR.out.1.BM;go_upto_region 14 with fail;(refine K4A ?_;intro Wa ZL bA);(have yP:Wa.heap[wr.heap.size]?=some (.cells #[.func (Fn.func 59) #[Pt b] #[]] 119 (0,0)):=by rw[<-ZL];exact AM _ _);have YP:=Hd yP;have Y7:=Hd (GH Y6.out bA);have HA:=Hd (HR.out.below bA);have a25:=(bA.cell (p:=(Ad b 25)) QQ).trans Ud;have da:=Lt VE bA.size;clear ZL bA yP Ud g0 QQ Y6 HR VE;go_wp2_with fail;go_loopw[81] (λs81 ws=>∃(j:Nat)(m7:NM),s81=Iv j/\j<=n/\W6.heap.size<=ws.heap.size/\Hid (ws.heap[wr.heap.size]?=some (.cells #[.func (Fn.func 59) #[Pt b] #[]] 119 (0,0)))/\Hid (ws.heap[w5.heap.size]?=some (.cells #[.func (Fn.func 59) #[Pt b] #[],.func (Fn.func 60) #[Pt b] #[]] 119 (0,0)))/\Hid (HS base b k m5 W6 0 (.slice none 0 0) [] (Nt.hears s0 j) ws m7)) (λs81 _=>n-(intOf s81).toNat)
     case atStart=>exact⟨0,m6,by go_num,by omega,da,YP,Y7,HA⟩
     case round=>
      obtain⟨j,m7,rfl,hj,fc,Y8,Y9,HI⟩:=hrel
      by_cases EK:j<n
      ·(have Yp:(j:Int)<(n:Int):=by omega);have g1:=AB (l:=[_]) Y8.out 0 rfl;have XN:=And.intro (IV.out.hears Ft j (by rw[HN0.out];omega)) ((Nt.OV s0 j).1.trans HN0.out);have CL:=Hd (vV HI.out.1 XN.1 (i:=j) (by rw[XN.2];exact EK) (Lt BJ (Lt Xi fc)) Ft);exact Hp
      ·(have hj':j=n:=by omega);subst hj';(refine K3u ?_;intro ik);have XN:=And.intro (IV.out.hears Ft j (by rw[HN0.out];exact Lr _)) (Nt.OV s0 j).1;have LK:=Hd (gg HI.out.1 XN.1 (Lt BJ (Lt Xi fc)) Ft);clear XN;go_wp2_with (refine LK.out.mono ?_;rintro e w8 ⟨rfl,aI⟩;obtain⟨m8,h8⟩:=HI.out.to aI;have H8:=Hd h8;have hz8:=h8.2.1.size;have YB:=Hd (let ⟨_,_,kk,_⟩:=aI;AR Y9.out kk (HI.out.1.au ⟨_,Y9.out⟩ Es));clear h8 aI);go_roundw
       case rel=>exact⟨1,1,m8,rfl,rfl,by omega,hz8,YB,Hd (by show HS _ _ _ _ _ _ _ _ (Nt.look (Nt.hears s0 s0.cr.length)) _ _;rw[HN0.out];exact H8.out)⟩
       case measure=>simp[intOf]
    ·(obtain rfl:x=1:=by omega);clear hx hq;have HR:Hid (HS base b k m5 W6 0 (.slice none 0 0) [] (Nt.LW sL 0) wr m6):=Hd (by have:=HR.out;rw[E1.out] at this;exact this);(have Ud:wr.cell? (Ad b 25)=some (.slice m6.CA n m6.cc):=by have:=AB HR.out.1.BM 25 rfl;rw[this,show(Nt.LW sL 0).cr.length=n from IVL.out.2]);have g0:wr.cell? (Ad w5.heap.size 1)=some (.func (Fn.func 60) #[Pt b] #[]):=AB (l:=[_,_]) Y6.out 1 rfl;have QQ:=BG HR.out.1.BM;go_upto_region 14 with fail;(refine K4A ?_;intro Wa ZL bA);(have yP:Wa.heap[wr.heap.size]?=some (.cells #[.func (Fn.func 60) #[Pt b] #[]] 119 (0,0)):=by rw[<-ZL];exact AM _ _);have YP:=Hd yP;have Y7:=Hd (GH Y6.out bA);have HA:=Hd (HR.out.below bA);have a25:=(bA.cell (p:=(Ad b 25)) QQ).trans Ud;have da:=Lt VE bA.size;clear ZL bA yP Ud g0 QQ Y6 HR VE;go_wp2_with fail;go_loopw[81] (λs81 ws=>∃(j:Nat)(m7:NM),s81=Iv j/\j<=n/\W6.heap.size<=ws.heap.size/\Hid (ws.heap[wr.heap.size]?=some (.cells #[.func (Fn.func 60) #[Pt b] #[]] 119 (0,0)))/\Hid (ws.heap[w5.heap.size]?=some (.cells #[.func (Fn.func 59) #[Pt b] #[],.func (Fn.func 60) #[Pt b] #[]] 119 (0,0)))/\Hid (HS base b k m5 W6 0 (.slice none 0 0) [] (Nt.LW sL j) ws m7)) (λs81 _=>n-(intOf s81).toNat)
     case atStart=>exact⟨0,m6,by go_num,by omega,da,YP,Y7,HA⟩
     case round=>
      obtain⟨j,m7,rfl,hj,fc,Y8,Y9,HI⟩:=hrel
      by_cases EK:j<n
      ·(have Yp:(j:Int)<(n:Int):=by omega);have g1:=AB (l:=[_]) Y8.out 0 rfl;have XN:=And.intro (IVL.out.1.LW Ft j (by rw[IVL.out.2];omega)) ((Nt.SP sL j).1.trans IVL.out.2);have CL:=Hd (A0r HI.out.1 XN.1 (i:=j) (by rw[XN.2];exact EK) (Lt BJ (Lt Xi fc)) Ft);exact Hp
      ·(have hj':j=n:=by omega);subst hj';(refine K3u ?_;intro ik);go_wp2_with fail;go_roundw
       case rel=>exact⟨2,2,m7,rfl,rfl,by omega,fc,Y9,Hd (by show HS _ _ _ _ _ _ _ _ (Nt.LW (Nt.look (Nt.hears s0 s0.cr.length)) s0.cr.length) _ _;rw[HN0.out];exact HL.out▸HI.out)⟩
       case measure=>simp[intOf]
    ·(obtain rfl:x=2:=by omega);clear hx hq;go_wp2_with fail;go_ret;exact⟨rfl,by rw[ES.out];exact Q4.trans H5.out.2.1 H5.out.2.2.1 (Q4.trans (m:=m5) (m1:=m5) (AG.AS Vh.out) NG.refl ⟨m6,HR.out.1,HR.out.2.1,HR.out.2.2.1⟩)⟩
theorem fZ(h:BQ w base b m k s)(hs:Nt.Inv N s)(BJ:base<=w.heap.size)(hN:N+200000<=1000000000000):
  Calls prog 24 #[Pt b] w λx w'=>x= .returned (Iv (Nt.FB s))/\Q4 base b m k (Nt.step s) w w':=by
 by_cases he:Nt.FB s=0
 ·rw[he];exact vQ h hs he BJ hN
 ·(have e:Nt.step s=s:=by unfold Nt.step;rw[AO he]);rw[e];exact A0o h hs rfl he
end
end
end Go.Proofs.YtdocdgcdldpagaaGreat

import Derived.Test.YtdocdgcdldpagaaGreatAw16
open Go.Proofs.Tryz
namespace Go.Proofs.YtdocdgcdldpagaaGreat
set_option maxHeartbeats 64000000
set_option maxRecDepth 100000
set_option linter.all false
section
open RowKit
attribute [local go_sem ↓] wp_at_zero wp_at_succ
theorem fH(s:AL.St)(l:Int)(w:World):
  Calls prog 119 #[.agg (LJ s).toArray,Iv l] w (IL (Iv (AL.OK s l)) w):=by
 by_cases hi: -1073741824<=l/\l<=1073741824
 case neg=>have W:=Hd (λW:World=>yZ l (-1073741824) 1073741824 W hi);have E:=Hd (show AL.OK s l=3 by unfold AL.OK;rw[AO (λh=>hi (Ck.AV.EP.1 h.1))]);clear hi;go_enter func119,ntmps119;go_upto_region 1 with fail;(refine Ko ?_;intro V hV);(refine K40 ?_;intro k0);(refine Kb ?_;intro HB);(refine K1E ?_;clear hV k0;intro c12 ie);go_wp2_with fail;refine K4e ?_;go_wp2_with fail;go_ret;exact⟨JL E.out.symm,HB.out⟩
 have W:=Hd (λW:World=>iG l (-1073741824) 1073741824 W hi);have tE:=Ck.AV.EP.2 hi
 cases hb:s.begun
 ·have E:=Hd (show AL.OK s l=0 by unfold AL.OK;rw[AW ⟨tE,λh=>by rw[hb] at h;cases h⟩]);have aA:=Hd hb;clear hi tE hb;exact Hj
 ·have aA:=Hd hb
  by_cases hl:s.now<=l
  ·have E:=Hd (show AL.OK s l=0 by unfold AL.OK;rw[AW ⟨tE,λ_=>hl⟩]);have z1:decide (l<s.now)=false:=ME Ft;clear hi tE hb hl;exact Hj
  ·have E:=Hd (show AL.OK s l=3 by unfold AL.OK;rw[AO (λh=>hl (h.2 hb))]);have z1:decide (l<s.now)=true:=IU Ft;clear hi tE hb hl;exact Hj
def TI(R:AL.St×Bool)(w:World)(e:Ending)(w':World):Prop:=e= .returned (.tuple #[.agg (LJ R.1).toArray,.bool R.2])/\Below w.heap.size w w'
theorem z45(s:AL.St):((s.st==4)=true/\(s.st==5)=false)\/((s.st==4)=false/\(s.st==5)=true)\/((s.st==4)=false/\(s.st==5)=false):=by
 by_cases h:s.st=4
 ·left;exact⟨by rw[h];rfl,by rw[h];rfl⟩
 ·right
  by_cases g:s.st=5
  ·left;exact⟨by rw[g];rfl,by rw[g];rfl⟩
  ·right;exact⟨by rw[Bf];exact h,by rw[Bf];exact g⟩
theorem o0(s:AL.St)(x:Int)(h:AL.rh x=true->s.st≠x->s.given=false/\s.start=0):AL.QR s x s.now=Qh s x:=by
 unfold AL.QR Qh;split
 ·rfl
 ·rename_i LX
  cases hf:AL.rh x
  ·rfl
  ·obtain⟨h1,h2⟩:=h hf LX;obtain⟨id,lost,ret,desc,late,every,d,r,cs,lo,hi,st,begun,Pf,given,asked,now,heard,since,prog,start,AZ,MO,q⟩:=s;simp only at h1 h2;subst h1 h2;rfl
theorem A1o(s:AL.St)(x:Int)(hf:AL.rh x=true)(LX:s.st≠x):AL.QR s x s.now={Qh s x with given:=false,start:=0}:=by
 unfold AL.QR Qh;rw[AO LX,AO LX,hf];rfl
theorem jA(s:AL.St)(x:Int)(hf:AL.rh x=false):AL.QR s x s.now=Qh s x:=by
 unfold AL.QR Qh;rw[hf];rfl
def jL(s':AL.St)(fr:List Fr)(er:Int)(w:World)(e:Ending)(w':World):Prop:=
 ∃v,e= .returned (.tuple #[.agg (LJ s').toArray,v,Iv er])/\IF w' w.heap.size v fr/\Below w.heap.size w w'
theorem uT(s:AL.St)(hs:AL.Inv s)(RV:s.AZ<1000000000000000)(now:Int)(w:World):
  Calls prog 88 #[.agg (LJ s).toArray,Iv now] w (jL (AL.LQ s now) (AL.DK s now) (AL.OK s now) w):=by
 have TM:=Hd (fH s now)
 rcases AL.Ug s now with he|he
 case inr=>(refine K41 ?_;intro ES);have E:=Hd he;rw[he] at TM;clear he hs RV;go_enter func88,ntmps88;go_upto_region 1 with fail;(refine Ko ?_;intro V hV);(refine K2v ?_;intro k0 k2);(refine Kb ?_;intro HB);clear hV;go_wp2_with (first|(refine JS rfl 101 _ rfl _ rfl 101 _ (0,0) _ k0 underlying101 rfl Ff ?_));(refine K1I ?_;clear k0 k2 HB;intro W1 k0 k2 HB);exact Gt
 case inl=>
 have hl:=(AL.Uf he).1;(refine K3x ?_;intro p hp eC jg);have PA:=Hd (λ(W:World)=>by have:=Z3 s hs hl W;rw[<-hp] at this;exact this);have h1:=eC.MO;have h2:=eC.every;have h3:=eC.rp;have h4:=eC.st;have wr:=GF (p.MO+p.every) Ft;rw[he] at TM⊢
 cases ha:AL.asks p now
 case true=>have ES:=Hd (show AL.LQ s now=p/\AL.DK s now=[] by have:=fz he Ed;rw[<-hp] at this;exact this);unfold AL.asks at ha;rw[eS] at ha;have z1:decide (0<p.AZ)=true:=IU ha.1;have z2:decide (now<p.MO+p.every)=true:=IU Ft;clear ha he hs RV hp eC jg hl h1 h2 h3 h4;go_enter func88,ntmps88;go_upto_region 1 with fail;(refine Ko ?_;intro V hV);(refine K2v ?_;intro k0 k2);(refine Kb ?_;intro HB);clear hV;go_wp2_with (first|(refine JS rfl 101 _ rfl _ rfl 101 _ (0,0) _ k0 underlying101 rfl Ff ?_));(refine K1I ?_;clear k0 k2 HB;intro W1 k0 k2 HB);(go_wp2_with (first|(refine JS rfl 101 _ rfl _ rfl 101 _ (0,0) _ k0 underlying101 rfl Ff ?_)));refine(PA.out _).mono ?_;rintro e W2 ⟨rfl,CB⟩;have i0:=GH k0 CB;have i2:=GH k2 CB;have NB:=JI HB CB;clear k0 k2 HB CB;(go_upto_region 5 with(refine OZ rfl 101 _ _ rfl _ _ rfl rfl 101 _ i0 Ff rfl (DI _) ?_));(refine K22 ?_;clear i0 i2 NB;intro W3 k0 k2 HB Pb);have aQ:W3.cell? (Ad w.heap.size 22)=some (Iv p.MO):=AB k0 22 rfl;have c5:W3.cell? (Ad w.heap.size 5)=some (Iv p.every):=AB k0 5 rfl;go_upto_region 6 with fail;clear Pb aQ c5 wr z1 z2;go_wp2_with (first|(refine JS rfl 101 _ rfl _ rfl 101 _ (0,0) _ k0 underlying101 rfl Ff ?_)|(refine OZ rfl 101 _ _ rfl _ _ rfl rfl 101 _ k2 Ff rfl (DI _) ?_));exact IT (LU rfl _ _ _ _ _ (0,0) _ rfl (MR _ _ _ _ _ _ k2) underlying101 rfl Ff) rfl ⟨_,by rw[ES.out.1];rfl,by rw[ES.out.2];exact IF.nil _ _,JO HB.out Ft _⟩
 case false=>
  (refine K35 ?_;intro ES);unfold AL.asks at ha;rw[eU] at ha;obtain⟨u,hu⟩:=BN (p.AZ%65536);(have wm:p.AZ.tmod 65536=u:=by rw[hu,vH h3]);have wq:IntKind.i64.wrap u=u:=GF _ Ft;have ws:=GF (p.AZ+1) Ft;have HID:=Hd jg.2;rw[<-hu] at ES;obtain⟨n,hn⟩:=BN ({p with q:=u,asked:=true,AZ:=p.AZ+1,MO:=now}:AL.St);rw[<-hn] at ES;have HN:=Hd hn;have EF:=Hd (show AL.DK s now=[⟨9,n.id,0,n.q,[n.st]⟩] by rw[ES.out.2,hn];simp only[jg.2]);rw[ES.out.1,EF.out];have key:(decide (0<p.AZ)=false)\/(decide (0<p.AZ)=true/\decide (now<p.MO+p.every)=false):=by
   by_cases h0:0<p.AZ
   ·exact .inr ⟨IU h0,ME (λhh=>ha ⟨h0,by omega⟩)⟩
   ·exact .inl (ME h0)
  (have RU:0<=n.st/\n.st<256:=by rw[hn];simp only;omega);(have wk:IntKind.u8.wrap n.st=n.st:=by rw[VT];omega);have AbH:=h3;(have AbG:p.AZ<1000000000000000:=by omega);clear ha he hs RV hp eC jg hl h1 h2 h3 h4 hu hn
  rcases key with z1|⟨z1,z2⟩
  all_goals
   go_enter func88,ntmps88;go_upto_region 1 with fail;(refine Ko ?_;intro V hV);(refine K2v ?_;intro k0 k2);(refine Kb ?_;intro HB);clear hV;go_wp2_with (first|(refine JS rfl 101 _ rfl _ rfl 101 _ (0,0) _ k0 underlying101 rfl Ff ?_));(refine K1I ?_;clear k0 k2 HB;intro W1 k0 k2 HB);(go_wp2_with (first|(refine JS rfl 101 _ rfl _ rfl 101 _ (0,0) _ k0 underlying101 rfl Ff ?_)));refine(PA.out _).mono ?_;rintro e W2 ⟨rfl,CB⟩;have i0:=GH k0 CB;have i2:=GH k2 CB;have NB:=JI HB CB;clear k0 k2 HB CB;(go_upto_region 5 with(refine OZ rfl 101 _ _ rfl _ _ rfl rfl 101 _ i0 Ff rfl (DI _) ?_));(refine K22 ?_;clear i0 i2 NB;intro W3 k0 k2 HB Pb);have f21:=AE k0 21;have aQ:W3.cell? (Ad w.heap.size 22)=some (Iv p.MO):=AB k0 22 rfl;have f22:=AE k0 22;have c5:W3.cell? (Ad w.heap.size 5)=some (Iv p.every):=AB k0 5 rfl;have c15:W3.cell? (Ad w.heap.size 15)=some (.bool p.asked):=AB k0 15 rfl;have f15:=AE k0 15;have ao:W3.cell? (Ad w.heap.size 23)=some (Iv p.q):=AB k0 23 rfl;have f23:=AE k0 23;go_upto_region 10 with fail;generalize hW:World.setCell _ _ _=W4;(have g0:RB W4 w.heap.size n:=by rw[<-hW,HN.out];exact AP (AP (AP (AP k0 23 _) 15 _) 21 _) 22 _);(have g2:RB W4 (w.heap.size+1) FQ:=by rw[<-hW];have h0:=k2;unfold RB at*;exact Af);have Qo:=Hd (show Below w.heap.size w W4 by rw[<-hW];have:=HB.out;exact A9);clear hW k0 k2 HB Pb f21 aQ f22 c5 c15 f15 ao f23 wr z1 wm wq ws;(try clear z2);refine Um (S:=λw'=>RB w' w.heap.size n/\True) Ff ?_ (λh0=> ?_)
   ·exact⟨g0,trivial⟩
   refine GI (i:=0) (v:= .agg (LJ n).toArray) rfl Ff Ff Ff (λ_ _ _ h=>h) (CW Fk 101 _ rfl w.heap.size rfl 101 _ (0,0) _ (λw' h=>h.1) underlying101 rfl Ff) h0 ?_;refine PU ?_;refine GI (i:=1) (v:= ?_) rfl Ff Ff Ff (λ_ _ _ h=>h) (Or.inl ⟨by rfl,?_⟩) h0 ?_;rotate_left
   focus(intro w' BS;have e0:=AB BS.1 0 rfl;have Yx:=AB BS.1 11 rfl;have XD:=AB BS.1 23 rfl;(try dsimp only at e0 Yx XD);go_simp;(try with_reducible rfl))
   refine PU ?_;refine GI (i:=2) (v:= ?_) rfl Ff Ff Ff (λ_ _ _ h=>h) (Or.inl ⟨by rfl,?_⟩) h0 ?_;rotate_left
   focus(intro w' BS;have e0:=AB BS.1 0 rfl;have Yx:=AB BS.1 11 rfl;have XD:=AB BS.1 23 rfl;(try dsimp only at e0 Yx XD);go_simp;(try with_reducible rfl))
   refine PU ?_;refine GI (i:=3) (v:= ?_) rfl Ff Ff Ff (λ_ _ _ h=>h) (Or.inl ⟨by rfl,?_⟩) h0 ?_;rotate_left
   focus(intro w' BS;have e0:=AB BS.1 0 rfl;have Yx:=AB BS.1 11 rfl;have XD:=AB BS.1 23 rfl;(try dsimp only at e0 Yx XD);go_simp;(try with_reducible rfl))
   refine PU ?_;refine GI (i:=4) (v:= ?_) rfl Ff Ff Ff (λ_ _ _ h=>h) (Or.inl ⟨by rfl,?_⟩) h0 ?_;rotate_left
   focus(intro w' BS;have e0:=AB BS.1 0 rfl;have Yx:=AB BS.1 11 rfl;have XD:=AB BS.1 23 rfl;(try dsimp only at e0 Yx XD);go_simp;(try with_reducible rfl))
   refine PU ?_;refine GI (i:=5) (v:= ?_) rfl Ff Ff Ff (λ_ _ _ h=>h) (Or.inl ⟨by rfl,?_⟩) h0 ?_;rotate_left
   focus(intro w' BS;have e0:=AB BS.1 0 rfl;have Yx:=AB BS.1 11 rfl;have XD:=AB BS.1 23 rfl;(try dsimp only at e0 Yx XD);go_simp;(try with_reducible rfl))
   refine PU ?_;refine GI (i:=6) (v:= ?_) rfl Ff Ff Ff (λ_ _ _ h=>h) (Or.inl ⟨by rfl,?_⟩) h0 ?_;rotate_left
   focus(intro w' BS;have e0:=AB BS.1 0 rfl;have Yx:=AB BS.1 11 rfl;have XD:=AB BS.1 23 rfl;(try dsimp only at e0 Yx XD);go_simp;(try with_reducible rfl))
   refine PU ?_;refine GI (i:=7) (v:= ?_) rfl Ff Ff Ff (λ_ _ _ h=>h) (Or.inl ⟨by rfl,?_⟩) h0 ?_;rotate_left
   focus(intro w' BS;have e0:=AB BS.1 0 rfl;have Yx:=AB BS.1 11 rfl;have XD:=AB BS.1 23 rfl;(try dsimp only at e0 Yx XD);go_simp;(try with_reducible rfl))
   refine PU ?_;have x2:W4.drew.heap[w.heap.size+1]?=some (.cells (LJ FQ).toArray 101 (0,0)):=g2;have HX:=Hd (show Below w.heap.size w W4.drew from Qo.out.drew);refine OI (rs:=[8,11]) Ff Fu ?_;refine NH rfl (λK hK=> ?_) (NH rfl (λK hK=> ?_) Pd)
   ·go_simp;refine hK.out _ _ ?_ (λh1=> ?_)
    ·exact⟨AI h0.1 _,trivial⟩
    clear hK K;refine PU ?_;refine GI (i:=9) (v:= ?_) rfl Ff Ff Ff (λ_ _ _ h=>h) (Or.inl ⟨by rfl,?_⟩) h1 ?_;rotate_left
    focus(intro w' BS;have e0:=AB BS.1 0 rfl;have Yx:=AB BS.1 11 rfl;have XD:=AB BS.1 23 rfl;(try dsimp only at e0 Yx XD);go_simp;(try with_reducible rfl))
    refine PU ?_;refine OI (rs:=[10,11]) Ff Fu ?_;refine NH rfl (λK hK=> ?_) (NH rfl (λK hK=> ?_) Pd)
    ·go_simp;refine hK.out _ _ ?_ (λh2=> ?_)
     ·exact⟨AI h1.1 _,trivial⟩
     (refine K2H ?_;clear hK K);refine NH rfl (λK hK=> ?_) Pd;refine bU 101 _ _ rfl _ _ rfl rfl 101 _ (AI (AI x2 _) _) Ff rfl (DI _) ?_;refine hK.out _ _ ?_ (λh3=> ?_)
     ·exact⟨(Pq _ _ _ _ Ft).trans h2.1,trivial⟩
     clear hK K;refine PU ?_;refine GI (i:=12) (v:= ?_) rfl Ff Ff Ff (λ_ _ _ h=>h) (Or.inl ⟨by rfl,?_⟩) h3 ?_;rotate_left
     focus(intro w' BS;have e0:=AB BS.1 0 rfl;have Yx:=AB BS.1 11 rfl;have XD:=AB BS.1 23 rfl;(try dsimp only at e0 Yx XD);go_simp;(try with_reducible rfl))
     refine PU ?_;refine GI (i:=13) (v:= ?_) rfl Ff Ff Ff (λ_ _ _ h=>h) (Or.inl ⟨by rfl,?_⟩) h3 ?_;rotate_left
     focus(intro w' BS;have e0:=AB BS.1 0 rfl;have Yx:=AB BS.1 11 rfl;have XD:=AB BS.1 23 rfl;(try dsimp only at e0 Yx XD);go_simp;(try with_reducible rfl))
     refine PU ?_;refine RJ Ff ?_ _;go_wp2_with fail;refine IT (LU rfl _ _ _ _ _ (0,0) _ rfl (MR _ _ _ _ _ _ (AI (AI x2 _) _)) underlying101 rfl Ff) rfl ⟨_,rfl,?_,?_⟩
     ·exact Qe (g1:=W4.heap.size) (g2:=W4.heap.size+1) ((Pq _ _ _ _ Bj).trans (AI (AM _ _) _)) ((Pq _ _ _ _ Bj).trans (BK _ _ _ At)) RU D5 D5
     ·exact JO ((HX.out.alloc HX.out.size _).alloc D5 _) Ft _
    ·refine bU 101 _ _ rfl _ _ rfl rfl 101 _ (AI x2 _) Ff rfl (DI _) ?_;refine hK.out _ _ ?_ (λh2=> ?_)
     ·exact⟨(Pq _ _ _ _ Ft).trans h1.1,trivial⟩
     clear hK K;refine K3c ?_;refine NH rfl (λK hK=> ?_) Pd;go_simp;refine hK.out _ _ ?_ (λh3=> ?_)
     ·exact⟨AI h2.1 _,trivial⟩
     clear hK K;refine PU ?_;refine GI (i:=12) (v:= ?_) rfl Ff Ff Ff (λ_ _ _ h=>h) (Or.inl ⟨by rfl,?_⟩) h3 ?_;rotate_left
     focus(intro w' BS;have e0:=AB BS.1 0 rfl;have Yx:=AB BS.1 11 rfl;have XD:=AB BS.1 23 rfl;(try dsimp only at e0 Yx XD);go_simp;(try with_reducible rfl))
     refine PU ?_;refine GI (i:=13) (v:= ?_) rfl Ff Ff Ff (λ_ _ _ h=>h) (Or.inl ⟨by rfl,?_⟩) h3 ?_;rotate_left
     focus(intro w' BS;have e0:=AB BS.1 0 rfl;have Yx:=AB BS.1 11 rfl;have XD:=AB BS.1 23 rfl;(try dsimp only at e0 Yx XD);go_simp;(try with_reducible rfl))
     refine PU ?_;refine RJ Ff ?_ _;go_wp2_with fail;refine IT (LU rfl _ _ _ _ _ (0,0) _ rfl (AI (MR _ _ _ _ _ _ (AI x2 _)) _) underlying101 rfl Ff) rfl ⟨_,rfl,?_,?_⟩
     ·exact Qe (g1:=W4.heap.size) (g2:=W4.heap.size+1) (AI ((Pq _ _ _ _ Bj).trans (AM _ _)) _) (BK _ _ _ At) RU D5 D5
     ·exact(JO (HX.out.alloc HX.out.size _) Ft _).alloc Bt _
   ·refine bU 101 _ _ rfl _ _ rfl rfl 101 _ (x2) Ff rfl (DI _) ?_;refine hK.out _ _ ?_ (λh1=> ?_)
    ·exact⟨(Pq _ _ _ _ Ft).trans h0.1,trivial⟩
    (refine K4a ?_;clear hK K);refine NH rfl (λK hK=> ?_) Pd;go_simp;refine hK.out _ _ ?_ (λh2=> ?_)
    ·exact⟨AI h1.1 _,trivial⟩
    clear hK K;refine PU ?_;refine GI (i:=9) (v:= ?_) rfl Ff Ff Ff (λ_ _ _ h=>h) (Or.inl ⟨by rfl,?_⟩) h2 ?_;rotate_left
    focus(intro w' BS;have e0:=AB BS.1 0 rfl;have Yx:=AB BS.1 11 rfl;have XD:=AB BS.1 23 rfl;(try dsimp only at e0 Yx XD);go_simp;(try with_reducible rfl))
    refine K3c ?_;refine NH rfl (λK hK=> ?_) Pd;go_simp;refine hK.out _ _ ?_ (λh3=> ?_)
    ·exact⟨AI h2.1 _,trivial⟩
    clear hK K;refine PU ?_;refine GI (i:=12) (v:= ?_) rfl Ff Ff Ff (λ_ _ _ h=>h) (Or.inl ⟨by rfl,?_⟩) h3 ?_;rotate_left
    focus(intro w' BS;have e0:=AB BS.1 0 rfl;have Yx:=AB BS.1 11 rfl;have XD:=AB BS.1 23 rfl;(try dsimp only at e0 Yx XD);go_simp;(try with_reducible rfl))
    refine PU ?_;refine GI (i:=13) (v:= ?_) rfl Ff Ff Ff (λ_ _ _ h=>h) (Or.inl ⟨by rfl,?_⟩) h3 ?_;rotate_left
    focus(intro w' BS;have e0:=AB BS.1 0 rfl;have Yx:=AB BS.1 11 rfl;have XD:=AB BS.1 23 rfl;(try dsimp only at e0 Yx XD);go_simp;(try with_reducible rfl))
    refine PU ?_;refine RJ Ff ?_ _;go_wp2_with fail;refine IT (LU rfl _ _ _ _ _ (0,0) _ rfl (AI (AI (MR _ _ _ _ _ _ x2) _) _) underlying101 rfl Ff) rfl ⟨_,rfl,?_,?_⟩
    ·exact Qe (g1:=W4.heap.size) (g2:=W4.heap.size+1) (AI (BK _ _ _ At) _) (BK _ _ _ At) RU D5 D5
    ·exact((JO HX.out Ft _).alloc Bt _).alloc Bt _
theorem A2l(s:AL.St)(hs:AL.Inv s)(k f t q:Int)(A:Option Addr)(n cap:Nat)(l:List Int)(hn:n=l.length)(IM:n<=64)(w:World)(hr:Rd w w.heap.size A n l)(hk:k=1):
  Calls prog 121 #[.agg (LJ s).toArray,.agg #[Iv k,Iv f,Iv t,Iv q,.slice A n cap]] w (TI (AL.take s (AL.MK ⟨k,f,t,q,l⟩)) w):=by
 (refine KO ?_;intro m hm IY GK LA MV GJ ID EL x hx);rw[<-hx] at GK IY LA⊢;(have y1:(k==1)=true:=by rw[Q5];omega);have y2:(k==2)=false:=JJ Ft;have y3:(k==3)=false:=JJ Ft;have y4:(k==4)=false:=JJ Ft;refine K1o ?_;intro y5 y6 y7
 by_cases h4:n=4
 case neg=>(refine K1Y ?_;intro y0);(have Tb:x.n= -1:=by rw[GK,AO Ft]);have E:=Hd (show AL.take s x=(s,false) by unfold AL.take;rw[AW Ft];split;rw[AO Ft];rfl);exact N9
 (refine K2p ?_;intro eD y0 Tb);(refine K0D ?_;intro G HM);have key:s.st=0\/s.st=1\/s.st=7\/¬(s.st=0\/s.st=1\/s.st=7):=by omega
 rcases key with DJ|DJ|DJ|DJ
 ·(have z0:(s.st==0)=true:=by rw[Q5];omega);have z1:(s.st==1)=false:=JJ Ft;have z7:(s.st==7)=false:=JJ Ft;exact N4
 ·have z0:(s.st==0)=false:=JJ Ft;(have z1:(s.st==1)=true:=by rw[Q5];omega);have z7:(s.st==7)=false:=JJ Ft;exact N4
 ·have z0:(s.st==0)=false:=JJ Ft;have z1:(s.st==1)=false:=JJ Ft;(have z7:(s.st==7)=true:=by rw[Q5];omega);exact N4
 ·have z0:(s.st==0)=false:=JJ Ft;have z1:(s.st==1)=false:=JJ Ft;have z7:(s.st==7)=false:=JJ Ft;have E:=Hd (show AL.take s x=(s,false) by unfold AL.take;rw[AW Ft,AO Ft]);clear hk IY GK LA hx hn hr hs IM MV GJ ID EL Tb hm h4 DJ eD;exact Lq
theorem A2k(s:AL.St)(hs:AL.Inv s)(k f t q:Int)(A:Option Addr)(n cap:Nat)(l:List Int)(hn:n=l.length)(IM:n<=64)(w:World)(hr:Rd w w.heap.size A n l)(hk:k=2):
  Calls prog 121 #[.agg (LJ s).toArray,.agg #[Iv k,Iv f,Iv t,Iv q,.slice A n cap]] w (TI (AL.take s (AL.MK ⟨k,f,t,q,l⟩)) w):=by
 (refine KO ?_;intro m hm IY GK LA MV GJ ID EL x hx);rw[<-hx] at GK IY LA⊢;have y1:(k==1)=false:=JJ Ft;(have y2:(k==2)=true:=by rw[Q5];omega);have y3:(k==3)=false:=JJ Ft;have y4:(k==4)=false:=JJ Ft;refine K1o ?_;intro y5 y6 y7
 by_cases h4:n=4
 case neg=>(refine K1Y ?_;intro y0);(have Tb:x.n= -1:=by rw[GK,AO Ft]);(refine K1U ?_;intro E);exact N9
 (refine K2p ?_;intro eD y0 Tb);refine K0D ?_;intro G HM
 cases hl:s.Pf
 ·have DJ:s.st=0:=by
   rcases Int.lt_trichotomy s.st 0 with h|h|h
   ·exact absurd (GJ Ft) (by rw[hl];simp)
   ·exact h
   ·exact absurd (GJ Ft) (by rw[hl];simp)
  have z1:(s.st==1)=false:=JJ Ft;have z2:(s.st==2)=false:=JJ Ft;(refine xH ?_;intro z4 z5);(refine K1U ?_;intro E);have HL:=Hd hl;clear hk IY GK LA hx hn hr hs IM MV GJ ID EL Tb hm h4 DJ eD hl;exact M4
 have HL:=Hd hl
 by_cases hp:m=s.prog
 case neg=>(have z9:(m==s.prog)=false:=by rw[Bf];exact hp);(refine K1U ?_;intro E);clear hk IY GK LA hx hn hr hs IM MV GJ ID EL Tb hm h4 eD hl hp;exact Nb
 (have z9:(m==s.prog)=true:=by rw[Q5];exact hp);have key:s.st=1\/s.st=2\/¬(s.st=1\/s.st=2):=by omega
 rcases key with DJ|DJ|DJ
 ·(have z1:(s.st==1)=true:=by rw[Q5];omega);have z2:(s.st==2)=false:=JJ Ft;(refine xH ?_;intro z4 z5);(refine K37 ?_;intro CH HE E r T8);exact N2
 ·have z1:(s.st==1)=false:=JJ Ft;(have z2:(s.st==2)=true:=by rw[Q5];omega);(refine xH ?_;intro z4 z5);(refine K37 ?_;intro CH HE E r T8);exact N2
 ·have z1:(s.st==1)=false:=JJ Ft;have z2:(s.st==2)=false:=JJ Ft;(refine K1U ?_;intro E);clear hk IY GK LA hx hn hr hs IM MV GJ ID EL Tb hm h4 DJ eD hl hp;exact Nb
theorem O3{p:Prop}(h:p:=by
  clear hk IY GK LA hx hn hr hs IM MV GJ ID EL Tb hm h4 eD DJ h35 h9 hst2;go_enter func121,ntmps121;go_upto_region 1 with fail;(refine Ka ?_;intro V k0 k2 HB CX lf KF);(refine KJ ?_;intro PR);go_upto_region 3 with fail;go_wp2_with fail;refine K1P ?_;rintro e W1 ⟨g,o,c,rfl,hc,BX,_⟩;(refine Kh ?_;clear hc BX k0 k2 KF HB PR CX;intro d0 k0 k2 KF HB CX lf);exact Np
 ):p:=h
theorem O2{p:Prop}(h:p:=by
  rcases key with hst2|hst2|hst2
  ·(have z3:(s.st==3)=true:=by rw[Q5];omega);(refine xH ?_;intro z4 z5);clear hk IY GK LA hx hn hr hs IM MV GJ ID EL Tb hm h4 eD DJ h35 h9 hst2;go_enter func121,ntmps121;go_upto_region 1 with fail;(refine Ka ?_;intro V k0 k2 HB CX lf KF);(refine KJ ?_;intro PR);go_upto_region 3 with fail;go_wp2_with fail;refine K1P ?_;rintro e W1 ⟨g,o,c,rfl,hc,BX,_⟩;(refine Kh ?_;clear hc BX k0 k2 KF HB PR CX;intro d0 k0 k2 KF HB CX lf);(refine K1M ?_;intro Ua);go_upto_region 17 with fail;refine Um (S:=(λw'=>w'.heap[w.heap.size]?=some (.cells (LJ s).toArray 101 (0,0))/\w'.cell? (Ad w.heap.size 20)=some (Iv s.start))) Ff ?_ (λhHeld=> ?_)
   ·(try dsimp only);exact⟨k0,Ua⟩
   refine GI (i:=0) (v:= .agg (LJ s).toArray) rfl Ff Ff Ff (λ_ _ _ h=>h) (CW Fk 101 _ rfl w.heap.size rfl 101 _ (0,0) _ (λw' h=>h.1) underlying101 rfl Ff) Fq ?_;refine PU ?_;exact Ns
  ·have z3:(s.st==3)=false:=JJ Ft;(refine K2S ?_;intro z4 z5);exact O3
  ·have z3:(s.st==3)=false:=JJ Ft;(refine K2T ?_;intro z4 z5);exact O3
 ):p:=h
theorem A2j(s:AL.St)(hs:AL.Inv s)(k f t q:Int)(A:Option Addr)(n cap:Nat)(l:List Int)(hn:n=l.length)(IM:n<=64)(w:World)(hr:Rd w w.heap.size A n l)(hk:k=3):
  Calls prog 121 #[.agg (LJ s).toArray,.agg #[Iv k,Iv f,Iv t,Iv q,.slice A n cap]] w (TI (AL.take s (AL.MK ⟨k,f,t,q,l⟩)) w):=by
 (refine KO ?_;intro m hm IY GK LA MV GJ ID EL x hx);rw[<-hx] at GK IY LA⊢;have y1:(k==1)=false:=JJ Ft;have y2:(k==2)=false:=JJ Ft;(have y3:(k==3)=true:=by rw[Q5];omega);have y4:(k==4)=false:=JJ Ft;refine K1o ?_;intro y5 y6 y7
 by_cases h4:n=4
 case neg=>(refine K1Y ?_;intro y0);(have Tb:x.n= -1:=by rw[GK,AO Ft]);(refine K1L ?_;intro E);exact N9
 (refine K2p ?_;intro eD y0 Tb);refine K0D ?_;intro G HM
 by_cases ag:3600000<m
 case pos=>(refine K1L ?_;intro E);clear hk IY GK LA hx hn hr hs IM MV GJ ID EL Tb hm h4 eD;exact Lq
 (have hle:m<=3600000:=by omega);clear ag
 by_cases DJ:s.st=2
 case pos=>
  (have z2:(s.st==2)=true:=by rw[Q5];omega);(refine K2y ?_;intro z3);refine xH ?_;intro z4 z5
  cases YS:s.cs
  ·have E:=Hd (show AL.take s x=(s,false) by unfold AL.take;rw[AO Ft,AO Ft,AW Ft,AO (λhh=>by rw[YS] at hh;cases hh.2.2),ME Ft]);have HC:=Hd YS;clear hk IY GK LA hx hn hr hs IM MV GJ ID EL Tb hm h4 eD DJ YS;go_enter func121,ntmps121;go_upto_region 1 with fail;(refine Ka ?_;intro V k0 k2 HB CX lf KF);(refine KJ ?_;intro PR);go_upto_region 3 with fail;go_wp2_with fail;refine K1P ?_;rintro e W1 ⟨g,o,c,rfl,hc,BX,_⟩;(refine Kh ?_;clear hc BX k0 k2 KF HB PR CX;intro d0 k0 k2 KF HB CX lf);have c8:W1.cell? (Ad w.heap.size 8)=some (.bool s.cs):=AB k0 8 rfl;rw[HC.out] at c8;exact Nq
  ·have CH:=Hd (NC s 3);have HE:=Hd (jA s 3 rfl);have E:=Hd (show AL.take s x=({Qh s 3 with given:=true,start:=m},true) by unfold AL.take;rw[AO Ft,AO Ft,AW Ft,AW ⟨DJ,by omega,YS⟩,HE.out,Tb]);have HC:=Hd YS;obtain⟨r,T8⟩:=BN (Qh s 3);rw[<-T8] at CH E;clear hk IY GK LA hx hn hr hs IM MV GJ ID EL Tb hm h4 eD DJ YS T8 HE;go_enter func121,ntmps121;go_upto_region 1 with fail;(refine Ka ?_;intro V k0 k2 HB CX lf KF);(refine KJ ?_;intro PR);go_upto_region 3 with fail;go_wp2_with fail;refine K1P ?_;rintro e W1 ⟨g,o,c,rfl,hc,BX,_⟩;(refine Kh ?_;clear hc BX k0 k2 KF HB PR CX;intro d0 k0 k2 KF HB CX lf);have c8:W1.cell? (Ad w.heap.size 8)=some (.bool s.cs):=AB k0 8 rfl;rw[HC.out] at c8;go_wp2_with (first|(refine JS rfl 101 _ rfl _ rfl 101 _ (0,0) _ k0 underlying101 rfl Ff ?_));clear c8;(refine Kq ?_;clear k0 k2 HB KF CX;intro W2 k0 k2 HB KF);go_upto_region 15 with(refine OZ rfl 101 _ _ rfl _ _ rfl rfl 101 _ k0 Ff rfl (DI _) ?_);(refine K4r ?_;clear k0 k2 HB;intro W3 g0 g2 P6);have c14:W3.cell? (Ad w.heap.size 14)=some (.bool r.given):=AB g0 14 rfl;have f14:=AE g0 14;have Ua:W3.cell? (Ad w.heap.size 20)=some (Iv r.start):=AB g0 20 rfl;have f20:=AE g0 20;go_upto_region 16 with fail;generalize hW:World.setCell _ _ _=W4;(have k0:RB W4 w.heap.size {r with given:=true,start:=m}:=by rw[<-hW];exact AP (AP g0 14 _) 20 _);(refine K09 ?_;intro k2 HB);clear hW g0 g2 P6 c14 f14 Ua f20;exact Fv
 case neg=>
  have z2:(s.st==2)=false:=JJ Ft
  by_cases h35:3<=s.st/\s.st<=5
  case neg=>(refine K2y ?_;intro z3);(refine xH ?_;intro z4 z5);(refine K1L ?_;intro E);clear hk IY GK LA hx hn hr hs IM MV GJ ID EL Tb hm h4 eD DJ h35;go_enter func121,ntmps121;go_upto_region 1 with fail;(refine Ka ?_;intro V k0 k2 HB CX lf KF);(refine KJ ?_;intro PR);go_upto_region 3 with fail;go_wp2_with fail;refine K1P ?_;rintro e W1 ⟨g,o,c,rfl,hc,BX,_⟩;(refine Kh ?_;clear hc BX k0 k2 KF HB PR CX;intro d0 k0 k2 KF HB CX lf);exact Nq
  have key:s.st=3\/s.st=4\/s.st=5:=by omega
  by_cases h9:m=s.start
  case pos=>(have z9:(m==s.start)=true:=by rw[Q5];exact h9);have E:=Hd (show AL.take s x=(s,true) by unfold AL.take;rw[AO Ft,AO Ft,AW Ft,AO Ft,IU Ft]);exact O2
  case neg=>(have z9:(m==s.start)=false:=by rw[Bf];exact h9);(refine K1L ?_;intro E);exact O2
theorem A2i(s:AL.St)(hs:AL.Inv s)(k f t q:Int)(A:Option Addr)(n cap:Nat)(l:List Int)(hn:n=l.length)(IM:n<=64)(w:World)(hr:Rd w w.heap.size A n l)(hk:k=4):
  Calls prog 121 #[.agg (LJ s).toArray,.agg #[Iv k,Iv f,Iv t,Iv q,.slice A n cap]] w (TI (AL.take s (AL.MK ⟨k,f,t,q,l⟩)) w):=by
 (refine KO ?_;intro m hm IY GK LA MV GJ ID EL x hx);rw[<-hx] at GK IY LA⊢;have y1:(k==1)=false:=JJ Ft;have y2:(k==2)=false:=JJ Ft;have y3:(k==3)=false:=JJ Ft;(have y4:(k==4)=true:=by rw[Q5];omega);refine K1o ?_;intro y5 y6 y7
 by_cases h0:n=0
 case neg=>(refine K3y ?_;intro yz Ou);have E:=Hd (show AL.take s x=(s,false) by unfold AL.take;rw[AO Ft,AO Ft,AO Ft,AW Ft,AO (by rw[Ou];simp)]);exact N3
 case pos=>
 (refine K1Y ?_;intro y0);(refine K3p ?_;intro yz Ou);have key:s.st=3\/s.st=4\/s.st=2\/s.st=5\/¬(s.st=3\/s.st=4\/s.st=2\/s.st=5):=by omega
 rcases key with DJ|DJ|DJ|DJ|DJ
 ·have z2:(s.st==2)=false:=JJ Ft;(have z3:(s.st==3)=true:=by rw[Q5];omega);(refine xH ?_;intro z4 z5);have CH:=Hd (NC s 2);have HE:=Hd (A1o s 2 rfl Ft);have FG:=Hd (OO (Qh s 2));have E:=Hd (show AL.take s x=({Qh s 2 with given:=false,start:=0},true) by unfold AL.take;rw[AO Ft,AO Ft,AO Ft,AW Ft,AW Ou,AW DJ,HE.out]);obtain⟨r,T8⟩:=BN (Qh s 2);exact Ly
 ·have z2:(s.st==2)=false:=JJ Ft;(refine K2y ?_;intro z3);(refine K2S ?_;intro z4 z5);have CH:=Hd (NC s 5);have HE:=Hd (jA s 5 rfl);have E:=Hd (show AL.take s x=(Qh s 5,true) by unfold AL.take;rw[AO Ft,AO Ft,AO Ft,AW Ft,AW Ou,AO Ft,AW DJ,HE.out]);obtain⟨r,T8⟩:=BN (Qh s 5);exact Ls
 ·(have z2:(s.st==2)=true:=by rw[Q5];omega);(refine K2y ?_;intro z3);(refine xH ?_;intro z4 z5);exact Na
 ·have z2:(s.st==2)=false:=JJ Ft;(refine K2y ?_;intro z3);(refine K2T ?_;intro z4 z5);exact Na
 ·have z2:(s.st==2)=false:=JJ Ft;(refine K2y ?_;intro z3);(refine xH ?_;intro z4 z5);have E:=Hd (show AL.take s x=(s,false) by unfold AL.take;rw[AO Ft,AO Ft,AO Ft,AW Ft,AW Ou,AO Ft,AO Ft,ME Ft]);clear hk IY GK LA hx hn hr hs IM MV GJ ID EL hm h0 Ou DJ;exact M9
theorem A2h(s:AL.St)(hs:AL.Inv s)(k f t q:Int)(A:Option Addr)(n cap:Nat)(l:List Int)(hn:n=l.length)(IM:n<=64)(w:World)(hr:Rd w w.heap.size A n l)(hk:k=5):
  Calls prog 121 #[.agg (LJ s).toArray,.agg #[Iv k,Iv f,Iv t,Iv q,.slice A n cap]] w (TI (AL.take s (AL.MK ⟨k,f,t,q,l⟩)) w):=by
 (refine KO ?_;intro m hm IY GK LA MV GJ ID EL x hx);rw[<-hx] at GK IY LA⊢;(refine K1i ?_;intro y1 y2 y3 y4);(have y5:(k==5)=true:=by rw[Q5];omega);have y6:(k==6)=false:=JJ Ft;have y7:(k==7)=false:=JJ Ft
 by_cases h0:n=0
 case neg=>(refine K3y ?_;intro yz Ou);have E:=Hd (show AL.take s x=(s,false) by unfold AL.take;rw[AO Ft,AO Ft,AO Ft,AO Ft,AW Ft,AO (by rw[Ou];simp)]);exact N3
 case pos=>
 (refine K1Y ?_;intro y0);(refine K3p ?_;intro yz Ou);have key:s.st=4\/s.st=5\/¬(s.st=4\/s.st=5):=by omega
 rcases key with DJ|DJ|DJ
 ·(have z4:(s.st==4)=true:=by rw[Q5];omega);have z5:(s.st==5)=false:=JJ Ft;(refine K2I ?_;intro CH HE E r T8);exact Ls
 ·have z4:(s.st==4)=false:=JJ Ft;(have z5:(s.st==5)=true:=by rw[Q5];omega);(refine K2I ?_;intro CH HE E r T8);exact Ls
 ·have z4:(s.st==4)=false:=JJ Ft;have z5:(s.st==5)=false:=JJ Ft;(refine K3X ?_;intro E);clear hk IY GK LA hx hn hr hs IM MV GJ ID EL hm h0 Ou DJ;go_enter func121,ntmps121;go_upto_region 1 with fail;(refine Ka ?_;intro V k0 k2 HB CX lf KF);(refine KJ ?_;intro PR);go_upto_region 38 with fail;exact Fv
theorem A2g(s:AL.St)(hs:AL.Inv s)(k f t q:Int)(A:Option Addr)(n cap:Nat)(l:List Int)(hn:n=l.length)(IM:n<=64)(w:World)(hr:Rd w w.heap.size A n l)(hk:k=6):
  Calls prog 121 #[.agg (LJ s).toArray,.agg #[Iv k,Iv f,Iv t,Iv q,.slice A n cap]] w (TI (AL.take s (AL.MK ⟨k,f,t,q,l⟩)) w):=by
 (refine KO ?_;intro m hm IY GK LA MV GJ ID EL x hx);rw[<-hx] at GK IY LA⊢;(refine K1i ?_;intro y1 y2 y3 y4);have y5:(k==5)=false:=JJ Ft;(have y6:(k==6)=true:=by rw[Q5];omega);have y7:(k==7)=false:=JJ Ft
 by_cases h0:n=0
 case neg=>(refine K3y ?_;intro yz Ou);have E:=Hd (show AL.take s x=(s,false) by unfold AL.take;rw[AO Ft,AO Ft,AO Ft,AO Ft,AO Ft,AW Ft,AO (by rw[Ou];simp)]);exact N3
 case pos=>
 (refine K1Y ?_;intro y0);(refine K3p ?_;intro yz Ou);have key:s.st=2\/s.st=3\/s.st=4\/s.st=5\/¬(s.st=2\/s.st=3\/s.st=4\/s.st=5):=by omega
 rcases key with DJ|DJ|DJ|DJ|DJ
 ·(have z2:(s.st==2)=true:=by rw[Q5];omega);(refine K2y ?_;intro z3);(refine xH ?_;intro z4 z5);(refine K25 ?_;intro CH HE FG E r T8);exact Ly
 ·have z2:(s.st==2)=false:=JJ Ft;(have z3:(s.st==3)=true:=by rw[Q5];omega);(refine xH ?_;intro z4 z5);(refine K25 ?_;intro CH HE FG E r T8);exact Ly
 ·have z2:(s.st==2)=false:=JJ Ft;(refine K2y ?_;intro z3);(refine K2S ?_;intro z4 z5);(refine K2t ?_;intro CH HE E r T8);exact Ls
 ·have z2:(s.st==2)=false:=JJ Ft;(refine K2y ?_;intro z3);(refine K2T ?_;intro z4 z5);(refine K2t ?_;intro CH HE E r T8);exact Ls
 ·have z2:(s.st==2)=false:=JJ Ft;(refine K2y ?_;intro z3);(refine xH ?_;intro z4 z5);have E:=Hd (show AL.take s x=(s,true) by unfold AL.take;rw[AO Ft,AO Ft,AO Ft,AO Ft,AO Ft,AW Ft,AW Ou,AO Ft,AO Ft]);clear hk IY GK LA hx hn hr hs IM MV GJ ID EL hm h0 Ou DJ;go_enter func121,ntmps121;go_upto_region 1 with fail;(refine Ka ?_;intro V k0 k2 HB CX lf KF);(refine KJ ?_;intro PR);exact Fv
end
end Go.Proofs.YtdocdgcdldpagaaGreat

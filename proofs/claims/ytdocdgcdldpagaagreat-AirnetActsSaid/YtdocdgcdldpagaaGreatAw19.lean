import Derived.Test.YtdocdgcdldpagaaGreatAw18
open Go.Proofs.Tryz
namespace Go.Proofs.YtdocdgcdldpagaaGreat
set_option maxHeartbeats 64000000
set_option maxRecDepth 100000
set_option linter.all false
section
open RowKit
attribute [local go_sem ↓] wp_at_zero wp_at_succ
theorem ve(s:AL.St)(hs:AL.Inv s)(k f t q:Int)(A:Option Addr)(n cap:Nat)(l:List Int)(hn:n=l.length)(IM:n<=9223372036854775807)(w:World)(hr:Rd w w.heap.size A n l)(now:Int):
  Calls prog 87 #[.agg (LJ s).toArray,Iv now,.agg #[Iv k,Iv f,Iv t,Iv q,.slice A n cap]] w (jL (AL.QY s now ⟨k,f,t,q,l⟩) (AL.RI s now ⟨k,f,t,q,l⟩) (AL.VS s now ⟨k,f,t,q,l⟩) w):=by
 (have hE:AL.VS s now ⟨k,f,t,q,l⟩=if AQ.vd k f t q n=true/\t=s.id then AL.OK s now else 2:=by rw[hn];rfl);have hS:∀x,AL.VS s now ⟨k,f,t,q,l⟩=x->x≠0->AL.QY s now ⟨k,f,t,q,l⟩=s/\AL.RI s now ⟨k,f,t,q,l⟩=[]:=λx hx h0=>by exact L1
 cases hv:AQ.vd k f t q n
 ·have VA:=Hd (λW:World=>by have:=EJ k f t q A n cap W IM;rw[hv] at this;exact this);have E:=Hd (show AL.VS s now ⟨k,f,t,q,l⟩=2 by rw[hE,hv,AO Fu]);have ES:=Hd (hS 2 E.out Ft);clear hv hE hS hs hn IM hr;go_enter func87,ntmps87;go_upto_region 1 with fail;(refine Ka ?_;intro V k0 k2 HB CX lf KF);go_wp2_with fail;refine(VA.out _).mono ?_;rintro e W1 ⟨rfl,BX⟩;clear CX;(refine K0l ?_;clear k0 k2 HB KF BX;intro k0 k2 KF HB);have jf:=KF.out;have CX:=OH jf;have lf:=BG jf;clear jf;exact Gt
 have VA:=Hd (λW:World=>by have:=EJ k f t q A n cap W IM;rw[hv] at this;exact this)
 by_cases ht:t=s.id
 case neg=>(refine K3k ?_;intro E ES z1 z2);clear hv hE hS hs hn IM hr ht;go_enter func87,ntmps87;go_upto_region 1 with fail;(refine Ka ?_;intro V k0 k2 HB CX lf KF);go_wp2_with fail;refine(VA.out _).mono ?_;rintro e W1 ⟨rfl,BX⟩;clear CX;(refine K0l ?_;clear k0 k2 HB KF BX;intro k0 k2 KF HB);(refine K2V ?_;intro CX lf c0);exact Gt
 case pos=>
 (refine K3K ?_;intro z1 z2 E0);have TM:=Hd (fH s now)
 rcases AL.Ug s now with he|he
 case inr=>have E:=Hd (E0.trans he);have ES:=Hd (hS 3 E.out Ft);rw[he] at TM;clear hv hE hS hs hn IM hr ht E0 he;go_enter func87,ntmps87;go_upto_region 1 with fail;(refine Ka ?_;intro V k0 k2 HB CX lf KF);go_wp2_with fail;refine(VA.out _).mono ?_;rintro e W1 ⟨rfl,BX⟩;clear CX;(refine K0l ?_;clear k0 k2 HB KF BX;intro k0 k2 KF HB);(refine K2V ?_;intro CX lf c0);(go_wp2_with (first|(refine JS rfl 101 _ rfl _ rfl 101 _ (0,0) _ k0 underlying101 rfl Ff ?_)));refine(TM.out _).mono ?_;rintro e W2 ⟨rfl,BX⟩;(clear CX);clear c0;(refine K0l ?_;clear k0 k2 HB KF BX;intro k0 k2 KF HB);exact Gt
 case inl=>
 have E:=Hd (E0.trans he);have hl:=(AL.Uf he).1;have hvv:=AQ.OJ.1 hv;rw[he] at TM;(refine K3v ?_;intro p hp u hu eC hui);(refine K3g ?_;intro x hx hxn r T8 hri);obtain⟨v,WY⟩:=BN (AL.T6 r.1 now);(have hss:AL.QY s now ⟨k,f,t,q,l⟩=v:=by unfold AL.QY;rw[AW E.out,WY,T8,hu,hp,hx];rfl);(have hid:v.id=s.id:=by rw[WY,AL.VV,T8,(AL.Z0 u x).2.2.2.2.2,hu];show p.id=_;rw[hp,AL.VV]);have Uc:AL.RI s now ⟨k,f,t,q,l⟩=if r.2=true then [⟨8,v.id,0,q,[k]⟩] else []:=by
  unfold AL.RI;(have e1:AL.lW s now (AL.MK ⟨k,f,t,q,l⟩)=r.2:=by rw[T8,hu,hp,hx];rfl);rw[e1,hid]
  cases hr2:r.2
  ·rw[AO Fu,AO Fu]
  ·rw[AW ⟨E.out,rfl⟩,AW rfl]
 have PA:=Hd (λ(W:World)=>by have:=Z3 s hs hl W;rw[<-hp] at this;exact this);have TK:=Hd (λ(W:World)(hR:Rd W W.heap.size A n l)=>by have:=uU u hui k f t q A n cap l hn hvv.2.2.1 W hR;rw[<-hx,<-T8] at this;unfold TI at this;exact this);have PB:=Hd (λ(W:World)=>by have:=Z3 r.1 hri hl W;rw[<-WY] at this;exact this);rw[hss,Uc,E.out];have HR:=Hd hr;have HU:=Hd hu;(have RU:0<=k/\k<256:=by omega);(have wk:IntKind.u8.wrap k=k:=by rw[VT];omega);obtain⟨r1,r2⟩:=r;simp only at*;clear hv hE hS hs hn IM hr ht E0 he hl hvv hp hu eC hui hx hxn T8 hri hss Uc WY hid
 cases r2
 all_goals
  go_enter func87,ntmps87;go_upto_region 1 with fail;(refine Ka ?_;intro V k0 k2 HB CX lf KF);go_wp2_with fail;refine(VA.out _).mono ?_;rintro e W1 ⟨rfl,BX⟩;clear CX;(refine K0l ?_;clear k0 k2 HB KF BX;intro k0 k2 KF HB);(refine K2V ?_;intro CX lf c0);(go_wp2_with (first|(refine JS rfl 101 _ rfl _ rfl 101 _ (0,0) _ k0 underlying101 rfl Ff ?_)));refine(TM.out _).mono ?_;rintro e W2 ⟨rfl,BX⟩;(clear CX);clear c0;(refine K0l ?_;clear k0 k2 HB KF BX;intro k0 k2 KF HB);clear z1 z2;go_wp2_with (first|(refine JS rfl 101 _ rfl _ rfl 101 _ (0,0) _ k0 underlying101 rfl Ff ?_));refine(PA.out _).mono ?_;rintro e W3 ⟨rfl,BX⟩;(refine K0l ?_;clear k0 k2 HB KF BX;intro k0 k2 KF HB);go_upto_region 7 with(refine OZ rfl 101 _ _ rfl _ _ rfl rfl 101 _ k0 Ff rfl (DI _) ?_);generalize hW:World.setRow _ _ _=W9;have i0:RB W9 w.heap.size p:=Ci;(refine K30 ?_;intro i2 jf);have XK:=Hd (show Below w.heap.size w W9 by rw[<-hW];exact JO HB.out (Lr _) _);clear hW k0 k2 HB KF;have YG:W9.cell? (Ad w.heap.size 17)=some (Iv p.heard):=AB i0 17 rfl;have f17:=AE i0 17;go_upto_region 8 with fail;generalize hW:World.setCell _ _ _=W10;(have k0:RB W10 w.heap.size u:=by rw[<-hW,HU.out];exact AP i0 17 _);(have k2:RB W10 (w.heap.size+2) FQ:=by rw[<-hW];exact CV i2 Fu _);(have kf:W10.heap[w.heap.size+1]?=some (.cells #[Iv k,Iv f,Iv t,Iv q,.slice A n cap] 147 (0,0)):=by rw[<-hW];exact CV jf Fu _);have HB:=Hd (show Below w.heap.size w W10 by rw[<-hW];have:=XK.out;exact A9);clear hW i0 i2 jf XK YG f17;have CX:=OH kf;have lf:=BG kf;have KF:=Hd kf;clear kf;go_wp2_with (first|(refine JS rfl 101 _ rfl _ rfl 101 _ (0,0) _ k0 underlying101 rfl Ff ?_));refine(TK.out _ ((HR.out.below HB.out (Lr _)).more HB.out.size)).mono ?_;rintro e W4 ⟨rfl,BX⟩;clear CX;(refine K0l ?_;clear k0 k2 HB KF BX;intro k0 k2 KF HB);go_upto_region 9 with(refine OZ rfl 101 _ _ rfl _ _ rfl rfl 101 _ k0 Ff rfl (DI _) ?_);generalize hW:World.setRow _ _ _=W9;have i0:RB W9 w.heap.size r1:=Ci;(refine K30 ?_;intro i2 jf);have DF:=Hd (show Below w.heap.size w W9 by rw[<-hW];exact JO HB.out (Lr _) _);clear hW k0 k2 HB KF;have k0:=i0;have k2:=i2;have KF:=Hd jf;have HB:=DF;clear i0 i2 jf DF;go_wp2_with (first|(refine JS rfl 101 _ rfl _ rfl 101 _ (0,0) _ k0 underlying101 rfl Ff ?_));refine(PB.out _).mono ?_;rintro e W5 ⟨rfl,BX⟩;(refine K0l ?_;clear k0 k2 HB KF BX;intro k0 k2 KF HB);go_upto_region 10 with(refine OZ rfl 101 _ _ rfl _ _ rfl rfl 101 _ k0 Ff rfl (DI _) ?_);generalize hW:World.setRow _ _ _=W6;have g0:RB W6 w.heap.size v:=Ci;have g2:RB W6 (w.heap.size+2) FQ:=Bc;have gf:W6.heap[w.heap.size+1]?=some (.cells #[Iv k,Iv f,Iv t,Iv q,.slice A n cap] 147 (0,0)):=B9;have Qo:=Hd (show Below w.heap.size w W6 by rw[<-hW];exact JO HB.out (Lr _) _);clear hW k0 k2 HB KF
 ·have k0:=g0;have k2:=g2;go_wp2_with (first|(refine JS rfl 101 _ rfl _ rfl 101 _ (0,0) _ k0 underlying101 rfl Ff ?_)|(refine OZ rfl 101 _ _ rfl _ _ rfl rfl 101 _ k2 Ff rfl (DI _) ?_));exact IT (LU rfl _ _ _ _ _ (0,0) _ rfl (MR _ _ _ _ _ _ k2) underlying101 rfl Ff) rfl ⟨_,rfl,IF.nil _ _,JO Qo.out Ft _⟩
 ·go_upto_region 12 with fail;refine Um (S:=λw'=>RB w' w.heap.size v/\w'.heap[w.heap.size+1]?=some (.cells #[Iv k,Iv f,Iv t,Iv q,.slice A n cap] 147 (0,0))) Ff ?_ (λh0=> ?_)
  ·exact⟨g0,gf⟩
  refine GI (i:=0) (v:= .agg (LJ v).toArray) rfl Ff Ff Ff (λ_ _ _ h=>h) (CW Fk 101 _ rfl w.heap.size rfl 101 _ (0,0) _ (λw' h=>h.1) underlying101 rfl Ff) h0 ?_;refine PU ?_;refine GI (i:=1) (v:= ?_) rfl Ff Ff Ff (λ_ _ _ h=>h) (Or.inl ⟨by rfl,?_⟩) h0 ?_;rotate_left
  focus(intro w' BS;have e0:=AB BS.1 0 rfl;have e1:=AB BS.2 3 rfl;have e2:=AB BS.2 0 rfl;(try dsimp only at e0 e1 e2);go_simp;(try with_reducible rfl))
  refine PU ?_;refine GI (i:=2) (v:= ?_) rfl Ff Ff Ff (λ_ _ _ h=>h) (Or.inl ⟨by rfl,?_⟩) h0 ?_;rotate_left
  focus(intro w' BS;have e0:=AB BS.1 0 rfl;have e1:=AB BS.2 3 rfl;have e2:=AB BS.2 0 rfl;(try dsimp only at e0 e1 e2);go_simp;(try with_reducible rfl))
  refine PU ?_;refine GI (i:=3) (v:= ?_) rfl Ff Ff Ff (λ_ _ _ h=>h) (Or.inl ⟨by rfl,?_⟩) h0 ?_;rotate_left
  focus(intro w' BS;have e0:=AB BS.1 0 rfl;have e1:=AB BS.2 3 rfl;have e2:=AB BS.2 0 rfl;(try dsimp only at e0 e1 e2);go_simp;(try with_reducible rfl))
  refine PU ?_;refine GI (i:=4) (v:= ?_) rfl Ff Ff Ff (λ_ _ _ h=>h) (Or.inl ⟨by rfl,?_⟩) h0 ?_;rotate_left
  focus(intro w' BS;have e0:=AB BS.1 0 rfl;have e1:=AB BS.2 3 rfl;have e2:=AB BS.2 0 rfl;(try dsimp only at e0 e1 e2);go_simp;(try with_reducible rfl))
  refine PU ?_;refine GI (i:=5) (v:= ?_) rfl Ff Ff Ff (λ_ _ _ h=>h) (Or.inl ⟨by rfl,?_⟩) h0 ?_;rotate_left
  focus(intro w' BS;have e0:=AB BS.1 0 rfl;have e1:=AB BS.2 3 rfl;have e2:=AB BS.2 0 rfl;(try dsimp only at e0 e1 e2);go_simp;(try with_reducible rfl))
  refine PU ?_;refine GI (i:=6) (v:= ?_) rfl Ff Ff Ff (λ_ _ _ h=>h) (Or.inl ⟨by rfl,?_⟩) h0 ?_;rotate_left
  focus(intro w' BS;have e0:=AB BS.1 0 rfl;have e1:=AB BS.2 3 rfl;have e2:=AB BS.2 0 rfl;(try dsimp only at e0 e1 e2);go_simp;(try with_reducible rfl))
  refine PU ?_;refine GI (i:=7) (v:= ?_) rfl Ff Ff Ff (λ_ _ _ h=>h) (Or.inl ⟨by rfl,?_⟩) h0 ?_;rotate_left
  focus(intro w' BS;have e0:=AB BS.1 0 rfl;have e1:=AB BS.2 3 rfl;have e2:=AB BS.2 0 rfl;(try dsimp only at e0 e1 e2);go_simp;(try with_reducible rfl))
  refine PU ?_;have x2:W6.drew.heap[w.heap.size+2]?=some (.cells (LJ FQ).toArray 101 (0,0)):=g2;have HX:=Hd (show Below w.heap.size w W6.drew from Qo.out.drew);refine OI (rs:=[8,11]) Ff Fu ?_;refine NH rfl (λK hK=> ?_) (NH rfl (λK hK=> ?_) Pd)
  ·go_simp;refine hK.out _ _ ?_ (λh1=> ?_)
   ·exact⟨AI h0.1 _,AI h0.2 _⟩
   clear hK K;refine PU ?_;refine GI (i:=9) (v:= ?_) rfl Ff Ff Ff (λ_ _ _ h=>h) (Or.inl ⟨by rfl,?_⟩) h1 ?_;rotate_left
   focus(intro w' BS;have e0:=AB BS.1 0 rfl;have e1:=AB BS.2 3 rfl;have e2:=AB BS.2 0 rfl;(try dsimp only at e0 e1 e2);go_simp;(try with_reducible rfl))
   refine PU ?_;refine OI (rs:=[10,11]) Ff Fu ?_;refine NH rfl (λK hK=> ?_) (NH rfl (λK hK=> ?_) Pd)
   ·go_simp;refine hK.out _ _ ?_ (λh2=> ?_)
    ·exact⟨AI h1.1 _,AI h1.2 _⟩
    (refine K2H ?_;clear hK K);refine NH rfl (λK hK=> ?_) Pd;refine bU 101 _ _ rfl _ _ rfl rfl 101 _ (AI (AI x2 _) _) Ff rfl (DI _) ?_;refine hK.out _ _ ?_ (λh3=> ?_)
    ·exact⟨(Pq _ _ _ _ Ft).trans h2.1,(Pq _ _ _ _ Ft).trans h2.2⟩
    clear hK K;refine PU ?_;refine GI (i:=12) (v:= ?_) rfl Ff Ff Ff (λ_ _ _ h=>h) (Or.inl ⟨by rfl,?_⟩) h3 ?_;rotate_left
    focus(intro w' BS;have e0:=AB BS.1 0 rfl;have e1:=AB BS.2 3 rfl;have e2:=AB BS.2 0 rfl;(try dsimp only at e0 e1 e2);go_simp;(try with_reducible rfl))
    refine PU ?_;refine GI (i:=13) (v:= ?_) rfl Ff Ff Ff (λ_ _ _ h=>h) (Or.inl ⟨by rfl,?_⟩) h3 ?_;rotate_left
    focus(intro w' BS;have e0:=AB BS.1 0 rfl;have e1:=AB BS.2 3 rfl;have e2:=AB BS.2 0 rfl;(try dsimp only at e0 e1 e2);go_simp;(try with_reducible rfl))
    refine PU ?_;refine RJ Ff ?_ _;go_wp2_with fail;refine IT (LU rfl _ _ _ _ _ (0,0) _ rfl (MR _ _ _ _ _ _ (AI (AI x2 _) _)) underlying101 rfl Ff) rfl ⟨_,rfl,?_,?_⟩
    ·exact Qe (g1:=W6.heap.size) (g2:=W6.heap.size+1) ((Pq _ _ _ _ Bj).trans (AI (AM _ _) _)) ((Pq _ _ _ _ Bj).trans (BK _ _ _ At)) RU D5 D5
    ·exact JO ((HX.out.alloc HX.out.size _).alloc D5 _) Ft _
   ·refine bU 101 _ _ rfl _ _ rfl rfl 101 _ (AI x2 _) Ff rfl (DI _) ?_;refine hK.out _ _ ?_ (λh2=> ?_)
    ·exact⟨(Pq _ _ _ _ Ft).trans h1.1,(Pq _ _ _ _ Ft).trans h1.2⟩
    clear hK K;refine K3c ?_;refine NH rfl (λK hK=> ?_) Pd;go_simp;refine hK.out _ _ ?_ (λh3=> ?_)
    ·exact⟨AI h2.1 _,AI h2.2 _⟩
    clear hK K;refine PU ?_;refine GI (i:=12) (v:= ?_) rfl Ff Ff Ff (λ_ _ _ h=>h) (Or.inl ⟨by rfl,?_⟩) h3 ?_;rotate_left
    focus(intro w' BS;have e0:=AB BS.1 0 rfl;have e1:=AB BS.2 3 rfl;have e2:=AB BS.2 0 rfl;(try dsimp only at e0 e1 e2);go_simp;(try with_reducible rfl))
    refine PU ?_;refine GI (i:=13) (v:= ?_) rfl Ff Ff Ff (λ_ _ _ h=>h) (Or.inl ⟨by rfl,?_⟩) h3 ?_;rotate_left
    focus(intro w' BS;have e0:=AB BS.1 0 rfl;have e1:=AB BS.2 3 rfl;have e2:=AB BS.2 0 rfl;(try dsimp only at e0 e1 e2);go_simp;(try with_reducible rfl))
    refine PU ?_;refine RJ Ff ?_ _;go_wp2_with fail;refine IT (LU rfl _ _ _ _ _ (0,0) _ rfl (AI (MR _ _ _ _ _ _ (AI x2 _)) _) underlying101 rfl Ff) rfl ⟨_,rfl,?_,?_⟩
    ·exact Qe (g1:=W6.heap.size) (g2:=W6.heap.size+1) (AI ((Pq _ _ _ _ Bj).trans (AM _ _)) _) (BK _ _ _ At) RU D5 D5
    ·exact(JO (HX.out.alloc HX.out.size _) Ft _).alloc Bt _
  ·refine bU 101 _ _ rfl _ _ rfl rfl 101 _ (x2) Ff rfl (DI _) ?_;refine hK.out _ _ ?_ (λh1=> ?_)
   ·exact⟨(Pq _ _ _ _ Ft).trans h0.1,(Pq _ _ _ _ Ft).trans h0.2⟩
   (refine K4a ?_;clear hK K);refine NH rfl (λK hK=> ?_) Pd;go_simp;refine hK.out _ _ ?_ (λh2=> ?_)
   ·exact⟨AI h1.1 _,AI h1.2 _⟩
   clear hK K;refine PU ?_;refine GI (i:=9) (v:= ?_) rfl Ff Ff Ff (λ_ _ _ h=>h) (Or.inl ⟨by rfl,?_⟩) h2 ?_;rotate_left
   focus(intro w' BS;have e0:=AB BS.1 0 rfl;have e1:=AB BS.2 3 rfl;have e2:=AB BS.2 0 rfl;(try dsimp only at e0 e1 e2);go_simp;(try with_reducible rfl))
   refine K3c ?_;refine NH rfl (λK hK=> ?_) Pd;go_simp;refine hK.out _ _ ?_ (λh3=> ?_)
   ·exact⟨AI h2.1 _,AI h2.2 _⟩
   clear hK K;refine PU ?_;refine GI (i:=12) (v:= ?_) rfl Ff Ff Ff (λ_ _ _ h=>h) (Or.inl ⟨by rfl,?_⟩) h3 ?_;rotate_left
   focus(intro w' BS;have e0:=AB BS.1 0 rfl;have e1:=AB BS.2 3 rfl;have e2:=AB BS.2 0 rfl;(try dsimp only at e0 e1 e2);go_simp;(try with_reducible rfl))
   refine PU ?_;refine GI (i:=13) (v:= ?_) rfl Ff Ff Ff (λ_ _ _ h=>h) (Or.inl ⟨by rfl,?_⟩) h3 ?_;rotate_left
   focus(intro w' BS;have e0:=AB BS.1 0 rfl;have e1:=AB BS.2 3 rfl;have e2:=AB BS.2 0 rfl;(try dsimp only at e0 e1 e2);go_simp;(try with_reducible rfl))
   refine PU ?_;refine RJ Ff ?_ _;go_wp2_with fail;refine IT (LU rfl _ _ _ _ _ (0,0) _ rfl (AI (AI (MR _ _ _ _ _ _ x2) _) _) underlying101 rfl Ff) rfl ⟨_,rfl,?_,?_⟩
   ·exact Qe (g1:=W6.heap.size) (g2:=W6.heap.size+1) (AI (BK _ _ _ At) _) (BK _ _ _ At) RU D5 D5
   ·exact((JO HX.out Ft _).alloc Bt _).alloc Bt _
theorem vh(id lost ret desc late every d:Int)(w:World)(h:AL.VX id lost ret desc late every d=0):
  Calls prog 78 #[Iv id,.agg #[Iv lost,Iv ret,Iv desc,Iv late,Iv every],Iv d] w λe w'=>e= .returned (.tuple #[.agg (LJ (AL.new id lost ret desc late every d)).toArray,Iv 0])/\Below w.heap.size w w':=by
 have hh:Ck.AV.Rj id 1 64=true/\AL.S9 lost ret desc late every=true/\(0<=d/\d<=100000):=by
  unfold AL.VX at h;split at h
  ·assumption
  ·omega
 obtain⟨hi,hr,hd⟩:=hh;have WI:=Hd (λW:World=>iG id 1 64 W (Ck.AV.EP.1 hi));have VA:=Hd (λW:World=>by have:=VO lost ret desc late every W;rw[hr] at this;exact this);have CM:=Hd (λW:World=>Ck.A00 d W hd);clear h hi hr hd;go_enter func78,ntmps78;go_upto_region 1 with fail;(refine Ko ?_;intro V hV);have kr:V.heap[w.heap.size]?=some (.cells #[Iv lost,Iv ret,Iv desc,Iv late,Iv every] 23 (0,0)):=Cc;have k2:RB V (w.heap.size+1) FQ:=Cp;(refine Kb ?_;intro HB);clear hV;obtain⟨xd,wQ⟩:∃xd:Int,xd=d:=⟨_,rfl⟩;go_wp2_with fail;refine(CM.out _).mono ?_;rintro e W1 ⟨rfl,BX⟩;subst wQ;have IJ:w.heap.size+1<W1.heap.size:=BG (GH k2 BX);go_upto_region 2 with fail;generalize hV:World.alloc _ _=V1;have jr:V1.heap[w.heap.size]?=some (.cells #[Iv lost,Iv ret,Iv desc,Iv late,Iv every] 23 (0,0)):=(by rw[<-hV];exact AI (GH kr BX) _);have j2:RB V1 (w.heap.size+1) FQ:=(by rw[<-hV];exact AI (GH k2 BX) _);have jc:V1.heap[W1.heap.size]?=some (.cells #[Iv xd,Iv 0,.bool false,Iv 0,Iv 0] 99 (0,0)):=D7;have DF:=Hd (show Below w.heap.size w V1 by rw[<-hV];exact(HB.out.trans (BX.mono HB.out.size)).alloc Ft _);clear hV kr k2 HB BX;have CX:=OH jr;have lf:=BG jr;have JR:=Hd jr;have JC:=Hd jc;clear jr jc;go_wp2_with fail;refine(WI.out _).mono ?_;rintro e w' ⟨rfl,rfl⟩;go_wp2_with fail;refine(VA.out _).mono ?_;rintro e W2 ⟨rfl,CB⟩;have i2:=GH j2 CB;have ir:=GH JR.out CB;have ic:=GH JC.out CB;have NB:=JI DF CB;clear CB j2 JR JC;clear CX;have JH:=OH ir;have lg:=BG ir;have Ace:=OH ic;have lh:=BG ic;clear ir ic;go_wp2_with (refine OZ rfl 101 _ _ rfl _ _ rfl rfl 101 _ i2 Ff rfl (DI (AL.new id lost ret desc late every xd)) ?_);exact IT (PX rfl _ _ _ _ _ (0,0) _ rfl (MR _ _ _ _ _ _ i2) underlying101 rfl Ff) rfl ⟨rfl,JO NB.out Ft _⟩
end
section
open ChangeMaps MapKept RowKit WideShapes
open Maps (Keyed IsMap Tidy)
abbrev TM:TypeId:=84
theorem jC:Keyed prog 3:=Maps.int_keyed underlying3
theorem ry(i:Nat)(h:i<=9223372036854775807):keyOf prog 3 (.int .i64 i)=some (.int .i64 i):=Go.Maps.keyOf_int_mk underlying3 (WalkArith.wf_i64 Ft)
theorem A1z(w:World):(zeroValue 4).run prog w= .ok (.bool false) w:=by kernel_rfl
def IsCut(w:World)(mb k:Nat)(cut:List Bool):Prop:=
 ∃D:DataW Unit,w.ownsMap prog 3 (plainElem prog 4) mb k D/\∀i:Nat,D.atKey (.int .i64 i) (.lit (.bool false))= .lit (.bool (cut.getD i false))
section
variable{w w':World}{mb k:Nat}{cut:List Bool}
theorem IsCut.lt(h:IsCut w mb k cut):mb<w.heap.size:=by obtain⟨D,h1,_⟩:=h;exact h1.lt
theorem IsCut.Ol(h:IsCut w mb k cut){i:Nat}{e:TypeId}(g:Ty w i e):i≠mb:=by
 rintro rfl;obtain⟨D,⟨es,clock,hb,_⟩,_⟩:=h;obtain⟨cs,hc⟩:=g;rw[hb] at hc
 cases hc
theorem IsCut.kept{S:Nat->Prop}(h:IsCut w mb k cut)(g:AG S w w')(hS:¬S mb):IsCut w' mb k cut:=by
 obtain⟨D,⟨es,clock,hb,r⟩,h2⟩:=h;exact⟨D,⟨es,clock,AR hb g hS,r⟩,h2⟩
theorem IsCut.mono(h:IsCut w mb k cut){k':Nat}(hk:k<=k'):IsCut w mb k' cut:=by
 obtain⟨D,h1,h2⟩:=h;exact⟨D,h1.mono hk,h2⟩
theorem A1A(w:World)(cut:List Bool)(h:∀i,cut.getD i false=false):IsCut (w.alloc (.map #[] 0)) w.heap.size 0 cut:=by
 refine⟨_,World.ownsMap_made w _ _ _,λi=> ?_⟩;rw[h i];rfl
theorem IsCut.look(h:IsCut w mb k cut)(i:Nat)(hi:i<=9223372036854775807):(Instr.lookup TM (.map (some mb)) (.int .i64 i) false).run prog w= .ok (.bool (cut.getD i false)) w:=by
 obtain⟨D,h1,h2⟩:=h;obtain⟨v,ps,hr,hv⟩:=h1.lookup jC underlying84 (A1z w) (plainElem_bool underlying4 false) (ry i hi);rw[h2 i] at hv;have hvb:v= .bool (cut.getD i false):=by
  unfold plainElem at hv;rw[underlying4] at hv
  cases v<;>simp at hv
  have h3:=hv.1;rw[h3];rfl
 rw[hr,hvb]
theorem IsCut.put(h:IsCut w mb k cut)(i:Nat)(hi:i<cut.length)(tE:i<=9223372036854775807)(hk:k<maxLen):∃w',(Instr.mapUpdate TM (.map (some mb)) (.int .i64 i) (.bool true)).run prog w= .ok () w'/\IsCut w' mb (k+1) (cut.set i true)/\w.grownBy w' (some mb):=by
 obtain⟨D,h1,h2⟩:=h;obtain⟨w',hr,ho,hg⟩:=h1.update jC underlying84 hk (ry i tE) (plainElem_bool underlying4 true);refine⟨w',hr,⟨_,ho,λj=> ?_⟩,hg⟩
 by_cases e:j=i
 ·subst e;rw[Maps.atKey_put_same h1.isMap (by trivial),List.getD,tb hi];rfl
 ·rw[Maps.atKey_put_other C7,h2 j,List.getD,List.getD,sY (λh=>e h.symm)]
theorem IsCut.del(h:IsCut w mb k cut)(i:Nat)(tE:i<=9223372036854775807)(ty:TypeId):∃w',(Builtin.delete_ #[TM,3] ty #[.map (some mb),.int .i64 i]).run prog w= .ok (.tuple #[]) w'/\IsCut w' mb k (cut.set i false)/\w.grownBy w' (some mb):=by
 obtain⟨D,h1,h2⟩:=h;obtain⟨w',hr,ho,ht⟩:=h1.drop jC underlying84 (ry i tE) ty;refine⟨w',hr,⟨_,ho,λj=> ?_⟩,ht.grown⟩
 by_cases e:j=i
 ·subst e;rw[Maps.atKey_del_same]
  by_cases hl:j<cut.length
  ·rw[List.getD,tb hl];rfl
  ·rw[List.getD,R3 (by rw[T9];omega)];rfl
 ·rw[Maps.atKey_del_other C7,h2 j,List.getD,List.getD,sY (λh=>e h.symm)]
end
end
section
open RowKit
structure CM where
 pb:Nat
 pc:Nat
 ub:Nat
 uA:Option Addr
 uc:Nat
 db:Nat
 dA:Option Addr
 dc:Nat
def Qp:CM:=⟨0,0,0,none,0,0,none,0⟩
structure NM where
 sb:Nat
 MA:Option Addr
 mc:Nat
 RA:Option Addr
 rc:Nat
 OA:Option Addr
 oc:Nat
 TA:Option Addr
 tc:Nat
 CA:Option Addr
 cc:Nat
 mb:Nat
 EA:Option Addr
 ec:Nat
 cs:List CM
def ql(m:NM)(s:Nt.St):List Value:=
 [Iv s.r.n,Iv s.r.again,Iv s.r.step,Iv s.r.CY,Iv s.r.lost,Iv s.r.ret,Iv s.r.desc,Iv s.r.late,Iv s.r.every,
  Iv s.r.up.BY,Iv s.r.up.AY,Iv s.r.up.least,Iv s.r.up.BU,Iv s.r.up.seed,Iv s.r.dn.BY,Iv s.r.dn.AY,Iv s.r.dn.least,Iv s.r.dn.BU,Iv s.r.dn.seed,
  .slice m.OA s.r.CJ.length m.oc,.slice m.TA s.r.BL.length m.tc,Iv s.now,Iv s.steps,Pt m.sb,Iv s.ss,.slice m.CA s.cr.length m.cc,.map (some m.mb),.slice m.EA s.ev.length m.ec]
def tZ(m:CM)(c:Nt.Cr):List Value:=[Pt m.pb,Pt m.ub,Pt m.db,Iv c.s]
def Pk:List CM->List Nt.Cr->List Value
 |m::ms,c::cs=>tZ m c++Pk ms cs
 |_,_=>[]
def jz(e:Int×Int×Int):List Value:=[Iv e.1,Iv e.2.1,Iv e.2.2]
def UQ(l:List (Int×Int×Int)):List Value:=l.flatMap jz
def Rt(l:List Int):List Value:=l.map (Value.int .i64)
theorem tY:∀(ms:List CM)(cs:List Nt.Cr)(i j:Nat),ms.length=cs.length->i<cs.length->j<4->(Pk ms cs)[i*4+j]?=(tZ (ms.getD i Qp) (cs.getD i Nt.c0))[j]?
 |m::ms,c::cs,0,j,h,hi,hj=>by rw[Pk,fR,PL,mj (by simpa[tZ] using hj)];rfl
 |m::ms,c::cs,i+1,j,h,hi,hj=>by rw[Pk,vI (by simp[tZ];omega)];(have e:(i+1)*4+j-(tZ m c).length=i*4+j:=by simp[tZ];omega);rw[e,tY ms cs i j F7 F3 hj];rfl
 |[],_::_,_,_,h,_,_=>by simp at h
 |_,[],_,_,_,hi,_=>by simp at hi
theorem o9:∀(ms:List CM)(cs:List Nt.Cr)(i:Nat)(c:Nt.Cr),c.s=(cs.getD i Nt.c0).s->Pk ms (cs.set i c)=Pk ms cs
 |[],cs,_,_,_=>by cases cs<;>rfl
 |m::ms,[],_,_,_=>rfl
 |m::ms,d::cs,0,c,h=>by have h':c.s=d.s:=h;simp only[P3,Pk,tZ,h']
 |m::ms,d::cs,i+1,c,h=>by rw[P0,Pk,Pk,o9 ms cs i c h]
theorem tX:∀(ms:List CM)(cs:List Nt.Cr)(i:Nat)(m:CM),m.pb=(ms.getD i Qp).pb->m.ub=(ms.getD i Qp).ub->m.db=(ms.getD i Qp).db->Pk (ms.set i m) cs=Pk ms cs
 |[],cs,_,_,_,_,_=>by cases cs<;>rfl
 |n::ms,[],i,_,_,_,_=>by cases i<;>rfl
 |n::ms,d::cs,0,m,h1,h2,h3=>by have h1:m.pb=n.pb:=h1;have h2:m.ub=n.ub:=h2;have h3:m.db=n.db:=h3;simp only[P3,Pk,tZ,h1,h2,h3]
 |n::ms,d::cs,i+1,m,h1,h2,h3=>by rw[P0,Pk,Pk,tX ms cs i m h1 h2 h3]
theorem A1C:∀(ms:List CM)(cs:List Nt.Cr)(i:Nat)(x:Int),ms.length=cs.length->i<cs.length->Pk ms (cs.set i {cs.getD i Nt.c0 with s:=x})=(Pk ms cs).set (i*4+3) (Iv x)
 |m::ms,c::cs,0,x,h,hi=>by rw[P3,Pk,Pk,List.set_append_left _ _ (by simp[tZ])];rfl
 |m::ms,c::cs,i+1,x,h,hi=>by rw[P0,Pk,Pk,List.set_append_right _ _ (by simp[tZ];omega)];(have e:(i+1)*4+3-(tZ m c).length=i*4+3:=by simp[tZ];omega);have:=A1C ms cs i x F7 F3;rw[e,<-this];rfl
 |[],_::_,_,_,h,_=>by simp at h
 |_,[],_,_,_,hi=>by simp at hi
def Cf(m:CM)(i:Nat):Prop:=i=m.pb\/i=m.pc\/Xn m.ub m.uA i\/Xn m.db m.dA i
def NF(b:Nat)(m:NM)(i:Nat):Prop:=i=b\/S8 m.sb m.MA m.RA i\/AK m.OA=some i\/AK m.TA=some i\/AK m.CA=some i\/i=m.mb\/AK m.EA=some i\/∃j,j<m.cs.length/\Cf (m.cs.getD j Qp) i
structure Zu(w:World)(base:Nat)(m:CM)(ru rd:AN.Ru)(c:Nt.Cr):Prop where
 p:Of w base m.pb m.pc c.p
 up:EO w base m.ub m.uA m.uc ru c.up
 dn:EO w base m.db m.dA m.dc rd c.dn
 ne:∀i,Xn m.ub m.uA i->¬Xn m.db m.dA i
structure BQ(w:World)(base b:Nat)(m:NM)(k:Nat)(s:Nt.St):Prop where
 BM:w.heap[b]?=some (.cells (ql m s).toArray 86 (0,0))
 st:FC w base m.sb m.MA m.mc m.RA m.rc s.st
 CJ:Row w base 3 1 m.OA s.r.CJ.length m.oc (Rt s.r.CJ)
 BL:Row w base 3 1 m.TA s.r.BL.length m.tc (Rt s.r.BL)
 S1:Row w base 108 4 m.CA s.cr.length m.cc (Pk m.cs s.cr)
 GM:Row w base 58 3 m.EA s.ev.length m.ec (UQ s.ev)
 cr:∀i,i<s.cr.length->Zu w base (m.cs.getD i Qp) (Nt.JQ s.r.up i) (Nt.JQ s.r.dn i) (Nt.at_ s i)
 len:m.cs.length=s.cr.length
 gW:∀i j,i<s.cr.length->j<s.cr.length->i≠j->∀q,Cf (m.cs.getD i Qp) q->¬Cf (m.cs.getD j Qp) q
 cut:∃k',k'<=k/\IsCut w m.mb k' s.cut
 ge:base<=b/\base<=m.mb
 so:∀q,AK m.OA=some q\/AK m.TA=some q->¬S8 m.sb m.MA m.RA q
section
variable{w w':World}{base b k:Nat}{m:NM}{s:Nt.St}
theorem EO.ty{b c:Nat}{A:Option Addr}{r:AN.Ru}{l:AN.St}(h:EO w base b A c r l){i:Nat}(hi:Xn b A i):Ty w i 172\/Ty w i 175:=by
 rcases hi with rfl|hi
 ·exact .inl ⟨_,h.BM⟩
 ·exact .inr (h.row.ty hi)
theorem Zu.ty{c:CM}{ru rd:AN.Ru}{x:Nt.Cr}(h:Zu w base c ru rd x){i:Nat}(hi:Cf c i):Ty w i 168\/Ty w i 213\/Ty w i 172\/Ty w i 175:=by
 rcases hi with rfl|rfl|hi|hi
 ·exact .inl ⟨_,h.p.BM⟩
 ·exact .inr (.inl ⟨_,h.p.Tc⟩)
 ·exact .inr (.inr (h.up.ty hi))
 ·exact .inr (.inr (h.dn.ty hi))
theorem Zu.lt{c:CM}{ru rd:AN.Ru}{x:Nt.Cr}(h:Zu w base c ru rd x){i:Nat}(hi:Cf c i):base<=i/\i<w.heap.size:=by
 rcases hi with rfl|rfl|hi|hi
 ·exact⟨h.p.ge.1,h.p.lt.1⟩
 ·exact⟨h.p.ge.2,h.p.lt.2⟩
 ·exact⟨h.up.TD i hi,h.up.two i hi⟩
 ·exact⟨h.dn.TD i hi,h.dn.two i hi⟩
theorem Zu.kept{S:Nat->Prop}{c:CM}{ru rd:AN.Ru}{x:Nt.Cr}(h:Zu w base c ru rd x)(k:AG S w w')(hS:∀i,Cf c i->¬S i):Zu w' base c ru rd x:=
 ⟨h.p.kept k (hS _ (.inl rfl)) (hS _ (.inr (.inl rfl))),h.up.kept k (λi hi=>hS i (.inr (.inr (.inl hi)))),h.dn.kept k (λi hi=>hS i (.inr (.inr (.inr hi)))),h.ne⟩
def NT(e:TypeId):Prop:=e=86\/e=162\/e=3\/e=165\/e=108\/e=58\/e=168\/e=213\/e=172\/e=175
theorem BQ.ty(h:BQ w base b m k s){i:Nat}(hi:NF b m i):i=m.mb\/∃e,NT e/\Ty w i e:=by
 rcases hi with rfl|hi|hi|hi|hi|hi|hi|⟨j,hj,hi⟩
 ·exact .inr ⟨_,.inl rfl,_,h.BM⟩
 ·rcases h.st.three hi with g|g|g
  ·exact .inr ⟨_,.inr (.inl rfl),g⟩
  ·exact .inr ⟨_,.inr (.inr (.inl rfl)),g⟩
  ·exact .inr ⟨_,.inr (.inr (.inr (.inl rfl))),g⟩
 ·exact .inr ⟨_,.inr (.inr (.inl rfl)),h.CJ.ty hi⟩
 ·exact .inr ⟨_,.inr (.inr (.inl rfl)),h.BL.ty hi⟩
 ·exact .inr ⟨_,.inr (.inr (.inr (.inr (.inl rfl)))),h.S1.ty hi⟩
 ·exact .inl hi
 ·exact .inr ⟨_,.inr (.inr (.inr (.inr (.inr (.inl rfl))))),h.GM.ty hi⟩
 ·rcases(h.cr j Dp).ty hi with g|g|g|g
  ·exact .inr ⟨_,.inr (.inr (.inr (.inr (.inr (.inr (.inl rfl)))))),g⟩
  ·exact .inr ⟨_,.inr (.inr (.inr (.inr (.inr (.inr (.inr (.inl rfl))))))),g⟩
  ·exact .inr ⟨_,.inr (.inr (.inr (.inr (.inr (.inr (.inr (.inr (.inl rfl)))))))),g⟩
  ·exact .inr ⟨_,.inr (.inr (.inr (.inr (.inr (.inr (.inr (.inr (.inr rfl)))))))),g⟩
theorem BQ.lt(h:BQ w base b m k s){i:Nat}(hi:NF b m i):base<=i/\i<w.heap.size:=by
 rcases hi with rfl|hi|hi|hi|hi|rfl|hi|⟨j,hj,hi⟩
 ·exact⟨h.ge.1,BG h.BM⟩
 ·exact h.st.bf hi
 ·exact h.CJ.lt hi
 ·exact h.BL.lt hi
 ·exact h.S1.lt hi
 ·obtain⟨k',_,hc⟩:=h.cut;exact⟨h.ge.2,hc.lt⟩
 ·exact h.GM.lt hi
 ·exact(h.cr j Dp).lt hi
theorem BQ.au(h:BQ w base b m k s){i:Nat}{e:TypeId}(g:Ty w i e)(he:¬NT e):¬NF b m i:=λhi=>by
 rcases h.ty hi with hm|⟨f,hf,hg⟩
 ·obtain⟨k',_,hc⟩:=h.cut;exact hc.Ol g hm
 ·exact g.ne hg (λe'=>he (e'▸hf)) rfl
theorem BQ.kept{S:Nat->Prop}(h:BQ w base b m k s)(g:AG S w w')(hS:∀i,NF b m i->¬S i):BQ w' base b m k s where
 BM:=AR h.BM g (hS _ (.inl rfl))
 st:=h.st.kept g (λi hi=>hS i (.inr (.inl hi)))
 CJ:=h.CJ.kept g (λi hi=>hS i (.inr (.inr (.inl hi))))
 BL:=h.BL.kept g (λi hi=>hS i (.inr (.inr (.inr (.inl hi)))))
 S1:=h.S1.kept g (λi hi=>hS i (.inr (.inr (.inr (.inr (.inl hi))))))
 GM:=h.GM.kept g (λi hi=>hS i (.inr (.inr (.inr (.inr (.inr (.inr (.inl hi))))))))
 cr:=λi hi=>(h.cr i hi).kept g (λj hj=>hS j (.inr (.inr (.inr (.inr (.inr (.inr (.inr ⟨i,by rw[h.len];exact hi,hj⟩))))))))
 len:=h.len
 gW:=h.gW
 cut:=by obtain⟨k',h1,h2⟩:=h.cut;exact⟨k',h1,h2.kept g (hS _ (.inr (.inr (.inr (.inr (.inr (.inl rfl)))))))⟩
 ge:=h.ge
 so:=h.so
theorem BQ.below(h:BQ w base b m k s)(g:Below w.heap.size w w'):BQ w' base b m k s:=h.kept (AG.AS (S:=λ_=>False) g) (λ_ _ h=>h)
theorem BQ.mono(h:BQ w base b m k s){k':Nat}(hk:k<=k'):BQ w base b m k' s:={h with cut:=by obtain⟨k0,h1,h2⟩:=h.cut;exact⟨k0,by omega,h2⟩}
end
theorem IF.kept{P:Nat->Prop}{w w':World}{base:Nat}{v:Value}{l:List Fr}(h:IF w base v l)(k:AG P w w')(hP:∀i,P i->¬Ty w i 147/\¬Ty w i 5):IF w' base v l:=by
 obtain⟨vs,g1,g2,g3⟩:=h;refine⟨vs,g1,⟨g2.1,?_⟩,λy hy=>⟨⟨(g3 y hy).1.1,?_⟩,(g3 y hy).2⟩⟩
 ·rcases g2.2 with h1|⟨g,c,cur,h1,h2,h3,h4⟩
  ·exact .inl h1
  ·exact .inr ⟨g,c,cur,h1,h2,AR h3 k (λhp=>(hP g hp).1 ⟨_,h3⟩),h4⟩
 ·rcases(g3 y hy).1.2 with h1|⟨g,c,cur,h1,h2,h3,h4⟩
  ·exact .inl h1
  ·exact .inr ⟨g,c,cur,h1,h2,AR h3 k (λhp=>(hP g hp).2 ⟨_,h3⟩),h4⟩
def NM.fix(m:NM):Option Addr×Option Addr×Nat×Option Addr×Nat:=(m.CA,m.OA,m.oc,m.TA,m.tc)
def NG(b:Nat)(m m':NM)(n:Nat):Prop:=(∀q,NF b m' q->NF b m q\/n<=q)/\m'.fix=m.fix
theorem NG.CA{b n:Nat}{m m':NM}(g:NG b m m' n):m'.CA=m.CA:=OP (·.1) g.2
theorem NG.refl{b n:Nat}{m:NM}:NG b m m n:=⟨λ_ h=> .inl h,rfl⟩
def Q4(base b:Nat)(m:NM)(k:Nat)(s':Nt.St)(w w':World):Prop:=∃m',BQ w' base b m' k s'/\AG (NF b m) w w'/\NG b m m' w.heap.size
section
variable{w w' w1:World}{base b k:Nat}{m m1:NM}{s s1 s':Nt.St}
theorem Q4.refl(h:BQ w base b m k s):Q4 base b m k s w w:=⟨m,h,AG.refl _ _,NG.refl⟩
theorem Q4.AS(h:BQ w base b m k s)(g:Below w.heap.size w w'):Q4 base b m k s w w':=⟨m,h.below g,AG.AS g,NG.refl⟩
theorem Q4.trans(h1:AG (NF b m) w w1)(h2:NG b m m1 w.heap.size)(h:Q4 base b m1 k s' w1 w'):Q4 base b m k s' w w':=by
 exact Il
theorem Q4.below(h:Q4 base b m k s' w w1)(g:Below w1.heap.size w1 w'):Q4 base b m k s' w w':=by
 exact Jz
theorem Q4.mono(h:Q4 base b m k s' w w'){k':Nat}(hk:k<=k'):Q4 base b m k' s' w w':=by
 obtain⟨m',g1,g2,g3⟩:=h;exact⟨m',g1.mono hk,g2,g3⟩
theorem Cf.nf{j:Nat}(hj:j<m.cs.length){q:Nat}(hq:Cf (m.cs.getD j Qp) q):NF b m q:= .inr (.inr (.inr (.inr (.inr (.inr (.inr ⟨j,hj,hq⟩))))))
theorem Rk{α:Type}(l:List α)(i j:Nat)(x d:α)(hi:i<l.length):(l.set i x).getD j d=if j=i then x else l.getD j d:=by
 by_cases e:j=i
 ·subst e;rw[AW rfl,List.getD,tb hi];rfl
 ·rw[AO e,List.getD,List.getD,sY (λh=>e h.symm)]
theorem BQ.ZC(h:BQ w base b m k s){i q:Nat}(hi:i<s.cr.length){e:TypeId}(g:Ty w q e)(h1:e≠168)(h2:e≠213)(h3:e≠172)(h4:e≠175):¬Cf (m.cs.getD i Qp) q:=λhq=>by
 rcases(h.cr i hi).ty hq with k|k|k|k
 ·exact g.ne k h1 rfl
 ·exact g.ne k h2 rfl
 ·exact g.ne k h3 rfl
 ·exact g.ne k h4 rfl
theorem BQ.A4V(h:BQ w base b m k s){i:Nat}(hi:i<s.cr.length){S:Nat->Prop}(kk:AG S w w')(hS:∀q,S q->Cf (m.cs.getD i Qp) q){c':CM}{x':Nt.Cr}
  (hc:Zu w' base c' (Nt.JQ s.r.up i) (Nt.JQ s.r.dn i) x')(e1:c'.pb=(m.cs.getD i Qp).pb)(e2:c'.ub=(m.cs.getD i Qp).ub)(e3:c'.db=(m.cs.getD i Qp).db)(hx:x'.s=(Nt.at_ s i).s)
  (jh:∀q,Cf c' q->Cf (m.cs.getD i Qp) q\/w.heap.size<=q):Q4 base b m k (Nt.put s i x') w w':=by
 (have hil:i<m.cs.length:=by rw[h.len];exact hi);have GG:(s.cr.set i x').length=s.cr.length:=T9;refine⟨{m with cs:=m.cs.set i c'},⟨?_,?_,?_,?_,?_,?_,?_,?_,?_,?_,h.ge,h.so⟩,kk.mono (λq _ hq=>Cf.nf hil (hS q hq)),?_,rfl⟩
 ·have:=AR h.BM kk (λhq=>h.ZC hi ⟨_,h.BM⟩ Fj Fj Fj Fj (hS _ hq));(have e:ql {m with cs:=m.cs.set i c'} (Nt.put s i x')=ql m s:=by simp only[ql,Nt.put,GG]);rw[e];exact this
 ·exact h.st.kept kk (λq hq hs=>by
   rcases h.st.three hq with g|g|g
   ·exact h.ZC hi g Fj Fj Fj Fj (hS q hs)
   ·exact h.ZC hi g Fj Fj Fj Fj (hS q hs)
   ·exact h.ZC hi g Fj Fj Fj Fj (hS q hs))
 ·exact h.CJ.kept kk (λg hg hs=>h.ZC hi (h.CJ.ty hg) Fj Fj Fj Fj (hS g hs))
 ·exact h.BL.kept kk (λg hg hs=>h.ZC hi (h.BL.ty hg) Fj Fj Fj Fj (hS g hs))
 ·have:=h.S1.kept kk (λg hg hs=>h.ZC hi (h.S1.ty hg) Fj Fj Fj Fj (hS g hs));show Row w' base 108 4 m.CA (s.cr.set i x').length m.cc (Pk (m.cs.set i c') (s.cr.set i x'));rw[GG,o9 _ _ _ _ hx,tX _ _ _ _ e1 e2 e3];exact this
 ·exact h.GM.kept kk (λg hg hs=>h.ZC hi (h.GM.ty hg) Fj Fj Fj Fj (hS g hs))
 ·intro j hj;(have hj':j<s.cr.length:=by rw[<-GG];exact hj);show Zu w' base ((m.cs.set i c').getD j Qp) _ _ ((s.cr.set i x').getD j Nt.c0);rw[Rk _ _ _ _ _ hil,Rk _ _ _ _ _ hi]
  by_cases e:j=i
  ·subst e;rw[AW rfl,AW rfl];exact hc
  ·rw[AO e,AO e];exact(h.cr j hj').kept kk (λq hq hs=>h.gW j i hj' hi e q hq (hS q hs))
 ·show(m.cs.set i c').length=(s.cr.set i x').length;rw[T9,T9,h.len]
 ·intro j l hj hl LX q hq jY;(have hj':j<s.cr.length:=by rw[<-GG];exact hj);(have hl':l<s.cr.length:=by rw[<-GG];exact hl);have tC:Cf ((m.cs.set i c').getD j Qp) q:=hq;have oN:Cf ((m.cs.set i c').getD l Qp) q:=jY;clear hq jY;rw[Rk _ _ _ _ _ hil] at tC;rw[Rk _ _ _ _ _ hil] at oN
  by_cases e:j=i
  ·subst e;rw[AW rfl] at tC;rw[AO (λe=>LX e.symm)] at oN
   rcases jh q tC with g|g
   ·exact h.gW j l hj' hl' LX q g oN
   ·have:=((h.cr l hl').lt oN).2;omega
  ·rw[AO e] at tC
   by_cases e':l=i
   ·subst e';rw[AW rfl] at oN
    rcases jh q oN with g|g
    ·exact h.gW j l hj' hl' LX q tC g
    ·have:=((h.cr j hj').lt tC).2;omega
   ·rw[AO e'] at oN;exact h.gW j l hj' hl' LX q tC oN
 ·obtain⟨k',h1,h2⟩:=h.cut;exact⟨k',h1,h2.kept kk (λhs=>by
   rcases(h.cr i hi).ty (hS _ hs) with g|g|g|g<;>exact h2.Ol g rfl)⟩
 ·rintro q (hq|hq|hq|hq|hq|hq|hq|⟨j,hj,hq⟩)
  ·exact .inl (.inl hq)
  ·exact .inl (.inr (.inl hq))
  ·exact .inl (.inr (.inr (.inl hq)))
  ·exact .inl (.inr (.inr (.inr (.inl hq))))
  ·exact .inl (.inr (.inr (.inr (.inr (.inl hq)))))
  ·exact .inl (.inr (.inr (.inr (.inr (.inr (.inl hq))))))
  ·exact .inl (.inr (.inr (.inr (.inr (.inr (.inr (.inl hq)))))))
  ·have hj':j<m.cs.length:=by
    have:j<(m.cs.set i c').length:=hj
    rwa [T9] at this
   have hq:Cf ((m.cs.set i c').getD j Qp) q:=hq;rw[Rk _ _ _ _ _ hil] at hq
   by_cases e:j=i
   ·rw[AW e] at hq
    rcases jh q hq with g|g
    ·exact .inl (Cf.nf hil g)
    ·exact .inr g
   ·rw[AO e] at hq;exact .inl (Cf.nf hj' hq)
theorem BQ.yt(h:BQ w base b m k s){i:Nat}(hi:i<s.cr.length){l':AN.St}(g:VC base (m.cs.getD i Qp).ub (m.cs.getD i Qp).uA (Nt.JQ s.r.up i) l' w w'):Q4 base b m k (Nt.put s i {Nt.at_ s i with up:=l'}) w w':=by
 obtain⟨A',c',g1,g2,g3⟩:=g;have hc:=h.cr i hi;refine h.A4V hi g2 (λq hq=> .inr (.inr (.inl hq))) (c':={m.cs.getD i Qp with uA:=A',uc:=c'}) ⟨hc.p.kept g2 ?_ ?_,g1,hc.dn.kept g2 (λq hq hs=>hc.ne q hs hq),λq hq hs=> ?_⟩ rfl rfl rfl rfl (λq hq=> ?_)
 ·intro hs
  rcases hc.up.ty hs with t|t
  ·exact t.ne ⟨_,hc.p.BM⟩ Fj rfl
  ·exact t.ne ⟨_,hc.p.BM⟩ Fj rfl
 ·intro hs
  rcases hc.up.ty hs with t|t
  ·exact t.ne ⟨_,hc.p.Tc⟩ Fj rfl
  ·exact t.ne ⟨_,hc.p.Tc⟩ Fj rfl
 ·have h2:=hc.dn.two q hs
  rcases Oj q w.heap.size with hh|hh
  ·exact hc.ne q (Wv g3 q hh hq) hs
  ·omega
 ·rcases hq with hq|hq|hq|hq
  ·exact .inl (.inl hq)
  ·exact .inl (.inr (.inl hq))
  ·rcases Oj q w.heap.size with hh|hh
   ·exact .inl (.inr (.inr (.inl (Wv g3 q hh hq))))
   ·exact .inr hh
  ·exact .inl (.inr (.inr (.inr hq)))
theorem BQ.yu(h:BQ w base b m k s){i:Nat}(hi:i<s.cr.length){l':AN.St}(g:VC base (m.cs.getD i Qp).db (m.cs.getD i Qp).dA (Nt.JQ s.r.dn i) l' w w'):Q4 base b m k (Nt.put s i {Nt.at_ s i with dn:=l'}) w w':=by
 obtain⟨A',c',g1,g2,g3⟩:=g;have hc:=h.cr i hi;refine h.A4V hi g2 (λq hq=> .inr (.inr (.inr hq))) (c':={m.cs.getD i Qp with dA:=A',dc:=c'}) ⟨hc.p.kept g2 ?_ ?_,hc.up.kept g2 (λq hq hs=>hc.ne q hq hs),g1,λq hq hs=> ?_⟩ rfl rfl rfl rfl (λq hq=> ?_)
 ·intro hs
  rcases hc.dn.ty hs with t|t
  ·exact t.ne ⟨_,hc.p.BM⟩ Fj rfl
  ·exact t.ne ⟨_,hc.p.BM⟩ Fj rfl
 ·intro hs
  rcases hc.dn.ty hs with t|t
  ·exact t.ne ⟨_,hc.p.Tc⟩ Fj rfl
  ·exact t.ne ⟨_,hc.p.Tc⟩ Fj rfl
 ·have h2:=hc.up.two q hq
  rcases Oj q w.heap.size with hh|hh
  ·exact hc.ne q hq (Wv g3 q hh hs)
  ·omega
 ·rcases hq with hq|hq|hq|hq
  ·exact .inl (.inl hq)
  ·exact .inl (.inr (.inl hq))
  ·exact .inl (.inr (.inr (.inl hq)))
  ·rcases Oj q w.heap.size with hh|hh
   ·exact .inl (.inr (.inr (.inr (Wv g3 q hh hq))))
   ·exact .inr hh
theorem BQ.toP(h:BQ w base b m k s){i:Nat}(hi:i<s.cr.length){p':AL.St}(g1:Of w' base (m.cs.getD i Qp).pb (m.cs.getD i Qp).pc p')(g2:AG (λq=>q=(m.cs.getD i Qp).pb\/q=(m.cs.getD i Qp).pc) w w'):Q4 base b m k (Nt.put s i {Nt.at_ s i with p:=p'}) w w':=by
 have hc:=h.cr i hi;have ht:∀q,(q=(m.cs.getD i Qp).pb\/q=(m.cs.getD i Qp).pc)->Ty w q 168\/Ty w q 213:=by
  rintro q (rfl|rfl)
  ·exact .inl ⟨_,hc.p.BM⟩
  ·exact .inr ⟨_,hc.p.Tc⟩
 have hl:∀q,(Ty w q 172\/Ty w q 175)->¬(q=(m.cs.getD i Qp).pb\/q=(m.cs.getD i Qp).pc):=by
  intro q hq hs
  rcases ht q hs with t|t<;>rcases hq with u|u<;>exact t.ne u Fj rfl
 exact h.A4V hi g2 (λq hq=>hq.elim .inl (λh=> .inr (.inl h))) (c':=m.cs.getD i Qp) ⟨g1,hc.up.kept g2 (λq hq=>hl q (hc.up.ty hq)),hc.dn.kept g2 (λq hq=>hl q (hc.dn.ty hq)),hc.ne⟩ rfl rfl rfl rfl (λq hq=> .inl hq)
theorem BQ.pk(h:BQ w base b m k s){st':AJ.St}{km:Option Addr}{wh:Nat}(g1:FC w' base m.sb km wh m.RA m.rc st')(g2:AG (S8 m.sb m.MA m.RA) w w')(g3:AK km=AK m.MA\/∃g,AK km=some g/\w.heap.size<=g):Q4 base b m k {s with st:=st'} w w':=by
 (have hn:∀(q:Nat)(e:TypeId),Ty w q e->e≠162->e≠3->e≠165->¬S8 m.sb m.MA m.RA q:=λq e g a b c=>h.st.au g a b c);have h3:∀q,S8 m.sb km m.RA q->S8 m.sb m.MA m.RA q\/w.heap.size<=q:=by
  rintro q (hq|hq|hq)
  ·exact .inl (.inl hq)
  ·rcases g3 with e|⟨g,e,hg⟩
   ·exact .inl (.inr (.inl (e▸hq)))
   ·rw[e] at hq;injection hq with hq;exact .inr (hq▸hg)
  ·exact .inl (.inr (.inr hq))
 refine⟨{m with MA:=km,mc:=wh},⟨?_,g1,?_,?_,?_,?_,?_,h.len,h.gW,?_,h.ge,?_⟩,g2.mono (λq _ hq=> .inr (.inl hq)),?_,rfl⟩
 ·exact AR h.BM g2 (hn _ _ ⟨_,h.BM⟩ Fj Fj Fj)
 ·exact h.CJ.kept g2 (λq hq=>h.so q (.inl hq))
 ·exact h.BL.kept g2 (λq hq=>h.so q (.inr hq))
 ·exact h.S1.kept g2 (λq hq=>hn _ _ (h.S1.ty hq) Fj Fj Fj)
 ·exact h.GM.kept g2 (λq hq=>hn _ _ (h.GM.ty hq) Fj Fj Fj)
 ·intro i hi;exact(h.cr i hi).kept g2 (λq hq=>by
   rcases(h.cr i hi).ty hq with t|t|t|t<;>exact hn _ _ t Fj Fj Fj)
 ·obtain⟨k',h1,h2⟩:=h.cut;exact⟨k',h1,h2.kept g2 (λhs=>by rcases h.st.three hs with t|t|t<;>exact h2.Ol t rfl)⟩
 ·intro q hq hs
  rcases h3 q hs with g|g
  ·exact h.so q hq g
  ·rcases hq with hq|hq
   ·have:=(h.CJ.lt hq).2;omega
   ·have:=(h.BL.lt hq).2;omega
 ·rintro q (hq|hq|hq)
  ·exact .inl (.inl hq)
  ·exact(h3 q hq).imp (λg=> .inr (.inl g)) id
  ·exact .inl (.inr (.inr hq))
end
end
section
set_option maxRecDepth 512
namespace Nt
open Go.RowKit
def aB(n:Nat)(f:Fr):Prop:=(1<=max f.f f.t/\max f.f f.t<=(n:Int))/\By f.d/\f.d.length<=64
structure Po(N:Nat)(i:Nat)(c:Cr):Prop where
 p:AL.Inv c.p
 id:c.p.id=(i:Int)+1
 MO:c.p.AZ<=N
 up:AN.Inv c.up
 dn:AN.Inv c.dn
 us:c.up.BB<=N
 ds:c.dn.BB<=N
structure Inv(N:Nat)(s:St):Prop where
 st:AJ.Inv s.st
 sn:s.st.n=s.cr.length
 rn:s.r.n=s.cr.length
 up:AN.MP s.r.up=true/\s.r.up.seed<=1099511627776
 dn:AN.MP s.r.dn=true/\s.r.dn.seed<=1099511627776
 now:0<=s.now/\s.now<=3600000
 step:1<=s.r.step/\s.r.step<=1000
 steps:0<=s.steps/\s.steps<=100000
 CJ:s.r.CJ.length=s.cr.length
 BL:s.r.BL.length=s.cr.length
 cr:∀i,i<s.cr.length->Po N i (at_ s i)
 cut:s.cut.length=s.cr.length+1
 ev:s.ev.length<=N
theorem Inv.n{N:Nat}{s:St}(h:Inv N s):1<=s.cr.length/\s.cr.length<=64:=by rw[<-h.sn];exact h.st.n
theorem Po.mono{N M i:Nat}{c:Cr}(h:Po N i c)(hM:N<=M):Po M i c:={h with MO:=by have:=h.MO;omega,us:=by have:=h.us;omega,ds:=by have:=h.ds;omega}
theorem Inv.mono{N M:Nat}{s:St}(h:Inv N s)(hM:N<=M):Inv M s:={h with cr:=λi hi=>(h.cr i hi).mono hM,ev:=by have:=h.ev;omega}
theorem PQ{r:AN.Ru}(h:AN.MP r=true)(i:Nat):AN.MP (JQ r i)=true:=by
 rw[AN.OE] at h⊢;obtain⟨h1,h2,h3,h4,h5⟩:=h;exact⟨h1,h2,h3,h4,by show 0<=r.seed+_;omega⟩
theorem tr{r:AN.Ru}{s:AN.St}{now k f t q:Int}{d:List Int}(hr:AN.MP r=true)(h:AN.Inv s)(hd:By d)(hs:s.BB<1000000000000000):AN.Inv (ez r s now k f t q d):=by
 unfold ez;split
 ·rename_i hv
  refine AN.A0F hr h ?_ hs;have hb:=AQ.u6 hv hd;have hc:=AQ.YC hb;refine AQ.By.append (AQ.By.append Db hb) Db
 ·exact h
theorem uR(r:AN.Ru)(s:AN.St)(now:Int)(b:List Int):(AN.send r s now b).BB<=s.BB+1:=by
 unfold AN.send;split
 ·split
  ·simp[AN.Te]
  ·split
   ·simp[AN.br,AN.TS,AN.put,AN.Te]
   ·simp[AN.TS,AN.put,AN.Te]
 ·omega
theorem sw(r:AN.Ru)(s:AN.St)(now k f t q:Int)(d:List Int):(ez r s now k f t q d).BB<=s.BB+1:=by
 unfold ez;split
 ·exact uR _ _ _ _
 ·omega
theorem fE(s:AN.St)(now:Int):(AN.recv s now).BB=s.BB:=by unfold AN.recv;split<;>rfl
theorem Ve(s:St)(i j:Nat)(c:Cr)(hi:i<s.cr.length):at_ (put s i c) j=if j=i then c else at_ s j:=by
 unfold at_ put
 by_cases e:j=i
 ·subst e;rw[AW rfl];show(s.cr.set j c).getD j c0=c;rw[List.getD,tb hi];rfl
 ·rw[AO e];show(s.cr.set i c).getD j c0=s.cr.getD j c0;rw[List.getD,List.getD,sY (λh=>e h.symm)]
theorem JF(s:St)(i:Nat)(c:Cr):(put s i c).cr.length=s.cr.length:=by unfold put;exact T9
theorem Inv.put{N:Nat}{s:St}(h:Inv N s){i:Nat}(hi:i<s.cr.length){c:Cr}(hc:Po N i c):Inv N (put s i c) where
 st:=h.st
 sn:=by rw[JF];exact h.sn
 rn:=by rw[JF];exact h.rn
 up:=h.up
 dn:=h.dn
 now:=h.now
 step:=h.step
 steps:=h.steps
 CJ:=by rw[JF];exact h.CJ
 BL:=by rw[JF];exact h.BL
 cr:=λj hj=>by
  rw[JF] at hj;rw[Ve s i j c hi]
  by_cases e:j=i
  ·subst e;rw[AW rfl];exact hc
  ·rw[AO e];exact h.cr j hj
 cut:=by rw[JF];exact h.cut
 ev:=h.ev
theorem qF{n:Nat}{f:Fr}(h:aB n f):1<=idx f/\idx f<=n/\((idx f:Nat):Int)=max f.f f.t:=by
 have:=h.1;unfold idx;omega
theorem Inv.snd{N:Nat}{s:St}(h:Inv N s){f:Fr}(hf:aB s.cr.length f)(hN:N<1000000000000000):Inv (N+1) (snd s f):=by
 unfold Nt.snd;split
 ·exact h.mono Ft
 ·have hi:=qF hf;(have Uu:idx f-1<s.cr.length:=by omega);have hc:=h.cr _ Uu;have h':=h.mono (M:=N+1) Ft;have hc':=h'.cr _ Uu;unfold bm;split
  ·exact h'.put Uu {hc' with dn:=tr (PQ h.dn.1 _) hc.dn hf.2.1 (by have:=hc.ds;omega),ds:=by have:=hc.ds;have:=sw (JQ s.r.dn (idx f-1)) (at_ s (idx f-1)).dn s.now f.k f.f f.t f.s f.d;simp only;omega}
  ·exact h'.put Uu {hc' with up:=tr (PQ h.up.1 _) hc.up hf.2.1 (by have:=hc.us;omega),us:=by have:=hc.us;have:=sw (JQ s.r.up (idx f-1)) (at_ s (idx f-1)).up s.now f.k f.f f.t f.s f.d;simp only;omega}
theorem sv(s:St)(f:Fr):(snd s f).cr.length=s.cr.length:=by
 unfold snd bm;split
 ·rfl
 ·split<;>exact JF _ _ _
theorem yR(s:St)(f:Fr):(snd s f).now=s.now/\(snd s f).steps=s.steps/\(snd s f).r=s.r/\(snd s f).st=s.st:=by
 unfold snd bm put;split
 ·exact⟨rfl,rfl,rfl,rfl⟩
 ·split<;>exact⟨rfl,rfl,rfl,rfl⟩
theorem Qb:∀(l:List Fr)(s:St),(FP s l).cr.length=s.cr.length
 |[],s=>rfl
 |f::l,s=>by show(FP (snd s f) l).cr.length=_;rw[Qb l,sv]
theorem Q1:∀(l:List Fr)(s:St),(FP s l).now=s.now/\(FP s l).steps=s.steps/\(FP s l).r=s.r/\(FP s l).st=s.st
 |[],s=>⟨rfl,rfl,rfl,rfl⟩
 |f::l,s=>by have h1:=Q1 l (snd s f);have h2:=yR s f;show(FP (snd s f) l).now=_/\(FP (snd s f) l).steps=_/\(FP (snd s f) l).r=_/\(FP (snd s f) l).st=_;rw[h1.1,h1.2.1,h1.2.2.1,h1.2.2.2];exact h2
theorem Inv.FP{N:Nat}:∀{l:List Fr}{s:St},Inv N s->(∀f∈l,aB s.cr.length f)->N+l.length<=1000000000000000->Inv (N+l.length) (FP s l)
 |[],s,h,_,_=>h
 |f::l,s,h,hf,hN=>by simp only[List.length_cons] at hN⊢;have h1:=h.snd (hf f (A08 ..)) Ft;have h2:=Inv.FP (l:=l) h1 (λg hg=>by rw[sv];exact hf g (A0b _ hg)) Ft;rw[show N+(l.length+1)=N+1+l.length by omega];exact h2
theorem cP(x:Int):(AQ.IZ x).length=4:=rfl
theorem tU(s:AJ.St)(hs:AJ.Inv s):By (AJ.data s)/\(AJ.data s).length<=64:=by
 have h1:=hs.prog;have h2:=hs.at_;unfold AJ.data;split
 ·exact⟨AQ.WH (AQ.PM.2 Ft),by rw[cP];omega⟩
 ·split
  ·exact⟨AQ.WH (AQ.PM.2 Ft),by rw[cP];omega⟩
  ·exact⟨Ek,by simp⟩
theorem A5g(s:AJ.St)(hs:AJ.Inv s):∀x∈AJ.EC s,1<=x/\x<=s.n:=by
 intro x hx;unfold AJ.EC at hx;split at hx
 ·cases hx
 ·have:=AJ.LV _ _ _ hx;rw[hs.Rr] at this;omega
theorem gQ(s:AJ.St)(hs:AJ.Inv s):(∀f∈AJ.DX s,aB s.n f)/\(AJ.DX s).length<=64:=by
 refine⟨λf hf=> ?_,?_⟩
 ·unfold AJ.DX at hf;obtain⟨i,hi,rfl⟩:=List.mem_map.1 hf;have:=A5g s hs i hi;have hd:=tU s hs;exact⟨by simp only;omega,hd.1,hd.2⟩
 ·unfold AJ.DX;rw[WW];exact(Up s hs).1
theorem ju(s:AJ.St)(k now x:Int):(AJ.JP s k now x).n=s.n:=by unfold AJ.JP;split<;>rfl
theorem po(s:AJ.St)(now:Int):(AJ.tick s now).n=s.n:=by
 unfold AJ.tick;split
 ·split<;>rfl
 ·rfl
theorem zG(s:AJ.St)(now:Int)(y:Fr):(AJ.recv s now y).n=s.n:=by
 unfold AJ.recv AJ.Qg;split
 ·split
  ·split
   ·rfl
   ·split<;>rfl
  ·rfl
 ·rfl
theorem dF(s:AJ.St)(hs:AJ.Inv s)(k now x:Int)(hk:1<=k/\k<=6):(∀f∈AJ.FM s k now x,aB s.n f)/\(AJ.FM s k now x).length<=64:=by
 unfold AJ.FM;split
 ·rename_i h0
  have h1:=AJ.Pw (now:=now) (x:=x) hs hk;have h2:=ju s k now x;unfold AJ.JP at h1 h2;rw[AW h0] at h1 h2;rw[<-h2];exact gQ _ h1
 ·exact⟨λf hf=>Fi,by simp⟩
theorem bd(s:AJ.St)(hs:AJ.Inv s)(now:Int):(∀f∈AJ.DK s now,aB s.n f)/\(AJ.DK s now).length<=64:=by
 unfold AJ.DK;split
 ·rw[<-po s now];exact gQ _ (AJ.We hs)
 ·exact⟨λf hf=>Fi,by simp⟩
theorem lU(s:AJ.St)(hs:AJ.Inv s)(now:Int)(hn:0<=now/\now<=3600000)(y:Fr):(∀f∈AJ.LB s now y,aB s.n f)/\(AJ.LB s now y).length<=1:=by
 unfold AJ.LB;split
 ·rename_i h
  refine⟨λf hf=> ?_,by simp⟩;rw[List.mem_singleton.1 hf];have h0:=h.1;unfold AJ.FU at h0;split at h0
  ·rename_i hv
   have de:=AQ.OJ.1 hv.1;have hb:=AQ.WH (AQ.PM.2 (by omega:0<=now/\now<=4294967295));refine⟨by simp only;omega,AQ.By.append hb hb,?_⟩;simp only[TW,cP];omega
  ·omega
 ·exact⟨λf hf=>Fi,by simp⟩
theorem sH(s:AL.St)(hs:AL.Inv s){n:Nat}(hi:s.id<=n)(l:Int){y:Fr}(hy:By y.d):(∀f∈AL.RI s l y,aB n f)/\(AL.RI s l y).length<=1:=by
 unfold AL.RI;split
 ·rename_i h
  refine⟨λf hf=> ?_,by simp⟩;rw[List.mem_singleton.1 hf];have hv:=AQ.OJ.1 (AL.sI h.1).2.1;have:=hs.id;exact⟨by simp only;omega,by intro x hx;simp at hx;omega,by simp⟩
 ·exact⟨λf hf=>Fi,by simp⟩
theorem cH(s:AL.St)(hs:AL.Inv s){n:Nat}(hi:s.id<=n)(l:Int):(∀f∈AL.DK s l,aB n f)/\(AL.DK s l).length<=1:=by
 unfold AL.DK;split
 ·rename_i h
  refine⟨λf hf=> ?_,by simp⟩;rw[List.mem_singleton.1 hf];have:=hs.id;have hp:=(AL.WE hs (AL.Uf h.1).1).st;exact⟨by simp only;omega,by intro x hx;simp at hx;omega,by simp⟩
 ·exact⟨λf hf=>Fi,by simp⟩
end Nt
end
section
open RowKit
attribute [local go_sem ↓] wp_at_zero wp_at_succ
theorem JM(n a b:Int)(w:World)(h:a<=n/\n<=b):Calls prog 31 #[Iv n,Iv a,Iv b] w (LP (.bool true) w):=by
 obtain⟨h1,h2⟩:=h;go_enter func31,ntmps31;exact He
theorem Sy(n a b:Int)(w:World)(h:¬(a<=n/\n<=b)):Calls prog 31 #[Iv n,Iv a,Iv b] w (LP (.bool false) w):=by
 by_cases h1:a<=n
 ·(have h2:¬n<=b:=λhh=>h ⟨h1,hh⟩);clear h;go_enter func31,ntmps31;exact He
 ·clear h;go_enter func31,ntmps31;exact He
section
variable{w w':World}{base b k N:Nat}{m:NM}{s:Nt.St}
theorem P4(h:BQ w base b m k s)(hn:1<=s.cr.length):Calls prog 46 #[Pt b] w (LP (.bool false) w):=by
 (refine K1Q ?_;intro Ud);obtain⟨n,jZ⟩:=BN s.cr.length;rw[<-jZ] at Ud hn;have z:((n:Int)==0)=false:=JJ Ft;clear h jZ;go_enter func46,ntmps46;exact He
theorem TY(w:World):Calls prog 46 #[.pointer none] w (LP (.bool true) w):=by
 go_enter func46,ntmps46;exact He
theorem Xv(b:Nat)(w:World)(Ud:w.cell? (Ad b 25)=some (.slice none 0 0)):Calls prog 46 #[Pt b] w (LP (.bool true) w):=by
 go_enter func46,ntmps46;exact He
theorem mK(h:BQ w base b m k s)(hn:1<=s.cr.length):Calls prog 21 #[Pt b] w (LP (Iv s.now) w):=by
 have NO:=Hd (P4 h hn);(refine K4y ?_;intro Pb);clear h hn;go_enter func21,ntmps21;exact Mk
theorem Ye(h:BQ w base b m k s)(hs:Nt.Inv N s):Calls prog 19 #[Pt b] w (LP (Iv s.st.st) w):=by
 have NO:=Hd (P4 h hs.n.1);have ST:=Hd (fC h.st hs.st);(refine K4D ?_;intro ao);clear h hs;go_enter func19,ntmps19;go_wp2_with (first|(refine NO.out.mono ?_;rintro e w' ⟨rfl,rfl⟩)|(refine ST.out.mono ?_;rintro e w' ⟨rfl,rfl⟩));exact Hi
theorem Uo(h:BQ w base b m k s)(hs:Nt.Inv N s)(a:Int)(ha:1<=a/\a<=s.cr.length):Calls prog 53 #[Pt b,Iv a] w (LP (Iv 0) w):=by
 have NO:=Hd (P4 h hs.n.1);(refine K1Q ?_;intro Ud);have WI:=Hd (JM a 1 s.cr.length w ha);exact Mh
theorem Zb(h:BQ w base b m k s)(hs:Nt.Inv N s)(a:Int)(ha:¬(1<=a/\a<=s.cr.length)):Calls prog 53 #[Pt b,Iv a] w (LP (Iv 2) w):=by
 have NO:=Hd (P4 h hs.n.1);(refine K1Q ?_;intro Ud);have WI:=Hd (Sy a 1 s.cr.length w ha);exact Mh
theorem qm(a:Int)(w:World):Calls prog 53 #[.pointer none,Iv a] w (LP (Iv 1) w):=by
 have NO:=Hd (TY w);go_enter func53,ntmps53;exact Mk
theorem ZE(b:Nat)(a:Int)(w:World)(Ud:w.cell? (Ad b 25)=some (.slice none 0 0)):Calls prog 53 #[Pt b,Iv a] w (LP (Iv 1) w):=by
 have NO:=Hd (Xv b w Ud);go_enter func53,ntmps53;exact Mk
theorem A5k(l:List Int)(i:Nat)(hi:i<l.length):(Rt l)[i]?=some (Iv (l.getD i 0)):=by
 rw[Rt,TV,List.getD,Gg hi];rfl
theorem Row.j8{A:Option Addr}{n c:Nat}{l:List Int}(h:Row w base 3 1 A n c (Rt l)){i:Nat}(hi:i<n):∃g o,A=some (Ad g o)/\w.cell? (Ad g (o+i))=some (Iv (l.getD i 0)):=by
 obtain⟨g,o,cur,h1,_,_,_,_,_,_,_,hc,_⟩:=h.some_ Ft;(have hl:l.length=n:=by have:=h.1;simpa[Rt] using this);exact⟨g,o,h1,hc i _ (A5k l i Ft)⟩
theorem Xw(h:BQ w base b m k s)(hs:Nt.Inv N s){i:Nat}(hi:i<s.cr.length):Calls prog 55 #[Pt b,Iv ((i:Int)+1)] w λe w'=>e= .returned (Iv (Nt.Sc s i))/\∃q,w'=w.drewN q:=by
 have ye:w.cell? (Ad b 19)=some (.slice m.OA s.r.CJ.length m.oc):=AB h.BM 19 rfl;have Ua:w.cell? (Ad b 20)=some (.slice m.TA s.r.BL.length m.tc):=AB h.BM 20 rfl;(refine K4y ?_;intro Pb);(have io:i<s.r.CJ.length:=by rw[hs.CJ];exact hi);(have ir:i<s.r.BL.length:=by rw[hs.BL];exact hi);obtain⟨g1,o1,e1,k1⟩:=h.CJ.j8 io;obtain⟨g2,o2,e2,k2⟩:=h.BL.j8 ir;rw[e1] at ye;rw[e2] at Ua;have A9p:=hs.n.2;(refine K1g ?_;intro wi wi2);(have io':(i:Int)<(s.r.CJ.length:Int):=by omega);(have ir':(i:Int)<(s.r.BL.length:Int):=by omega);have LC:=Hd (λ(W:World)=>Ck.wF (s.r.CJ.getD i 0) (s.r.BL.getD i 0) s.now W);obtain⟨x,hx⟩:=BN (s.r.CJ.getD i 0);obtain⟨y,hy⟩:=BN (s.r.BL.getD i 0);obtain⟨z,hz⟩:=BN (Nt.Sc s i);(have hz':Ck.lV x y s.now=z:=by rw[hz,hx,hy];rfl);rw[<-hx,<-hy,hz'] at LC;rw[<-hx] at k1;rw[<-hy] at k2;rw[<-hz];(have OU:(0:Int)<=(i:Int):=by omega);clear hx hy hz hz' h hs e1 e2 io ir hi;go_enter func55,ntmps55;go_upto_region 1 with fail;go_quiet ((go_at_call 98;exact Yb ((LC.out _).mono λe w' h=>⟨h.1,h.2.symm⟩)));go_wp2_with fail;go_ret;exact⟨rfl,_,rfl⟩
end
theorem A39{l:AN.St}(h:AN.Inv l)(now:Int):(AN.Vo l now).length<=1000:=by
 unfold AN.Vo;split
 ·rw[AN.JU];exact Lt (A0d _ _) h.2.2.1
 ·simp
theorem A5L{l:AN.St}(h:AN.Inv l)(now:Int):∀m∈AN.Vo l now,AN.MOk m:=by
 intro m hm;unfold AN.Vo at hm;split at hm
 ·rw[AN.iX] at hm;exact h.2.2.2.1 m (List.mem_filter.1 hm).1
 ·cases hm
theorem bO(l:List AN.Q7)(j:Nat)(hj:j<l.length):Nt.Qq (l.take (j+1))=Nt.Qq (l.take j)++(match Nt.dec (l[j]).2 with|some f=>[f]|none=>[]):=by
 rw[eV hj];unfold Nt.Qq;rw[List.filterMap_append]
 cases h:Nt.dec (l[j]).2<;>simp[h]
theorem A2u(l:List AN.Q7):(Nt.Qq l).length<=l.length:=List.length_filterMap_le _ _
theorem wE(base b c:Nat)(A:Option Addr)(r:AN.Ru)(l:AN.St)(now:Int)(w:World)(h:EO w base b A c r l)(hs:AN.Inv l)(BJ:base<=w.heap.size):
  Calls prog 131 #[Pt b,Iv now] w λe w'=>∃oA n oc er,e= .returned (.tuple #[.slice oA n oc,Iv er])/\Rb w' w.heap.size w'.heap.size oA n ((AN.Vo l now).map (·.2))/\VC base b A r (AN.recv l now) w w':=by
 by_cases he:AN.FU l now=0
 ·refine(zC base b c A r l now w h hs BJ he).mono ?_;rintro e w' ⟨oA,n,oc,h1,h2,h3⟩;exact⟨oA,n,oc,0,h1,h2,h3⟩
 ·refine(wG base b c A r l now w h he).mono ?_;rintro e w' ⟨h1,rfl⟩;refine⟨none,0,0,3,h1,?_,?_⟩
  ·(have e:AN.Vo l now=[]:=by unfold AN.Vo;rw[AO he]);rw[e];exact Rb.nil _ _ _ _
  ·(have e:AN.recv l now=l:=by unfold AN.recv;rw[AO he]);rw[e];exact VC.same h (AG.refl _ _)
def jK(base b:Nat)(A:Option Addr)(r:AN.Ru)(l:AN.St)(now:Int)(w:World)(e:Ending)(w':World):Prop:=
 ∃v,e= .returned v/\IF w' w.heap.size v (Nt.Qq (AN.Vo l now))/\VC base b A r (AN.recv l now) w w'
theorem ga(nb base b c:Nat)(A:Option Addr)(r:AN.Ru)(l:AN.St)(now:Int)(w:World)(Pb:w.cell? (Ad nb 21)=some (Iv now))(h:EO w base b A c r l)(hs:AN.Inv l)(BJ:base<=w.heap.size):
  Calls prog 102 #[Pt nb,Pt b] w (jK base b A r l now w):=by
 obtain⟨i0,OU,xT,hzB,qG⟩:=MQ ja;have RC:=Hd (wE base b c A r l now w h hs BJ);obtain⟨L,hL⟩:=BN (AN.Vo l now);(have hL1:L.length<=1000:=by rw[hL];exact A39 hs now);have X8:=Hd (show ∀m∈L,AN.MOk m by rw[hL];exact A5L hs now);unfold jK;rw[<-hL] at RC⊢;clear h hs hL;go_enter func102,ntmps102;go_wp2_with fail;refine RC.out.mono ?_;rintro _ w1 ⟨oA,n,oc,er,rfl,nr,Xk⟩;(have oO:n=L.length:=by have:=nr.len;simpa using this.symm);have xK:=Hd nr;have ZS:=Hd Xk;(have YO:n<=1000:=by omega);have oY:=Hd oO;obtain⟨_,_,_,hkl,_⟩:=Xk;have IJ:=hkl.size;clear RC nr oO hkl Pb;go_wp2_with fail;go_loopw[5,23] (λs5 s23 wr=>∃j:Nat,s23=Iv j/\j<=n/\IF wr w1.heap.size s5 (Nt.Qq (L.take j))/\Below w1.heap.size w1 wr) (λ_ s23 _=>n-(intOf s23).toNat)
 case atStart=>exact⟨0,by go_num,by omega,IF.nil _ _,QZ _ _⟩
 case round=>
  obtain⟨j,rfl,hj,hR,hB⟩:=hrel;have VE:=hB.size
  by_cases EK:j<n
  ·(have Yp:(j:Int)<(n:Int):=by omega);(have Wl:j<L.length:=by rw[<-oY.out];exact EK);obtain⟨g,o,A',c',rfl,hg,DD,WZ,hca,GC⟩:=((xK.out.below hB (Lr _)).more VE).at_ EK;obtain⟨d,hd⟩:=BN ((L[j]).2);(have hdd:(L.map (·.2)).getD j []=d:=by rw[hd,List.getD,TV,Gg Wl];rfl);rw[hdd] at DD WZ hca;have hmo:=X8.out L[j] (bZ _);(have GZ:d.length<=128:=by rw[hd];exact hmo.2.2.2);have SN:=Hd (show Nt.Qq (L.take (j+1))=Nt.Qq (L.take j)++(match Nt.dec d with|some f=>[f]|none=>[]) by rw[hd];exact bO L j Wl);obtain⟨f,hf⟩:∃f:Fr,f=⟨AQ.uk d 2,AQ.uk d 3,AQ.uk d 4,AQ.us d,AQ.ud d⟩:=⟨_,rfl⟩;obtain⟨ee,hee⟩:=BN (AQ.dE d);have DU:=Hd (show ∀W:World,Below wr.heap.size wr W->Calls prog 132 #[.slice A' d.length c'] W (λe w'=>∃A2 S3,e= .returned (.tuple #[.agg #[Iv f.k,Iv f.f,Iv f.t,Iv f.s,.slice A2 f.d.length S3],Iv ee])/\Ow w' W.heap.size A2 f.d.length S3 f.d/\Below W.heap.size W w') from λW hW=>by
    rw[hf,hee];exact A3r A' d.length c' d W Ft hca (by have:=GC;unfold maxLen at this;omega) ((WZ.below hW (Lr _)).more hW.size))
   have A7r:Nt.dec d=if ee=0 then some f else none:=by
    rw[hee,hf];unfold Nt.dec;split
    ·rename_i h0
     simp only[AQ.uk,AQ.us,AQ.ud,AW h0]
    ·rfl
   obtain⟨fs,hfs⟩:=BN (Nt.Qq (L.take j));(have XP:fs.length<=1000:=by rw[hfs];refine Lt (A2u _) ?_;rw[Ul];omega);rw[<-hfs] at hR SN;have A8W:=Hd A7r;clear hdd WZ hmo hd Wl GC hf hee A7r hfs;go_wp2_with fail;refine(DU.out _ (IH _)).mono ?_;rintro _ w2 ⟨A2,S3,rfl,Xj,CB⟩;have Ot:=CB.size
   by_cases h0:ee=0
   ·subst h0;have Zl:=hR.below CB (Lr _);obtain⟨vs,de,nk,qH⟩:=Zl;have HV3:=Hd qH;have HV1:=Hd de;have HOW:=Hd Xj;obtain⟨A5,Zs,rfl⟩:=EZ nk;have hvl:=nk.lt;have E:=Hd (show Nt.Qq (L.take (j+1))=fs++[f] by rw[SN.out,A8W.out,AW rfl]);have NB:=Hd (hB.trans (CB.mono VE));have RN:=Hd (show Reads ((w2.alloc (.cells #[Iv f.k,Iv f.f,Iv f.t,Iv f.s,.slice A2 f.d.length S3] 147)).alloc (.cells #[Iv f.k,Iv f.f,Iv f.t,Iv f.s,.slice A2 f.d.length S3] 147)) (w2.heap.size+1+1) 5 (some (Ad (w2.heap.size+1) 0)) 1 [Iv f.k,Iv f.f,Iv f.t,Iv f.s,.slice A2 f.d.length S3] by
     have:=Reads.A0t (w2.alloc (.cells #[Iv f.k,Iv f.f,Iv f.t,Iv f.s,.slice A2 f.d.length S3] 147)) #[Iv f.k,Iv f.f,Iv f.t,Iv f.s,.slice A2 f.d.length S3] 147 1 5 rfl;rw[mw] at this;exact this)
    clear hR de qH Xj CB hB DU SN;go_wp2_with (at_builtin;refine BD _ rfl (.tmp 34) (.tmp 36) _ rfl w1.heap.size 147 i0 _ 5 56 underlying113 OU xT hzB qG rfl Ft (.slice A5 fs.length Zs) fs.length _ rfl ((nk.alloc _).alloc _) (w2.heap.size+1+1) (some (Ad (w2.heap.size+1) 0)) 1 1 [Iv f.k,Iv f.f,Iv f.t,Iv f.s,.slice A2 f.d.length S3] rfl RN.out E9 Dk Ft Fp ?_;intro v1 w3 CE GQ LY);go_roundw
    case rel=>
     refine⟨j+1,by go_num,by omega,?_,?_⟩
     ·rw[E.out];have hy:=(((HOW.out.more (base':=w1.heap.size) Ft).alloc (.cells #[Iv f.k,Iv f.f,Iv f.t,Iv f.s,.slice A2 f.d.length S3] 147)).alloc (.cells #[Iv f.k,Iv f.f,Iv f.t,Iv f.s,.slice A2 f.d.length S3] 147));exact IF.append (y:=⟨f,A2,S3⟩) HV1.out ((nk.alloc _).alloc _) (λy hy=>((HV3.out y hy).alloc _).alloc _) hy GQ (by simpa[FV.cells] using CE)
     ·exact Xt (w:=(w2.alloc (.cells #[Iv f.k,Iv f.f,Iv f.t,Iv f.s,.slice A2 f.d.length S3] 147)).alloc (.cells #[Iv f.k,Iv f.f,Iv f.t,Iv f.s,.slice A2 f.d.length S3] 147)) ((NB.out.alloc Ft _).alloc Fp _) GQ Fp (λg hg=>(hvl g hg).1)
    case measure=>simp[intOf];omega
   ·(have zE:(ee==0)=false:=by simp[h0]);have E:=Hd (show Nt.Qq (L.take (j+1))=fs by rw[SN.out,A8W.out,AO h0];simp);have NB:=Hd (hB.trans (CB.mono VE));have Zl:=Hd (hR.below CB (Lr _));clear hR hB CB Xj DU SN h0;go_wp2_with fail;go_roundw
    case rel=>exact⟨j+1,by go_num,by omega,by rw[E.out];exact Zl.out.alloc _,NB.out.alloc Ft _⟩
    case measure=>simp[intOf];omega
  ·(have hj':j=n:=by omega);subst hj';have E:=Hd (show L.take j=L by rw[R8 Df]);rw[E.out] at hR;(refine K3u ?_;intro ik);go_wp2_with fail;go_ret;obtain⟨A2,c2,g1,g2,g3⟩:=ZS.out;exact⟨_,rfl,hR.more IJ,A2,c2,g1.below hB (Lr _),g2.trans (AG.AS (S:=λ_=>False) hB) (λ_ _ h=>h.elim),g3⟩
end
section
open RowKit
attribute [local go_sem high] A96 A95
attribute [local go_sem ↓] wp_at_zero wp_at_succ
section
variable{w w':World}{base b k N:Nat}{m:NM}{s:Nt.St}
theorem BQ.cells(h:BQ w base b m k s){i:Nat}(hi:i<s.cr.length):∃g o,m.CA=some (Ad g o)/\Ty w g 108/\
  w.cell? (Ad g (o+i*4))=some (Pt ((m.cs.getD i Qp).pb))/\w.cell? (Ad g (o+i*4+1))=some (Pt ((m.cs.getD i Qp).ub))/\w.cell? (Ad g (o+i*4+2))=some (Pt ((m.cs.getD i Qp).db))/\w.cell? (Ad g (o+i*4+3))=some (Iv (Nt.at_ s i).s)/\∀j,w.frozen? (Ad g j)=false:=by
 obtain⟨g,o,cur,h1,_,_,h4,_,_,_,_,hc,hf⟩:=h.S1.some_ Ft;(have ha:∀j,j<4->(Pk m.cs s.cr)[i*4+j]?=(tZ (m.cs.getD i Qp) (Nt.at_ s i))[j]?:=λj hj=>tY _ _ _ _ h.len hi hj);exact⟨g,o,h1,⟨_,h4⟩,hc (i*4+0) _ (ha 0 Ft),hc (i*4+1) _ (ha 1 Ft),hc (i*4+2) _ (ha 2 Ft),hc (i*4+3) _ (ha 3 Ft),hf⟩
theorem sE(h:BQ w base b m k s)(kk:AG (NF b m) w w'){fb:Nat}{v:Value}{l:List Fr}(hR:IF w fb v l):IF w' fb v l:=
 hR.kept kk (λq hq=>⟨λt=>h.au t Es hq,λt=>h.au t Es hq⟩)
theorem WJ(h:BQ w base b m k s)(hs:Nt.Inv N s){fb:Nat}{v:Value}{l:List Fr}(hl:∀f∈l,Nt.aB s.cr.length f)(hR:IF w fb v l)(BJ:base<=w.heap.size)(hN:N+l.length<=1000000000000000)(hln:l.length<=1000000):
  Calls prog 58 #[Pt b,v] w λe w'=>e= .returned (.tuple #[])/\Q4 base b m k (Nt.FP s l) w w':=by
 obtain⟨A,cap,rfl⟩:=hR.form;obtain⟨n,hn⟩:=BN l.length;have HH:=Hd h;have HR:=Hd hR;have HS:=Hd hs;have HL:=Hd hl;have oY:=Hd hn;rw[<-hn] at hN hln⊢;clear h hR hs hl hn;go_enter func58,ntmps58;go_wp2_with fail;go_loopw[10] (λiF wr=>∃(j:Nat)(m1:NM),iF=Iv j/\j<=n/\Hid (BQ wr base b m1 k (Nt.FP s (l.take j)))/\Hid (AG (NF b m) w wr)/\Hid (NG b m m1 w.heap.size)) (λiF _=>n-(intOf iF).toNat)
 case atStart=>exact⟨0,m,by go_num,by omega,HH,Hd (AG.refl _ _),Hd NG.refl⟩
 case round=>
  obtain⟨j,m1,rfl,hj,HI,HK,HF⟩:=hrel;have VE:=HK.out.size
  by_cases EK:j<n
  ·(have Yp:(j:Int)<(n:Int):=by omega);(have Wl:j<l.length:=by rw[<-oY.out];exact EK);obtain⟨t,ht⟩:=BN (Nt.FP s (l.take j));have SV:=Hd (show Nt.Inv (N+(l.take j).length) t from by rw[ht];exact HS.out.FP (λf hf=>HL.out f (cj hf)) Dg);have TL:=Hd (show t.cr.length=s.cr.length from by rw[ht];exact Nt.Qb _ _);have SN:=Hd (show Nt.FP s (l.take (j+1))=Nt.snd t (l.getD j jw) by
    rw[ht,eV Wl,Nt.FP,Nt.FP,pV];simp[List.getD,Gg Wl])
   have FO:=Hd (show Nt.aB t.cr.length (l.getD j jw) from by rw[TL.out];refine HL.out _ ?_;rw[List.getD,Gg Wl];exact bZ _);rw[<-ht] at HI;obtain⟨A5n,qI⟩:=(sE HH.out HK.out HR.out).rf;rw[<-oY.out] at qI;obtain⟨g,o,rfl,hg,Rv⟩:=qI Ft;obtain⟨D,dc,q0,q1,q2,q3,q4,WZ,hD0,hdc,hdm⟩:=Rv j EK;obtain⟨f,hf⟩:=BN (l.getD j jw);rw[<-hf] at q0 q1 q2 q3 q4 WZ hD0 hdc SN FO;have A5y:=Nt.qF FO.out;obtain⟨i,hi⟩:∃i:Nat,Nt.idx f=i+1:=⟨Nt.idx f-1,by omega⟩;(have hmx:max f.f f.t=(i:Int)+1:=by omega);(have U3:i<t.cr.length:=by omega);have QK:=SV.out.n.2;obtain⟨gc,oc,qY,hTc,d0,d1,d2,d3,_⟩:=HI.out.cells U3;have hCr:=HI.out.cr i U3;obtain⟨cm,GC⟩:=BN (m1.cs.getD i Qp);have Ud:wr.cell? (Ad b 25)=some (.slice m1.CA t.cr.length m1.cc):=AB HI.out.BM 25 rfl;have c26:wr.cell? (Ad b 26)=some (.map (some m1.mb)):=AB HI.out.BM 26 rfl;have Pb:wr.cell? (Ad b 21)=some (Iv t.now):=AB HI.out.BM 21 rfl;rw[qY] at Ud;have HCm:=Hd GC;(have hC:Zu wr base cm (Nt.JQ t.r.up i) (Nt.JQ t.r.dn i) (Nt.at_ t i):=by rw[GC];exact hCr);have HC:=Hd hC;rw[<-GC] at d0 d1 d2;obtain⟨k',VG,MU⟩:=HI.out.cut;have LO:=Hd (show ∀W:World,Below wr.heap.size wr W->(Instr.lookup TM (.map (some m1.mb)) (Iv ((i:Int)+1)) false).run prog W= .ok (.bool (t.cut.getD (i+1) false)) W from λW hW=>
    (MU.kept (AG.AS (S:=λ_=>False) hW) (λh=>h)).look (i+1) Ft)
   obtain⟨cb,hcb⟩:=BN (t.cut.getD (i+1) false);rw[<-hcb] at LO;have HCB:=Hd hcb;have HMX:=Hd hmx;have ZT:=Hd hi;have HO:=Hd (show ∀W:World,Below wr.heap.size wr W->Rd W W.heap.size D f.d.length f.d from λW hW=>((WZ.below hW (Lr _)).more hW.size));have GZ:=FO.out.2.2;have hfd:f.d.length<=64:=GZ;(have ic:(i:Int)<(t.cr.length:Int):=by omega);(have i0:(0:Int)<=(i:Int):=by omega);(refine K1g ?_;intro wi wi2);have qP:=Hd U3;have hbw:=HI.out.lt (.inl rfl);(have XA:gc<wr.heap.size:=by obtain⟨_,hh⟩:=hTc;exact BG hh);have SN2:=Hd (show Nt.snd t f=if cb=true then t else Nt.bm t i f from by
    unfold Nt.snd;rw[ZT.out,HCB.out];rfl)
   clear GC hC hCr MU hcb hmx hi WZ GZ hf A5y A5n qI Rv U3 hTc Wl ht hD0;go_upto_region 4 with fail;rw[HMX.out];(refine K1B ?_;intro Wa ZL bA yF);have da:wr.heap.size<Wa.heap.size:=BG yF;have LO2:=LO.out Wa bA;have a25:=(bA.cell (p:=(Ad b 25)) hbw.2).trans Ud;have a26:=(bA.cell (p:=(Ad b 26)) hbw.2).trans c26;have a21:=(bA.cell (p:=(Ad b 21)) hbw.2).trans Pb;have p0:=(bA.cell (p:=(Ad gc (oc+i*4))) XA).trans d0;have p1:=(bA.cell (p:=(Ad gc (oc+i*4+1))) XA).trans d1;have p2:=(bA.cell (p:=(Ad gc (oc+i*4+2))) XA).trans d2;have p3:=(bA.cell (p:=(Ad gc (oc+i*4+3))) XA).trans d3
   cases cb
   ·go_upto_region 6 with fail;generalize hWb:World.alloc _ _=Wb;(have bAB:Below Wa.heap.size Wa Wb:=by rw[<-hWb];exact(IH Wa).alloc (Lr _) _);(have yC:Wb.heap[Wa.heap.size]?=some (.cells #[Pt cm.pb,Pt cm.ub,Pt cm.db,Iv (Nt.at_ t i).s] 108 (0,0)):=by rw[<-hWb];exact AM _ _);have bB:Below wr.heap.size wr Wb:=bA.trans (bAB.mono bA.size);have yF2:=AH yF bAB da;have z21:=(bAB.cell (p:=(Ad b 21)) (by show b<_;omega)).trans a21;have v0:=AB yC 0 rfl;have v1:=AB yC 1 rfl;have v2:=AB yC 2 rfl;have u0:=AB yF2 0 rfl;have u1:=AB yF2 1 rfl;have u2:=AB yF2 2 rfl;have u3:=AB yF2 3 rfl;have u4:=AB yF2 4 rfl;clear hWb ZL a25 a26 a21 Pb Ud c26 q0 q1 q2 q3 q4 d0 d1 d2 d3 p0 p1 p2 p3 LO LO2 yC yF yF2 bAB
    by_cases Uc:f.f=0
    ·(have zF:(f.f==0)=true:=by simp[Uc]);have HE:=Hd (show Nt.snd t f=Nt.put t i {Nt.at_ t i with dn:=ez (Nt.JQ t.r.dn i) (Nt.at_ t i).dn t.now f.k f.f f.t f.s f.d} from by rw[SN2.out,AO Fu,Nt.bm,AW Uc]);clear Uc;have SD:=Hd (λ(W:World)(hW:Below wr.heap.size wr W)=>fF base cm.db cm.dc cm.dA (Nt.JQ t.r.dn i) (Nt.at_ t i).dn t.now f.k f.f f.t f.s D f.d.length dc f.d W (HC.out.dn.below hW (Lr _)) (Nt.PQ SV.out.dn.1 i) (SV.out.cr i qP.out).dn (by have:=(SV.out.cr i qP.out).ds;rw[Ul] at this;omega) (by have:=hW.size;omega) Ft (HO.out W hW));go_upto_region 7 with fail;go_region_with (first|(go_at_call 101;refine(SD.out _ Bm).mono ?_;rintro e w5 ⟨rfl,Xk⟩;have N5:=Hd (Q4.trans HK.out HF.out (Q4.trans (m:=m1) (w:=wr) (AG.AS Bm) NG.refl ((HI.out.below Bm).yu qP.out (by rw[<-HCm.out];exact Xk))));clear Xk))
     all_goals
      exact I8
    ·(have zF:(f.f==0)=false:=by simp[Uc]);have HE:=Hd (show Nt.snd t f=Nt.put t i {Nt.at_ t i with up:=ez (Nt.JQ t.r.up i) (Nt.at_ t i).up t.now f.k f.f f.t f.s f.d} from by rw[SN2.out,AO Fu,Nt.bm,AO Uc]);clear Uc;have SD:=Hd (λ(W:World)(hW:Below wr.heap.size wr W)=>fF base cm.ub cm.uc cm.uA (Nt.JQ t.r.up i) (Nt.at_ t i).up t.now f.k f.f f.t f.s D f.d.length dc f.d W (HC.out.up.below hW (Lr _)) (Nt.PQ SV.out.up.1 i) (SV.out.cr i qP.out).up (by have:=(SV.out.cr i qP.out).us;rw[Ul] at this;omega) (by have:=hW.size;omega) Ft (HO.out W hW));go_upto_region 8 with fail;go_region_with (first|(go_at_call 101;refine(SD.out _ Bm).mono ?_;rintro e w5 ⟨rfl,Xk⟩;have N5:=Hd (Q4.trans HK.out HF.out (Q4.trans (m:=m1) (w:=wr) (AG.AS Bm) NG.refl ((HI.out.below Bm).yt qP.out (by rw[<-HCm.out];exact Xk))));clear Xk))
     all_goals
      exact I8
   ·have HE:=Hd (show Nt.snd t f=t from by rw[SN2.out,AW rfl]);have NN:=Hd (HI.out.below bA);have KK:=Hd (HK.out.trans (AG.AS (S:=λ_=>False) bA) (λ_ _ h=>h.elim));clear ZL q0 q1 q2 q3 q4 d0 d1 d2 d3 p0 p1 p2 p3 Pb Ud c26;go_wp2_with fail;go_roundw
    case rel=>exact⟨j+1,m1,by go_num,by omega,Hd (by rw[SN.out,HE.out];exact NN.out),KK,HF⟩
    case measure=>simp[intOf];omega
  ·(have hj':j=n:=by omega);subst hj';have E:=Hd (show Nt.FP s (l.take j)=Nt.FP s l by rw[R8 Df]);(refine K3u ?_;intro ik);go_wp2_with fail;exact iL (bT rfl _ _ _) rfl ⟨rfl,m1,by rw[<-E.out];exact HI.out,HK.out,HF.out⟩
end
end
end Go.Proofs.YtdocdgcdldpagaaGreat

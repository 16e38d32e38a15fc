import Derived.Test.YtdocdgcdldpagaaGreatAw12
import Derived.Test.YtdocdgcdldpagaaGreatAw07
import Derived.Handy
open Go.Proofs.Tryz
namespace Go.Proofs.YtdocdgcdldpagaaGreat
set_option maxHeartbeats 64000000
set_option maxRecDepth 100000
set_option linter.all false
section
set_option maxRecDepth 512
namespace Nt
open Ck
structure Ru where
 (n again step CY lost ret desc late every:Int)
 (up dn:AN.Ru)
 (CJ BL:List Int)
structure Cr where
 p:AL.St
 up:AN.St
 dn:AN.St
 s:Int
structure St where
 r:Ru
 now:Int
 steps:Int
 st:AJ.St
 ss:Int
 cr:List Cr
 cut:List Bool
 ev:List (Int×Int×Int)
def l0:AN.St:=⟨0,0,[],0,0,0⟩
def p0:AL.St:=⟨0,0,0,0,0,0,0,0,false,0,0,0,false,false,false,false,0,0,0,0,0,0,0,0⟩
def c0:Cr:=⟨p0,l0,l0,0⟩
def JQ(r:AN.Ru)(i:Nat):AN.Ru:={r with seed:=r.seed+((i:Int)+1)}
def dec(m:List Int):Option Fr:=if AQ.dE m=0 then some ⟨m.getD 2 0,m.getD 3 0,m.getD 4 0,AQ.dS m,AQ.dd m⟩ else none
def Qq(l:List AN.Q7):List Fr:=l.filterMap (λm=>dec m.2)
def idx(f:Fr):Nat:=(max f.f f.t).toNat
def put(s:St)(i:Nat)(c:Cr):St:={s with cr:=s.cr.set i c}
def at_(s:St)(i:Nat):Cr:=s.cr.getD i c0
def bm(s:St)(i:Nat)(f:Fr):St:=
 if f.f=0 then put s i {at_ s i with dn:=ez (JQ s.r.dn i) (at_ s i).dn s.now f.k f.f f.t f.s f.d} else put s i {at_ s i with up:=ez (JQ s.r.up i) (at_ s i).up s.now f.k f.f f.t f.s f.d}
def snd(s:St)(f:Fr):St:=if s.cut.getD (idx f) false then s else bm s (idx f-1) f
def FP(s:St)(l:List Fr):St:=l.foldl snd s
def look(s:St):St:=if s.st.st=s.ss then s else{s with ss:=s.st.st,ev:=s.ev++[(s.now,0,s.st.st)]}
def Yy(s:St)(k x:Int):Int:=if 1<=k/\k<=6 then AJ.BZ s.st k s.now x else 2
def Rq(s:St)(k x:Int):St:=if Yy s k x=0 then look (FP {s with st:=AJ.JP s.st k s.now x} (AJ.FM s.st k s.now x)) else s
def Sc(s:St)(i:Nat):Int:=lV (s.r.CJ.getD i 0) (s.r.BL.getD i 0) s.now
def JG(s:St)(f:Fr):St:=FP {s with st:=AJ.recv s.st s.now f} (AJ.LB s.st s.now f)
def Zg(s:St)(i:Nat):St:=(Qq (AN.Vo (at_ s i).up s.now)).foldl JG (put s i {at_ s i with up:=AN.recv (at_ s i).up s.now})
def MW(i:Nat)(s:St)(f:Fr):St:=FP (put s i {at_ s i with p:=AL.QY (at_ s i).p (Sc s i) f}) (AL.RI (at_ s i).p (Sc s i) f)
def SO(i:Nat)(s:St):St:=FP (put s i {at_ s i with p:=AL.LQ (at_ s i).p (Sc s i)}) (AL.DK (at_ s i).p (Sc s i))
def note(i:Nat)(s:St):St:=if(at_ s i).p.st=(at_ s i).s then s else{put s i {at_ s i with s:=(at_ s i).p.st} with ev:=s.ev++[(s.now,(i:Int)+1,(at_ s i).p.st)]}
def gS(s:St)(i:Nat):St:=note i (SO i ((Qq (AN.Vo (at_ s i).dn s.now)).foldl (MW i) (put s i {at_ s i with dn:=AN.recv (at_ s i).dn s.now})))
def FB(s:St):Int:=if 3600000<s.now+s.r.step then 3 else if s.steps=100000 then 7 else 0
def P7(s:St):St:=FP {s with steps:=s.steps+1,now:=s.now+s.r.step,st:=AJ.tick s.st (s.now+s.r.step)} (AJ.DK s.st (s.now+s.r.step))
def hears(s:St):Nat->St
 |0=>s
 |k+1=>Zg (hears s k) k
def LW(s:St):Nat->St
 |0=>s
 |k+1=>gS (LW s k) k
def step(s:St):St:=if FB s=0 then LW (look (hears (P7 s) s.cr.length)) s.cr.length else s
def lu(s:St)(u:Int):Int:=if s.now<=u/\u<=3600000 then 0 else 3
def runK:Nat->St->Int->St×Int
 |0,s,_=>(s,0)
 |k+1,s,u=>if s.now+s.r.step<=u then(if FB s=0 then runK k (step s) u else(s,FB s)) else(s,0)
def run(s:St)(u:Int):St×Int:=if lu s u=0 then runK 3600001 s u else(s,3)
def Vz(s:St)(a:Nat)(b:Bool):St:={s with cut:=s.cut.set a b}
end Nt
end
section
open RowKit
attribute [local go_sem ↓] wp_at_zero wp_at_succ
def cI(s:AL.St)(c:Nat):List Value:=[Iv s.id,Iv s.lost,Iv s.ret,Iv s.desc,Iv s.late,Iv s.every,Pt c,Iv s.st,.bool s.begun,.bool s.Pf,.bool s.given,.bool s.asked,Iv s.now,Iv s.heard,Iv s.since,Iv s.prog,Iv s.start,Iv s.AZ,Iv s.MO]
structure Of(w:World)(base b c:Nat)(s:AL.St):Prop where
 BM:w.heap[b]?=some (.cells (cI s c).toArray 168 (0,0))
 Tc:Ck.DV w c s.d s.r true s.cs s.lo s.hi
 ge:base<=b/\base<=c
section
variable{w w':World}{base b c:Nat}{s:AL.St}
theorem Of.lt(h:Of w base b c s):b<w.heap.size/\c<w.heap.size:=⟨BG h.BM,Ck.QM h.Tc⟩
theorem Of.ne(h:Of w base b c s):b≠c:=Ty.ne ⟨_,h.BM⟩ ⟨_,h.Tc⟩ Fj
theorem Of.au(h:Of w base b c s){i:Nat}{e:TypeId}(g:Ty w i e)(h1:e≠168)(h2:e≠213):i≠b/\i≠c:=⟨g.ne ⟨_,h.BM⟩ h1,g.ne ⟨_,h.Tc⟩ h2⟩
theorem Of.kept{S:Nat->Prop}(h:Of w base b c s)(k:AG S w w')(hb:¬S b)(hc:¬S c):Of w' base b c s:=⟨AR h.BM k hb,AR h.Tc k hc,h.ge⟩
theorem Of.below{B:Nat}(h:Of w base b c s)(k:Below B w w')(hB:w.heap.size<=B):Of w' base b c s:=
 ⟨AH h.BM k (by have:=h.lt;omega),Ck.P5 h.Tc k (by have:=h.lt;omega),h.ge⟩
theorem Of.lower{B:Nat}(h:Of w base b c s)(hB:B<=base):Of w B b c s:=⟨h.BM,h.Tc,by have:=h.ge;omega⟩
theorem Of.alloc(h:Of w base b c s)(o:Obj):Of (w.alloc o) base b c s:=⟨AI h.BM o,AI h.Tc o,h.ge⟩
theorem Of.drewN(h:Of w base b c s)(q:Nat):Of (w.drewN q) base b c s:=⟨h.BM,h.Tc,h.ge⟩
theorem Of.U8(h:Of w base b c s)(k:AG (λi=>i=b) w w'):Ck.DV w' c s.d s.r true s.cs s.lo s.hi:=AR h.Tc k (λe=>h.ne e.symm)
theorem WB(h:Of w base b c s)(hs:AL.Inv s):
  Calls prog 96 #[Pt b] w (LP (.bool false) w):=by
 have c0:w.cell? (Ad b 0)=some (Iv s.id):=AB h.BM 0 rfl;(have z:(s.id==0)=false:=by rw[Bf];have:=hs.id;omega);clear h hs;go_enter func96,ntmps96;exact He
theorem Tk(n a b:Int)(w:World):
  Calls prog 73 #[Iv n,Iv a,Iv b] w (LP (.bool (Ck.AV.Rj n a b)) w):=by
 by_cases h:a<=n
 all_goals
  go_enter func73,ntmps73;exact Lh
theorem sD(n a b:Int)(w:World):
  Calls prog 75 #[Iv n,Iv a,Iv b] w (LP (.bool (Ck.AV.Rj n a b)) w):=by
 by_cases h:a<=n
 all_goals
  go_enter func75,ntmps75;exact Lh
theorem Zp(h:Of w base b c s)(x t:Int):
  Calls prog 161 #[Pt b,Iv x,Iv t] w λe w'=>e= .returned (.tuple #[])/\Of w' base b c (AL.QR s x t)/\AG (λi=>i=b) w w':=by
 have H:=Hd h;have hk:=h.BM;simp only[cI] at hk;clear h;have BH:=xw hk;have la:=BG hk
 by_cases hx:s.st=x
 ·have E:=Hd (show AL.QR s x t=s by unfold AL.QR;rw[AW hx]);(have z:(s.st==x)=true:=by rw[Q5];exact hx);clear hx;go_enter func161,ntmps161;go_wp2_with fail;go_returns;exact⟨rfl,by rw[E.out];exact H.out,AG.refl _ _⟩
 ·(have z:(s.st==x)=false:=by rw[Bf];exact hx);have E:=Hd (show AL.QR s x t={s with st:=x,since:=t,given:=if AL.rh x then false else s.given,start:=if AL.rh x then 0 else s.start} by unfold AL.QR;rw[AO hx]);clear hx
  cases hf:AL.rh x
  ·have X0:=hf;unfold AL.rh at X0;simp only[Bool.or_eq_false_iff,eU] at X0;(have z1:(x==1)=false:=by rw[Bf];exact X0.1.1);(have z2:(x==2)=false:=by rw[Bf];exact X0.1.2);(have z7:(x==7)=false:=by rw[Bf];exact X0.2);have HF:=Hd hf;clear hf X0;go_enter func161,ntmps161;go_wp2_with fail;go_returns;exact Ia
  ·have X0:=hf;unfold AL.rh at X0;simp only[Bool.or_eq_true,eS] at X0;have HF:=Hd hf;clear hf;(have key:x=1\/x=2\/x=7:=by omega);clear X0
   rcases key with rfl|rfl|rfl
   all_goals
    go_enter func161,ntmps161;go_wp2_with fail;go_returns;exact Ia
theorem xy(h:Of w base b c s)(l:Int):
  Calls prog 138 #[Pt b,Iv l] w (LP (Iv (AL.OK s l)) w):=by
 have c8:w.cell? (Ad b 8)=some (.bool s.begun):=AB h.BM 8 rfl;have c12:w.cell? (Ad b 12)=some (Iv s.now):=AB h.BM 12 rfl;have E:=Hd (rfl:AL.OK s l=AL.OK s l);clear h
 cases hi:Ck.AV.Rj l (-1073741824) 1073741824
 ·have W:=Hd (λw=>by have:=Tk l (-1073741824) 1073741824 w;rw[hi] at this;exact this);have HI:=Hd hi;clear hi;go_enter func138,ntmps138;go_wp2_with (refine(W.out _).mono ?_;rintro e w' ⟨rfl,rfl⟩);go_ret;exact⟨JL (by unfold AL.OK;rw[AO (λh=>by have:=h.1;rw[HI.out] at this;cases this)]),rfl⟩
 ·have W:=Hd (λw=>by have:=Tk l (-1073741824) 1073741824 w;rw[hi] at this;exact this);have HI:=Hd hi;clear hi
  cases hb:s.begun
  ·rw[hb] at c8;have HB:=Hd hb;clear hb;go_enter func138,ntmps138;go_wp2_with (refine(W.out _).mono ?_;rintro e w' ⟨rfl,rfl⟩);go_ret;exact⟨JL (by unfold AL.OK;rw[AW ⟨HI.out,λe=>by rw[HB.out] at e;cases e⟩]),rfl⟩
  ·rw[hb] at c8;have HB:=Hd hb;clear hb
   by_cases hl:s.now<=l
   ·have z:decide (l<s.now)=false:=ME Ft;have HL:=Hd hl;clear hl;go_enter func138,ntmps138;go_wp2_with (refine(W.out _).mono ?_;rintro e w' ⟨rfl,rfl⟩);go_ret;exact⟨JL (by unfold AL.OK;rw[AW ⟨HI.out,λ_=>HL.out⟩]),rfl⟩
   ·have z:decide (l<s.now)=true:=IU Ft;have HL:=Hd hl;clear hl;go_enter func138,ntmps138;go_wp2_with (refine(W.out _).mono ?_;rintro e w' ⟨rfl,rfl⟩);go_ret;exact⟨JL (by unfold AL.OK;rw[AO (λh=>absurd (h.2 HB.out) Eb)]),rfl⟩
end
section
theorem A95{P:Program}{w:World}(ts:Array TypeId)(t:TypeId)(k k':IntKind)(x y:Int):(Builtin.max_ ts t #[.int k x,.int k' y]).run P w= .ok (.int k (max x y)) w:=by
 simp[Builtin.max_,Builtin.max2];split<;>omega
theorem A96{P:Program}{w:World}(ts:Array TypeId)(t:TypeId)(k k':IntKind)(x y:Int):(Builtin.min_ ts t #[.int k x,.int k' y]).run P w= .ok (.int k (min x y)) w:=by
 simp[Builtin.min_,Builtin.min2];split<;>omega
attribute [local go_sem high] A96 A95
theorem sG{a b c d:Int}{x y:Bool}(h:a=b)(g:c=d)(i:x=y):Ending.returned (.tuple #[Iv a,Iv c,.bool x])= .returned (.tuple #[Iv b,Iv d,.bool y]):=by rw[h,g,i]
section
variable{w w':World}{base b c:Nat}{s:AL.St}
theorem UP{s:AL.St}{a t:Int}{f:Bool}(h:AL.MC s=(a,t,f)):(AL.MC s).1=a/\(AL.MC s).2.1=t/\(AL.MC s).2.2=f:=by rw[h];exact⟨rfl,rfl,rfl⟩
theorem Nx{p:Prop}(h:p:=by
  go_enter func160,ntmps160;go_wp2_with fail;go_quiet (fail);go_wp2_with fail;go_region_held3 (λw'=>w'.cell? ⟨b,6,none⟩=some (Pt c)/\w'.cell? ⟨b,16,none⟩=some (Iv s.start)) (first|(refine⟨?_,?_⟩<;>simp[go_sem, *];done)|go_keep) (first|(go_at_call 175;refine(SU.out _ B8).mono ?_;rintro e w4 ⟨rfl,GA⟩;have QP:=GA.size;(try simp at QP);have H4:=Hd (show Of w4 base b c s by first|exact H.out.below GA (Lr _)|exact(H.out.drewN _).below GA (Lr _));have e6:w4.cell? (Ad b 6)=some (Pt c):=AB H4.out.BM 6 rfl;have e16:w4.cell? (Ad b 16)=some (Iv s.start):=AB H4.out.BM 16 rfl;have e14:w4.cell? (Ad b 14)=some (Iv s.since):=AB H4.out.BM 14 rfl;have Qo:=Hd (show Below w.heap.size w w4 from A9);clear GA));go_wp2_with fail;(refine K0V ?_;clear QP e6 e16 e14;intro w5 H5 g16 g4 A7z JD);go_wp2_with fail;(refine Ko ?_;intro V hV);(refine K0I ?_;clear hV;intro q1 ey v4 XH);go_quiet (fail);go_wp2_with fail;go_returns;exact I4
 ):p:=h
theorem Ny{p:Prop}(h:p:=by
  go_enter func160,ntmps160;go_wp2_with fail;go_quiet (fail);go_wp2_with fail;go_region_held3 (λw'=>w'.cell? ⟨b,6,none⟩=some (Pt c)/\w'.cell? ⟨b,16,none⟩=some (Iv s.start)) (first|(refine⟨?_,?_⟩<;>simp[go_sem, *];done)|go_keep) (first|(go_at_call 175;refine(SU.out _ B8).mono ?_;rintro e w4 ⟨rfl,GA⟩;have QP:=GA.size;(try simp at QP);have H4:=Hd (show Of w4 base b c s by first|exact H.out.below GA (Lr _)|exact(H.out.drewN _).below GA (Lr _));have e6:w4.cell? (Ad b 6)=some (Pt c):=AB H4.out.BM 6 rfl;have e16:w4.cell? (Ad b 16)=some (Iv s.start):=AB H4.out.BM 16 rfl;have e14:w4.cell? (Ad b 14)=some (Iv s.since):=AB H4.out.BM 14 rfl;have Qo:=Hd (show Below w.heap.size w w4 from A9);clear GA));go_wp2_with fail;go_returns;exact⟨sG E.out.1.symm E.out.2.1.symm E.out.2.2.symm,Qo.out⟩
 ):p:=h
theorem Nz{p:Prop}(h:p:=by
  go_wp2_with fail;go_quiet (fail);go_wp2_with fail;go_returns;exact I4
 ):p:=h
theorem xo(h:Of w base b c s)(hs:AL.Inv s):
  Calls prog 160 #[Pt b] w (IL (.tuple #[Iv (AL.MC s).1,Iv (AL.MC s).2.1,.bool (AL.MC s).2.2]) w):=by
 have H:=Hd h;have c1:w.cell? (Ad b 1)=some (Iv s.lost):=AB h.BM 1 rfl;have c2:w.cell? (Ad b 2)=some (Iv s.ret):=AB h.BM 2 rfl;have c3:w.cell? (Ad b 3)=some (Iv s.desc):=AB h.BM 3 rfl;have c4:w.cell? (Ad b 4)=some (Iv s.late):=AB h.BM 4 rfl;have c6:w.cell? (Ad b 6)=some (Pt c):=AB h.BM 6 rfl;have c7:w.cell? (Ad b 7)=some (Iv s.st):=AB h.BM 7 rfl;have yf:w.cell? (Ad b 13)=some (Iv s.heard):=AB h.BM 13 rfl;have c14:w.cell? (Ad b 14)=some (Iv s.since):=AB h.BM 14 rfl;have ie:w.cell? (Ad b 16)=some (Iv s.start):=AB h.BM 16 rfl;have jl:=h.lt.1;(refine K2c ?_;intro h1 h2 h3 h4 h5 h6 h7 wl wr wd wt HW);have SU:=Hd (λ(W:World)(hW:Ck.DV W c s.d s.r true s.cs s.lo s.hi)=>Ck.yH c s.d s.r s.cs s.lo s.hi s.start W hW hs.Tc);have AT:=Hd (λ(W:World)(x:Int)(hW:Ck.DV W c s.d s.r true s.cs s.lo s.hi)=>Ck.A1H c s.d s.r s.cs s.lo s.hi x W hW hs.Tc);have CK:=Hd h.Tc;clear h hs
 by_cases e2:s.st=2
 ·have E:=Hd (UP (show AL.MC s=(s.heard+s.lost,1,true) by unfold AL.MC;rw[AW e2]));rw[e2] at c7;clear e2;go_enter func160,ntmps160;exact Nz
 by_cases e4:s.st=4
 ·have E:=Hd (UP (show AL.MC s=(s.heard+s.lost,5,true) by unfold AL.MC;rw[AO e2,AW e4]));rw[e4] at c7;clear e2 e4;go_enter func160,ntmps160;exact Nz
 by_cases e5:s.st=5
 ·have E:=Hd (UP (show AL.MC s=(max (s.heard+s.ret) s.since,6,true) by unfold AL.MC;rw[AO e2,AO e4,AW e5]));rw[e5] at c7;clear e2 e4 e5;go_enter func160,ntmps160;go_wp2_with fail;go_quiet (fail);exact Nz
 by_cases e6:s.st=6
 ·have E:=Hd (UP (show AL.MC s=(s.since+s.desc,7,true) by unfold AL.MC;rw[AO e2,AO e4,AO e5,AW e6]));rw[e6] at c7;clear e2 e4 e5 e6;go_enter func160,ntmps160;go_wp2_with fail;go_quiet (fail);exact Nz
 by_cases e3:s.st=3
 ·have EW:=Hd (show AL.MC s=AL.wev s by unfold AL.MC;rw[AO e2,AO e4,AO e5,AO e6,AW e3]);rw[e3] at c7;refine K2P ?_;clear e2 e3 e4 e5 e6;intro u hu x hx y hy hm
  by_cases hA:u≠0\/s.heard+s.lost<=y
  ·have E:=Hd (UP (show AL.MC s=(s.heard+s.lost,1,true) by rw[EW.out];unfold AL.wev;rw[AW Dd]));rw[<-hu,<-hx] at SU;clear EW AT hu hx hy HW
   by_cases hu0:u=0
   ·have z1:decide (s.heard+s.lost<=y)=true:=IU Ft;subst hu0;clear hA;exact Ny
   ·(have z1:(u==0)=false:=by rw[Bf];exact hu0);(have z2:(u !=0)=true:=by simpa using hu0);clear hA hu0;exact Ny
  ·(have dv:u=0:=by omega);(have YO:¬(s.heard+s.lost<=y):=λh=>hA (.inr h));have hA':=Hd hA;(refine K2Z ?_;intro ku);have AT:=Hd (λ(W:World)(hW:Ck.DV W c s.d s.r true s.cs s.lo s.hi)=>AT.out W y hW);rw[<-hu,<-hx,dv] at SU;have z1:decide (s.heard+s.lost<=y)=false:=ME YO;clear EW hA hu hx hy HW hA' dv YO;obtain⟨v,hv⟩:=BN (Ck.aE s.d s.r s.cs s.hi y);obtain⟨g,hg⟩:=BN (Ck.ue s.d s.r s.cs s.hi y);rw[<-hv,<-hg] at AT ku;clear hv hg
   by_cases tA:v=0
   ·subst tA
    by_cases qQ:s.start+s.late<g
    ·have E:=Hd (UP (show AL.MC s=(y,1,true) by rw[ku.out,AW (.inr qQ)]));have z2:decide (s.start+s.late<g)=true:=IU qQ;clear ku qQ;exact Nx
    ·have E:=Hd (UP (show AL.MC s=(y,4,true) by rw[ku.out,AO (λh=>by rcases h with h|h;exact h rfl;exact qQ h)]));have z2:decide (s.start+s.late<g)=false:=ME qQ;clear ku qQ;exact Nx
   ·have E:=Hd (UP (show AL.MC s=(y,1,true) by rw[ku.out,AW (.inl tA)]));(have z2:(v==0)=false:=by rw[Bf];exact tA);(have z3:(v !=0)=true:=by simpa using tA);clear ku tA;exact Nx
 ·have E:=Hd (UP (show AL.MC s=(0,0,false) by unfold AL.MC;rw[AO e2,AO e4,AO e5,AO e6,AO e3]));(have z2:(s.st==2)=false:=by rw[Bf];exact e2);(have z3:(s.st==3)=false:=by rw[Bf];exact e3);(have z4:(s.st==4)=false:=by rw[Bf];exact e4);(have z5:(s.st==5)=false:=by rw[Bf];exact e5);(have z6:(s.st==6)=false:=by rw[Bf];exact e6);clear e2 e3 e4 e5 e6;go_enter func160,ntmps160;exact Nz
end
end
section
variable{w w':World}{base b c:Nat}{s:AL.St}
def uh(base b c:Nat)(w:World)(l:Int)(R:AL.St)(kx:Nat)(wr:World):Prop:=
 ∃t,AL.ZX t.st<=kx/\Of wr base b c t/\AL.Inv t/\AL.run 4 t l=R/\AG (λi=>i=b) w wr
theorem O1{p:Prop}(h:p:=by
  go_wp2_with fail;refine EV.out.mono ?_;rintro e w1 ⟨rfl,BX⟩;go_wp2_with fail;go_returns;exact I6
 ):p:=h
theorem O0{p:Prop}(h:p:=by
  clear BH OB OD Oz Od O8 MZ O7 Oc O6 Ob NZ IB NY MX NQ ML NP Oa NL GX GU FW On IQ Qx QC Qw QB Qv Qz Qu Qy Qt IP Qs IN Qr;clear hW hk;go_loopg [4,5,6] 5 (λkx v4 v5 v6 wr=>Hid (uh base b c w l R kx wr))
  case atStart=>exact aV
  case round=>
   refine K1R ?_;clear hrel aV;intro t dj HT HTI HTR HTK a ha x hx EV EN HA
   cases hf:(AL.MC t).2.2
   ·have HD:=Hd (show AL.due t l=false by unfold AL.due;rw[hf];rfl);rw[hf] at EV;clear hf ha hx EN;exact O1
   by_cases hle:a<=l
   ·have HD:=Hd (show AL.due t l=true by unfold AL.due;rw[hf,<-ha,IU hle];rfl);exact Hh
   ·have HD:=Hd (show AL.due t l=false by unfold AL.due;rw[hf,<-ha,ME hle];rfl);have z:decide (l<a)=true:=IU Ft;rw[hf] at EV;clear hf ha hx hle EN;exact O1
 ):p:=h
theorem cJ(h:Of w base b c s)(hs:AL.Inv s){l:Int}(hl: -1073741824<=l/\l<=1073741824):
  Calls prog 139 #[Pt b,Iv l] w λe w'=>e= .returned (.tuple #[])/\Of w' base b c (AL.T6 s l)/\AG (λi=>i=b) w w':=by
 have H:=Hd h;have hk:=h.BM;have HS:=Hd (AL.jH hs hl);obtain⟨R,hR⟩:=BN (AL.T6 s l);have HR:=Hd hR;rw[<-hR];unfold AL.T6 at hR;have HR2:=Hd hR;simp only[cI] at hk;clear h hs hR;refine A8h hk ?_;intro BH OB OD Oz Od O8 MZ O7 Oc O6 Ob NZ IB NY MX NQ ML NP Oa NL GX GU FW On IQ Qx QC Qw QB Qv Qz Qu Qy Qt IP Qs IN Qr;have la:=BG hk;have key:∀t,t=AL.u7 s l->∀w1:World,Of w1 base b c {t with now:=l}->AG (λi=>i=b) w w1->Hid (uh base b c w l R 5 w1):=λt ht w1 h1 h2=>
  Hd ⟨{t with now:=l},by have:=AL.iJ t.st;simp only;omega,h1,by rw[ht];exact HS.out,by rw[ht];exact HR2.out.symm,h2⟩
 have KEY:=Hd key;clear key
 cases hb:s.begun
 ·have HB:=Hd (show AL.u7 s l={s with begun:=true,heard:=l,since:=l} by unfold AL.u7;rw[hb];rfl);rw[hb] at hk ML;clear hb;go_enter func139,ntmps139;go_wp2_with fail;generalize hW:World.setCell _ _ _=W;have aV:=KEY.out _ HB.out.symm W ⟨by simp only[cI];rw[<-hW];exact Fl,H.out.U8 Ai,H.out.ge⟩ Ai;exact O0
 ·have HB:=Hd (show AL.u7 s l=s by unfold AL.u7;rw[hb];rfl);rw[hb] at hk ML;have aA:=Hd hb;clear hb;go_enter func139,ntmps139;go_wp2_with fail;generalize hW:World.setCell _ _ _=W;have aV:=KEY.out _ HB.out.symm W ⟨by simp only[cI];rw[aA.out,<-hW];exact Fl,H.out.U8 Ai,H.out.ge⟩ Ai;exact O0
end
end
section
open RowKit
attribute [local go_sem high] A96 A95
attribute [local go_sem ↓] wp_at_zero wp_at_succ
def LJ(s:AL.St):List Value:=[Iv s.id,Iv s.lost,Iv s.ret,Iv s.desc,Iv s.late,Iv s.every,Iv s.d,Iv s.r,.bool s.cs,Iv s.lo,Iv s.hi,Iv s.st,.bool s.begun,.bool s.Pf,.bool s.given,.bool s.asked,Iv s.now,Iv s.heard,Iv s.since,Iv s.prog,Iv s.start,Iv s.AZ,Iv s.MO,Iv s.q]
def FQ:AL.St:=⟨0,0,0,0,0,0,0,0,false,0,0,0,false,false,false,false,0,0,0,0,0,0,0,0⟩
theorem DI(s:AL.St):(LJ s).toArray.all (·.oneCell')=true:=by kernel_rfl
def RB(w:World)(i:Nat)(s:AL.St):Prop:=w.heap[i]?=some (.cells (LJ s).toArray 101 (0,0))
theorem bM(s:AL.St)(x t:Int)(w:World):
  Calls prog 168 #[.agg (LJ s).toArray,Iv x,Iv t] w (IL (.agg (LJ {s with st:=x,since:=t}).toArray) w):=by
 go_enter func168,ntmps168;go_upto_region 1 with fail;(refine Ko ?_;intro V hV);(refine K08 ?_;intro k0 k1);(refine Kb ?_;intro HB);clear hV;have PR:=AB k0 11 rfl;have f11:=AE k0 11;have YF:=AB k0 18 rfl;have f18:=AE k0 18;go_upto_region 2 with fail;generalize hW:World.setCell _ _ _=W;(have j0:RB W w.heap.size {s with st:=x,since:=t}:=by rw[<-hW];exact AP (AP k0 11 _) 18 _);(have j1:RB W (w.heap.size+1) FQ:=by rw[<-hW];exact CV (CV k1 Fu _) Fu _);(refine K0z ?_;intro Rx);clear hW HB k0 k1 PR f11 YF f18;exact Hb
theorem OO(s:AL.St)(w:World):
  Calls prog 147 #[.agg (LJ s).toArray] w (IL (.agg (LJ {s with given:=false,start:=0}).toArray) w):=by
 go_enter func147,ntmps147;go_upto_region 1 with fail;(refine Ko ?_;intro V hV);(refine K08 ?_;intro k0 k1);(refine Kb ?_;intro HB);clear hV;have c14:=AB k0 14 rfl;have f14:=AE k0 14;have Ua:=AB k0 20 rfl;have f20:=AE k0 20;go_upto_region 2 with fail;generalize hW:World.setCell _ _ _=W;(have j0:RB W w.heap.size {s with given:=false,start:=0}:=by rw[<-hW];exact AP (AP k0 14 _) 20 _);(have j1:RB W (w.heap.size+1) FQ:=by rw[<-hW];exact CV (CV k1 Fu _) Fu _);(refine K0z ?_;intro Rx);clear hW HB k0 k1 c14 f14 Ua f20;exact Hb
def RC(f:FuncId)(args:Array Value)(s:AL.St)(W:World):Prop:=Calls prog f args W (IL (.agg (LJ s).toArray) W)
def Qh(s:AL.St)(x:Int):AL.St:=if s.st=x then s else{s with st:=x,since:=s.now}
theorem NC(s:AL.St)(x:Int)(w:World):
  Calls prog 146 #[.agg (LJ s).toArray,Iv x] w λe w'=>e= .returned (.agg (LJ (Qh s x)).toArray)/\Below w.heap.size w w':=by
 by_cases hx:s.st=x
 ·have E:=Hd (show Qh s x=s by unfold Qh;rw[AW hx]);(have z1:(s.st==x)=true:=by rw[Q5];exact hx);(have z2:(s.st !=x)=false:=by simp[hx]);rw[E.out];clear hx;go_enter func146,ntmps146;go_upto_region 1 with fail;(refine Ko ?_;intro V hV);(refine K08 ?_;intro k0 k1);(refine Kb ?_;intro HB);clear hV;have PR:=AB k0 11 rfl;have j0:=k0;have j1:=k1;have Rx:=HB;clear k0 k1 HB;exact Hb
 ·have E:=Hd (show Qh s x={s with st:=x,since:=s.now} by unfold Qh;rw[AO hx]);(have z1:(s.st==x)=false:=by rw[Bf];exact hx);(have z2:(s.st !=x)=true:=by simpa using hx);have EN:=Hd (bM s x s.now);rw[E.out];clear hx;go_enter func146,ntmps146;go_upto_region 1 with fail;(refine Ko ?_;intro V hV);(refine K08 ?_;intro k0 k1);(refine Kb ?_;intro HB);clear hV;have PR:=AB k0 11 rfl;have ie:=AB k0 16 rfl;have j0:=k0;go_wp2_with (first|(refine JS rfl 101 _ rfl _ rfl 101 _ (0,0) _ j0 underlying101 rfl Ff ?_));refine(EN.out _).mono ?_;rintro e w1 ⟨rfl,BX⟩;have i0:=GH k0 BX;have j1:=GH k1 BX;have DF:=JI HB BX;clear k0 k1 BX HB j0 PR ie;go_upto_region 3 with(refine OZ rfl 101 _ _ rfl _ _ rfl rfl 101 _ i0 Ff rfl (DI _) ?_);generalize hW:World.setRow _ _ _=W;(have j0:RB W w.heap.size {s with st:=x,since:=s.now}:=by rw[<-hW];exact MR _ _ _ _ _ _ i0);(have i1:RB W (w.heap.size+1) FQ:=by rw[<-hW];exact(Pq _ _ _ _ Ft).trans j1);have Rx:=Hd (show Below w.heap.size w W from by rw[<-hW];exact JO DF.out (Lr _) _);clear hW j1 i0;have j1:=i1;clear i1;exact Hb
theorem VR{P:Program}{fn:Func}{a p b:Tmp}{ty:TypeId}(h:fn.results= #[.tmp a,.cell p ty,.tmp b])(tmps:Array Value)(w:World)(g:Nat)(t:TypeId)(cs:Array Value)(fr:Nat×Nat)(d:TypeDesc)
  (hp:tmps.getD p undef=Pt g)(hg:w.heap[g]?=some (.cells cs t fr))
  (hu:P.underlying ty=some d)(hd:(match d with| .struct _| .array _ _=>true|_=>false)=true)(hi:(P.info? ty).map (·.size)=some cs.size):
  (results fn tmps).run P w= .ok (.tuple #[tmps.getD a undef,.agg cs,tmps.getD b undef]) w:=by
 exact I7
theorem PX{P:Program}{fn:Func}{p b:Tmp}{ty:TypeId}(h:fn.results= #[.cell p ty,.tmp b])(tmps:Array Value)(w:World)(g:Nat)(t:TypeId)(cs:Array Value)(fr:Nat×Nat)(d:TypeDesc)
  (hp:tmps.getD p undef=Pt g)(hg:w.heap[g]?=some (.cells cs t fr))
  (hu:P.underlying ty=some d)(hd:(match d with| .struct _| .array _ _=>true|_=>false)=true)(hi:(P.info? ty).map (·.size)=some cs.size):
  (results fn tmps).run P w= .ok (.tuple #[.agg cs,tmps.getD b undef]) w:=by
 exact I7
theorem LU{P:Program}{fn:Func}{p a b:Tmp}{ty:TypeId}(h:fn.results= #[.cell p ty,.tmp a,.tmp b])(tmps:Array Value)(w:World)(g:Nat)(t:TypeId)(cs:Array Value)(fr:Nat×Nat)(d:TypeDesc)
  (hp:tmps.getD p undef=Pt g)(hg:w.heap[g]?=some (.cells cs t fr))
  (hu:P.underlying ty=some d)(hd:(match d with| .struct _| .array _ _=>true|_=>false)=true)(hi:(P.info? ty).map (·.size)=some cs.size):
  (results fn tmps).run P w= .ok (.tuple #[.agg cs,tmps.getD a undef,tmps.getD b undef]) w:=by
 exact I7
theorem bj{P:Program}{ops:Array Oper}{w:World}{rest:List Oper}{o:Oper}{a:Act}{Q:Act->Prop}(hgd:o.guard=none)(ty:TypeId)(x:Operand)(ho:o.op= .load ty x)
  (g:Nat)(hx:a.eval x=Pt g)(t:TypeId)(cs:Array Value)(fr:Nat×Nat)(d:TypeDesc)(hg:w.heap[g]?=some (.cells cs t fr))
  (hu:P.underlying ty=some d)(hd:(match d with| .struct _| .array _ _=>true|_=>false)=true)(hi:(P.info? ty).map (·.size)=some cs.size)
  (h:wpStill P ops w Q rest (a.put o.dst (.agg cs))):wpStill P ops w Q (o::rest) a:=
 wpStill_step λK hK=>by rw[AW (by simp[Region.wanted,hgd])];unfold Oper.still execOp;simp only[ho,hx,Instr.loadAt,Instr.sureAddr,eQ,Sem.run_pure,Result.andThen_ok,run_loadVar_row w g t ty cs fr d hg hu hd hi];exact⟨rfl,hK _ h⟩
def rnx(s:AL.St):AL.St:=if(AL.MC s).2.2 then AL.XQ s else s
theorem VP{s:AL.St}{a x:Int}(h:AL.MC s=(a,x,true)):(AL.MC s).1=a/\(AL.MC s).2.1=x/\(AL.MC s).2.2=true/\rnx s={s with st:=x,since:=a,given:=if AL.rh x then false else s.given,start:=if AL.rh x then 0 else s.start}:=by
 (have h2:(AL.MC s).2.2=true:=by rw[h]);have LX:=(AL.Yw h2).1;refine⟨by rw[h],by rw[h],h2,?_⟩;unfold rnx;rw[AW h2];unfold AL.XQ AL.QR;rw[AO (λe=>LX e.symm),h]
theorem A58{s:AL.St}{a x:Int}(h:AL.MC s=(a,x,false)):(AL.MC s).1=a/\(AL.MC s).2.1=x/\(AL.MC s).2.2=false/\rnx s=s:=by
 (have h2:(AL.MC s).2.2=false:=by rw[h]);refine⟨by rw[h],by rw[h],h2,?_⟩;unfold rnx;rw[h2];rfl
theorem bK(s:AL.St)(hs:AL.Inv s)(w:World):
  Calls prog 144 #[.agg (LJ s).toArray] w λe w'=>e= .returned (.tuple #[Iv (AL.MC s).1,.agg (LJ (rnx s)).toArray,.bool (AL.MC s).2.2])/\Below w.heap.size w w':=by
 (refine K2c ?_;intro h1 h2 h3 h4 h5 h6 h7 wl wr wd wt HW);have SU:=Hd (λW:World=>Ck.uW s.d s.r s.cs s.lo s.hi s.start W hs.Tc);have AT:=Hd (λ(W:World)(x:Int)=>Ck.sJ s.d s.r s.cs s.lo s.hi x W hs.Tc hs.l0);have EA:=Hd (λ(x a:Int)(W:World)=>bM s x a W);clear hs
 by_cases e5:s.st=5
 ·have E:=Hd (VP (show AL.MC s=(max (s.heard+s.ret) s.since,6,true) by unfold AL.MC;rw[AO Ft,AO Ft,AW e5]));have EN:=Hd (EA.out 6 (max (s.heard+s.ret) s.since));(have z5:(s.st==5)=true:=by rw[e5];rfl);clear e5 SU AT EA;exact N8
 by_cases e6:s.st=6
 ·have E:=Hd (VP (show AL.MC s=(s.since+s.desc,7,true) by unfold AL.MC;rw[AO Ft,AO Ft,AO Ft,AW e6]));have EN:=Hd (EA.out 7 (s.since+s.desc));have FG:=Hd (OO {s with st:=7,since:=s.since+s.desc});(have z5:(s.st==5)=false:=by rw[e6];rfl);(have z6:(s.st==6)=true:=by rw[e6];rfl);clear e5 e6 SU AT EA;exact Me
 by_cases e4:s.st=4
 ·have E:=Hd (VP (show AL.MC s=(s.heard+s.lost,5,true) by unfold AL.MC;rw[AO Ft,AW e4]));have EN:=Hd (EA.out 5 (s.heard+s.lost));(have z5:(s.st==5)=false:=by rw[e4];rfl);(have z6:(s.st==6)=false:=by rw[e4];rfl);(have z4:(s.st==4)=true:=by rw[e4];rfl);clear e5 e6 e4 SU AT EA;exact N8
 by_cases e2:s.st=2
 ·have E:=Hd (VP (show AL.MC s=(s.heard+s.lost,1,true) by unfold AL.MC;rw[AW e2]));have EN:=Hd (EA.out 1 (s.heard+s.lost));have FG:=Hd (OO {s with st:=1,since:=s.heard+s.lost});(have z5:(s.st==5)=false:=by rw[e2];rfl);(have z6:(s.st==6)=false:=by rw[e2];rfl);(have z4:(s.st==4)=false:=by rw[e2];rfl);(have z2:(s.st==2)=true:=by rw[e2];rfl);clear e5 e6 e4 e2 SU AT EA;exact Me
 (have z5:(s.st==5)=false:=by rw[Bf];exact e5);(have z6:(s.st==6)=false:=by rw[Bf];exact e6);(have z4:(s.st==4)=false:=by rw[Bf];exact e4);have z2:(s.st==2)=false:=by rw[Bf];exact e2
 by_cases e3:s.st=3
 ·(have z3:(s.st==3)=true:=by rw[e3];rfl);(have z3':(s.st !=3)=false:=by rw[e3];rfl);have EW:=Hd (show AL.MC s=AL.wev s by unfold AL.MC;rw[AO e2,AO e4,AO e5,AO e6,AW e3]);refine K2P ?_;clear e2 e3 e4 e5 e6;intro u hu x hx y hy hm
  by_cases hA:u≠0\/s.heard+s.lost<=y
  ·have E:=Hd (VP (show AL.MC s=(s.heard+s.lost,1,true) by rw[EW.out];unfold AL.wev;rw[AW Dd]));have EN:=Hd (EA.out 1 (s.heard+s.lost));have FG:=Hd (OO {s with st:=1,since:=s.heard+s.lost});rw[<-hu,<-hx] at SU;clear EW AT EA hu hx hy HW
   by_cases hu0:u=0
   ·have z1:decide (s.heard+s.lost<=y)=true:=IU Ft;subst hu0;clear hA;exact M5
   ·(have y1:(u==0)=false:=by rw[Bf];exact hu0);(have y2:(u !=0)=true:=by simpa using hu0);clear hA hu0;exact M5
  ·(have dv:u=0:=by omega);(have YO:¬(s.heard+s.lost<=y):=λh=>hA (.inr h));(refine K2Z ?_;intro ku);have AT:=Hd (λ(W:World)=>AT.out W y);rw[<-hu,<-hx,dv] at SU;have z1:decide (s.heard+s.lost<=y)=false:=ME YO;clear EW hA hu hx hy HW dv YO;obtain⟨v,hv⟩:=BN (Ck.aE s.d s.r s.cs s.hi y);obtain⟨g,hg⟩:=BN (Ck.ue s.d s.r s.cs s.hi y);rw[<-hv,<-hg] at AT ku;clear hv hg
   by_cases tA:v=0
   ·subst tA
    by_cases qQ:s.start+s.late<g
    ·have E:=Hd (VP (show AL.MC s=(y,1,true) by rw[ku.out,AW (.inr qQ)]));have EN:=Hd (EA.out 1 y);have FG:=Hd (OO {s with st:=1,since:=y});have y2:decide (s.start+s.late<g)=true:=IU qQ;clear ku EA qQ;go_enter func144,ntmps144;go_upto_region 1 with fail;(refine Ko ?_;intro V hV);(refine K08 ?_;intro k0 k1);(refine Kb ?_;intro HB);clear hV;(refine Kr ?_;intro PR c1 c2 c3 c4 YG YF Ua);(refine K0t ?_;intro c6 c7 c8 c9 Zt);go_wp2_with fail;(refine K0A ?_;clear k0 k1 HB c1 c2 c3 c4 PR YG YF Ua c6 c7 c8 c9 Zt;intro w1 k0 k1 HB);(refine Kr ?_;intro PR c1 c2 c3 c4 YG YF Ua);(refine K0t ?_;intro c6 c7 c8 c9 Zt);go_wp2_with fail;refine(AT.out _).mono ?_;rintro e w2 ⟨rfl,CB⟩;have Ot:=BG (GH k1 CB);go_upto_region 19 with fail;(refine K0p ?_;clear k0 k1 HB CB c1 c2 c3 c4 PR YG YF Ua c6 c7 c8 c9 Zt;intro V2 q1 k0 k1 HB);(refine Kr ?_;intro PR c1 c2 c3 c4 YG YF Ua);exact Gf
    ·have E:=Hd (VP (show AL.MC s=(y,4,true) by rw[ku.out,AO (λh=>by rcases h with h|h;exact h rfl;exact qQ h)]));have EN:=Hd (EA.out 4 y);have y2:decide (s.start+s.late<g)=false:=ME qQ;clear ku EA qQ;go_enter func144,ntmps144;go_upto_region 1 with fail;(refine Ko ?_;intro V hV);(refine K08 ?_;intro k0 k1);(refine Kb ?_;intro HB);clear hV;(refine Kr ?_;intro PR c1 c2 c3 c4 YG YF Ua);(refine K0t ?_;intro c6 c7 c8 c9 Zt);go_wp2_with fail;(refine K0A ?_;clear k0 k1 HB c1 c2 c3 c4 PR YG YF Ua c6 c7 c8 c9 Zt;intro w1 k0 k1 HB);(refine Kr ?_;intro PR c1 c2 c3 c4 YG YF Ua);(refine K0t ?_;intro c6 c7 c8 c9 Zt);go_wp2_with fail;refine(AT.out _).mono ?_;rintro e w2 ⟨rfl,CB⟩;have Ot:=BG (GH k1 CB);go_upto_region 19 with fail;(refine K0p ?_;clear k0 k1 HB CB c1 c2 c3 c4 PR YG YF Ua c6 c7 c8 c9 Zt;intro V2 q1 k0 k1 HB);exact M6
   ·have E:=Hd (VP (show AL.MC s=(y,1,true) by rw[ku.out,AW (.inl tA)]));have EN:=Hd (EA.out 1 y);have FG:=Hd (OO {s with st:=1,since:=y});(have y2:(v==0)=false:=by rw[Bf];exact tA);(have y3:(v !=0)=true:=by simpa using tA);clear ku EA tA;go_enter func144,ntmps144;go_upto_region 1 with fail;(refine Ko ?_;intro V hV);(refine K08 ?_;intro k0 k1);(refine Kb ?_;intro HB);clear hV;(refine Kr ?_;intro PR c1 c2 c3 c4 YG YF Ua);(refine K0t ?_;intro c6 c7 c8 c9 Zt);go_wp2_with fail;(refine K0A ?_;clear k0 k1 HB c1 c2 c3 c4 PR YG YF Ua c6 c7 c8 c9 Zt;intro w1 k0 k1 HB);(refine Kr ?_;intro PR c1 c2 c3 c4 YG YF Ua);(refine K0t ?_;intro c6 c7 c8 c9 Zt);go_wp2_with fail;refine(AT.out _).mono ?_;rintro e w2 ⟨rfl,CB⟩;have Ot:=BG (GH k1 CB);go_upto_region 19 with fail;(refine K0p ?_;clear k0 k1 HB CB c1 c2 c3 c4 PR YG YF Ua c6 c7 c8 c9 Zt;intro V2 q1 k0 k1 HB);(refine Kr ?_;intro PR c1 c2 c3 c4 YG YF Ua);go_upto_region 20 with fail;exact Gf
 ·have E:=Hd (A58 (show AL.MC s=(0,0,false) by unfold AL.MC;rw[AO e2,AO e4,AO e5,AO e6,AO e3]));(have z3:(s.st==3)=false:=by rw[Bf];exact e3);(have z3':(s.st !=3)=true:=by simpa using e3);clear e2 e3 e4 e5 e6 SU AT EA;go_enter func144,ntmps144;go_upto_region 1 with fail;(refine Ko ?_;intro V hV);(refine K08 ?_;intro k0 k1);(refine Kb ?_;intro HB);clear hV;(refine Kr ?_;intro PR c1 c2 c3 c4 YG YF Ua);go_wp2_with fail;refine wp_region_still_tail 2 Ff Ff ?_;simp only[List.take_succ_cons,List.take_zero,mh,bV];refine bj rfl 101 _ rfl _ rfl 101 _ (0,0) _ k0 underlying101 rfl Ff ?_
  still_step
  refine wpStill_nil ?_;change wpList _ _ _ _ _ V.drew;have j1:RB V.drew (w.heap.size+1) FQ:=k1;have Rx:=Hd (show Below w.heap.size w V.drew from HB.out.drew);clear k0 k1 HB c1 c2 c3 c4 PR YG YF Ua;refine OZ rfl 101 _ _ rfl _ _ rfl rfl 101 _ j1 Ff rfl (DI _) ?_;go_wp2_with fail;exact IT (VR rfl _ _ _ _ _ (0,0) _ rfl (MR _ _ _ _ _ _ j1) underlying101 rfl Ff) rfl ⟨by rw[E.out.1,E.out.2.2.1,E.out.2.2.2];rfl,JO Rx.out Ft _⟩
theorem Tj(n a b:Int)(w:World)(h:a<=n/\n<=b):
  Calls prog 73 #[Iv n,Iv a,Iv b] w (LP (.bool true) w):=
 (Tk n a b w).mono λe w' ⟨h1,h2⟩=>⟨by rw[h1,Ck.AV.EP.2 h],h2⟩
theorem Sw(n a b:Int)(w:World)(h:¬(a<=n/\n<=b)):
  Calls prog 73 #[Iv n,Iv a,Iv b] w (LP (.bool false) w):=
 (Tk n a b w).mono λe w' ⟨h1,h2⟩=>⟨by rw[h1,Ck.AV.SB.2 h],h2⟩
theorem iG(n a b:Int)(w:World)(h:a<=n/\n<=b):
  Calls prog 75 #[Iv n,Iv a,Iv b] w (LP (.bool true) w):=
 (sD n a b w).mono λe w' ⟨h1,h2⟩=>⟨by rw[h1,Ck.AV.EP.2 h],h2⟩
theorem yZ(n a b:Int)(w:World)(h:¬(a<=n/\n<=b)):
  Calls prog 75 #[Iv n,Iv a,Iv b] w (LP (.bool false) w):=
 (sD n a b w).mono λe w' ⟨h1,h2⟩=>⟨by rw[h1,Ck.AV.SB.2 h],h2⟩
theorem lD(a b c d f:Int):(¬(1<=a/\a<=600000)/\AL.S9 a b c d f=false)\/((1<=a/\a<=600000)/\¬(a<=b/\b<=600000)/\AL.S9 a b c d f=false)\/
  ((1<=a/\a<=600000)/\(a<=b/\b<=600000)/\¬(1<=c/\c<=600000)/\AL.S9 a b c d f=false)\/((1<=a/\a<=600000)/\(a<=b/\b<=600000)/\(1<=c/\c<=600000)/\¬(0<=d/\d<=600000)/\AL.S9 a b c d f=false)\/
  ((1<=a/\a<=600000)/\(a<=b/\b<=600000)/\(1<=c/\c<=600000)/\(0<=d/\d<=600000)/\¬(1<=f/\f<=600000)/\AL.S9 a b c d f=false)\/((1<=a/\a<=600000)/\(a<=b/\b<=600000)/\(1<=c/\c<=600000)/\(0<=d/\d<=600000)/\(1<=f/\f<=600000)/\AL.S9 a b c d f=true):=by
 have no:(¬((1<=a/\a<=600000)/\(a<=b/\b<=600000)/\(1<=c/\c<=600000)/\(0<=d/\d<=600000)/\(1<=f/\f<=600000)))->AL.S9 a b c d f=false:=λh=>by
  cases hv:AL.S9 a b c d f
  ·rfl
  ·exact absurd (AL.bD.1 hv) h
 by_cases h1:1<=a/\a<=600000
 ·right
  by_cases h2:a<=b/\b<=600000
  ·right
   by_cases h3:1<=c/\c<=600000
   ·right
    by_cases h4:0<=d/\d<=600000
    ·right
     by_cases h5:1<=f/\f<=600000
     ·exact .inr ⟨h1,h2,h3,h4,h5,AL.bD.2 ⟨h1,h2,h3,h4,h5⟩⟩
     ·exact .inl ⟨h1,h2,h3,h4,h5,no (λh=>h5 h.2.2.2.2)⟩
    ·exact .inl ⟨h1,h2,h3,h4,no (λh=>h4 h.2.2.2.1)⟩
   ·exact .inl ⟨h1,h2,h3,no (λh=>h3 h.2.2.1)⟩
  ·exact .inl ⟨h1,h2,no (λh=>h2 h.2.1)⟩
 ·exact .inl ⟨h1,no (λh=>h1 h.1)⟩
theorem cB(a b c d f:Int)(w:World):
  Calls prog 32 #[.agg #[Iv a,Iv b,Iv c,Iv d,Iv f]] w (IL (.bool (AL.S9 a b c d f)) w):=by
 rcases lD a b c d f with⟨h1,E⟩|⟨h1,h2,E⟩|⟨h1,h2,h3,E⟩|⟨h1,h2,h3,h4,E⟩|⟨h1,h2,h3,h4,h5,E⟩|⟨h1,h2,h3,h4,h5,E⟩
 all_goals
  have HE:=Hd E;clear E;go_enter func32,ntmps32;go_wp2_with (first|(refine(Tj _ _ _ _ Ft).mono ?_;rintro e w' ⟨rfl,rfl⟩)|(refine(Sw _ _ _ _ Ft).mono ?_;rintro e w' ⟨rfl,rfl⟩));go_ret;exact⟨CU HE.out.symm,A9⟩
theorem VO(a b c d f:Int)(w:World):
  Calls prog 35 #[.agg #[Iv a,Iv b,Iv c,Iv d,Iv f]] w (IL (.bool (AL.S9 a b c d f)) w):=by
 rcases lD a b c d f with⟨h1,E⟩|⟨h1,h2,E⟩|⟨h1,h2,h3,E⟩|⟨h1,h2,h3,h4,E⟩|⟨h1,h2,h3,h4,h5,E⟩|⟨h1,h2,h3,h4,h5,E⟩
 all_goals
  have HE:=Hd E;clear E;go_enter func35,ntmps35;go_wp2_with (first|(refine(iG _ _ _ _ Ft).mono ?_;rintro e w' ⟨rfl,rfl⟩)|(refine(yZ _ _ _ _ Ft).mono ?_;rintro e w' ⟨rfl,rfl⟩));go_ret;exact⟨CU HE.out.symm,A9⟩
def sd(l:List Int)(k:Nat)(w:World)(e:Ending)(w':World):Prop:=
 ∃g o c,e= .returned (.tuple #[.slice (some (Ad g o)) k c,Iv 0])/\(∀i,i<k->w'.cell? (Ad g (o+i))=some (Iv (AQ.OX l i)))/\Below w.heap.size w w'/\w.heap.size<=g
def uy(l:List Int)(k:Nat)(w:World)(e:Ending)(w':World):Prop:=
 ∃A c,e= .returned (.tuple #[.slice A 0 c,Iv (AQ.gE l.length k)])/\Below w.heap.size w w'
theorem A5M{l:List Int}{k:Nat}(h:l.length=4*k):AQ.gL l l.length k=AQ.gn l k/\AQ.gE l.length k=0:=by
 (have ho:AQ.ai l.length k=true:=by simp[AQ.ai];omega);unfold AQ.gL AQ.gE;rw[AW ho,AO Ft,AO Ft,AO Ft];exact⟨by simp,rfl⟩
theorem A19{l:List Int}{k:Nat}(h:l.length≠4*k):AQ.gL l l.length k=[]/\AQ.gE l.length k≠0:=by
 (have ho:AQ.ai l.length k=false:=by simp[AQ.ai];omega);unfold AQ.gL AQ.gE;rw[AO (by rw[ho];simp)];refine⟨rfl,?_⟩;split
 ·omega
 split
 ·omega
 split
 ·omega
 ·omega
theorem gO{w w':World}{l:List Int}{k:Nat}{e:Ending}(hl:l.length=4*k)(hk:0<k)(h:ew w l l.length k e w'):sd l k w e w':=by
 obtain⟨A,c,he,ho,hb⟩:=h;obtain⟨h1,h2⟩:=A5M hl;rw[h1,h2,AQ.js] at he;rw[h1,AQ.js] at ho;obtain⟨g,o,rfl,hg,hc⟩:=ho.ri.2.2 hk;refine⟨g,o,c,he,λi hi=> ?_,hb,?_⟩
 case refine_2=>
  rcases ho.1.2 with⟨_,h0⟩|⟨g',c',cur,e',hb',_⟩
  ·omega
  ·injection e' with e1;injection e1 with e1;injection e1 with e1;omega
 rw[hc i hi];congr 2;simp[AQ.gn,List.getD,hi]
theorem A16{w w':World}{l:List Int}{k:Nat}{e:Ending}(hl:l.length≠4*k)(h:ew w l l.length k e w'):uy l k w e w':=by
 obtain⟨A,c,he,ho,hb⟩:=h;obtain⟨h1,h2⟩:=A19 hl;rw[h1] at he;exact⟨A,c,he,hb⟩
theorem nP(A:Option Addr)(n cap k:Nat)(l:List Int)(w:World)(hl:l.length=4*k)(hn:n=l.length)(hk:0<k)(MU:k<=100)(DT:n<=cap)(GC:cap<=9223372036854775807)(h:Rd w w.heap.size A n l):
  Calls prog 164 #[.slice A n cap,Iv k] w (sd l k w):=by
 subst hn;exact(tN A _ cap k l w Ft DT GC Ft h).mono λe w' hh=>gO hl hk hh
theorem tM(A:Option Addr)(n cap k:Nat)(l:List Int)(w:World)(hl:l.length≠4*k)(hn:n=l.length)(IM:n<=70368744177664)(MU:k<=100)(DT:n<=cap)(GC:cap<=9223372036854775807)(h:Rd w w.heap.size A n l):
  Calls prog 164 #[.slice A n cap,Iv k] w (uy l k w):=by
 subst hn;exact(tN A _ cap k l w IM DT GC Ft h).mono λe w' hh=>A16 hl hh
theorem fK(A:Option Addr)(n cap k:Nat)(l:List Int)(w:World)(hl:l.length=4*k)(hn:n=l.length)(hk:0<k)(MU:k<=100)(h:Rd w w.heap.size A n l):
  Calls prog 145 #[.slice A n cap,Iv k] w (sd l k w):=by
 subst hn;exact(zu A _ cap k l w Ft Ft h).mono λe w' hh=>gO hl hk hh
theorem OQ(k f t s:Int)(A:Option Addr)(n cap:Nat)(l:List Int)(w:World)(hn:n=l.length)(IM:n<=70368744177664)(DT:n<=cap)(GC:cap<=9223372036854775807)(h:Rd w w.heap.size A n l):
  Calls prog 162 #[.agg #[Iv k,Iv f,Iv t,Iv s,.slice A n cap]] w (IL (Iv (if l.length=4 then AQ.OX l 0 else-1)) w):=by
 by_cases hl:l.length=4
 ·have G:=Hd (λ(W:World)(hW:Rd W W.heap.size A n l)=>nP A n cap 1 l W hl hn Ft Ft DT GC hW);have HH:=Hd h;have E:=Hd (show(if l.length=4 then AQ.OX l 0 else(-1:Int))=AQ.OX l 0 from AW hl);rw[E.out];clear hl hn IM h;go_enter func162,ntmps162;go_wp2_with fail;refine(G.out _ ((HH.out.below (B':=w.heap.size) A9 (Lr _)).more Fu)).mono ?_;rintro e w1 ⟨g,o,c,rfl,hc,hb,_⟩;have c0:=hc 0 Ft;simp only[Nat.add_zero] at c0;have hz:=hb.size;(try simp at hz);(refine K1x ?_;intro HB);clear hc hb hz;go_wp2_with fail;go_ret;exact⟨rfl,HB.out⟩
 ·have G:=Hd (λ(W:World)(hW:Rd W W.heap.size A n l)=>tM A n cap 1 l W Ft hn IM Ft DT GC hW);have HH:=Hd h;have E:=Hd (show(if l.length=4 then AQ.OX l 0 else(-1:Int))= -1 from AO hl);rw[E.out];have hE:AQ.gE l.length (1:Nat)≠0:=(A19 (l:=l) (k:=1) Ft).2;obtain⟨x,hx⟩:=BN (AQ.gE l.length (1:Nat));rw[<-hx] at hE;(have z1:(x==0)=false:=by rw[Bf];exact hE);(have z2:(x !=0)=true:=by simpa using hE);have G:=Hd (λ(W:World)(hW:Rd W W.heap.size A n l)=>by have:=G.out W hW;unfold uy at this;rw[<-hx] at this;exact this);clear hl hn IM h hE hx;go_enter func162,ntmps162;go_wp2_with fail;refine(G.out _ ((HH.out.below (B':=w.heap.size) A9 (Lr _)).more Fu)).mono ?_;rintro e w1 ⟨B,c,rfl,hb⟩;have hz:=hb.size;(try simp at hz);(refine K1x ?_;intro HB);clear hb hz;go_wp2_with fail;go_ret;exact⟨rfl,HB.out⟩
end
end Go.Proofs.YtdocdgcdldpagaaGreat

import Derived.Test.YtdocdgcdldpagaaGreatAw06
import Derived.Test.YtdocdgcdldpagaaGreatAw03
open Go.Proofs.Tryz
namespace Go.Proofs.YtdocdgcdldpagaaGreat
set_option maxHeartbeats 64000000
set_option maxRecDepth 100000
set_option linter.all false
section
open RowKit
attribute [local go_sem ↓] wp_at_zero wp_at_succ
def Zr(s:AJ.St):Value:=
 if s.cmd=0 then .nilIface else if s.cmd=1 then .iface 186 (.agg #[]) else if s.cmd=2 then .iface 187 (.agg #[]) else if s.cmd=3 then .iface 189 (.agg #[Iv s.at_]) else if s.cmd=4 then .iface 190 (.agg #[]) else if s.cmd=5 then .iface 191 (.agg #[]) else .iface 192 (.agg #[])
def Xs(x:AJ.Rep):List Value:=[.bool x.1,Iv x.2.1,Iv x.2.2]
def S6(l:List AJ.Rep):List Value:=l.flatMap Xs
def yK(s:AJ.St)(MA:Option Addr)(mc:Nat)(RA:Option Addr)(rc:Nat):List Value:=[Iv s.n,Iv s.again,Iv s.st,Iv s.now,Iv s.seq,Iv s.BB,.bool s.some,Iv s.prog,Zr s,.slice MA (AJ.EC s).length mc,.slice RA s.n rc]
structure FC(w:World)(base b:Nat)(MA:Option Addr)(mc:Nat)(RA:Option Addr)(rc:Nat)(s:AJ.St):Prop where
 BM:w.heap[b]?=some (.cells (yK s MA mc RA rc).toArray 162 (0,0))
 Vt:Row w base 3 1 MA (AJ.EC s).length mc ((AJ.EC s).map (λ(i:Nat)=>Iv i))
 Y1:Row w base 165 3 RA s.n rc (S6 s.seen)
 ge:base<=b
theorem pA(b:Nat)(cs:List Value)(n:Int)(w:World)(h:w.heap[b]?=some (.cells cs.toArray 162 (0,0)))(h0:cs[0]?=some (Iv n))(hn:n≠0):
  Calls prog 95 #[Pt b] w (LP (.bool false) w):=by
 have c0:=AB h 0 h0;(have z:(n==0)=false:=by rw[Bf];exact hn);clear h h0 hn;go_enter func95,ntmps95;exact He
section
variable{w:World}{base b mc rc:Nat}{MA RA:Option Addr}{s:AJ.St}
theorem FC.none(h:FC w base b MA mc RA rc s)(hs:AJ.Inv s):Calls prog 95 #[Pt b] w (LP (.bool false) w):=
 pA b _ s.n w h.BM rfl Em
theorem Wc(h:FC w base b MA mc RA rc s)(hs:AJ.Inv s):
  Calls prog 108 #[Pt b] w (LP (Iv s.prog) w):=by
 have N:=Hd (h.none hs);have c7:w.cell? (Ad b 7)=some (Iv s.prog):=AB h.BM 7 rfl;clear h hs;go_enter func108,ntmps108;go_wp2_with (refine N.out.mono ?_;rintro e w' ⟨rfl,rfl⟩);exact Hi
theorem fC(h:FC w base b MA mc RA rc s)(hs:AJ.Inv s):
  Calls prog 52 #[Pt b] w (LP (Iv s.st) w):=by
 have N:=Hd (h.none hs);have c2:w.cell? (Ad b 2)=some (Iv s.st):=AB h.BM 2 rfl;clear h hs;go_enter func52,ntmps52;go_wp2_with (refine N.out.mono ?_;rintro e w' ⟨rfl,rfl⟩);exact Hi
theorem QT(h:FC w base b MA mc RA rc s)(now:Int):
  Calls prog 99 #[Pt b,Iv now] w (LP (Iv (AJ.DZ s now)) w):=by
 have c3:w.cell? (Ad b 3)=some (Iv s.now):=AB h.BM 3 rfl;clear h
 by_cases h1:now<s.now
 ·have E:=Hd (show AJ.DZ s now=3 by unfold AJ.DZ;rw[AO Ft]);exact Iz
 ·by_cases h2:3600000<now
  ·have E:=Hd (show AJ.DZ s now=3 by unfold AJ.DZ;rw[AO Ft]);exact Iz
  ·have E:=Hd (show AJ.DZ s now=0 by unfold AJ.DZ;rw[AW Ft]);exact Iz
end
section
variable{w:World}{base b mc rc:Nat}{MA RA:Option Addr}{s:AJ.St}
def TZ(s:AJ.St):Int:=if AJ.EC s=[] then 0 else s.BB+s.again
def U0(s:AJ.St):Int:=if AJ.EC s=[] then 9 else 0
end
structure uj(T:TypeId)(v:Value)(name:String)(f:FuncId):Prop where
 m:∀W:World,(method 398 T v name).run prog W= .ok (f,v) W
 n:∀W:World,(nilAhead 398 T v name).run prog W= .ok (some false) W
 c:∀(args:Array Value)(W:World),(callFunc f args).run prog W= .ok (.enter f args) W
def O9(k x p:Int):List Int:=if k=1\/k=2 then AQ.IZ p else if k=3 then AQ.IZ x else []
structure yn(T:TypeId)(v:Value)(k x:Int)(fk fm fs fd:FuncId):Prop where
 ak:uj T v "skylantern/station.kind" fk
 am:uj T v "skylantern/station.may" fm
 as_:uj T v "skylantern/station.states" fs
 ad:uj T v "skylantern/station.data" fd
 ck:∀W:World,Calls prog fk #[v] W (IL (Iv k) W)
 cm:∀(W:World)(s:Int),0<=s->Calls prog fm #[v,Iv s] W (IL (.bool (AJ.may k s)) W)
 cs:∀W:World,Calls prog fs #[v] W (IL (.tuple #[Iv (AJ.given k),Iv (AJ.full k)]) W)
 cd:∀(W:World)(p:Int),0<=p/\p<=4294967295->(k=3->0<=x/\x<=4294967295)->Calls prog fd #[v,Iv p] W λe w'=>∃A cap,e= .returned (.slice A (O9 k x p).length cap)/\Ow w' W.heap.size A (O9 k x p).length cap (O9 k x p)/\Below W.heap.size W w'
 ta:∀W:World,(Instr.typeAssert (.iface T v) 159 189 true).run prog W= .ok (.tuple #[.agg #[Iv (if k=3 then x else 0)],.bool (decide (k=3))]) W
 en:∀W:World,(binOp .eql 159 (.iface T v) .nilIface).run prog W= .ok (.bool false) W
 cur:∀s:AJ.St,s.cmd=k->(k=3->s.at_=x)->Zr s= .iface T v
theorem Ri.A6Y(w:World)(x:Int)(h: -9223372036854775808<=x/\x<=9223372036854775807):Ri (w.alloc (.cells #[Iv x] 3)) (w.heap.size+1) (some (Ad w.heap.size 0)) 1 [x]:=by
 refine⟨rfl,λy hy=>by rw[List.mem_singleton.1 hy];exact h,λ_=>⟨_,0,rfl,by omega,λi hi=> ?_⟩⟩;(obtain rfl:i=0:=by omega);exact AB (l:=[Iv x]) (AM _ _) 0 rfl
theorem VW(n:Int)(w:World)(h:0<=n/\n<=4294967295):
  Calls prog 208 #[Iv n] w λe w'=>∃A cap,e= .returned (.slice A 4 cap)/\Ow w' w.heap.size A 4 cap (AQ.IZ n)/\Below w.heap.size w w':=by
 (have Qn:AQ.MI [n]=true:=by simp[AQ.MI,AQ.PM.2 h]);have P:=Hd (λ(W:World)(hW:Ri W W.heap.size (some (Ad w.heap.size 0)) 1 [n])=>te (some (Ad w.heap.size 0)) 1 1 [n] W hW Ft Qn);clear Qn;go_enter func208,ntmps208;go_wp2_with fail;refine(P.out _ (by have:=Ri.A6Y w n Ft;simpa using this)).mono ?_;rintro e w1 ⟨A,cap,rfl,hO,hB⟩;have IJ:=hB.size;go_wp2_with fail;go_ret;refine⟨A,cap,rfl,?_,A9⟩;have:=hO.more (base':=w.heap.size) Fu;simpa[AQ.pn] using this
theorem wH(w:World):Calls prog 205 #[(.agg #[])] w (IL (Iv 1) w):=by
 go_enter func205,ntmps205;exact Jd
theorem kM(w:World):Calls prog 207 #[(.agg #[])] w (IL (.tuple #[Iv (AJ.given 1),Iv (AJ.full 1)]) w):=by
 go_enter func207,ntmps207;exact Hv
theorem A0A(w:World)(s:Int)(hs:0<=s):Calls prog 206 #[(.agg #[]),Iv s] w (IL (.bool (AJ.may 1 s)) w):=by
 by_cases h0:s=0
 ·subst h0;have E:=Hd (show AJ.may 1 0=true by decide);exact Ml
 ·have z0:(s==0)=false:=by rw[Bf];exact h0
  by_cases h1:s=2
  ·subst h1;have E:=Hd (show AJ.may 1 2=true by decide);exact Ml
  ·have z1:(s==2)=false:=by rw[Bf];exact h1
   by_cases h2:s=9
   ·subst h2;have E:=Hd (show AJ.may 1 9=true by decide);exact Ml
   ·(have z2:(s==9)=false:=by rw[Bf];exact h2);have E:=Hd (show AJ.may 1 s=false by simp[AJ.may];omega);exact Ml
theorem xq(w:World)(p:Int)(hp:0<=p/\p<=4294967295):Calls prog 204 #[(.agg #[]),Iv p] w λe w'=>∃A cap,e= .returned (.slice A (O9 1 0 p).length cap)/\Ow w' w.heap.size A (O9 1 0 p).length cap (O9 1 0 p)/\Below w.heap.size w w':=by
 rw[show O9 1 0 p=AQ.IZ p by simp[O9]];have N:=Hd (λW:World=>VW p W hp);go_enter func204,ntmps204;exact Ic
theorem dU:yn 186 (.agg #[]) 1 0 205 206 207 204:=
 ⟨⟨λW=>by kernel_rfl,λW=>by kernel_rfl,λ_ W=>by kernel_rfl⟩,⟨λW=>by kernel_rfl,λW=>by kernel_rfl,λ_ W=>by kernel_rfl⟩,⟨λW=>by kernel_rfl,λW=>by kernel_rfl,λ_ W=>by kernel_rfl⟩,⟨λW=>by kernel_rfl,λW=>by kernel_rfl,λ_ W=>by kernel_rfl⟩,λW=>wH W,λW s hs=>A0A W s hs,λW=>kM W,λW p hp _=>xq W p hp,λW=>by kernel_rfl,λW=>by kernel_rfl,λs h1 _=>by unfold Zr;rw[h1];rfl⟩
theorem A0E(w:World):Calls prog 210 #[(.agg #[])] w (IL (Iv 2) w):=by
 go_enter func210,ntmps210;exact Jd
theorem py(w:World):Calls prog 212 #[(.agg #[])] w (IL (.tuple #[Iv (AJ.given 2),Iv (AJ.full 2)]) w):=by
 go_enter func212,ntmps212;exact Hv
theorem A2K(w:World)(s:Int)(hs:0<=s):Calls prog 211 #[(.agg #[]),Iv s] w (IL (.bool (AJ.may 2 s)) w):=by
 by_cases h0:s=2
 ·subst h0;have E:=Hd (show AJ.may 2 2=true by decide);go_enter func211,ntmps211;exact Hf
 ·(have z0:(s==2)=false:=by rw[Bf];exact h0);have E:=Hd (show AJ.may 2 s=false by simp[AJ.may];omega);go_enter func211,ntmps211;exact Hf
theorem A1w(w:World)(p:Int)(hp:0<=p/\p<=4294967295):Calls prog 209 #[(.agg #[]),Iv p] w λe w'=>∃A cap,e= .returned (.slice A (O9 2 0 p).length cap)/\Ow w' w.heap.size A (O9 2 0 p).length cap (O9 2 0 p)/\Below w.heap.size w w':=by
 rw[show O9 2 0 p=AQ.IZ p by simp[O9]];have N:=Hd (λW:World=>VW p W hp);go_enter func209,ntmps209;exact Ic
theorem tW:yn 187 (.agg #[]) 2 0 210 211 212 209:=
 ⟨⟨λW=>by kernel_rfl,λW=>by kernel_rfl,λ_ W=>by kernel_rfl⟩,⟨λW=>by kernel_rfl,λW=>by kernel_rfl,λ_ W=>by kernel_rfl⟩,⟨λW=>by kernel_rfl,λW=>by kernel_rfl,λ_ W=>by kernel_rfl⟩,⟨λW=>by kernel_rfl,λW=>by kernel_rfl,λ_ W=>by kernel_rfl⟩,λW=>A0E W,λW s hs=>A2K W s hs,λW=>py W,λW p hp _=>A1w W p hp,λW=>by kernel_rfl,λW=>by kernel_rfl,λs h1 _=>by unfold Zr;rw[h1];rfl⟩
theorem qB(x:Int)(w:World):Calls prog 214 #[(.agg #[Iv x])] w (IL (Iv 3) w):=by
 go_enter func214,ntmps214;exact Jd
theorem iC(x:Int)(w:World):Calls prog 216 #[(.agg #[Iv x])] w (IL (.tuple #[Iv (AJ.given 3),Iv (AJ.full 3)]) w):=by
 go_enter func216,ntmps216;exact Hv
theorem wC(x:Int)(w:World)(s:Int)(hs:0<=s):Calls prog 215 #[(.agg #[Iv x]),Iv s] w (IL (.bool (AJ.may 3 s)) w):=by
 by_cases h0:s=4
 ·subst h0;have E:=Hd (show AJ.may 3 4=true by decide);go_enter func215,ntmps215;exact Hf
 ·(have z0:(s==4)=false:=by rw[Bf];exact h0);have E:=Hd (show AJ.may 3 s=false by simp[AJ.may];omega);go_enter func215,ntmps215;exact Hf
theorem rq(x:Int)(w:World)(p:Int)(hx:0<=x/\x<=4294967295)(hp:0<=p/\p<=4294967295):Calls prog 213 #[(.agg #[Iv x]),Iv p] w λe w'=>∃A cap,e= .returned (.slice A (O9 3 x p).length cap)/\Ow w' w.heap.size A (O9 3 x p).length cap (O9 3 x p)/\Below w.heap.size w w':=by
 rw[show O9 3 x p=AQ.IZ x by simp[O9]];have N:=Hd (λW:World=>VW x W hx);go_enter func213,ntmps213;exact Ic
theorem gX(x:Int):yn 189 (.agg #[Iv x]) 3 x 214 215 216 213:=
 ⟨⟨λW=>by kernel_rfl,λW=>by kernel_rfl,λ_ W=>by kernel_rfl⟩,⟨λW=>by kernel_rfl,λW=>by kernel_rfl,λ_ W=>by kernel_rfl⟩,⟨λW=>by kernel_rfl,λW=>by kernel_rfl,λ_ W=>by kernel_rfl⟩,⟨λW=>by kernel_rfl,λW=>by kernel_rfl,λ_ W=>by kernel_rfl⟩,λW=>qB x W,λW s hs=>wC x W s hs,λW=>iC x W,λW p hp hx=>rq x W p (hx rfl) hp,λW=>by kernel_rfl,λW=>by kernel_rfl,λs h1 h2=>by unfold Zr;rw[h1,h2 rfl];rfl⟩
theorem wI(w:World):Calls prog 218 #[(.agg #[])] w (IL (Iv 4) w):=by
 go_enter func218,ntmps218;exact Jd
theorem kO(w:World):Calls prog 220 #[(.agg #[])] w (IL (.tuple #[Iv (AJ.given 4),Iv (AJ.full 4)]) w):=by
 go_enter func220,ntmps220;exact Hv
theorem A0B(w:World)(s:Int)(hs:0<=s):Calls prog 219 #[(.agg #[]),Iv s] w (IL (.bool (AJ.may 4 s)) w):=by
 by_cases h0:s=6
 ·subst h0;have E:=Hd (show AJ.may 4 6=true by decide);go_enter func219,ntmps219;exact Hf
 ·(have z0:(s==6)=false:=by rw[Bf];exact h0);have E:=Hd (show AJ.may 4 s=false by simp[AJ.may];omega);go_enter func219,ntmps219;exact Hf
theorem xt(w:World)(p:Int)(hp:0<=p/\p<=4294967295):Calls prog 217 #[(.agg #[]),Iv p] w λe w'=>∃A cap,e= .returned (.slice A (O9 4 0 p).length cap)/\Ow w' w.heap.size A (O9 4 0 p).length cap (O9 4 0 p)/\Below w.heap.size w w':=by
 rw[show O9 4 0 p=[] by simp[O9]];go_enter func217,ntmps217;exact Jh
theorem o7:yn 190 (.agg #[]) 4 0 218 219 220 217:=
 ⟨⟨λW=>by kernel_rfl,λW=>by kernel_rfl,λ_ W=>by kernel_rfl⟩,⟨λW=>by kernel_rfl,λW=>by kernel_rfl,λ_ W=>by kernel_rfl⟩,⟨λW=>by kernel_rfl,λW=>by kernel_rfl,λ_ W=>by kernel_rfl⟩,⟨λW=>by kernel_rfl,λW=>by kernel_rfl,λ_ W=>by kernel_rfl⟩,λW=>wI W,λW s hs=>A0B W s hs,λW=>kO W,λW p hp _=>xt W p hp,λW=>by kernel_rfl,λW=>by kernel_rfl,λs h1 _=>by unfold Zr;rw[h1];rfl⟩
theorem mX(w:World):Calls prog 222 #[(.agg #[])] w (IL (Iv 5) w):=by
 go_enter func222,ntmps222;exact Jd
theorem eO(w:World):Calls prog 224 #[(.agg #[])] w (IL (.tuple #[Iv (AJ.given 5),Iv (AJ.full 5)]) w):=by
 go_enter func224,ntmps224;exact Hv
theorem qw(w:World)(s:Int)(hs:0<=s):Calls prog 223 #[(.agg #[]),Iv s] w (IL (.bool (AJ.may 5 s)) w):=by
 by_cases h0:s=7
 ·subst h0;have E:=Hd (show AJ.may 5 7=true by decide);go_enter func223,ntmps223;exact Hf
 ·(have z0:(s==7)=false:=by rw[Bf];exact h0);have E:=Hd (show AJ.may 5 s=false by simp[AJ.may];omega);go_enter func223,ntmps223;exact Hf
theorem o6(w:World)(p:Int)(hp:0<=p/\p<=4294967295):Calls prog 221 #[(.agg #[]),Iv p] w λe w'=>∃A cap,e= .returned (.slice A (O9 5 0 p).length cap)/\Ow w' w.heap.size A (O9 5 0 p).length cap (O9 5 0 p)/\Below w.heap.size w w':=by
 rw[show O9 5 0 p=[] by simp[O9]];go_enter func221,ntmps221;exact Jh
theorem dR:yn 191 (.agg #[]) 5 0 222 223 224 221:=
 ⟨⟨λW=>by kernel_rfl,λW=>by kernel_rfl,λ_ W=>by kernel_rfl⟩,⟨λW=>by kernel_rfl,λW=>by kernel_rfl,λ_ W=>by kernel_rfl⟩,⟨λW=>by kernel_rfl,λW=>by kernel_rfl,λ_ W=>by kernel_rfl⟩,⟨λW=>by kernel_rfl,λW=>by kernel_rfl,λ_ W=>by kernel_rfl⟩,λW=>mX W,λW s hs=>qw W s hs,λW=>eO W,λW p hp _=>o6 W p hp,λW=>by kernel_rfl,λW=>by kernel_rfl,λs h1 _=>by unfold Zr;rw[h1];rfl⟩
theorem qC(w:World):Calls prog 226 #[(.agg #[])] w (IL (Iv 6) w):=by
 go_enter func226,ntmps226;exact Jd
theorem iD(w:World):Calls prog 228 #[(.agg #[])] w (IL (.tuple #[Iv (AJ.given 6),Iv (AJ.full 6)]) w):=by
 go_enter func228,ntmps228;exact Hv
theorem wD(w:World)(s:Int)(hs:0<=s):Calls prog 227 #[(.agg #[]),Iv s] w (IL (.bool (AJ.may 6 s)) w):=by
 by_cases h0:s=0
 ·subst h0;have E:=Hd (show AJ.may 6 0=false by decide);exact Mw
 ·have z0:(s !=0)=true:=by simpa using h0
  by_cases h1:s<8
  ·have E:=Hd (show AJ.may 6 s=true by simp[AJ.may];omega);exact Mw
  ·have E:=Hd (show AJ.may 6 s=false by simp[AJ.may];omega);exact Mw
theorem rr(w:World)(p:Int)(hp:0<=p/\p<=4294967295):Calls prog 225 #[(.agg #[]),Iv p] w λe w'=>∃A cap,e= .returned (.slice A (O9 6 0 p).length cap)/\Ow w' w.heap.size A (O9 6 0 p).length cap (O9 6 0 p)/\Below w.heap.size w w':=by
 rw[show O9 6 0 p=[] by simp[O9]];go_enter func225,ntmps225;exact Jh
theorem gY:yn 192 (.agg #[]) 6 0 226 227 228 225:=
 ⟨⟨λW=>by kernel_rfl,λW=>by kernel_rfl,λ_ W=>by kernel_rfl⟩,⟨λW=>by kernel_rfl,λW=>by kernel_rfl,λ_ W=>by kernel_rfl⟩,⟨λW=>by kernel_rfl,λW=>by kernel_rfl,λ_ W=>by kernel_rfl⟩,⟨λW=>by kernel_rfl,λW=>by kernel_rfl,λ_ W=>by kernel_rfl⟩,λW=>qC W,λW s hs=>wD W s hs,λW=>iD W,λW p hp _=>rr W p hp,λW=>by kernel_rfl,λW=>by kernel_rfl,λs h1 _=>by unfold Zr;rw[h1];rfl⟩
theorem XF{T:TypeId}{v:Value}{k:Int}{fk fm fs fd:FuncId}(h:yn T v k 0 fk fm fs fd)(x:Int)(hk:k≠3):yn T v k x fk fm fs fd:=
 ⟨h.ak,h.am,h.as_,h.ad,h.ck,h.cm,h.cs,λW p hp hx=>by have:=h.cd W p hp (λe=>absurd e hk);rw[show O9 k 0 p=O9 k x p by simp[O9,hk]] at this;exact this,λW=>by rw[AO hk];have:=h.ta W;rw[AO hk] at this;exact this,h.en,λs h1 _=>h.cur s h1 (λe=>absurd e hk)⟩
theorem rA(s:AJ.St)(hs:AJ.Inv s)(h:s.cmd≠0):∃T v fk fm fs fd,Zr s= .iface T v/\yn T v s.cmd s.at_ fk fm fs fd:=by
 have hc:=hs.cmd;have ha:=hs.at_;unfold Zr;obtain⟨k,hk⟩:=BN s.cmd;rw[<-hk] at hc h⊢;clear hk;rw[AO h]
 by_cases h1:k=1
 ·subst h1;exact⟨_,_,_,_,_,_,rfl,XF dU s.at_ Fj⟩
 by_cases h2:k=2
 ·subst h2;exact⟨_,_,_,_,_,_,rfl,XF tW s.at_ Fj⟩
 by_cases h3:k=3
 ·subst h3;exact⟨_,_,_,_,_,_,rfl,gX s.at_⟩
 by_cases h4:k=4
 ·subst h4;exact⟨_,_,_,_,_,_,rfl,XF o7 s.at_ Fj⟩
 by_cases h5:k=5
 ·subst h5;exact⟨_,_,_,_,_,_,rfl,XF dR s.at_ Fj⟩
 (obtain rfl:k=6:=by omega);exact⟨_,_,_,_,_,_,rfl,XF gY s.at_ Fj⟩
theorem A3t(s:AJ.St):AJ.data s=O9 s.cmd s.at_ s.prog:=rfl
section
variable{w:World}{base b mc rc:Nat}{MA RA:Option Addr}{s:AJ.St}
theorem Up(s:AJ.St)(hs:AJ.Inv s):(AJ.EC s).length<=64/\∀x∈AJ.EC s,1<=x/\x<=64:=by
 have hl:=hs.Rr;have hn:=hs.n;unfold AJ.EC;split
 ·simp
 ·have key:∀(l:List Bool)(lo:Nat),(AJ.BP lo l).length<=l.length:=by
   intro l
   induction l with
   |nil=>intro lo;simp[AJ.BP]
   |cons a l ih=>
    intro lo;unfold AJ.BP;split
    ·have:=ih (lo+1);simp;omega
    ·have:=ih (lo+1);simp;omega
  refine⟨by have:=key s.Rr 1;omega,λx hx=> ?_⟩;have:=AJ.LV _ _ _ hx;omega
theorem dI(h:FC w base b MA mc RA rc s)(hs:AJ.Inv s)(hc:s.cmd≠0):
  Calls prog 100 #[Pt b] w λe w'=>∃v,e= .returned v/\IF w' w.heap.size v (AJ.DX s)/\Below w.heap.size w w':=by
 obtain⟨i0,OU,RR,IJ,Ot⟩:=MQ ja;obtain⟨T,cv,fk,fm,fs,fd,OW,C⟩:=rA s hs hc;have c4:w.cell? (Ad b 4)=some (Iv s.seq):=AB h.BM 4 rfl;have c7:w.cell? (Ad b 7)=some (Iv s.prog):=AB h.BM 7 rfl;(have c8:w.cell? (Ad b 8)=some (.iface T cv):=by rw[<-OW];exact AB h.BM 8 rfl);(refine K47 ?_;intro c9);obtain⟨YQ,hmx⟩:=Up s hs;have jl:=BG h.BM;have M:=Hd h.Vt;have HML:=Hd hmx;have hp:=hs.prog;have CK:=Hd C.ck;have A9x:=hs.at_;have CD:=Hd (λW=>C.cd W s.prog hp (λ_=>by omega));clear A9x;have m1:=C.ak.m;have m2:=C.ad.m;have n1:=C.ak.n;have n2:=C.ad.n;have q1:=C.ak.c;have q2:=C.ad.c;have FE:=Hd (show ∀i,i<(AJ.EC s).length->(AJ.DX s).take (i+1)=(AJ.DX s).take i++[⟨s.cmd,0,(((AJ.EC s).getD i 0:Nat):Int),s.seq,O9 s.cmd s.at_ s.prog⟩] from λi hi=>by
  (have hl:i<(AJ.DX s).length:=by simpa[AJ.DX] using hi);rw[eV hl];simp[AJ.DX,A3t,List.getD,Gg hi])
 have FL:=Hd (show(AJ.DX s).length=(AJ.EC s).length by simp[AJ.DX]);obtain⟨n,hn⟩:=BN ((AJ.EC s).length);obtain⟨dl,GZ⟩:=BN (O9 s.cmd s.at_ s.prog);rw[<-GZ] at CD FE;rw[<-hn] at c9 YQ FE FL M;have HMN:=Hd hn;clear OW C hs h hmx hn GZ hc;go_enter func100,ntmps100;go_wp2_with fail;go_loopw[3,11] (λs3 s11 wr=>∃i:Nat,s11=Iv i/\i<=n/\IF wr w.heap.size s3 ((AJ.DX s).take i)/\Below w.heap.size w wr) (λ_ s11 _=>n-(intOf s11).toNat)
 case atStart=>exact⟨0,by go_num,by omega,by simpa using IF.nil w w.heap.size,A9⟩
 case round=>
  obtain⟨i,rfl,hi,hR,hB⟩:=hrel;have VE:=hB.size
  by_cases EK:i<n
  ·obtain⟨g,o,cur,rfl,_,hg,_,_,_,_,_,DD,_⟩:=M.out.some_ Ft;obtain⟨x,hx⟩:=BN ((AJ.EC s).getD i 0);have k0:w.cell? (Ad g (o+i))=some (Iv x):=DD i _ (by
    rw[TV,Gg (by rw[<-HMN.out];exact EK),hx];simp[List.getD,Gg (show i<(AJ.EC s).length by rw[<-HMN.out];exact EK)])
   have d0:=((BO hB).1 g (o+i) hg).trans k0;have d4:=((BO hB).1 b 4 jl).trans c4;have d7:=((BO hB).1 b 7 jl).trans c7;have d8:=((BO hB).1 b 8 jl).trans c8;have FI:=Hd (FE.out i EK);rw[<-hx] at FI;(have qT:b<wr.heap.size:=by omega);obtain⟨vs,de,nk,qH⟩:=hR;(have hlen:((AJ.DX s).take i).length=i:=by rw[Ul,FL.out];omega);have HV1:=Hd de;rw[hlen] at nk;have A3V:=Hd hlen;obtain⟨A3,A9G,rfl⟩:=EZ nk;have HV3:=Hd qH;have rP:=Hd nk;clear c4 c7 c8 c9 k0 hx DD de qH hlen nk;go_upto_region 5 with fail;go_region_held3 (λw'=>w'.cell? ⟨b,8,none⟩=some (.iface T cv)/\w'.cell? ⟨b,4,none⟩=some (Iv s.seq)/\w'.cell? ⟨b,7,none⟩=some (Iv s.prog)) (first|(refine⟨?_,?_,?_⟩<;>simp[go_sem, *];done)|go_keep) (first|(refine(CK.out _).mono ?_;rintro e w4 ⟨rfl,GA⟩;have QP:=GA.size;(try simp at QP);have e8:w4.cell? (Ad b 8)=some (.iface T cv):=((BO GA).1 b _ Cm).trans Ew;have e4:w4.cell? (Ad b 4)=some (Iv s.seq):=((BO GA).1 b _ Cm).trans Ew;have e7:w4.cell? (Ad b 7)=some (Iv s.prog):=((BO GA).1 b _ Cm).trans Ew)|(refine(CD.out _).mono ?_;rintro e w5 ⟨A5,Zs,rfl,hO5,LM⟩;have jW:=LM.size;(try simp at jW);have JD:=Hd (show Below wr.heap.size wr w5 from A9);have HO5:=Hd hO5;have Abz:wr.heap.size<=w5.heap.size:=Ft;have e8:w5.cell? (Ad b 8)=some (.iface T cv):=((BO LM).1 b _ Cm).trans Ew;have e4:w5.cell? (Ad b 4)=some (Iv s.seq):=((BO LM).1 b _ Cm).trans Ew;have e7:w5.cell? (Ad b 7)=some (Iv s.prog):=((BO LM).1 b _ Cm).trans Ew;clear LM hO5)|(refine LH _ rfl (.tmp 15) (.tmp 38) _ rfl w.heap.size 147 i0 _ 5 56 underlying113 OU RR IJ Ot rfl Ft (.slice A3 i A9G) i _ rfl ((WG rP.out JD.out).alloc _) (w5.heap.size+1) (some (Ad w5.heap.size 0)) 1 1 (FV.cells ⟨⟨s.cmd,0,x,s.seq,dl⟩,A5,Zs⟩) rfl (Reads.A0t w5 #[Iv s.cmd,Iv 0,Iv x,Iv s.seq,.slice A5 dl.length Zs] 147 1 5 rfl) (FV.one _) Dk Ft Fp ?_;intro v1 w7 CE GQ LY;have HO7:=Hd CE;have HG7:=Hd GQ;have wP:=GQ.size;(try simp at wP);have e8:w7.cell? (Ad b 8)=some (.iface T cv):=(Cb (GQ.block b Fp (λe=>by have:=(rP.out.lt _ e.symm).1;omega))).trans Ew;have e4:w7.cell? (Ad b 4)=some (Iv s.seq):=(Cb (GQ.block b Fp (λe=>by have:=(rP.out.lt _ e.symm).1;omega))).trans Ew;have e7:w7.cell? (Ad b 7)=some (Iv s.prog):=(Cb (GQ.block b Fp (λe=>by have:=(rP.out.lt _ e.symm).1;omega))).trans Ew;clear CE GQ LY));have HR7:=Hd (IF.append (w':=w7) (v':=v1) (vs:=vs) (y:=⟨⟨s.cmd,0,x,s.seq,dl⟩,A5,Zs⟩) HV1.out (by rw[A3V.out];exact(WG rP.out JD.out).alloc _) (λy hy=>((HV3.out y hy).below (B:=wr.heap.size) JD.out (Lr _)).alloc _) ((HO5.out.more Ft).alloc _) HG7.out (by rw[A3V.out];exact HO7.out));have hB7:Below w.heap.size w w7:=(((hB.trans (JD.out.mono VE)).alloc Ft _).grown HG7.out Fp (λg hg=>(rP.out.lt g hg).1));have T3:=Hd hB7;clear e8 e4 e7 hB7 hB;go_wp2_with fail;go_roundw
   case rel=>exact⟨i+1,by go_num,by omega,by rw[FI.out];exact HR7.out,T3.out⟩
   case measure=>simp[intOf];omega
  ·(obtain rfl:i=n:=by omega);have E:=Hd (show(AJ.DX s).take i=AJ.DX s by rw[R8 (by rw[FL.out];omega)]);rw[E.out] at hR;go_wp2_with fail;go_ret;exact⟨_,rfl,hR,hB⟩
end
theorem Row.ty{w:World}{base size n c:Nat}{e:TypeId}{A:Option Addr}{xs:List Value}(h:Row w base e size A n c xs){g:Nat}(hg:AK A=some g):Ty w g e:=by
 rcases h.2 with⟨rfl,_⟩|⟨g',o,cur,rfl,_,hh,_⟩
 ·cases hg
 ·simp only[AK,pW] at hg;subst hg;exact⟨_,hh⟩
def S8(b:Nat)(MA RA:Option Addr)(i:Nat):Prop:=i=b\/AK MA=some i\/AK RA=some i
section
variable{w w':World}{base b mc rc:Nat}{MA RA:Option Addr}{s:AJ.St}
theorem FC.lt(h:FC w base b MA mc RA rc s):b<w.heap.size:=BG h.BM
theorem FC.three(h:FC w base b MA mc RA rc s){i:Nat}(hi:S8 b MA RA i):Ty w i 162\/Ty w i 3\/Ty w i 165:=by
 rcases hi with rfl|hi|hi
 ·exact .inl ⟨_,h.BM⟩
 ·exact .inr (.inl (h.Vt.ty hi))
 ·exact .inr (.inr (h.Y1.ty hi))
theorem FC.au(h:FC w base b MA mc RA rc s){i:Nat}{e:TypeId}(g:Ty w i e)(h1:e≠162)(h2:e≠3)(h3:e≠165):¬S8 b MA RA i:=λhi=>by
 rcases h.three hi with k|k|k
 ·exact g.ne k h1 rfl
 ·exact g.ne k h2 rfl
 ·exact g.ne k h3 rfl
theorem FC.bf(h:FC w base b MA mc RA rc s){i:Nat}(hi:S8 b MA RA i):base<=i/\i<w.heap.size:=by
 rcases hi with rfl|hi|hi
 ·exact⟨h.ge,h.lt⟩
 ·exact h.Vt.lt hi
 ·exact h.Y1.lt hi
theorem FC.mne(h:FC w base b MA mc RA rc s){g:Nat}(hg:AK MA=some g):g≠b:=(h.Vt.ty hg).ne ⟨_,h.BM⟩ Fj
theorem FC.rne(h:FC w base b MA mc RA rc s){g:Nat}(hg:AK RA=some g):g≠b:=(h.Y1.ty hg).ne ⟨_,h.BM⟩ Fj
theorem FC.kept{S:Nat->Prop}(h:FC w base b MA mc RA rc s)(k:AG S w w')(hS:∀i,S8 b MA RA i->¬S i):FC w' base b MA mc RA rc s:=
 ⟨AR h.BM k (hS b (.inl rfl)),h.Vt.kept k (λg hg=>hS g (.inr (.inl hg))),h.Y1.kept k (λg hg=>hS g (.inr (.inr hg))),h.ge⟩
theorem FC.below{B:Nat}(h:FC w base b MA mc RA rc s)(k:Below B w w')(hB:w.heap.size<=B):FC w' base b MA mc RA rc s:=
 h.kept (S:=λ_=>False) ⟨k.os,k.tape,k.output,k.size,λi hi _=>k.block i Ft⟩ (λ_ _ h=>h)
theorem FC.alloc(h:FC w base b MA mc RA rc s)(o:Obj):FC (w.alloc o) base b MA mc RA rc s:=⟨AI h.BM o,h.Vt.alloc o,h.Y1.alloc o,h.ge⟩
theorem FC.drewN(h:FC w base b MA mc RA rc s)(q:Nat):FC (w.drewN q) base b MA mc RA rc s:=⟨h.BM,h.Vt,h.Y1,h.ge⟩
theorem FC.drew(h:FC w base b MA mc RA rc s):FC w.drew base b MA mc RA rc s:=⟨h.BM,h.Vt,h.Y1,h.ge⟩
end
theorem IF.A9B{w:World}{base b:Nat}{v:Value}{l:List Fr}{cs:Array Value}{t:TypeId}(h:IF w base v l)(hb:w.heap[b]?=some (.cells cs t (0,0)))(h1:t≠147)(h2:t≠5)(o:Nat)(u:Value):IF (w.setCell (Ad b o) u) base v l:=by
 obtain⟨vs,g1,g2,g3⟩:=h;have hk:w.grownBy (w.setCell (Ad b o) u) (some b):=⟨rfl,rfl,rfl,by simp[World.setCell],λi hi LX=>iN w (Ad b o) u i (λe=>LX (by rw[e]))⟩;refine⟨vs,g1,g2.kept hk ?_,λy hy=>(g3 y hy).grown hk (λg hg e=> ?_)⟩
 ·rcases g2.2 with⟨rfl,_⟩|⟨g,c,cur,rfl,_,hh,_⟩
  ·left;rfl
  ·right;intro e;simp only[Value.ownBlock,pW] at e;exact(Ty.ne ⟨_,hb⟩ ⟨_,hh⟩ h1) e.symm
 ·have ho:=g3 y hy;rw[hg] at ho;obtain⟨cur,hc,_⟩:=ho.block;injection e with e;exact(Ty.ne ⟨_,hb⟩ ⟨_,hc⟩ h2) e.symm
def JX(base b:Nat)(MA RA:Option Addr)(rc:Nat)(s':AJ.St)(fr:List Fr)(err:Int)(w:World)(e:Ending)(w':World):Prop:=
 ∃v km wh,e= .returned (.tuple #[v,Iv err])/\FC w' base b km wh RA rc s'/\AG (S8 b MA RA) w w'/\IF w' w.heap.size v fr/\(AK km=AK MA\/∃g,AK km=some g/\w.heap.size<=g)
def fo(s:AJ.St)(k now x p:Int):Int:=
 if ¬(0<=p/\p<=4294967295) then 2 else if AJ.DZ s now≠0 then 3 else if k=3/\¬(now<=x/\x<=3600000) then 3 else if AJ.may k s.st=false then 8 else 0
section
variable{w w':World}{base b mc rc:Nat}{MA RA:Option Addr}{s:AJ.St}{T:TypeId}{cv:Value}{k x:Int}{fk fm fs fd:FuncId}
theorem GD(s:AJ.St)(now:Int):AJ.DZ s now=0\/AJ.DZ s now=3:=by unfold AJ.DZ;split<;>simp
theorem Sg(h:FC w base b MA mc RA rc s)(hs:AJ.Inv s)(C:yn T cv k x fk fm fs fd)(now p:Int)(he:fo s k now x p≠0):
  Calls prog 107 #[Pt b,Iv now,.iface T cv,Iv p] w (IL (.tuple #[.slice none 0 0,Iv (fo s k now x p)]) w):=by
 have N:=Hd (h.none hs);have CH:=Hd (QT h now);have c2:w.cell? (Ad b 2)=some (Iv s.st):=AB h.BM 2 rfl;have DJ:=hs.st;have hb:=h.lt;have CM:=Hd (λW=>C.cm W s.st DJ.1);have m1:=C.am.m;have n1:=C.am.n;have q1:=C.am.c;have ta:=C.ta;have HE:=Hd he;clear h hs C he
 by_cases hp:0<=p/\p<=4294967295
 ·by_cases ht:AJ.DZ s now=0
  ·rw[ht] at CH
   by_cases h3:k=3
   ·subst h3;simp only[WV,decide_true] at ta
    by_cases hx:now<=x/\x<=3600000
    ·cases hm:AJ.may 3 s.st
     ·have E:=Hd (show fo s 3 now x p=8 by unfold fo;rw[AO Fh,AO Fs,AO (by simp[hx]),AW hm]);rw[hm] at CM;clear hm ht;exact Hn
     ·exact absurd (by unfold fo;rw[AO Fh,AO Fs,AO (by simp[hx]),AO (by simp[hm])]) HE.out
    ·have E:=Hd (show fo s 3 now x p=3 by unfold fo;rw[AO Fh,AO Fs,AW (by simp only[true_and];exact hx)])
     by_cases hxn:x<now
     all_goals
      (try(have hxm:3600000<x:=by omega));(try clear hx);(try clear ht);exact Mi
   ·simp only[AO h3,ME h3] at ta
    cases hm:AJ.may k s.st
    ·have E:=Hd (show fo s k now x p=8 by unfold fo;rw[AO Fh,AO Fs,AO (by simp[h3]),AW hm]);rw[hm] at CM;clear hm ht h3;exact Hn
    ·exact absurd (by unfold fo;rw[AO Fh,AO Fs,AO (by simp[h3]),AO (by simp[hm])]) HE.out
  ·have nl:AJ.DZ s now=3:=(GD s now).resolve_left ht;have E:=Hd (show fo s k now x p=3 by unfold fo;rw[AO Fh,AW ht]);rw[nl] at CH;clear ht nl;exact Mi
 ·have E:=Hd (show fo s k now x p=2 by unfold fo;rw[AW hp]);(have hp':p<0\/4294967295<p:=by omega);clear hp
  rcases hp' with hp'|hp'
  all_goals
   go_enter func107,ntmps107;go_wp2_with fail;refine K29 ?_;exact Ip
end
section
variable{w w':World}{base b mc rc:Nat}{MA RA:Option Addr}{s:AJ.St}{T:TypeId}{cv:Value}{k x:Int}{fk fm fs fd:FuncId}
theorem Ut:(prog.info? 3).map (λi=>(i.zero,i.size,i.bytes))=some (some (Iv 0),1,8):=by kernel_rfl
theorem A6s(u:Int)(hu:0<=u/\u<4611686018427387904):bits .and .i64 u 65535=u%65536:=by
 exact J3
theorem A5K{s:AJ.St}{k now x p:Int}(h:fo s k now x p=0):(0<=p/\p<=4294967295)/\AJ.DZ s now=0/\(k=3->now<=x/\x<=3600000)/\AJ.may k s.st=true:=by
 unfold fo at h
 by_cases a:¬(0<=p/\p<=4294967295)
 ·rw[AW a] at h;omega
 rw[AO a] at h
 by_cases c:AJ.DZ s now≠0
 ·rw[AW c] at h;omega
 rw[AO c] at h
 by_cases d:k=3/\¬(now<=x/\x<=3600000)
 ·rw[AW d] at h;omega
 rw[AO d] at h
 by_cases e:AJ.may k s.st=false
 ·rw[AW e] at h;omega
 refine⟨by omega,by omega,λhk=>by omega,by simpa using e⟩
def JW(s:AJ.St)(k now x:Int):AJ.St:={AJ.CG s k now x with some:=s.some}
theorem wL{s:AJ.St}{k now x:Int}(h:AJ.Inv s)(hk:1<=k/\k<=6)(ht:AJ.DZ s now=0)(hx:k=3->now<=x/\x<=3600000)(hp:k=1->0<=x/\x<=4294967295):AJ.Inv (JW s k now x):=by
 have ht:=AJ.QS ht;have hb:=AJ.nN k;obtain⟨h1,h2,h3,h4,h5,h6,h7,h8,h9,ZM,xj,YV⟩:=h;refine⟨h1,h2,?_,?_,?_,?_,?_,?_,?_,by simp[JW,AJ.CG],xj,YV⟩
 ·simp only[JW,AJ.CG];omega
 ·simp only[JW,AJ.CG];omega
 ·simp only[JW,AJ.CG];omega
 ·simp only[JW,AJ.CG];split<;>omega
 ·simp only[JW,AJ.CG];omega
 ·simp only[JW,AJ.CG];split<;>omega
 ·simp only[JW,AJ.CG];omega
theorem qp(s:AJ.St)(k now x:Int)(hk:k≠0):AJ.EC (JW s k now x)=(List.range s.n).map (1+·):=by
 unfold AJ.EC;rw[AO (by simpa[JW,AJ.CG] using hk)];exact AJ.Yl s.n 1
theorem nO(h:FC w base b MA mc RA rc s)(hs:AJ.Inv s)(C:yn T cv k x fk fm fs fd)(hk:1<=k/\k<=6)(now p:Int)(he:fo s k now x p=0)(hp1:k=1->p=x)(Pp:k≠1->p=s.prog)(BJ:base<=w.heap.size):
  Calls prog 107 #[Pt b,Iv now,.iface T cv,Iv p] w (JX base b MA RA rc (JW s k now x) (AJ.DX (JW s k now x)) 0 w):=by
 obtain⟨hp,ht,hx,hm⟩:=A5K he;obtain⟨i0,OU,RR,IJ,Ot⟩:=MQ Ut;have N:=Hd (h.none hs);have CH:=Hd (QT h now);rw[ht] at CH;have DJ:=hs.st;have xV:=hs.seq;have hb:=h.lt;have hn:=hs.n;have CM:=Hd (λW=>C.cm W s.st DJ.1);rw[hm] at CM;have CS:=Hd C.cs;have m1:=C.am.m;have n1:=C.am.n;have q1:=C.am.c;have m2:=C.as_.m;have n2:=C.as_.n;have q2:=C.as_.c;have ta:=C.ta;have CC:=Hd C;have H:=Hd h;have HS:=Hd hs;have hB:=h.BM;unfold yK at hB;have BH:=GN hB;have la:=BG hB;have HX:=Hd hx;have HT:=Hd ht;have ZR:=Hd hp1;have SZ:=Hd Pp;clear h hs C he hm ht hp1 Pp hx;have ZQ:=A6s (s.seq+1) Ft;have HKD:=Hd (show AJ.EC (JW s k now x)=(List.range s.n).map (1+·) from qp s k now x Ft);have A9V:=Hd (show Zr (JW s k now x)= .iface T cv from CC.out.cur _ rfl (λh=>by simp[JW,AJ.CG,h]));have A8U:=Hd (show AJ.Inv (JW s k now x) from wL HS.out hk HT.out HX.out (λh=>by rw[<-ZR.out h];exact hp));have HPR:=Hd (show(JW s k now x).prog=p by
  simp only[JW,AJ.CG];split
  ·rename_i h;exact(ZR.out h).symm
  ·rename_i h;exact(SZ.out h).symm)
 have A9c:∃(y:Int)(t:Bool),(∀W:World,(Instr.typeAssert (.iface T cv) 159 189 true).run prog W= .ok (.tuple #[.agg #[Iv y],.bool t]) W)/\((t=true/\now<=y/\y<=3600000)\/t=false):=by
  by_cases h3:k=3
  ·exact⟨x,true,λW=>by have:=ta W;rw[AW h3,IU h3] at this;exact this,.inl ⟨rfl,HX.out h3⟩⟩
  ·exact⟨0,false,λW=>by have:=ta W;rw[AO h3,ME h3] at this;exact this,.inr rfl⟩
 clear ta;obtain⟨y,t,ta,ht⟩:=A9c
 rcases ht with⟨rfl,tz,U2⟩|rfl
 all_goals
  go_enter func107,ntmps107;go_wp2_with fail;refine K29 ?_;go_wp2_with fail;refine K2K ?_;go_wp2_with fail;go_region_held3 (λw'=>w'.cell? ⟨b,2,none⟩=some (Iv s.st)) (first|(simp[go_sem, *];done)|go_keep) (first|(refine(CM.out _).mono ?_;rintro e w4 ⟨rfl,GA⟩;have QP:=GA.size;(try simp at QP);have k4:=AH (q:=b) Af GA Cm;have hB4:Below w.heap.size w w4:=A9;have e2:w4.cell? (Ad b 2)=some (Iv s.st):=AB k4 2 rfl));have K4:=Hd k4;have LZ:=GN k4;have lc:=BG k4;clear BH hB e2;go_wp2_with fail;generalize hV:World.setCell _ _ _=V;(have k5:V.heap[b]?=some (.cells #[Iv s.n,Iv s.again,Iv s.st,Iv now,Iv ((s.seq+1)%65536),Iv now,.bool s.some,Iv p,.iface T cv,.slice MA (AJ.EC s).length mc,.slice RA s.n rc] 162 (0,0)):=by rw[<-hV];exact Fl);(have qX:AG (λi=>i=b) w V:=by rw[<-hV];refine(AG.AS hB4).trans (S':=λi=>i=b) ?_ (λ_ _ h=>h);exact Hw);clear LZ hV K4 k4 hB4;refine(CS.out _).mono ?_;rintro e w5 ⟨rfl,LM⟩;have jW:=LM.size;have k6:=AH (q:=b) k5 LM (BG k5);have hK6:=qX.trans (AG.AS (S:=λi=>i=b) LM) (λ_ _ h=>h);have Xi:=hK6.size;have il:=Hd hK6;clear k5 qX LM hK6;have rC:=GN k6;have ld:=BG k6;go_wp2_with fail;generalize hV:World.setCell _ _ _=V6;(have k7:V6.heap[b]?=some (.cells #[Iv s.n,Iv s.again,Iv (AJ.given k),Iv now,Iv ((s.seq+1)%65536),Iv now,.bool s.some,Iv p,.iface T cv,.slice none 0 0,.slice RA s.n rc] 162 (0,0)):=by rw[<-hV];exact Fl);(have hK7:AG (λi=>i=b) w V6:=by rw[<-hV];refine il.out.trans (S':=λi=>i=b) ?_ (λ_ _ h=>h);exact Hw);have HK7:=Hd hK7;have K7:=Hd k7;clear rC hV k6 k7 hK7;go_loopw[95] (λs95 wr=>∃(j:Nat)(A:Option Addr)(c:Nat),s95=Iv j/\j<=s.n/\Hid (wr.heap[b]?=some (.cells #[Iv s.n,Iv s.again,Iv (AJ.given k),Iv now,Iv ((s.seq+1)%65536),Iv now,.bool s.some,Iv p,.iface T cv,.slice A j c,.slice RA s.n rc] 162 (0,0)))/\Hid (wr.ownsRow w.heap.size 3 1 (.slice A j c) j (((List.range j).map (1+·)).map (λ(i:Nat)=>Iv i)))/\Hid (AG (λi=>i=b) w wr)) (λs95 _=>s.n-(intOf s95).toNat)
  case atStart=>exact⟨0,none,0,by go_num,by omega,K7,Hd (Ta _ _ _ _),HK7⟩
  case round=>
   obtain⟨j,A,c,rfl,hj,HB,HO,HK⟩:=hrel;have VE:=HK.out.size;(have qT:b<wr.heap.size:=by omega);have hk:=HB.out
   by_cases EK:j<s.n
   ·(have YE:=GN hk;have le:=BG hk);clear hk;(have hjn:(j:Int)<(s.n:Int):=by omega);have HE:=Hd (show((List.range (j+1)).map (1+·)).map (λ(i:Nat)=>Value.int .i64 (i:Int))=((List.range j).map (1+·)).map (λ(i:Nat)=>Value.int .i64 (i:Int))++[Iv ((j:Int)+1)] from by
     rw[List.range_succ,bW,bW];simp only[me,fS];congr 3;omega)
    go_wp2_with (at_builtin;refine BD _ rfl (.tmp 102) (.tmp 105) _ rfl w.heap.size 3 i0 _ 1 8 underlying26 OU RR IJ Ot rfl Ft _ j _ rfl (HO.out.alloc _) (wr.heap.size+1) (some (Ad wr.heap.size 0)) 1 1 [Iv ((j:Int)+1)] rfl (Reads.A0t wr #[Iv ((j:Int)+1)] 3 1 1 rfl) E9 Dk Ft Fp ?_;intro v1 w7 CE GQ LY;(have wP:=GQ.size);(try simp at wP);obtain⟨A',c',rfl⟩:=EZ CE;have k8:w7.heap[b]?=_:=(GQ.block b Fp (λe=>by have:=(HO.out.lt _ e.symm).1;omega)).trans (AI HB.out _);have e9:w7.cell? (Ad b 9)=some (.slice A j c):=AB k8 9 rfl;have f9:=AE k8 9;have K8:=Hd k8;have HG:=Hd GQ;have oD:=Hd CE;clear k8 GQ CE LY);have HN:=Hd (show AG (λi=>i=b) w (w7.setCell (Ad b 9) (.slice A' (j+1) c')) from AG.Ui (((HK.out.alloc _).trans (AG.JK HG.out (S:=λi=>w.heap.size<=i) (λg hg=>(HO.out.lt g hg).1)) (λi hi hh=>by omega))) 9 _);have KN:=Hd (AP K8.out 9 (.slice A' (j+1) c'));have ON:=Hd (show(w7.setCell (Ad b 9) (.slice A' (j+1) c')).ownsRow w.heap.size 3 1 (.slice A' (j+1) c') (j+1) (((List.range (j+1)).map (1+·)).map (λ(i:Nat)=>Iv i)) from by
     rw[HE.out];exact A2B oD.out (by show b<w.heap.size;exact hb) _)
    go_roundw
    case rel=>exact⟨j+1,A',c',by go_num,by omega,by simpa using KN,ON,HN⟩
    case measure=>simp[intOf];omega
   ·(obtain rfl:j=s.n:=by omega);(have YQ:(AJ.EC (JW s k now x)).length=s.n:=by rw[HKD.out];simp);have CF:=Row.GR HO.out;have hSt:FC wr base b A c RA rc (JW s k now x):=by
     refine⟨?_,?_,?_,H.out.ge⟩
     ·rw[show yK (JW s k now x) A c RA rc=[Iv s.n,Iv s.again,Iv (AJ.given k),Iv now,Iv ((s.seq+1)%65536),Iv now,.bool s.some,Iv p,.iface T cv,.slice A s.n c,.slice RA s.n rc] from by unfold yK;rw[A9V.out,HPR.out,YQ];rfl];exact HB.out
     ·rw[YQ,HKD.out];exact CF.more BJ
     ·exact H.out.Y1.kept HK.out (λg hg=>H.out.rne hg)
    have FR:=Hd (dI hSt A8U.out (show(JW s k now x).cmd≠0 from by show k≠0;omega));have X7:=Hd hSt;obtain⟨g,o,cur,hA,jj,_⟩:=CF.some_ Ft;have hAe:=Hd (show AK A=some g by rw[hA];rfl);clear hk YQ CF hSt hA;go_wp2_with fail;refine FR.out.mono ?_;rintro e w9 ⟨v,rfl,hR,hB9⟩;have HR:=Hd hR;have XK:=Hd hB9;clear hR hB9;go_wp2_with fail;go_ret2;exact⟨v,A,c,rfl,X7.out.below XK.out (Lr _),(HK.out.trans (AG.AS (S:=λi=>i=b) XK.out) (λ_ _ h=>h)).mono (λi _ hi=> .inl hi),HR.out.more VE,.inr ⟨g,hAe.out,jj⟩⟩
end
section
variable{w w':World}{base b mc rc:Nat}{MA RA:Option Addr}{s:AJ.St}{T:TypeId}{cv:Value}{k x:Int}{fk fm fs fd:FuncId}
theorem JX.same(h:FC w base b MA mc RA rc s)(hB:Below w.heap.size w w')(err:Int):JX base b MA RA rc s [] err w (.returned (.tuple #[.slice none 0 0,Iv err])) w':=
 ⟨_,MA,mc,rfl,h.below hB (Lr _),AG.AS hB,IF.nil _ _,.inl rfl⟩
theorem dD(s:AJ.St)(now x:Int):fo s 1 now x x=AJ.BZ s 1 now x:=by
 unfold fo AJ.BZ;simp
theorem gN(s:AJ.St)(hs:AJ.Inv s)(k now x:Int)(hk:k≠1):fo s k now x s.prog=AJ.BZ s k now x:=by
 unfold fo AJ.BZ;rw[AO (by have:=hs.prog;omega),AO (show ¬(k=1/\_) from λh=>hk h.1)]
theorem ZN(s:AJ.St)(k now x:Int)(hk:k≠1):JW s k now x=AJ.CG s k now x:=by
 unfold JW AJ.CG;simp[hk]
theorem SK(h:FC w base b MA mc RA rc s)(hs:AJ.Inv s)(C:yn T cv k x fk fm fs fd)(hk:1<=k/\k<=6)(VG:k≠1)(now:Int)(BJ:base<=w.heap.size):
  Calls prog 107 #[Pt b,Iv now,.iface T cv,Iv s.prog] w (JX base b MA RA rc (AJ.JP s k now x) (AJ.FM s k now x) (AJ.BZ s k now x) w):=by
 by_cases he:AJ.BZ s k now x=0
 ·rw[he];(have e1:AJ.JP s k now x=JW s k now x:=by rw[ZN _ _ _ _ VG];unfold AJ.JP;rw[AW he]);(have e2:AJ.FM s k now x=AJ.DX (JW s k now x):=by rw[ZN _ _ _ _ VG];unfold AJ.FM;rw[AW he]);rw[e1,e2];exact nO h hs C hk now s.prog Cz (λe=>absurd e VG) (λ_=>rfl) BJ
 ·(have e1:AJ.JP s k now x=s:=by unfold AJ.JP;rw[AO he]);(have e2:AJ.FM s k now x=[]:=by unfold AJ.FM;rw[AO he]);rw[e1,e2];refine(Sg h hs C now s.prog Cz).mono ?_;rintro e w' ⟨rfl,hB⟩;rw[gN s hs k now x VG];exact JX.same h hB _
theorem yW(h:FC w base b MA mc RA rc s)(hs:AJ.Inv s)(now:Int)(BJ:base<=w.heap.size):
  Calls prog 67 #[Pt b,Iv now] w (JX base b MA RA rc (AJ.JP s 2 now 0) (AJ.FM s 2 now 0) (AJ.BZ s 2 now 0) w):=by
 have L:=Hd (Wc h hs);have G:=Hd (SK h hs (tW) Ft Ft now BJ);clear h hs;go_enter func67,ntmps67;exact Ho
theorem uQ(h:FC w base b MA mc RA rc s)(hs:AJ.Inv s)(now:Int)(BJ:base<=w.heap.size):
  Calls prog 69 #[Pt b,Iv now] w (JX base b MA RA rc (AJ.JP s 4 now 0) (AJ.FM s 4 now 0) (AJ.BZ s 4 now 0) w):=by
 have L:=Hd (Wc h hs);have G:=Hd (SK h hs (o7) Ft Ft now BJ);clear h hs;go_enter func69,ntmps69;exact Ho
theorem kQ(h:FC w base b MA mc RA rc s)(hs:AJ.Inv s)(now:Int)(BJ:base<=w.heap.size):
  Calls prog 70 #[Pt b,Iv now] w (JX base b MA RA rc (AJ.JP s 5 now 0) (AJ.FM s 5 now 0) (AJ.BZ s 5 now 0) w):=by
 have L:=Hd (Wc h hs);have G:=Hd (SK h hs (dR) Ft Ft now BJ);clear h hs;go_enter func70,ntmps70;exact Ho
theorem pE(h:FC w base b MA mc RA rc s)(hs:AJ.Inv s)(now:Int)(BJ:base<=w.heap.size):
  Calls prog 71 #[Pt b,Iv now] w (JX base b MA RA rc (AJ.JP s 6 now 0) (AJ.FM s 6 now 0) (AJ.BZ s 6 now 0) w):=by
 have L:=Hd (Wc h hs);have G:=Hd (SK h hs (gY) Ft Ft now BJ);clear h hs;go_enter func71,ntmps71;exact Ho
theorem pz(h:FC w base b MA mc RA rc s)(hs:AJ.Inv s)(now:Int)(at_:Int)(BJ:base<=w.heap.size):
  Calls prog 68 #[Pt b,Iv now,Iv at_] w (JX base b MA RA rc (AJ.JP s 3 now at_) (AJ.FM s 3 now at_) (AJ.BZ s 3 now at_) w):=by
 have L:=Hd (Wc h hs);have G:=Hd (SK h hs (gX at_) Ft Ft now BJ);clear h hs;go_enter func68,ntmps68;exact Ho
theorem uP(h:FC w base b MA mc RA rc s)(hs:AJ.Inv s)(now x:Int)(BJ:base<=w.heap.size):
  Calls prog 66 #[Pt b,Iv now,Iv x] w (JX base b MA RA rc (AJ.JP s 1 now x) (AJ.FM s 1 now x) (AJ.BZ s 1 now x) w):=by
 by_cases he:AJ.BZ s 1 now x=0
 ·rw[he];(have e1:AJ.JP s 1 now x={JW s 1 now x with some:=true}:=by unfold AJ.JP;rw[AW he];simp[JW,AJ.CG]);(have e2:AJ.FM s 1 now x=AJ.DX (JW s 1 now x):=by unfold AJ.FM;rw[AW he];rfl);rw[e1,e2];have G:=Hd (nO h hs (XF dU x Fj) Ft now x (by rw[dD];exact he) (λ_=>rfl) (λe=>absurd rfl e) BJ);clear h hs he e1 e2;go_enter func66,ntmps66;go_wp2_with fail;refine G.out.mono ?_;rintro e w' ⟨v,km,wh,rfl,hP⟩;obtain⟨hS,hK,hR,hA⟩:=hP;have f6:=AE hS.BM 6;have c6:w'.cell? (Ad b 6)=some (.bool (JW s 1 now x).some):=AB hS.BM 6 rfl;have HS:=Hd hS;have HK:=Hd hK;have HR:=Hd hR;have HA:=Hd hA;clear hS hK hR hA;go_wp2_with fail;go_ret2;refine⟨v,km,wh,rfl,⟨?_,?_,?_,HS.out.ge⟩,HK.out.setCell (.inl (.inl rfl)) _,?_,HA.out⟩
  ·have:=AP HS.out.BM 6 (.bool true);exact Ik
  ·exact HS.out.Vt.FY (λg hg=>HS.out.mne hg) _
  ·exact HS.out.Y1.FY (λg hg=>HS.out.rne hg) _
  ·exact HR.out.A9B HS.out.BM Fj Fj _ _
 ·(have e1:AJ.JP s 1 now x=s:=by unfold AJ.JP;rw[AO he]);(have e2:AJ.FM s 1 now x=[]:=by unfold AJ.FM;rw[AO he]);rw[e1,e2];have G:=Hd (Sg h hs (XF dU x Fj) now x (by rw[dD];exact he));rw[dD] at G;have H:=Hd h;(have z:(AJ.BZ s 1 now x==0)=false:=by rw[Bf];exact he);obtain⟨er,Oe⟩:=BN (AJ.BZ s 1 now x);rw[<-Oe] at G z⊢;clear h hs he e1 e2 Oe;go_enter func66,ntmps66;go_wp2_with fail;refine G.out.mono ?_;rintro e w' ⟨rfl,hB⟩;have HB:=Hd hB;clear hB;go_wp2_with fail;go_ret2;exact JX.same H.out HB.out _
end
def TJ(t:TypeId)(size n:Nat)(xs:List Value)(w:World)(e:Ending)(w':World):Prop:=∃A' c',e= .returned (.slice A' n c')/\Row w' w.heap.size t size A' n c' xs/\Below w.heap.size w w'
theorem rB(A:Option Addr)(n c base:Nat)(xs:List Value)(w:World)(hn:n<=1000000)(h:Row w base 3 1 A n c xs)(h1:∀v∈xs,v.oneCell'=true):
  Calls prog 62 #[.slice A n c] w (TJ 3 1 n xs w):=by
 obtain⟨i0,OU,RR,IJ,Ot⟩:=MQ Ut;have hr:=h.reads
 cases A with
 |none=>
  rcases h.2 with⟨_,h0,h00⟩|⟨g,o,cur,he,_⟩
  ·(subst h0;subst h00);have hx:xs=[]:=a9 (by simpa using h.1);subst hx;(have kn:=λ(W:World)=>vG (P:=prog) W 26 3 none 0 0 0 0 underlying26);simp only[Option.isNone] at kn;clear h hr;exact L4
  ·cases he
 |some a=>(have kn:=λ(W:World)=>vG (P:=prog) W 26 3 (some a) n c 0 0 underlying26);simp only[Option.isNone] at kn;clear h;exact Hm
theorem A0K:(prog.info? 165).map (λi=>(i.zero,i.size,i.bytes))=some (some (.agg #[.bool false,Iv 0,Iv 0]),3,24):=by kernel_rfl
theorem na(l:List Nat):∀v∈l.map (λ(i:Nat)=>Value.int .i64 i),v.oneCell'=true:=by
 intro v hv;simp only[cz] at hv;obtain⟨x,_,rfl⟩:=hv;rfl
theorem vv(l:List AJ.Rep):∀v∈S6 l,v.oneCell'=true:=by
 intro v hv;simp only[S6,List.mem_flatMap,Xs,fU,List.not_mem_nil,or_false] at hv;obtain⟨x,_,rfl|rfl|rfl⟩:=hv<;>rfl
theorem TU:∀(l:List AJ.Rep)(i j:Nat)(h:i<l.length),j<3->(S6 l)[i*3+j]?=(Xs l[i])[j]?
 |[],i,j,h,_=>by simp at h
 |v::vs,0,j,h,hj=>by rw[S6,iM,mj (by simp[Xs];omega)];simp
 |v::vs,i+1,j,h,hj=>by rw[S6,iM,vI (by simp[Xs];omega)];rw[show(i+1)*3+j-(Xs v).length=i*3+j by simp[Xs];omega];exact TU vs i j F7 hj
theorem Sb(l:List AJ.Rep):(S6 l).length=l.length*3:=by
 induction l with
 |nil=>rfl
 |cons a l ih=>rw[S6,iM,TW,show l.flatMap Xs=S6 l from rfl,ih];simp[Xs];omega
section
variable{w w':World}{base b mc rc:Nat}{MA RA:Option Addr}{s:AJ.St}
theorem mV(h:FC w base b MA mc RA rc s)(hs:AJ.Inv s):
  Calls prog 72 #[Pt b] w (TJ 3 1 (AJ.EC s).length ((AJ.EC s).map (λ(i:Nat)=>Iv i)) w):=by
 have N:=Hd (h.none hs);(refine K47 ?_;intro c9);have CL:=Hd (rB MA _ mc base _ w (by have:=(Up s hs).1;omega) h.Vt (na _));obtain⟨n,hn⟩:=BN ((AJ.EC s).length);rw[<-hn] at c9 CL⊢;clear h hs hn;go_enter func72,ntmps72;go_wp2_with fail;refine K29 ?_;go_wp2_with fail;refine CL.out.mono ?_;rintro e w' ⟨A',c',rfl,hP⟩;have HP:=Hd hP;clear hP;go_wp2_with fail;go_ret;exact⟨A',c',rfl,HP.out⟩
end
section
variable{w w':World}{base b mc rc:Nat}{MA RA:Option Addr}{s:AJ.St}
theorem FC.set(h:FC w base b MA mc RA rc s)(o:Nat)(u:Value)(s':AJ.St)(hl:(yK s MA mc RA rc).set o u=yK s' MA mc RA rc)(hm:AJ.EC s'=AJ.EC s)(hn:s'.n=s.n)(hr:s'.seen=s.seen):FC (w.setCell ⟨b,o,Option.none⟩ u) base b MA mc RA rc s':=by
 refine⟨?_,?_,?_,h.ge⟩
 ·have:=AP h.BM o u;rw[Q8,hl] at this;exact this
 ·rw[hm];exact h.Vt.FY (λg hg=>h.mne hg) _
 ·rw[hn,hr];exact h.Y1.FY (λg hg=>h.rne hg) _
theorem A25(h:FC w base b MA mc RA rc s)(hs:AJ.Inv s)(now:Int)(ht:AJ.DZ s now≠0):
  Calls prog 57 #[Pt b,Iv now] w (JX base b MA RA rc s [] 3 w):=by
 have N:=Hd (h.none hs);have CH:=Hd (QT h now);rw[(GD s now).resolve_left ht] at CH;have H:=Hd h;clear h hs ht;go_enter func57,ntmps57;go_wp2_with fail;refine K29 ?_;go_wp2_with fail;refine K2K ?_;go_wp2_with fail;go_ret2;exact JX.same H.out (IH _) _
theorem yA(h:FC w base b MA mc RA rc s)(hs:AJ.Inv s)(now:Int)(BJ:base<=w.heap.size):
  Calls prog 57 #[Pt b,Iv now] w (JX base b MA RA rc (AJ.tick s now) (AJ.DK s now) (AJ.DZ s now) w):=by
 by_cases ht:AJ.DZ s now=0
 ·have N:=Hd (h.none hs);have CH:=Hd (QT h now);rw[ht] at CH;obtain⟨YO,IM⟩:=AJ.QS ht;have BX:=hs.BB;have CB:=hs.again;have JZ:=hs.now;have h3:FC (w.setCell (Ad b 3) (Iv now)) base b MA mc RA rc {s with now:=now}:=h.set 3 _ _ rfl rfl rfl rfl;have hi3:=AJ.Us hs ht;have f3:=AE h.BM 3;have c3:w.cell? (Ad b 3)=some (Iv s.now):=AB h.BM 3 rfl;have c1:w.cell? (Ad b 1)=some (Iv s.again):=AB h.BM 1 rfl;have c5:w.cell? (Ad b 5)=some (Iv s.BB):=AB h.BM 5 rfl;have f5:=AE h.BM 5;(refine K47 ?_;intro c9);have hb:=h.lt;have HI3:=Hd hi3;have H3:=Hd h3;have af:AG (S8 b MA RA) w (w.setCell (Ad b 3) (Iv now)):=(AG.refl _ _).setCell (.inl (.inl rfl)) _;have pa:=Hd af;rw[ht]
  by_cases hm:AJ.EC s=[]
  ·(have E1:AJ.Qa s now=false:=by unfold AJ.Qa;rw[ME (by simp[hm])];rfl);(refine K3Z ?_;intro E2 E3);rw[hm] at c9;clear h hs ht h3 hi3 hm E1 af;exact Ie
  ·have hl:0<(AJ.EC s).length:=List.length_pos_iff.2 hm;have z:(((AJ.EC s).length:Int)==0)=false:=JJ Ft;have W1:=GF (now-s.BB) Ft
   by_cases ha:s.BB+s.again<=now
   ·(have E1:AJ.Qa s now=true:=by unfold AJ.Qa;rw[IU hm,IU ha];rfl);have E2:=Hd (show AJ.tick s now={s with now:=now,BB:=now} by unfold AJ.tick;rw[AW ht,E1];rfl);have E3:=Hd (show AJ.DK s now=AJ.DX {s with now:=now,BB:=now} by unfold AJ.DK;rw[AW ⟨ht,E1⟩,E2.out]);(have dB:s.cmd≠0:=λe=>hm (by unfold AJ.EC;rw[AW e]));have h5:FC ((w.setCell (Ad b 3) (Iv now)).setCell (Ad b 5) (Iv now)) base b MA mc RA rc {s with now:=now,BB:=now}:=h3.set 5 _ _ rfl rfl rfl rfl;(have hi5:AJ.Inv {s with now:=now,BB:=now}:=by have:=AJ.We (now:=now) hs;rw[E2.out] at this;exact this);have H5:=Hd h5;have FR:=Hd (λq=>dI (h5.drewN q) hi5 dB);have nC:AG (S8 b MA RA) w ((w.setCell (Ad b 3) (Iv now)).setCell (Ad b 5) (Iv now)):=af.setCell (.inl (.inl rfl)) _;have HK5:=Hd nC;(have zz:decide (now-s.BB<s.again)=false:=by rw[eU];omega);clear h hs ht h3 hi3 hm E1 af nC h5 hi5 ha dB hl;go_enter func57,ntmps57;go_wp2_with fail;refine K29 ?_;go_wp2_with fail;refine K2K ?_;go_wp2_with fail;go_quiet (fail);go_wp2_with fail;refine(FR.out _).mono ?_;rintro e w6 ⟨v,rfl,hR,hB6⟩;have HR:=Hd hR;have Vh:=Hd hB6;clear hR hB6;go_wp2_with fail;go_ret2;rw[E2.out,E3.out];exact⟨v,MA,mc,rfl,(H5.out.drewN _).below Vh.out (Lr _),(HK5.out.drewN _).trans (AG.AS (S:=λ_=>False) Vh.out) (λ_ _ h=>h.elim),HR.out.more (by simp[World.setCell]),.inl rfl⟩
   ·(have E1:AJ.Qa s now=false:=by unfold AJ.Qa;rw[ME ha];simp);(refine K3Z ?_;intro E2 E3);(have zz:decide (now-s.BB<s.again)=true:=by rw[pY];omega);clear h hs ht h3 hi3 hm E1 af ha hl;exact Ie
 ·(have E2:AJ.tick s now=s:=by unfold AJ.tick;rw[AO ht]);(have E3:AJ.DK s now=[]:=by unfold AJ.DK;rw[AO (λh=>ht h.1)]);rw[E2,E3,(GD s now).resolve_left ht];exact A25 h hs now ht
end
theorem gj(n:Nat):(madeCells #[.bool false,Iv 0,Iv 0] (n*3)).toList=S6 (List.replicate n (false,0,0)):=by
 apply eT;intro i
 by_cases hi:i<n*3
 ·have e:=TU (List.replicate n (false,0,0)) (i/3) (i%3) (by rw[iP];omega) Ft;rw[show i/3*3+i%3=i by omega] at e;rw[e];(have h3:i%3=0\/i%3=1\/i%3=2:=by omega);simp only[madeCells,Array.toList_map,Array.toList_range,TV,List.getElem?_range hi,Option.map_some,List.getElem_replicate]
  rcases h3 with h|h|h<;>rw[show(#[Value.bool false,Value.int .i64 0,Value.int .i64 0]:Array Value).size=3 from rfl,h]<;>rfl
 ·rw[R3,R3]
  ·rw[Sb,iP];omega
  ·rw[Array.length_toList,fW];omega
theorem yQ(n:Nat)(again:Int)(w:World)(h:AJ.VX n again=0):Calls prog 63 #[Iv n,Iv again] w λe w'=>∃b RA,e= .returned (.tuple #[Pt b,Iv 0])/\FC w' w.heap.size b none 0 RA n (AJ.new n again)/\Below w.heap.size w w':=by
 obtain⟨i0,OU,RR,IJ,Ot⟩:=MQ A0K;have hh:1<=(n:Int)/\(n:Int)<=64/\1<=again/\again<=60000:=by
  unfold AJ.VX at h;split at h
  ·assumption
  ·omega
 obtain⟨h1,h2,h3,h4⟩:=hh;(have IY:∀W:World,(Instr.makeSlice 160 (Iv (n:Int)) (Iv (n:Int))).run prog W= .ok (.slice (some (Ad W.heap.size 0)) n n) (W.alloc (.cells (madeCells #[.bool false,Iv 0,Iv 0] (n*3)) 165)):=λW=>by have:=run_make (P:=prog) W 160 165 i0 _ underlying160 OU RR .i64 .i64 n n Ft (ZB _) Ez Ft;rw[IJ,Int.toNat_natCast] at this;exact this);clear h;go_enter func63,ntmps63;go_wp2_with fail;go_ret2;refine⟨w.heap.size+1,some (Ad w.heap.size 0),rfl,⟨?_,?_,?_,?_⟩,A9⟩
 ·exact BK _ _ _ Fu
 ·exact Row.nil _ _ _ _
 ·refine Row.FK (AI (AM _ _) _) (Lr _) (Lr _) Ee Dl ?_;rw[bV,gj,R8 (by rw[Sb,iP];exact Lr _)];rfl
 ·simp
theorem A0w(x:Int)(w:World):Calls prog 173 #[Iv x] w (LP (.bool false) w):=by
 go_enter func173,ntmps173;exact Lg
theorem A0v(x:Int)(w:World):Calls prog 157 #[Iv x] w (LP (.bool false) w):=by
 go_enter func157,ntmps157;exact Lg
theorem A0D(x y:Int)(w:World):Calls prog 156 #[Iv x,Iv y] w λe w'=>e= .returned (.bool (decide (x<y)))/\w=w':=by
 have N:=Hd (λW:World=>A0w x W);go_enter func156,ntmps156;go_wp2_with fail;refine(N.out _).mono ?_;rintro e w1 ⟨rfl,rfl⟩;exact Lg
theorem Z2{l:List Nat}(h:l.Pairwise (· <·)){i j x y:Nat}(hij:i<=j)(hi:l[i]?=some x)(hj:l[j]?=some y):x<=y:=by
 rcases Oj i j with h1|h1
 ·obtain⟨a1,rfl⟩:=List.getElem?_eq_some_iff.1 hi;obtain⟨a2,rfl⟩:=List.getElem?_eq_some_iff.1 hj;exact Nat.le_of_lt (List.pairwise_iff_getElem.1 h _ _ a1 a2 h1)
 ·(obtain rfl:i=j:=by omega);rw[hi] at hj;injection hj with hj;omega
theorem Uj(A:Option Addr)(n c base:Nat)(l:List Nat)(x:Int)(w:World)(hn:n<=1000000)(h:Row w base 3 1 A n c (l.map (λ(i:Nat)=>Iv i)))(hs:l.Pairwise (· <·)):
  Calls prog 135 #[.slice A n c,Iv x] w λe w'=>(∃i:Nat,i<=n/\e= .returned (.tuple #[Iv i,.bool (decide (∃y,l[i]?=some y/\(y:Int)=x))])/\(∀t y,t<i->l[t]?=some y->(y:Int)<x)/\(∀t y,i<=t->l[t]?=some y->x<=(y:Int)))/\w=w':=by
 (have hl:l.length=n:=by have:=h.1;simpa using this);have HR:=Hd h;have HS:=Hd hs;have HL:=Hd hl;clear h hs hl;go_enter func135,ntmps135;go_wp2_with fail;go_loop [7,8] (λs7 s8=>∃(i j:Nat),s7=Iv i/\s8=Iv j/\i<=j/\j<=n/\Hid (∀t y,t<i->l[t]?=some y->(y:Int)<x)/\Hid (∀t y,j<=t->l[t]?=some y->x<=(y:Int))) (λs7 s8=>(intOf s8).toNat-(intOf s7).toNat)
 case atStart=>exact⟨0,n,by go_num,rfl,by omega,by omega,Hd (λt y ht=>absurd ht Ft),Hd (λt y ht hy=>by rw[R3 (by rw[HL.out];exact ht)] at hy;cases hy)⟩
 case round=>
  obtain⟨i,j,rfl,rfl,hij,hj,HA,HB⟩:=hrel
  by_cases EK:i<j
  ·obtain⟨m,hm⟩:∃m:Nat,m=(i+j)/2:=⟨_,rfl⟩;(have hmi:i<=m/\m<j:=by omega);(have em:((i:Int)+(j:Int))/2=(m:Int):=by omega);obtain⟨g,o,cur,rfl,_,_,_,_,_,_,_,DD,_⟩:=HR.out.some_ Ft;obtain⟨y,hy⟩:∃y,l[m]?=some y:=⟨_,Gg Ep⟩;have k0:=DD m (Iv y) (by rw[TV,hy];rfl);have HY:=Hd hy;have LS:=Hd (λW=>A0D y x W);(have GK:(m:Int)<(n:Int):=by omega);clear DD hy hm
   by_cases hyx:(y:Int)<x
   ·rw[IU hyx] at LS;have HA2:=Hd (show ∀t z,t<m+1->l[t]?=some z->(z:Int)<x from λt z ht hz=>by have:=Z2 HS.out (by omega:t<=m) hz HY.out;omega);clear hyx;go_wp2_with fail;refine(LS.out _).mono ?_;rintro e w1 ⟨rfl,rfl⟩;go_wp2_with fail;go_round
    case rel=>exact⟨m+1,j,by go_num,rfl,by omega,by omega,HA2,HB⟩
    case measure=>simp[intOf];omega
   ·rw[ME hyx] at LS;have NB:=Hd (show ∀t z,m<=t->l[t]?=some z->x<=(z:Int) from λt z ht hz=>by have:=Z2 HS.out ht HY.out hz;omega);clear hyx;go_wp2_with fail;refine(LS.out _).mono ?_;rintro e w1 ⟨rfl,rfl⟩;go_wp2_with fail;go_round
    case rel=>exact⟨i,m,rfl,by go_num,by omega,by omega,HA,NB⟩
    case measure=>simp[intOf];omega
  ·obtain rfl:i=j:=by omega
   by_cases U3:i<n
   ·obtain⟨g,o,cur,rfl,_,_,_,_,_,_,_,DD,_⟩:=HR.out.some_ Ft;obtain⟨y,hy⟩:∃y,l[i]?=some y:=⟨_,Gg Ep⟩;have k0:=DD i (Iv y) (by rw[TV,hy];rfl);have HY:=Hd hy;(have GK:(i:Int)<(n:Int):=by omega);have NA:=Hd (λW=>A0v y W);clear DD hy
    by_cases hyx:(y:Int)=x
    ·have E:=Hd (show decide (∃y,l[i]?=some y/\(y:Int)=x)=true from IU ⟨y,HY.out,hyx⟩);(have z:((y:Int)==x)=true:=by simpa using hyx);clear hyx;exact J5
    ·have E:=Hd (show decide (∃y,l[i]?=some y/\(y:Int)=x)=false from ME (λ⟨z,h1,h2⟩=>hyx (by rw[HY.out] at h1;injection h1 with h1;rw[h1];exact h2)));(have z:((y:Int)==x)=false:=by rw[Bf];exact hyx);clear hyx;go_wp2_with fail;refine(NA.out _).mono ?_;rintro e w1 ⟨rfl,rfl⟩;exact J5
   ·have E:=Hd (show decide (∃y,l[i]?=some y/\(y:Int)=x)=false from ME (λ⟨z,h1,h2⟩=>by rw[R3 Ep] at h1;cases h1));exact J5
def XW(cur:Array Value):Nat->List Value->Array Value
 |_,[]=>cur
 |o,v::r=>XW (cur.setIfInBounds o v) (o+1) r
theorem QJ:∀(vs:List Value)(o:Nat)(cur:Array Value),(XW cur o vs).size=cur.size
 |[],_,_=>rfl
 |v::r,o,cur=>by rw[XW,QJ r (o+1),A0e]
theorem Yt:∀(vs:List Value)(o:Nat)(cur:Array Value)(k:Nat),k<cur.size->(XW cur o vs)[k]?=if o<=k/\k<o+vs.length then vs[k-o]? else cur[k]?
 |[],o,cur,k,h=>by rw[AO (by simp only[List.length_nil];omega)];rfl
 |v::r,o,cur,k,h=>by
  rw[XW,Yt r (o+1) _ k F7]
  by_cases h1:o+1<=k/\k<o+1+r.length
  ·rw[AW h1,AW (by simp only[List.length_cons];omega),show k-o=(k-(o+1))+1 by omega,List.getElem?_cons_succ]
  ·rw[AO h1]
   by_cases h2:k=o
   ·subst h2;rw[AW Fu,Nat.sub_self,A2y];simp[h]
   ·rw[AO Fp,A2y,AO Ft]
theorem Qd(b:Nat)(t:TypeId):∀(vs:List Value)(o:Nat)(w:World)(cur:Array Value),w.heap[b]?=some (.cells cur t (0,0))->(w.setCells b o vs).heap[b]?=some (.cells (XW cur o vs) t (0,0))
 |[],_,_,_,h=>h
 |v::r,o,w,cur,h=>by rw[World.setCells,XW];exact Qd b t r (o+1) _ _ (AP h o v)
theorem OL(b:Nat):∀(vs:List Value)(o:Nat)(w0 w:World),AG (λi=>i=b) w0 w->AG (λi=>i=b) w0 (w.setCells b o vs)
 |[],_,_,_,h=>h
 |v::r,o,w0,w,h=>by rw[World.setCells];exact OL b r (o+1) w0 _ (h.Ui o v)
theorem yo:∀w,(zeroValue 3).run prog w= .ok (Iv 0) w:=λw=>by kernel_rfl
theorem nY(cur:List Value)(A3y:Array Value)(o n i:Nat)(xs:List Value)(hx:(cur.drop o).take n=xs)(XM:xs.length=n)(hi:i<n)(hs:A3y.size=cur.length)(hc:A3y.toList=cur)(Px:o+n<=cur.length):
  ((XW (XW A3y (o+i) (xs.drop (i+1))) (o+(n-1)) [Iv 0]).toList.drop o).take (n-1)=xs.eraseIdx i:=by
 apply eT;intro k;(have hxk:∀j,j<n->xs[j]?=cur[o+j]?:=λj hj=>by rw[<-hx,VU,AW hj,TF]);rw[VU,List.getElem?_eraseIdx]
 by_cases hk:k<n-1
 ·rw[AW hk,TF,iO,Yt _ _ _ _ (by rw[QJ];omega),AO Fp,Yt _ _ _ _ Ft];have Xl:∀j,A3y[j]?=cur[j]?:=λj=>by rw[<-iO,hc]
  by_cases h1:k<i
  ·rw[AO Ft,AW h1,Xl,hxk k Ft]
  ·rw[AW (by rw[Xu];omega),AO h1,TF];congr 1;omega
 ·rw[AO hk]
  by_cases h1:k<i
  ·omega
  ·rw[AO h1,R3 Ft]
theorem rm(A:Option Addr)(n c base i:Nat)(xs:List Value)(w:World)(hn:n<=1000000)(h:Row w base 3 1 A n c xs)(h1:∀v∈xs,v.oneCell'=true)(hi:i<n):
  Calls prog 136 #[.slice A n c,Iv i,Iv ((i:Int)+1)] w λe w'=>e= .returned (.slice A (n-1:Nat) c)/\Row w' base 3 1 A (n-1) c (xs.eraseIdx i)/\AG (λg=>AK A=some g) w w':=by
 obtain⟨i0,OU,RR,IJ,Ot⟩:=MQ Ut;obtain⟨g,o,cur,rfl,jj,EK,hg,Xz,GC,Px,OW,DD,Rv⟩:=h.some_ Ft;have XM:=h.1;rw[Vs] at XM Px OW;obtain⟨news,Tr⟩:=BN (xs.drop (i+1));(have hlen:news.length=n-(i+1):=by rw[Tr,Xu,XM]);obtain⟨AA,hA,dh⟩:∃AA:Addr,(if c=i+1 then some ((Ad g o):Addr) else some (Ad g (o+(i+1))))=some AA/\Hid (∀t u,news[t]?=some u->w.drew.cell? (AA.add t)=some u):=by
  by_cases hc:c=i+1
  ·refine⟨(Ad g o),by simp[hc],Hd (λt u hu=> ?_)⟩;rw[R3 Ft] at hu
   cases hu
  ·refine⟨(Ad g (o+(i+1))),by simp[hc],Hd (λt u hu=> ?_)⟩;rw[CP,TE];rw[Tr,TF] at hu;exact DD _ u hu
 have s1:=Hd (show news.length=(n-(i+1))*1 by rw[Vs];exact hlen);have s2:=Hd (show ∀u∈news,u.oneCell'=true from λu hu=>h1 u (by rw[Tr] at hu;exact vF hu));have s3:=Hd (show ∀t,t<news.length->(w.drew.cell? (Ad g (o+i*1+t))).isSome=true/\w.drew.frozen? (Ad g (o+i*1+t))=false from λt ht=>by
  have hh:=DD (i+t) (xs[i+t]'Ft) (Gg _);rw[Vs,TE];exact⟨by show(w.cell? _).isSome=true;rw[hh];rfl,Rv _⟩)
 obtain⟨W1,YT⟩:=BN (w.drew.setCells g (o+i*1) news);(have BX:W1.heap[g]?=some (.cells (XW cur (o+i) news) 3 (0,0)):=by rw[YT,Vs];exact Qd g _ news (o+i) w.drew cur hg);(have VG:AG (λi=>i=g) w W1:=by rw[YT];exact OL g _ _ _ _ (AG.refl _ _).drew);(have GG:∀ty,(Builtin.clear_ #[26] ty #[.slice (some (Ad g (o+(i+(n-(i+1)))))) (n-(i+(n-(i+1)))) (c-(i+(n-(i+1))))]).run prog W1= .ok (.tuple #[]) (W1.setCells g (o+(n-1)) [Iv 0]):=λty=>by rw[show i+(n-(i+1))=n-1 by omega,show n-(n-1)=1 by omega];refine Lib.run_clear_slice W1 _ _ ty _ underlying26 yo rfl rfl g (o+(n-1)) 1 (c-(n-1)) Ft (λj hj=> ?_) (λj hj=>AE BX _);(have:W1.cell? (Ad g (o+(n-1)+j))=(XW cur (o+i) news)[o+(n-1)+j]?:=by simp[World.cell?,BX]);rw[this,A0g (by rw[QJ];omega)];rfl);have HW:=Hd YT;have DF:=Hd BX;have eL:=Hd VG;have HE:=Hd (nY cur.toList cur o n i xs OW XM hi Fu rfl (by rw[Array.length_toList];omega));rw[<-Tr] at HE;have oW:=Hd Px;unfold maxLen at GC;(have U3:(i:Int)+1<=(n:Int):=by omega);(have hic:i<=c:=by omega);(have hjc:i+1<=c:=by omega);(have AbQ:(0:Int)<=(i:Int)+1:=by omega);have hni:((i:Int)==(i:Int)+1)=false:=JJ Ft;clear h h1 hg Px OW DD Rv XM Tr hlen YT BX VG;go_enter func136,ntmps136;go_wp2_with fail;go_region_law (refine step_append_room rfl (.tmp 22) (.tmp 25) 26 rfl 3 i0 1 underlying26 OU IJ g o i c Dn AA (n-(i+1)) (c-(i+1)) news Dn s1.out dh.out s2.out Ft s3.out ?_;rw[<-HW.out]);(have oQ:¬(c=i+(n-(i+1))):=by omega);(have hm2:i+(n-(i+1))<=n:=by omega);go_wp2_with fail;go_ret;(have em:i+(n-(i+1))=n-1:=by omega);rw[em];refine⟨rfl,?_,?_⟩
 ·have CB:=Qd g 3 [Iv 0] (o+(n-1)) W1 _ DF.out;refine Row.FK CB jj Ft Ee (by rw[QJ,QJ,Vs];exact oW.out) ?_;rw[Vs];exact HE.out
 ·exact(OL g [Iv 0] (o+(n-1)) w W1 eL.out).mono (λj _ hj=>by rw[hj];rfl)
def P8(y:Fr):Value:=
 if y.d.length=1 then(if y.k=8 then .iface 226 (.agg #[.int .u8 (y.d.getD 0 0)]) else if y.d.getD 0 0<=7 then .iface 232 (.agg #[Iv (y.d.getD 0 0)]) else .nilIface) else .nilIface
theorem zN(k f t s:Int)(D:Option Addr)(n cap:Nat)(d:List Int)(w:World)(hd:Rd w w.heap.size D n d)(hn:n<=64):
  Calls prog 134 #[.agg #[Iv k,Iv f,Iv t,Iv s,.slice D n cap]] w (IL (P8 ⟨k,f,t,s,d⟩) w):=by
 have GZ:=hd.1
 by_cases h1:n=1
 ·subst h1;obtain⟨b,o,rfl,hb,hc⟩:=hd.2.2 Ft;have c0:=hc 0 Ft;have hx:=hd.2.1.at_ 0;simp only[Nat.add_zero] at c0;obtain⟨x,xU⟩:=BN (d.getD 0 0);rw[<-xU] at c0 hx
  by_cases h8:k=8
  ·subst h8;have E:=Hd (show P8 ⟨8,f,t,s,d⟩= .iface 226 (.agg #[.int .u8 x]) by unfold P8;rw[AW GZ,AW rfl,<-xU]);clear hd hc xU GZ;exact Ih
  ·have z:(k==8)=false:=by rw[Bf];exact h8
   by_cases h7:x<=7
   ·have E:=Hd (show P8 ⟨k,f,t,s,d⟩= .iface 232 (.agg #[Iv x]) by unfold P8;rw[AW GZ,AO h8,<-xU,AW h7]);clear hd hc xU GZ h8;exact Ih
   ·have E:=Hd (show P8 ⟨k,f,t,s,d⟩= .nilIface by unfold P8;rw[AW GZ,AO h8,<-xU,AO h7]);clear hd hc xU GZ h8;exact Ih
 ·(have z:((n:Int) !=1)=true:=by simp;omega);have E:=Hd (show P8 ⟨k,f,t,s,d⟩= .nilIface by unfold P8;rw[AO (by simp only;omega)]);clear hd GZ h1;exact Ih
section
variable{w w':World}{base b mc rc:Nat}{MA RA:Option Addr}{s:AJ.St}
theorem uM(h:FC w base b MA mc RA rc s)(hs:AJ.Inv s)(now k f t q:Int)(D:Option Addr)(n cap:Nat)(d:List Int)(GZ:d.length=n)(hn:n<=140737488355328)(he:AJ.FU s now ⟨k,f,t,q,d⟩≠0):
  Calls prog 103 #[Pt b,Iv now,.agg #[Iv k,Iv f,Iv t,Iv q,.slice D n cap]] w (IL (.tuple #[.slice none 0 0,Iv (AJ.FU s now ⟨k,f,t,q,d⟩)]) w):=by
 (refine K4v ?_;intro N CH VA);have c0:w.cell? (Ad b 0)=some (Iv s.n):=AB h.BM 0 rfl;have hb:=h.lt;have ZJ:=hs.n;unfold AJ.FU at he⊢;simp only[GZ] at he⊢;have kx:(w.alloc (.cells #[Iv k,Iv f,Iv t,Iv q,.slice D n cap] 147)).heap[w.heap.size]?=_:=AM _ _;clear h hs
 by_cases hv:AQ.vd k f t q n=true
 ·rw[hv] at VA;have vb:=AQ.OJ.1 hv
  by_cases ht:t=0
  ·have z:(t !=0)=false:=by simpa using ht
   by_cases hf:f<=s.n
   ·rw[AW ⟨hv,ht,hf⟩] at he⊢;have nl:AJ.DZ s now=3:=(GD s now).resolve_left he;rw[nl] at CH⊢;(refine K4t ?_;intro X0);clear he vb hv nl ht;go_enter func103,ntmps103;go_wp2_with fail;refine(N.out _ A9).mono ?_;rintro e w1 ⟨rfl,rfl⟩;go_wp2_with fail;(refine K2s ?_;intro RZ lx);(first|(go_region_held3 (λw'=>w'.cell? ⟨w.heap.size,0,none⟩=some (Iv k)/\w'.cell? ⟨w.heap.size,1,none⟩=some (Iv f)/\w'.cell? ⟨w.heap.size,2,none⟩=some (Iv t)/\w'.cell? ⟨w.heap.size,3,none⟩=some (Iv q)/\w'.cell? ⟨w.heap.size,4,none⟩=some (.slice D n cap)/\w'.cell? ⟨b,0,none⟩=some (Iv s.n)) (first|(refine⟨?_,?_,?_,?_,?_,?_⟩<;>simp[go_sem, *];done)|go_keep) (first|(go_at_call 133;refine(VA.out _).mono ?_;rintro e w4 ⟨rfl,GA⟩;have QP:=GA.size;(try simp at QP);have Qo:=(show Below w.heap.size w w4 from A9);have k4:=AH (q:=w.heap.size) Af GA Cm;(have Vy:=OH k4;have lz:=BG k4);have e0:w4.cell? (Ad b 0)=some (Iv s.n):=((BO GA).1 b _ Cm).trans Ew)))|fail);clear RZ lx;go_wp2_with fail;refine(CH.out _ A9).mono ?_;rintro e w5 ⟨rfl,rfl⟩;exact Hv
   ·rw[AO (λhh=>hf hh.2.2)] at he⊢;(have X0:decide ((s.n:Int)<f)=true:=by rw[pY];omega);clear he vb hv hf ht;go_enter func103,ntmps103;go_wp2_with fail;refine(N.out _ A9).mono ?_;rintro e w1 ⟨rfl,rfl⟩;go_wp2_with fail;(refine K2s ?_;intro RZ lx);(first|(go_region_held3 (λw'=>w'.cell? ⟨w.heap.size,0,none⟩=some (Iv k)/\w'.cell? ⟨w.heap.size,1,none⟩=some (Iv f)/\w'.cell? ⟨w.heap.size,2,none⟩=some (Iv t)/\w'.cell? ⟨w.heap.size,3,none⟩=some (Iv q)/\w'.cell? ⟨w.heap.size,4,none⟩=some (.slice D n cap)/\w'.cell? ⟨b,0,none⟩=some (Iv s.n)) (first|(refine⟨?_,?_,?_,?_,?_,?_⟩<;>simp[go_sem, *];done)|go_keep) (first|(go_at_call 133;refine(VA.out _).mono ?_;rintro e w4 ⟨rfl,GA⟩;have QP:=GA.size;(try simp at QP);have Qo:=(show Below w.heap.size w w4 from A9);have k4:=AH (q:=w.heap.size) Af GA Cm;(have Vy:=OH k4;have lz:=BG k4);have e0:w4.cell? (Ad b 0)=some (Iv s.n):=((BO GA).1 b _ Cm).trans Ew)))|fail);clear RZ lx;exact Hv
  ·rw[AO (λhh=>ht hh.2.1)] at he⊢;(have z:(t !=0)=true:=by simpa using ht);clear he vb hv ht;exact Hl
 ·rw[AO (λhh=>hv hh.1)] at he⊢;(have hv':AQ.vd k f t q n=false:=by simpa using hv);rw[hv'] at VA;clear he hv hv';exact Hl
end
theorem Rd.FY{w:World}{B n:Nat}{A:Option Addr}{l:List Int}{p:Addr}(h:Rd w B A n l)(hp:∀a,A=some a->a.block≠p.block)(u:Value):Rd (w.setCell p u) B A n l:=
 ⟨h.1,h.2.1,λhn=>by
  obtain⟨b,o,e,hb,hc⟩:=h.2.2 hn;exact⟨b,o,e,hb,λi hi=>(A04 w p (Ad b (o+i)) u (λe'=>hp _ e (by rw[e']))).trans (hc i hi)⟩⟩
theorem Oh{s:AJ.St}{now:Int}{y:Fr}(h:AJ.FU s now y=0):AQ.vd y.k y.f y.t y.s y.d.length=true/\y.t=0/\y.f<=s.n/\AJ.DZ s now=0:=by
 unfold AJ.FU at h;split at h
 ·rename_i hh;exact⟨hh.1,hh.2.1,hh.2.2,h⟩
 ·omega
section
variable{w w':World}{base b mc rc:Nat}{MA RA:Option Addr}{s:AJ.St}
theorem fL(h:FC w base b MA mc RA rc s)(hs:AJ.Inv s)(now k f t q:Int)(D:Option Addr)(n cap:Nat)(d:List Int)(hd:Rd w w.heap.size D n d)(hD:∀a,D=some a->a.block≠b)(he:AJ.FU s now ⟨k,f,t,q,d⟩=0)(hr:P8 ⟨k,f,t,q,d⟩= .nilIface):
  Calls prog 103 #[Pt b,Iv now,.agg #[Iv k,Iv f,Iv t,Iv q,.slice D n cap]] w (JX base b MA RA rc {s with now:=now} [] 0 w):=by
 obtain⟨hv,ht,hf,YN⟩:=Oh he;simp only[hd.1] at hv ht hf;(refine Ku ?_;intro QK HL HD HDN N RD VA CH c0 hb ZJ z X0 kx);(have tn1:∀W:World,(Instr.typeAssert .nilIface 20 226 true).run prog W= .ok (.tuple #[.agg #[.int .u8 0],.bool false]) W:=λW=>by kernel_rfl);(have tn2:∀W:World,(Instr.typeAssert .nilIface 20 232 true).run prog W= .ok (.tuple #[.agg #[Iv 0],.bool false]) W:=λW=>by kernel_rfl);clear h hs hd hD he hr hv ht hf YN;go_enter func103,ntmps103;go_wp2_with fail;refine(N.out _ A9).mono ?_;rintro e w1 ⟨rfl,rfl⟩;go_wp2_with fail;(refine K2s ?_;intro RZ lx);(first|(go_region_held3 (λw'=>w'.cell? ⟨w.heap.size,0,none⟩=some (Iv k)/\w'.cell? ⟨w.heap.size,1,none⟩=some (Iv f)/\w'.cell? ⟨w.heap.size,2,none⟩=some (Iv t)/\w'.cell? ⟨w.heap.size,3,none⟩=some (Iv q)/\w'.cell? ⟨w.heap.size,4,none⟩=some (.slice D n cap)/\w'.cell? ⟨b,0,none⟩=some (Iv s.n)) (first|(refine⟨?_,?_,?_,?_,?_,?_⟩<;>simp[go_sem, *];done)|go_keep) (first|(go_at_call 133;refine(VA.out _).mono ?_;rintro e w4 ⟨rfl,GA⟩;have QP:=GA.size;(try simp at QP);have Qo:=(show Below w.heap.size w w4 from A9);have k4:=AH (q:=w.heap.size) Af GA Cm;(have Vy:=OH k4;have lz:=BG k4);have e0:w4.cell? (Ad b 0)=some (Iv s.n):=((BO GA).1 b _ Cm).trans Ew)))|fail);clear RZ lx;go_wp2_with fail;(refine K0e ?_;intro f3 c3 HS4 nj LX aA);go_wp2_with fail;(refine K0N ?_;intro w6 Se Xi);(try simp at Xi);(refine KI ?_;clear c3 f3 Se k4 Vy lz e0 Qo;intro aU k6 il ni dQ ly);go_wp2_with fail;go_ret2;have hs6:=aU.out;exact⟨_,MA,mc,rfl,hs6,il.out.mono (λi _ hi=> .inl hi),IF.nil _ _,.inl rfl⟩
end
end
end Go.Proofs.YtdocdgcdldpagaaGreat

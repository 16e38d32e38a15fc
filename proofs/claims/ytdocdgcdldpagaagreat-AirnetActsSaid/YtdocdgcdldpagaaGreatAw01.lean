import Derived.Test.YtdocdgcdldpagaaGreatAp
import Derived.Test.YtdocdgcdldpagaaGreatRows
open Go.Proofs.Tryz
namespace Go.Proofs.YtdocdgcdldpagaaGreat
set_option maxHeartbeats 64000000
set_option maxRecDepth 100000
set_option linter.all false
section
open RowKit
set_option maxRecDepth 512
theorem CU{a b:Bool}(h:a=b):Ending.returned (.bool a)= .returned (.bool b):=by rw[h]
theorem JL{k:IntKind}{a b:Int}(h:a=b):Ending.returned (.int k a)= .returned (.int k b):=by rw[h]
theorem Z5{k j:IntKind}{a b c d:Int}(h:a=b)(g:c=d):Ending.returned (.tuple #[.int k a,.int j c])= .returned (.tuple #[.int k b,.int j d]):=by rw[h,g]
theorem BO{W w1:World}(hb:Below W.heap.size W w1):(∀b o,b<W.heap.size->w1.cell? (Ad b o)=W.cell? (Ad b o))/\(∀b o,b<W.heap.size->w1.frozen? (Ad b o)=W.frozen? (Ad b o)):=
 ⟨λb o h=>hb.cell (p:=(Ad b o)) h,λb o h=>hb.frozen (p:=(Ad b o)) h⟩
theorem AM(w:World)(o:Obj):(w.alloc o).heap[w.heap.size]?=some o:=by show(w.heap.push o)[w.heap.size]?=_;simp
theorem BK(w:World)(o:Obj)(q:Nat)(hq:q=w.heap.size):(w.alloc o).heap[q]?=some o:=by subst hq;exact AM w o
theorem AB{w:World}{q:Nat}{l:List Value}{t:TypeId}(h:w.heap[q]?=some (.cells l.toArray t (0,0)))(i:Nat){v:Value}(hv:l[i]?=some v):w.cell? (Ad q i)=some v:=by simp[World.cell?,h,hv]
theorem AE{w:World}{q:Nat}{cs:Array Value}{t:TypeId}(h:w.heap[q]?=some (.cells cs t (0,0)))(i:Nat):w.frozen? (Ad q i)=false:=by simp[World.frozen?,h]
theorem jD{w:World}{q:Nat}{t:TypeId}{v0 v1 v2 v3 v4 v5 v6 v7 v8 v9 v10:Value}{l:List Value}{p:Prop}(h:w.heap[q]?=some (.cells (v0::v1::v2::v3::v4::v5::v6::v7::v8::v9::v10::l).toArray t (0,0)))(k:w.cell? ⟨q,0,none⟩=some v0->w.frozen? ⟨q,0,none⟩=false->w.cell? ⟨q,1,none⟩=some v1->w.frozen? ⟨q,1,none⟩=false->w.cell? ⟨q,2,none⟩=some v2->w.frozen? ⟨q,2,none⟩=false->w.cell? ⟨q,3,none⟩=some v3->w.frozen? ⟨q,3,none⟩=false->w.cell? ⟨q,4,none⟩=some v4->w.frozen? ⟨q,4,none⟩=false->w.cell? ⟨q,5,none⟩=some v5->w.frozen? ⟨q,5,none⟩=false->w.cell? ⟨q,6,none⟩=some v6->w.frozen? ⟨q,6,none⟩=false->w.cell? ⟨q,7,none⟩=some v7->w.frozen? ⟨q,7,none⟩=false->w.cell? ⟨q,8,none⟩=some v8->w.frozen? ⟨q,8,none⟩=false->w.cell? ⟨q,9,none⟩=some v9->w.frozen? ⟨q,9,none⟩=false->w.cell? ⟨q,10,none⟩=some v10->w.frozen? ⟨q,10,none⟩=false->p):p:=k (AB h 0 rfl) (AE h 0) (AB h 1 rfl) (AE h 1) (AB h 2 rfl) (AE h 2) (AB h 3 rfl) (AE h 3) (AB h 4 rfl) (AE h 4) (AB h 5 rfl) (AE h 5) (AB h 6 rfl) (AE h 6) (AB h 7 rfl) (AE h 7) (AB h 8 rfl) (AE h 8) (AB h 9 rfl) (AE h 9) (AB h 10 rfl) (AE h 10)
theorem A8h{w:World}{q:Nat}{t:TypeId}{v0 v1 v2 v3 v4 v5 v6 v7 v8 v9 v10 v11 aZ XT ZV eN ey iy ix:Value}{l:List Value}{p:Prop}(h:w.heap[q]?=some (.cells (v0::v1::v2::v3::v4::v5::v6::v7::v8::v9::v10::v11::aZ::XT::ZV::eN::ey::iy::ix::l).toArray t (0,0)))(k:w.cell? ⟨q,0,none⟩=some v0->w.frozen? ⟨q,0,none⟩=false->w.cell? ⟨q,1,none⟩=some v1->w.frozen? ⟨q,1,none⟩=false->w.cell? ⟨q,2,none⟩=some v2->w.frozen? ⟨q,2,none⟩=false->w.cell? ⟨q,3,none⟩=some v3->w.frozen? ⟨q,3,none⟩=false->w.cell? ⟨q,4,none⟩=some v4->w.frozen? ⟨q,4,none⟩=false->w.cell? ⟨q,5,none⟩=some v5->w.frozen? ⟨q,5,none⟩=false->w.cell? ⟨q,6,none⟩=some v6->w.frozen? ⟨q,6,none⟩=false->w.cell? ⟨q,7,none⟩=some v7->w.frozen? ⟨q,7,none⟩=false->w.cell? ⟨q,8,none⟩=some v8->w.frozen? ⟨q,8,none⟩=false->w.cell? ⟨q,9,none⟩=some v9->w.frozen? ⟨q,9,none⟩=false->w.cell? ⟨q,10,none⟩=some v10->w.frozen? ⟨q,10,none⟩=false->w.cell? ⟨q,11,none⟩=some v11->w.frozen? ⟨q,11,none⟩=false->w.cell? ⟨q,12,none⟩=some aZ->w.frozen? ⟨q,12,none⟩=false->w.cell? ⟨q,13,none⟩=some XT->w.frozen? ⟨q,13,none⟩=false->w.cell? ⟨q,14,none⟩=some ZV->w.frozen? ⟨q,14,none⟩=false->w.cell? ⟨q,15,none⟩=some eN->w.frozen? ⟨q,15,none⟩=false->w.cell? ⟨q,16,none⟩=some ey->w.frozen? ⟨q,16,none⟩=false->w.cell? ⟨q,17,none⟩=some iy->w.frozen? ⟨q,17,none⟩=false->w.cell? ⟨q,18,none⟩=some ix->w.frozen? ⟨q,18,none⟩=false->p):p:=k (AB h 0 rfl) (AE h 0) (AB h 1 rfl) (AE h 1) (AB h 2 rfl) (AE h 2) (AB h 3 rfl) (AE h 3) (AB h 4 rfl) (AE h 4) (AB h 5 rfl) (AE h 5) (AB h 6 rfl) (AE h 6) (AB h 7 rfl) (AE h 7) (AB h 8 rfl) (AE h 8) (AB h 9 rfl) (AE h 9) (AB h 10 rfl) (AE h 10) (AB h 11 rfl) (AE h 11) (AB h 12 rfl) (AE h 12) (AB h 13 rfl) (AE h 13) (AB h 14 rfl) (AE h 14) (AB h 15 rfl) (AE h 15) (AB h 16 rfl) (AE h 16) (AB h 17 rfl) (AE h 17) (AB h 18 rfl) (AE h 18)
theorem cj2{w:World}{q:Nat}{t:TypeId}{v0 v1:Value}{l:List Value}(h:w.heap[q]?=some (.cells (v0::v1::l).toArray t (0,0))):w.cell? ⟨q,0,none⟩=some v0/\w.frozen? ⟨q,0,none⟩=false/\w.cell? ⟨q,1,none⟩=some v1/\w.frozen? ⟨q,1,none⟩=false:=⟨AB h 0 rfl,AE h 0,AB h 1 rfl,AE h 1⟩
theorem OH{w:World}{q:Nat}{t:TypeId}{v0 v1 v2 v3 v4:Value}{l:List Value}(h:w.heap[q]?=some (.cells (v0::v1::v2::v3::v4::l).toArray t (0,0))):w.cell? ⟨q,0,none⟩=some v0/\w.frozen? ⟨q,0,none⟩=false/\w.cell? ⟨q,1,none⟩=some v1/\w.frozen? ⟨q,1,none⟩=false/\w.cell? ⟨q,2,none⟩=some v2/\w.frozen? ⟨q,2,none⟩=false/\w.cell? ⟨q,3,none⟩=some v3/\w.frozen? ⟨q,3,none⟩=false/\w.cell? ⟨q,4,none⟩=some v4/\w.frozen? ⟨q,4,none⟩=false:=⟨AB h 0 rfl,AE h 0,AB h 1 rfl,AE h 1,AB h 2 rfl,AE h 2,AB h 3 rfl,AE h 3,AB h 4 rfl,AE h 4⟩
theorem GN{w:World}{q:Nat}{t:TypeId}{v0 v1 v2 v3 v4 v5 v6 v7 v8 v9 v10:Value}{l:List Value}(h:w.heap[q]?=some (.cells (v0::v1::v2::v3::v4::v5::v6::v7::v8::v9::v10::l).toArray t (0,0))):w.cell? ⟨q,0,none⟩=some v0/\w.frozen? ⟨q,0,none⟩=false/\w.cell? ⟨q,1,none⟩=some v1/\w.frozen? ⟨q,1,none⟩=false/\w.cell? ⟨q,2,none⟩=some v2/\w.frozen? ⟨q,2,none⟩=false/\w.cell? ⟨q,3,none⟩=some v3/\w.frozen? ⟨q,3,none⟩=false/\w.cell? ⟨q,4,none⟩=some v4/\w.frozen? ⟨q,4,none⟩=false/\w.cell? ⟨q,5,none⟩=some v5/\w.frozen? ⟨q,5,none⟩=false/\w.cell? ⟨q,6,none⟩=some v6/\w.frozen? ⟨q,6,none⟩=false/\w.cell? ⟨q,7,none⟩=some v7/\w.frozen? ⟨q,7,none⟩=false/\w.cell? ⟨q,8,none⟩=some v8/\w.frozen? ⟨q,8,none⟩=false/\w.cell? ⟨q,9,none⟩=some v9/\w.frozen? ⟨q,9,none⟩=false/\w.cell? ⟨q,10,none⟩=some v10/\w.frozen? ⟨q,10,none⟩=false:=⟨AB h 0 rfl,AE h 0,AB h 1 rfl,AE h 1,AB h 2 rfl,AE h 2,AB h 3 rfl,AE h 3,AB h 4 rfl,AE h 4,AB h 5 rfl,AE h 5,AB h 6 rfl,AE h 6,AB h 7 rfl,AE h 7,AB h 8 rfl,AE h 8,AB h 9 rfl,AE h 9,AB h 10 rfl,AE h 10⟩
theorem xw{w:World}{q:Nat}{t:TypeId}{v0 v1 v2 v3 v4 v5 v6 v7 v8 v9 v10 v11 aZ XT ZV eN ey iy ix:Value}{l:List Value}(h:w.heap[q]?=some (.cells (v0::v1::v2::v3::v4::v5::v6::v7::v8::v9::v10::v11::aZ::XT::ZV::eN::ey::iy::ix::l).toArray t (0,0))):w.cell? ⟨q,0,none⟩=some v0/\w.frozen? ⟨q,0,none⟩=false/\w.cell? ⟨q,1,none⟩=some v1/\w.frozen? ⟨q,1,none⟩=false/\w.cell? ⟨q,2,none⟩=some v2/\w.frozen? ⟨q,2,none⟩=false/\w.cell? ⟨q,3,none⟩=some v3/\w.frozen? ⟨q,3,none⟩=false/\w.cell? ⟨q,4,none⟩=some v4/\w.frozen? ⟨q,4,none⟩=false/\w.cell? ⟨q,5,none⟩=some v5/\w.frozen? ⟨q,5,none⟩=false/\w.cell? ⟨q,6,none⟩=some v6/\w.frozen? ⟨q,6,none⟩=false/\w.cell? ⟨q,7,none⟩=some v7/\w.frozen? ⟨q,7,none⟩=false/\w.cell? ⟨q,8,none⟩=some v8/\w.frozen? ⟨q,8,none⟩=false/\w.cell? ⟨q,9,none⟩=some v9/\w.frozen? ⟨q,9,none⟩=false/\w.cell? ⟨q,10,none⟩=some v10/\w.frozen? ⟨q,10,none⟩=false/\w.cell? ⟨q,11,none⟩=some v11/\w.frozen? ⟨q,11,none⟩=false/\w.cell? ⟨q,12,none⟩=some aZ/\w.frozen? ⟨q,12,none⟩=false/\w.cell? ⟨q,13,none⟩=some XT/\w.frozen? ⟨q,13,none⟩=false/\w.cell? ⟨q,14,none⟩=some ZV/\w.frozen? ⟨q,14,none⟩=false/\w.cell? ⟨q,15,none⟩=some eN/\w.frozen? ⟨q,15,none⟩=false/\w.cell? ⟨q,16,none⟩=some ey/\w.frozen? ⟨q,16,none⟩=false/\w.cell? ⟨q,17,none⟩=some iy/\w.frozen? ⟨q,17,none⟩=false/\w.cell? ⟨q,18,none⟩=some ix/\w.frozen? ⟨q,18,none⟩=false:=⟨AB h 0 rfl,AE h 0,AB h 1 rfl,AE h 1,AB h 2 rfl,AE h 2,AB h 3 rfl,AE h 3,AB h 4 rfl,AE h 4,AB h 5 rfl,AE h 5,AB h 6 rfl,AE h 6,AB h 7 rfl,AE h 7,AB h 8 rfl,AE h 8,AB h 9 rfl,AE h 9,AB h 10 rfl,AE h 10,AB h 11 rfl,AE h 11,AB h 12 rfl,AE h 12,AB h 13 rfl,AE h 13,AB h 14 rfl,AE h 14,AB h 15 rfl,AE h 15,AB h 16 rfl,AE h 16,AB h 17 rfl,AE h 17,AB h 18 rfl,AE h 18⟩
theorem AI{w:World}{q:Nat}{x:Obj}(h:w.heap[q]?=some x)(o:Obj):(w.alloc o).heap[q]?=some x:=(bX w o q (BG h)).trans h
theorem FX{w:World}{q:Nat}{x:Obj}(h:w.heap[q]?=some x):w.drew.heap[q]?=some x:=h
theorem QN{w:World}{q:Nat}{x:Obj}(h:w.heap[q]?=some x)(n:Nat):(w.drewN n).heap[q]?=some x:=h
theorem CV{w:World}{q:Nat}{x:Obj}(h:w.heap[q]?=some x){a:Addr}(ha:q≠a.block)(u:Value):(w.setCell a u).heap[q]?=some x:=(iN w a u q ha).trans h
theorem AP{w:World}{q:Nat}{cs:Array Value}{t:TypeId}(h:w.heap[q]?=some (.cells cs t (0,0)))(i:Nat)(u:Value):(w.setCell (Ad q i) u).heap[q]?=some (.cells (cs.setIfInBounds i u) t (0,0)):=by
 exact Is
theorem AH{B:Nat}{w w':World}{q:Nat}{x:Obj}(h:w.heap[q]?=some x)(k:Below B w w')(hq:q<B):w'.heap[q]?=some x:=(k.block q hq).trans h
theorem GH{w W:World}{q:Nat}{x:Obj}(h:w.heap[q]?=some x)(g:Below w.heap.size w W):W.heap[q]?=some x:=AH h g (BG h)
theorem dZ{W w':World}{q:Nat}{row:Option Nat}{x:Obj}(h:W.heap[q]?=some x)(hg:W.grownBy w' row)(LX:some q≠row):w'.heap[q]?=some x:=(hg.block q (BG h) LX).trans h
theorem below_drewN{B:Nat}{a w:World}(h:Below B a w)(n:Nat):Below B a (w.drewN n):=⟨h.os,h.tape,h.output,h.size,h.block⟩
theorem Z9{a w:World}{row:Option Nat}(h:a.grownBy w row):a.grownBy w.drew row:=⟨h.os,h.tape,h.output,h.size,h.block⟩
theorem cL{a w:World}{row:Option Nat}(h:a.grownBy w row)(n:Nat):a.grownBy (w.drewN n) row:=⟨h.os,h.tape,h.output,h.size,h.block⟩
theorem Pu{a w:World}(h:Below a.heap.size a w)(row:Option Nat):a.grownBy w row:=⟨h.os,h.tape,h.output,h.size,λi hi _=>h.block i hi⟩
def By(l:List Int):Prop:=∀x∈l,0<=x/\x<256
def bv(l:List Int):List Value:=l.map (Value.int .u8)
def Rd(w:World)(B:Nat)(A:Option Addr)(n:Nat)(l:List Int):Prop:=
 l.length=n/\By l/\(0<n->∃b o,A=some (Ad b o)/\b<B/\∀i,i<n->w.cell? (Ad b (o+i))=some (.int .u8 (l.getD i 0)))
section
variable{w w':World}{B:Nat}{A:Option Addr}{n:Nat}{l:List Int}
theorem Rd.IE(h:Rd w B A n l)(hk:∀b o,b<B->w'.cell? (Ad b o)=w.cell? (Ad b o)):Rd w' B A n l:=
 ⟨h.1,h.2.1,λhn=>by
  obtain⟨b,o,e,hb,hc⟩:=h.2.2 hn;exact⟨b,o,e,hb,λi hi=>(hk b _ hb).trans (hc i hi)⟩⟩
theorem Rd.below{B':Nat}(h:Rd w B A n l)(k:Below B' w w')(hB:B<=B'):Rd w' B A n l:=h.IE λb o hb=>k.cell (p:=(Ad b o)) (Sv hb hB)
theorem Rd.more{B':Nat}(h:Rd w B A n l)(hB:B<=B'):Rd w B' A n l:=
 ⟨h.1,h.2.1,λhn=>by
  obtain⟨b,o,e,hb,hc⟩:=h.2.2 hn;exact⟨b,o,e,by omega,hc⟩⟩
theorem Rd.drew(h:Rd w B A n l):Rd w.drew B A n l:=h
theorem Rd.drewN(h:Rd w B A n l)(k:Nat):Rd (w.drewN k) B A n l:=h
theorem Rd.alloc(h:Rd w B A n l)(hB:B<=w.heap.size)(o:Obj):Rd (w.alloc o) B A n l:=h.IE λb o' hb=>A02 w o (Ad b o') (by show b<_;omega)
theorem Rd.set(h:Rd w B A n l){p:Addr}(hB:B<=p.block)(u:Value):Rd (w.setCell p u) B A n l:=
 h.IE λb o hb=>A04 w p (Ad b o) u (λe=>by subst e;simp at hB;omega)
theorem Rd.grown{row:Option Nat}(h:Rd w B A n l)(hg:w.grownBy w' row)(hB:B<=w.heap.size)(hr:∀g,row=some g->B<=g):Rd w' B A n l:=
 h.IE λb o hb=>Cb (hg.block b Ft (λe=>by have:=hr _ e.symm;omega))
theorem Rd.nil(w:World)(B:Nat)(A:Option Addr):Rd w B A 0 []:=⟨rfl,Ek,λh=>absurd h Ft⟩
theorem By.at_(h:By l)(i:Nat):0<=l.getD i 0/\l.getD i 0<256:=by
 exact Ji
theorem Rd.GR{base:Nat}{e:TypeId}{c:Nat}(h:w.ownsRow base e 1 (.slice A n c) n (bv l))(hb:By l):Rd w w.heap.size A n l:=by
 (have hlen:l.length=n:=by have:=h.1;simpa[bv] using this);refine⟨hlen,hb,λhn=> ?_⟩
 rcases h.2 with⟨he,_⟩|⟨g,cap,cur,hv,_,hh,h1,h2,h3,h4⟩
 ·simp at he;omega
 ·injection hv with hv;subst hv;have EK:=BG hh;refine⟨g,0,rfl,EK,λi hi=> ?_⟩;have hc:=sZ h (g:=g) i Ft;rw[PL,hc,bv];simp[Gg (by omega:i<l.length),List.getD]
end
namespace AQ
def Rj(n a b:Int):Bool:=decide (a<=n)&&decide (n<=b)
theorem EP{n a b:Int}:Rj n a b=true↔a<=n/\n<=b:=by simp[Rj]
theorem SB{n a b:Int}:Rj n a b=false↔¬(a<=n/\n<=b):=by rw[<-EP];simp
def vd(k f t s:Int)(n:Nat):Bool:=decide (0<=s/\s<=65535/\n<=64/\((1<=k/\k<=7/\f=0/\1<=t/\t<=64)\/(8<=k/\k<=9/\t=0/\1<=f/\f<=64)))
theorem OJ{k f t s:Int}{n:Nat}:vd k f t s n=true↔(0<=s/\s<=65535/\n<=64/\((1<=k/\k<=7/\f=0/\1<=t/\t<=64)\/(8<=k/\k<=9/\t=0/\1<=f/\f<=64))):=by simp[vd]
theorem OF{k f t s:Int}{n:Nat}(h:¬(0<=s/\s<=65535/\n<=64/\((1<=k/\k<=7/\f=0/\1<=t/\t<=64)\/(8<=k/\k<=9/\t=0/\1<=f/\f<=64)))):vd k f t s n=false:=by simpa[vd] using h
end AQ
theorem Wp(n a b:Int)(w:World):
  Calls prog 155 #[Iv n,Iv a,Iv b] w (LP (.bool (AQ.Rj n a b)) w):=by
 by_cases h:a<=n
 all_goals
  go_enter func155,ntmps155;exact Jt
theorem Tu(n a b:Int)(w:World)(h:a<=n/\n<=b):
  Calls prog 155 #[Iv n,Iv a,Iv b] w (LP (.bool true) w):=
 (Wp n a b w).mono λe w' ⟨h1,h2⟩=>⟨by rw[h1,AQ.EP.2 h],h2⟩
theorem Uz(n a b:Int)(w:World)(h:¬(a<=n/\n<=b)):
  Calls prog 155 #[Iv n,Iv a,Iv b] w (LP (.bool false) w):=
 (Wp n a b w).mono λe w' ⟨h1,h2⟩=>⟨by rw[h1,AQ.SB.2 h],h2⟩
theorem tO(n a b:Int)(w:World):
  Calls prog 143 #[Iv n,Iv a,Iv b] w (LP (.bool (AQ.Rj n a b)) w):=by
 by_cases h:a<=n
 all_goals
  go_enter func143,ntmps143;exact Jt
theorem A3i(n a b:Int)(w:World)(h:a<=n/\n<=b):
  Calls prog 143 #[Iv n,Iv a,Iv b] w (LP (.bool true) w):=
 (tO n a b w).mono λe w' ⟨h1,h2⟩=>⟨by rw[h1,AQ.EP.2 h],h2⟩
theorem A5R(n a b:Int)(w:World)(h:¬(a<=n/\n<=b)):
  Calls prog 143 #[Iv n,Iv a,Iv b] w (LP (.bool false) w):=
 (tO n a b w).mono λe w' ⟨h1,h2⟩=>⟨by rw[h1,AQ.SB.2 h],h2⟩
theorem kE(k f t s:Int)(n:Nat):
  (¬(0<=s/\s<=65535))\/((0<=s/\s<=65535)/\64<n)\/((0<=s/\s<=65535)/\n<=64/\k<1)\/((0<=s/\s<=65535)/\n<=64/\9<k)\/
  ((0<=s/\s<=65535)/\n<=64/\(1<=k/\k<=7)/\(f<0\/0<f))\/((0<=s/\s<=65535)/\n<=64/\(1<=k/\k<=7)/\f=0/\¬(1<=t/\t<=64))\/((0<=s/\s<=65535)/\n<=64/\(1<=k/\k<=7)/\f=0/\(1<=t/\t<=64))\/
  ((0<=s/\s<=65535)/\n<=64/\(k=8\/k=9)/\¬(1<=f/\f<=64)/\(t<0\/0<t))\/((0<=s/\s<=65535)/\n<=64/\(k=8\/k=9)/\¬(1<=f/\f<=64)/\t=0)\/((0<=s/\s<=65535)/\n<=64/\(k=8\/k=9)/\(1<=f/\f<=64)/\(t<0\/0<t))\/((0<=s/\s<=65535)/\n<=64/\(k=8\/k=9)/\(1<=f/\f<=64)/\t=0):=by
 by_cases a:0<=s/\s<=65535
 ·right
  by_cases b:64<n
  ·exact .inl ⟨a,b⟩
  right;have b':n<=64:=by omega
  by_cases c:k<1
  ·exact .inl ⟨a,b',c⟩
  right
  by_cases d:9<k
  ·exact .inl ⟨a,b',d⟩
  right
  by_cases e:k<=7
  ·by_cases g:f=0
   ·by_cases h:1<=t/\t<=64
    ·exact .inr (.inr (.inl ⟨a,b',⟨by omega,e⟩,g,h⟩))
    ·exact .inr (.inl ⟨a,b',⟨by omega,e⟩,g,h⟩)
   ·exact .inl ⟨a,b',⟨by omega,e⟩,by omega⟩
  ·(have k89:k=8\/k=9:=by omega);right;right;right
   by_cases g:1<=f/\f<=64
   ·by_cases h:t=0
    ·exact .inr (.inr (.inr ⟨a,b',k89,g,h⟩))
    ·exact .inr (.inr (.inl ⟨a,b',k89,g,by omega⟩))
   ·by_cases h:t=0
    ·exact .inr (.inl ⟨a,b',k89,g,h⟩)
    ·exact .inl ⟨a,b',k89,g,by omega⟩
 ·exact .inl a
theorem QE(k f t s:Int)(A:Option Addr)(n cap:Nat)(w:World)(hn:n<=9223372036854775807):Calls prog 133 #[.agg #[Iv k,Iv f,Iv t,Iv s,.slice A n cap]] w (IL (.bool (AQ.vd k f t s n)) w):=by
 rcases kE k f t s n with h1|⟨h1,h2⟩|⟨h1,h2,h3⟩|⟨h1,h2,h3⟩|⟨h1,h2,h3,h4⟩|⟨h1,h2,h3,rfl,h5⟩|⟨h1,h2,h3,rfl,h5⟩|⟨h1,h2,rfl|rfl,h4,h5⟩|⟨h1,h2,rfl|rfl,h4,rfl⟩|⟨h1,h2,rfl|rfl,h4,h5⟩|⟨h1,h2,rfl|rfl,h4,rfl⟩
 ·have V:=Hd (AQ.OF (k:=k) (f:=f) (t:=t) (s:=s) (n:=n) Ft);go_enter func133,ntmps133;exact Gh
 ·have V:=Hd (AQ.OF (k:=k) (f:=f) (t:=t) (s:=s) (n:=n) Ft);go_enter func133,ntmps133;exact Gh
 ·have V:=Hd (AQ.OF (k:=k) (f:=f) (t:=t) (s:=s) (n:=n) Ft);exact Mf
 ·have V:=Hd (AQ.OF (k:=k) (f:=f) (t:=t) (s:=s) (n:=n) Ft);exact Mf
 ·have V:=Hd (AQ.OF (k:=k) (f:=f) (t:=t) (s:=s) (n:=n) Ft);(refine K1d ?_;intro e8 e9);have zf:(f==0)=false:=JJ Ft;go_enter func133,ntmps133;exact G4
 ·have V:=Hd (AQ.OF (k:=k) (f:=0) (t:=t) (s:=s) (n:=n) Ft);exact Mf
 ·have V:=Hd (AQ.OJ (k:=k) (f:=0) (t:=t) (s:=s) (n:=n)|>.2 Ft);exact Mf
 ·have V:=Hd (AQ.OF (k:=8) (f:=f) (t:=t) (s:=s) (n:=n) Ft);(refine K3o ?_;intro zt);exact Lw
 ·have V:=Hd (AQ.OF (k:=9) (f:=f) (t:=t) (s:=s) (n:=n) Ft);(refine K3o ?_;intro zt);exact Lw
 ·have V:=Hd (AQ.OF (k:=8) (f:=f) (t:=0) (s:=s) (n:=n) Ft);exact Lw
 ·have V:=Hd (AQ.OF (k:=9) (f:=f) (t:=0) (s:=s) (n:=n) Ft);exact Lw
 ·have V:=Hd (AQ.OF (k:=8) (f:=f) (t:=t) (s:=s) (n:=n) Ft);(refine K3o ?_;intro zt);exact Lw
 ·have V:=Hd (AQ.OF (k:=9) (f:=f) (t:=t) (s:=s) (n:=n) Ft);(refine K3o ?_;intro zt);exact Lw
 ·have V:=Hd (AQ.OJ (k:=8) (f:=f) (t:=0) (s:=s) (n:=n)|>.2 Ft);exact Lw
 ·have V:=Hd (AQ.OJ (k:=9) (f:=f) (t:=0) (s:=s) (n:=n)|>.2 Ft);exact Lw
theorem EJ(k f t s:Int)(A:Option Addr)(n cap:Nat)(w:World)(hn:n<=9223372036854775807):Calls prog 118 #[.agg #[Iv k,Iv f,Iv t,Iv s,.slice A n cap]] w (IL (.bool (AQ.vd k f t s n)) w):=by
 rcases kE k f t s n with h1|⟨h1,h2⟩|⟨h1,h2,h3⟩|⟨h1,h2,h3⟩|⟨h1,h2,h3,h4⟩|⟨h1,h2,h3,rfl,h5⟩|⟨h1,h2,h3,rfl,h5⟩|⟨h1,h2,rfl|rfl,h4,h5⟩|⟨h1,h2,rfl|rfl,h4,rfl⟩|⟨h1,h2,rfl|rfl,h4,h5⟩|⟨h1,h2,rfl|rfl,h4,rfl⟩
 ·have V:=Hd (AQ.OF (k:=k) (f:=f) (t:=t) (s:=s) (n:=n) Ft);exact Gc
 ·have V:=Hd (AQ.OF (k:=k) (f:=f) (t:=t) (s:=s) (n:=n) Ft);exact Gc
 ·have V:=Hd (AQ.OF (k:=k) (f:=f) (t:=t) (s:=s) (n:=n) Ft);exact Mv
 ·have V:=Hd (AQ.OF (k:=k) (f:=f) (t:=t) (s:=s) (n:=n) Ft);exact Mv
 ·have V:=Hd (AQ.OF (k:=k) (f:=f) (t:=t) (s:=s) (n:=n) Ft);(refine K1d ?_;intro e8 e9);have zf:(f==0)=false:=JJ Ft;exact Gc
 ·have V:=Hd (AQ.OF (k:=k) (f:=0) (t:=t) (s:=s) (n:=n) Ft);exact Mv
 ·have V:=Hd (AQ.OJ (k:=k) (f:=0) (t:=t) (s:=s) (n:=n)|>.2 Ft);exact Mv
 ·have V:=Hd (AQ.OF (k:=8) (f:=f) (t:=t) (s:=s) (n:=n) Ft);(refine K3o ?_;intro zt);exact Gc
 ·have V:=Hd (AQ.OF (k:=9) (f:=f) (t:=t) (s:=s) (n:=n) Ft);(refine K3o ?_;intro zt);exact Gc
 ·have V:=Hd (AQ.OF (k:=8) (f:=f) (t:=0) (s:=s) (n:=n) Ft);exact Gc
 ·have V:=Hd (AQ.OF (k:=9) (f:=f) (t:=0) (s:=s) (n:=n) Ft);exact Gc
 ·have V:=Hd (AQ.OF (k:=8) (f:=f) (t:=t) (s:=s) (n:=n) Ft);(refine K3o ?_;intro zt);exact Gc
 ·have V:=Hd (AQ.OF (k:=9) (f:=f) (t:=t) (s:=s) (n:=n) Ft);(refine K3o ?_;intro zt);exact Gc
 ·have V:=Hd (AQ.OJ (k:=8) (f:=f) (t:=0) (s:=s) (n:=n)|>.2 Ft);exact Gc
 ·have V:=Hd (AQ.OJ (k:=9) (f:=f) (t:=0) (s:=s) (n:=n)|>.2 Ft);exact Gc
end
section
set_option maxRecDepth 512
namespace AQ
def step(d:Nat):Nat:=if d/32768=1 then(d*2%65536)^^^4129 else d*2%65536
def iter:Nat->Nat->Nat
 |0,d=>d
 |j+1,d=>step (iter j d)
def ZP(c y:Nat):Nat:=iter 8 (c^^^(y*256))
def S2(l:List Int):Nat:=l.foldl (λc y=>ZP c y.toNat) 65535
def Xf(n b:Nat):Nat:=if n/32768=b then n%32768*2 else(n%32768*2)^^^4129
def Xg(y:Nat):Nat->Nat->Nat
 |0,n=>n
 |j+1,n=>Xf (Xg y j n) (y/2^(7-j)%2)
theorem YY{a b:Nat}(ha:a<65536)(hb:b<65536):a^^^b<65536:=Nat.xor_lt_two_pow (n:=16) ha hb
theorem A29{d:Nat}:step d<65536:=by
 unfold step;split
 ·exact YY (Nat.mod_lt _ Fj) Fj
 ·exact Nat.mod_lt _ Fj
theorem tq{d:Nat}(h:d<65536):∀j,iter j d<65536
 |0=>h
 |j+1=>A29
theorem A1F{c y:Nat}(hc:c<65536)(hy:y<256):ZP c y<65536:=tq (YY hc Ft) 8
theorem A1d(l:List Int)(hb:∀x∈l,0<=x/\x<256):∀c,c<65536->l.foldl (λc y=>ZP c y.toNat) c<65536:=by
 induction l with
 |nil=>intro c hc;exact hc
 |cons x t ih=>intro c hc;have hx:=hb x Fu;exact ih (λy hy=>hb y (by simp[hy])) _ (A1F hc Ft)
theorem YC{l:List Int}(hb:∀x∈l,0<=x/\x<256):S2 l<65536:=A1d l hb _ Fj
theorem xu(l:List Int)(y:Int):S2 (l++[y])=ZP (S2 l) y.toNat:=by simp[S2]
theorem A23(a b k:Nat):(a^^^b)/2^k=a/2^k^^^b/2^k:=by
 rw[<-A0f,<-A0f,<-A0f,Nat.shiftRight_xor_distrib]
theorem A22(a b k:Nat):(a^^^b)*2^k=a*2^k^^^b*2^k:=by
 rw[<-mz,<-mz,<-mz,Nat.shiftLeft_xor_distrib]
theorem A3D{a b:Nat}(ha:a<2)(hb:b<2):a^^^b=if a=b then 0 else 1:=by
 (have h1:a=0\/a=1:=by omega);have h2:b=0\/b=1:=by omega
 rcases h1 with rfl|rfl<;>rcases h2 with rfl|rfl<;>rfl
theorem yL{R r:Nat}(hR:R<65536)(hr:r<256):step (R^^^(r*256))=Xf R (r/128)^^^(r*2%256*256):=by
 (have e1:(R^^^r*256)/32768=if R/32768=r/128 then 0 else 1:=by rw[show(32768:Nat)=2^15 from rfl,A23,show r*256/2^15=r/128 by omega];exact A3D Ft Ft);(have e2:(R^^^r*256)*2%65536=(R%32768*2)^^^(r*2%256*256):=by rw[show(65536:Nat)=2^16 from rfl,show(R^^^r*256)*2=(R^^^r*256)*2^1 from rfl,A22,Nat.xor_mod_two_pow];rw[show R*2^1%2^16=R%32768*2 by omega,show r*256*2^1%2^16=r*2%256*256 by omega]);unfold step Xf;rw[e1,e2]
 by_cases h:R/32768=r/128
 ·simp[h]
 ·simp only[h,fO,WV];rw[Nat.xor_assoc,Nat.xor_comm (r*2%256*256) 4129,<-Nat.xor_assoc]
theorem zc{n b:Nat}:Xf n b<65536:=by
 unfold Xf;split
 ·omega
 ·exact YY Ft Fj
theorem lP{y n:Nat}(h:n<65536):∀j,Xg y j n<65536
 |0=>h
 |j+1=>zc
theorem mZ{c y:Nat}(hc:c<65536)(hy:y<256):∀j,j<=8->iter j (c^^^(y*256))=Xg y j c^^^(y*2^j%256*256)
 |0,_=>by simp only[iter,Xg];rw[show y*2^0%256=y by omega]
 |j+1,h=>by
  have ih:=mZ hc hy j Ft;rw[iter,ih,yL (lP hc j) (Nat.mod_lt _ Fj),Xg];have hb:y*2^j%256/128=y/2^(7-j)%2/\y*2^j%256*2%256=y*2^(j+1)%256:=by
   have:j=0\/j=1\/j=2\/j=3\/j=4\/j=5\/j=6\/j=7:=by omega
   rcases this with rfl|rfl|rfl|rfl|rfl|rfl|rfl|rfl
   all_goals(simp only[Nat.reduceSub,Nat.reducePow,Nat.reduceAdd];omega)
  rw[hb.1,hb.2]
theorem xz{c y:Nat}(hc:c<65536)(hy:y<256):Xg y 8 c=ZP c y:=by
 rw[ZP,mZ hc hy 8 (Lr _),show y*2^8%256*256=0 by omega,Nat.xor_zero]
end AQ
end
section
open RowKit
set_option maxRecDepth 512
theorem Vd(a:Addr)(n:Nat):(a.add n).block=a.block:=by unfold Addr.add;split<;>rfl
theorem rJ(a:Addr)(i j:Nat):(a.add i).add j=a.add (i+j):=by
 unfold Addr.add
 by_cases hi:i=0<;>by_cases hj:j=0<;>simp[hi,hj,TE]
def Reads(w:World)(B size:Nat)(A:Option Addr)(n:Nat)(xs:List Value):Prop:=
 xs.length=n*size/\(0<n->∃ad,A=some ad/\ad.block<B/\∀j u,xs[j]?=some u->w.cell? (ad.add j)=some u)
section
variable{w w':World}{B B' size n:Nat}{A:Option Addr}{xs:List Value}
theorem Reads.none_:Reads w B size A 0 []:=⟨by simp,λh=>absurd h Ft⟩
theorem Reads.at_{k:Nat}(h:Reads w B 1 A n xs)(hk:k<n):∃ad u,A=some ad/\ad.block<B/\xs[k]?=some u/\w.cell? (ad.add k)=some u:=by
 obtain⟨ad,e,hb,hc⟩:=h.2 Ft;(have hl:k<xs.length:=by have:=h.1;omega);exact⟨ad,xs[k],e,hb,Gg hl,hc k _ (Gg hl)⟩
theorem Reads.IE(h:Reads w B size A n xs)(hk:∀p:Addr,p.block<B->w'.cell? p=w.cell? p):Reads w' B size A n xs:=
 ⟨h.1,λhn=>by
  obtain⟨ad,e,hb,hc⟩:=h.2 hn;exact⟨ad,e,hb,λj u hu=>(hk _ (by rw[Vd];exact hb)).trans (hc j u hu)⟩⟩
theorem Reads.more(h:Reads w B size A n xs)(hB:B<=B'):Reads w B' size A n xs:=
 ⟨h.1,λhn=>by
  obtain⟨ad,e,hb,hc⟩:=h.2 hn;exact⟨ad,e,by omega,hc⟩⟩
theorem Reads.below(h:Reads w B size A n xs)(hb:Below B w w'):Reads w' B size A n xs:=h.IE λ_ hp=>hb.cell hp
theorem Reads.drew(h:Reads w B size A n xs):Reads w.drew B size A n xs:=h
theorem Reads.drewN(h:Reads w B size A n xs)(k:Nat):Reads (w.drewN k) B size A n xs:=h
theorem Reads.alloc(h:Reads w B size A n xs)(hB:B<=w.heap.size)(o:Obj):Reads (w.alloc o) B size A n xs:=h.IE λp hp=>A02 w o p Ft
theorem Reads.setCell(h:Reads w B size A n xs){p:Addr}(hB:B<=p.block)(u:Value):Reads (w.setCell p u) B size A n xs:=
 h.IE λq hq=>A04 w p q u (λe=>by subst e;omega)
theorem Reads.grown(h:Reads w B size A n xs){row:Option Nat}(hg:w.grownBy w' row)(hB:B<=w.heap.size)(hr:∀g,row=some g->B<=g):Reads w' B size A n xs:=
 h.IE λp hp=>Cb (hg.block p.block Ft (λe=>by have:=hr _ e.symm;omega))
theorem Reads.cut(h:Reads w B size A n xs){k cap:Nat}(hk:k<=n)(hc:n<=cap):
  Reads w B size (if cap=k then A else A.map (·.add (k*size))) (n-k) (xs.drop (k*size)):=by
 refine⟨by rw[Xu,h.1,Nat.sub_mul],λhn=> ?_⟩;obtain⟨ad,rfl,hb,DD⟩:=h.2 Ft;rw[AO Ft];refine⟨ad.add (k*size),rfl,by rw[Vd];exact hb,λj u hu=> ?_⟩;rw[rJ];exact DD _ u (by rw[<-hu,TF])
theorem Reads.GR{base:Nat}{e:TypeId}{c:Nat}(h:w.ownsRow base e size (.slice A n c) n xs):Reads w w.heap.size size A n xs:=by
 refine⟨h.1,λhn=> ?_⟩;obtain⟨g,cap,hv,_,EK⟩:=h.form hn;(have hA:A=some (Ad g 0):=by injection hv);subst hA;exact⟨_,rfl,EK,h.cells (g:=g) rfl⟩
end
section
variable{P:Program}(w:World)
theorem XZ(base:Nat)(t ty e:TypeId)(i:TypeInfo)(size:Nat)(ht:P.underlying t=some (.slice e))(hi:P.info? e=some i)
  (v:Value)(n:Nat)(xs:List Value)(FZ:w.ownsRow base e size v n xs)(c:Nat):(Builtin.append_ #[t,t] ty #[v,.slice none 0 c]).run P w= .ok v w:=by
 rcases FZ.2 with⟨rfl,rfl⟩|⟨g,cap,cur,rfl,_,_,Xz,_⟩
 ·simp[Builtin.append_,cA ht,sizeOf,typeInfo,hi,Builtin.lenOf,Builtin.firstCells]
 ·simp[Builtin.append_,cA ht,sizeOf,typeInfo,hi,Builtin.lenOf,Builtin.firstCells,Xz,storeCells]
theorem bC(base:Nat)(t ty e:TypeId)(i:TypeInfo)(z:Value)(size bytes:Nat)(ht:P.underlying t=some (.slice e))(hi:P.info? e=some i)(hz:i.zero=some z)
  (SC:i.size=size)(MB:i.bytes=bytes)(fc:z.cells.size=size)(VF:0<size)
  (v:Value)(n:Nat)(xs:List Value)(FZ:w.ownsRow base e size v n xs)
  (B:Nat)(A:Option Addr)(m c:Nat)(news:List Value)(hr:Reads w B size A m news)(h1:∀u∈news,u.oneCell'=true)
  (oT:n+m<=maxLen)(Qj:(n+m)*bytes<=140737488355328)(BJ:base<=w.heap.size):
  ∃v' w',(Builtin.append_ #[t,t] ty #[v,.slice A m c]).run P w= .ok v' w'/\w'.ownsRow base e size v' (n+m) (xs++news)/\w.grownBy w' v.ownBlock/\
   (v'.ownBlock=v.ownBlock\/v'.ownBlock=some w.heap.size):=by
 rcases A with _|ad
 ·have hm:m=0:=by
   rcases mg m with h0|h0
   ·exact h0
   ·obtain⟨ad,h,_⟩:=hr.2 h0
    cases h
  subst hm;have hn:news=[]:=a9 (by simpa using hr.1);subst hn;exact⟨v,w,XZ w base t ty e i size ht hi v n xs FZ c,by simpa using FZ,World.grownBy.refl w _,.inl rfl⟩
 ·have Zh:∀j u,news[j]?=some u->w.cell? (ad.add j)=some u:=by
   intro j u hu
   rcases mg m with h0|h0
   ·subst h0;have hn:news=[]:=a9 (by simpa using hr.1);subst hn;simp at hu
   ·obtain⟨ad',h,_,hc⟩:=hr.2 h0;injection h with h;subst h;exact hc j u hu
  obtain⟨v',w',Zf,h2,h3,_,h5⟩:=run_append_own_at (P:=P) w base t ty e i z size bytes ht hi hz SC MB fc VF v n xs FZ ad m c news hr.1 Zh h1 oT Qj BJ;exact⟨v',w',Zf,h2,h3,h5⟩
theorem Xb{o:Oper}{a:Act}{K:Act->World->Prop}{Q:Exit->Act->World->Prop}(s x:Operand)(t:TypeId)
  (ho:o.op= .call {callee:= .builtin .append,args:= #[s,x],argTypes:= #[t,t]})
  (base:Nat)(e:TypeId)(i:TypeInfo)(z:Value)(size bytes:Nat)(ht:P.underlying t=some (.slice e))(hi:P.info? e=some i)(hz:i.zero=some z)
  (SC:i.size=size)(MB:i.bytes=bytes)(fc:z.cells.size=size)(VF:0<size)
  (v:Value)(n:Nat)(xs:List Value)(hs:a.eval s=v)(FZ:w.ownsRow base e size v n xs)
  (B:Nat)(A:Option Addr)(m c:Nat)(news:List Value)(hx:a.eval x= .slice A m c)(hr:Reads w B size A m news)(h1:∀u∈news,u.oneCell'=true)
  (oT:n+m<=maxLen)(Qj:(n+m)*bytes<=140737488355328)(BJ:base<=w.heap.size)
  (h:∀v' w',w'.ownsRow base e size v' (n+m) (xs++news)->w.grownBy w' v.ownBlock->(v'.ownBlock=v.ownBlock\/v'.ownBlock=some w.heap.size)->K (a.put o.dst v') w'):o.wp P a w K Q:=by
 obtain⟨v',w',Zf,h2,h3,h4⟩:=bC (P:=P) w base t o.type e i z size bytes ht hi hz SC MB fc VF v n xs FZ B A m c news hr h1 oT Qj BJ;unfold Oper.wp execOp;simp only[ho,resolve,invoke,builtin,eQ,Sem.run_pure,Result.andThen_ok,List.map_toArray,me,fS,hs,hx,Zf];exact h v' w' h2 h3 h4
theorem BD{ops:Array Oper}{rest:List Oper}{o:Oper}{a:Act}{Q:Exit->Act->World->Prop}(hgd:o.guard=none)(s x:Operand)(t:TypeId)
  (ho:o.op= .call {callee:= .builtin .append,args:= #[s,x],argTypes:= #[t,t]})
  (base:Nat)(e:TypeId)(i:TypeInfo)(z:Value)(size bytes:Nat)(ht:P.underlying t=some (.slice e))(hi:P.info? e=some i)(hz:i.zero=some z)
  (SC:i.size=size)(MB:i.bytes=bytes)(fc:z.cells.size=size)(VF:0<size)
  (v:Value)(n:Nat)(xs:List Value)(hs:a.eval s=v)(FZ:w.ownsRow base e size v n xs)
  (B:Nat)(A:Option Addr)(m c:Nat)(news:List Value)(hx:a.eval x= .slice A m c)(hr:Reads w B size A m news)(h1:∀u∈news,u.oneCell'=true)
  (oT:n+m<=maxLen)(Qj:(n+m)*bytes<=140737488355328)(BJ:base<=w.heap.size)
  (h:∀v' w',w'.ownsRow base e size v' (n+m) (xs++news)->w.grownBy w' v.ownBlock->(v'.ownBlock=v.ownBlock\/v'.ownBlock=some w.heap.size)->wpList P ops Q rest (a.put o.dst v') w'):wpList P ops Q (o::rest) a w:=
 wpList_plain hgd λ_ hK=>Xb w s x t ho base e i z size bytes ht hi hz SC MB fc VF v n xs hs FZ B A m c news hx hr h1 oT Qj BJ λv' w' h2 h3 h4=>hK _ _ (h v' w' h2 h3 h4)
theorem LH{ops:Array Oper}{o:Oper}{a:Act}{K:Act->World->Prop}{Q:Exit->Act->World->Prop}{E:Prop}(hgd:o.guard=none)(s x:Operand)(t:TypeId)
  (ho:o.op= .call {callee:= .builtin .append,args:= #[s,x],argTypes:= #[t,t]})
  (base:Nat)(e:TypeId)(i:TypeInfo)(z:Value)(size bytes:Nat)(ht:P.underlying t=some (.slice e))(hi:P.info? e=some i)(hz:i.zero=some z)
  (SC:i.size=size)(MB:i.bytes=bytes)(fc:z.cells.size=size)(VF:0<size)
  (v:Value)(n:Nat)(xs:List Value)(hs:a.eval s=v)(FZ:w.ownsRow base e size v n xs)
  (B:Nat)(A:Option Addr)(m c:Nat)(news:List Value)(hx:a.eval x= .slice A m c)(hr:Reads w B size A m news)(h1:∀u∈news,u.oneCell'=true)
  (oT:n+m<=maxLen)(Qj:(n+m)*bytes<=140737488355328)(BJ:base<=w.heap.size)
  (h:∀v' w',w'.ownsRow base e size v' (n+m) (xs++news)->w.grownBy w' v.ownBlock->(v'.ownBlock=v.ownBlock\/v'.ownBlock=some w.heap.size)->K (a.put o.dst v') w'):
  if Region.wanted o (yielded ops a.tmps)=true then Oper.wp P o a w K Q else E:=by
 (refine K3P ?_;intro hw);exact Xb w s x t ho base e i z size bytes ht hi hz SC MB fc VF v n xs hs FZ B A m c news hx hr h1 oT Qj BJ h
end
section
variable{w w':World}{B:Nat}{A:Option Addr}{n cap:Nat}{l:List Int}
theorem CP(b o n:Nat):((Ad b o):Addr).add n=(Ad b (o+n)):=by unfold Addr.add;split<;>simp_all
theorem Rd.reads(h:Rd w B A n l):Reads w B 1 A n (bv l):=by
 obtain⟨hl,hb,hr⟩:=h;refine⟨by simp[bv,hl],λhn=> ?_⟩;obtain⟨b,o,rfl,QQ,hc⟩:=hr hn;refine⟨_,rfl,QQ,λj u hu=> ?_⟩;have hj:j<l.length:=by
  rcases Oj j l.length with h|h
  ·exact h
  ·simp[bv,R3 h] at hu
 rw[CP,hc j Ft];simp[bv,Gg hj] at hu;subst hu;simp[List.getD,Gg hj]
theorem Reads.new(w:World)(cs:Array Value)(t:TypeId):Reads (w.alloc (.cells cs t)) (w.heap.size+1) 1 (some (Ad w.heap.size 0)) cs.size cs.toList:=by
 refine⟨by simp,λ_=>⟨_,rfl,by simp,λi u hu=> ?_⟩⟩;exact L7
theorem SX(l:List Int):∀u∈bv l,u.oneCell'=true:=ints_oneCell .u8 l
def Ow(w:World)(base:Nat)(A:Option Addr)(n cap:Nat)(l:List Int):Prop:=w.ownsRow base 5 1 (.slice A n cap) n (bv l)/\By l
theorem Ow.len{base:Nat}(h:Ow w base A n cap l):l.length=n:=by have:=h.1.1;simpa[bv] using this
theorem Ow.rd{base:Nat}(h:Ow w base A n cap l):Rd w w.heap.size A n l:=Rd.GR h.1 h.2
theorem Ow.form{base:Nat}(h:Ow w base A n cap l):(A=none/\n=0/\cap=0)\/∃g,A=some (Ad g 0)/\base<=g/\g<w.heap.size/\n<=cap/\cap<=maxLen:=by
 rcases h.1.2 with⟨e,h0⟩|⟨g,c,cur,e,hb,hh,h1,h2,h3,h4⟩
 ·injection e with e1 e2 e3;exact .inl ⟨e1,h0,e3⟩
 ·injection e with e1 e2 e3;(subst e1;subst e3);exact .inr ⟨g,rfl,hb,BG hh,h1,h2⟩
theorem Ow.block{base g:Nat}(h:Ow w base (some (Ad g 0)) n cap l):∃cur,w.heap[g]?=some (.cells cur 5 (0,0))/\n<=cap/\cur.size=cap/\cur.toList.take n=bv l:=by
 rcases h.1.2 with⟨e,h0⟩|⟨g',c,cur,e,hb,hh,h1,h2,h3,h4⟩
 ·cases e
 ·injection e with e1 e2 e3;injection e1 with e1;injection e1 with e1;(subst e1;subst e3);exact⟨cur,hh,h1,by omega,by simpa using h4⟩
theorem Ow.below{base B:Nat}(h:Ow w base A n cap l)(k:Below B w w')(hB:w.heap.size<=B):Ow w' base A n cap l:=by
 refine⟨h.1.kept (row:=none) ⟨k.os,k.tape,k.output,k.size,λi hi _=>k.block i Ft⟩ ?_,h.2⟩
 rcases h.form with⟨rfl,_⟩|⟨g,rfl,_⟩
 ·left;rfl
 ·right;simp[Value.ownBlock]
theorem Ow.grown{base:Nat}{row:Option Nat}(h:Ow w base A n cap l)(hg:w.grownBy w' row)(LX:∀g,A=some (Ad g 0)->some g≠row):Ow w' base A n cap l:=by
 refine⟨h.1.kept hg ?_,h.2⟩
 rcases h.form with⟨rfl,_⟩|⟨g,rfl,_⟩
 ·left;rfl
 ·right;exact LX g rfl
theorem Ow.drew{base:Nat}(h:Ow w base A n cap l):Ow w.drew base A n cap l:=h
theorem Ow.drewN{base:Nat}(h:Ow w base A n cap l)(k:Nat):Ow (w.drewN k) base A n cap l:=h
theorem Ow.alloc{base:Nat}(h:Ow w base A n cap l)(o:Obj):Ow (w.alloc o) base A n cap l:=⟨h.1.alloc o,h.2⟩
theorem Ow.more{base base':Nat}(h:Ow w base A n cap l)(hb:base'<=base):Ow w base' A n cap l:=by
 refine⟨⟨h.1.1,?_⟩,h.2⟩
 rcases h.1.2 with e|⟨g,c,cur,e,hb',rest⟩
 ·exact .inl e
 ·exact .inr ⟨g,c,cur,e,by omega,rest⟩
theorem vO{base:Nat}{e:TypeId}{v:Value}{xs:List Value}(h:w.ownsRow base e 1 v n xs)(q:Nat):(w.drewN q).ownsRow base e 1 v n xs:=h
theorem Ps{base:Nat}{e:TypeId}{v:Value}{xs:List Value}(h:w.ownsRow base e 1 v n xs):∃A cap,v= .slice A n cap:=by
 exact L8
theorem Ow.nil(w:World)(base:Nat):Ow w base none 0 0 []:=⟨Ta w base _ _,by intro x hx;cases hx⟩
end
end
section
set_option maxRecDepth 512
namespace AJ
open Go.RowKit
abbrev Rep:=Bool×Int×Int
structure St where
 n:Nat
 again:Int
 st:Int
 now:Int
 seq:Int
 some:Bool
 prog:Int
 cmd:Int
 at_:Int
 BB:Int
 Rr:List Bool
 seen:List Rep
def new(n:Nat)(again:Int):St:=⟨n,again,0,0,0,false,0,0,0,0,List.replicate n false,List.replicate n (false,0,0)⟩
def VX(n again:Int):Int:=if 1<=n/\n<=64/\1<=again/\again<=60000 then 0 else 2
def DZ(s:St)(now:Int):Int:=if s.now<=now/\now<=3600000 then 0 else 3
def may(k st:Int):Bool:=
 if k=1 then decide (st=0\/st=2\/st=9) else if k=2 then decide (st=2) else if k=3 then decide (st=4) else if k=4 then decide (st=6) else if k=5 then decide (st=7) else decide (1<=st/\st<=7)
def given(k:Int):Int:=if k=1 then 1 else if k=2 then 3 else if k=3 then 5 else if k=4 then 7 else if k=5 then 6 else 8
def full(k:Int):Int:=if k=1 then 2 else if k=2 then 4 else if k=3 then 6 else if k=4 then 7 else if k=5 then 6 else 9
def BZ(s:St)(k now x:Int):Int:=
 if k=1/\¬(0<=x/\x<=4294967295) then 2 else if DZ s now≠0 then 3 else if k=3/\¬(now<=x/\x<=3600000) then 3 else if may k s.st=false then 8 else 0
def CG(s:St)(k now x:Int):St:=
 {s with some:=s.some||decide (k=1),prog:=if k=1 then x else s.prog,at_:=if k=3 then x else s.at_,st:=given k,cmd:=k,now:=now,BB:=now,seq:=(s.seq+1)%65536,Rr:=List.replicate s.n false}
def JP(s:St)(k now x:Int):St:=if BZ s k now x=0 then CG s k now x else s
def BP:Nat->List Bool->List Nat
 |_,[]=>[]
 |lo,b::l=>if b then BP (lo+1) l else lo::BP (lo+1) l
def EC(s:St):List Nat:=if s.cmd=0 then [] else BP 1 s.Rr
def Qa(s:St)(now:Int):Bool:=decide (EC s≠[])&&decide (s.BB+s.again<=now)
def tick(s:St)(now:Int):St:=if DZ s now=0 then(if Qa s now then{s with now:=now,BB:=now} else{s with now:=now}) else s
def MN(s:St)(f:Nat):St:=
 {s with Rr:=s.Rr.set (f-1) true,st:=if EC s≠[]/\BP 1 (s.Rr.set (f-1) true)=[] then full s.cmd else s.st}
def reported(s:St)(f:Nat)(p now:Int):St:={s with seen:=s.seen.set (f-1) (true,p,now)}
theorem Yl:∀(k lo:Nat),BP lo (List.replicate k false)=(List.range k).map (lo+·)
 |0,_=>rfl
 |k+1,lo=>by rw[List.replicate_succ,BP,AO Fu,Yl k (lo+1),List.range_succ_eq_map,me,List.map_map];congr 1;exact List.map_congr_left (λx _=>by simp only[Function.comp,Nat.succ_eq_add_one];omega)
theorem LV:∀(l:List Bool)(lo x:Nat),x∈BP lo l->lo<=x/\x<lo+l.length
 |[],_,_,h=>by cases h
 |b::l,lo,x,h=>by
  unfold BP at h;split at h
  ·have:=LV l (lo+1) x h;simp only[List.length_cons];omega
  ·rcases List.mem_cons.1 h with h|h
   ·subst h;simp only[List.length_cons];omega
   ·have:=LV l (lo+1) x h;simp only[List.length_cons];omega
theorem Ym:∀(l:List Bool)(lo x:Nat),x∈BP lo l↔lo<=x/\l[x-lo]?=Option.some false
 |[],lo,x=>by simp[BP]
 |b::l,lo,x=>by
  unfold BP;have ih:=Ym l (lo+1) x
  rcases Nat.lt_trichotomy x lo with h|h|h
  ·have h1:x∉BP (lo+1) l:=λhx=>by have:=(LV l _ _ hx).1;omega
   cases b
   ·rw[AO Fu,fU];constructor
    ·rintro(h2|h2)
     ·omega
     ·exact absurd h2 h1
    ·intro h2;omega
   ·rw[AW rfl];exact⟨λh2=>absurd h2 h1,λh2=>by omega⟩
  ·subst h;have h1:x∉BP (x+1) l:=λhx=>by have:=(LV l _ _ hx).1;omega
   cases b
   ·rw[AO Fu];simp
   ·rw[AW rfl];exact⟨λh2=>absurd h2 h1,λh2=>by simp at h2⟩
  ·have e:(b::l)[x-lo]?=l[x-(lo+1)]?:=by
    rw[show x-lo=(x-(lo+1))+1 by omega,List.getElem?_cons_succ]
   rw[e]
   cases b
   ·rw[AO Fu,fU,ih];constructor
    ·rintro(h2|h2)
     ·omega
     ·exact⟨by omega,h2.2⟩
    ·intro h2;exact .inr ⟨by omega,h2.2⟩
   ·rw[AW rfl,ih];exact⟨λh2=>⟨by omega,h2.2⟩,λh2=>⟨by omega,h2.2⟩⟩
theorem Ry:∀(l:List Bool)(lo:Nat),(BP lo l).Pairwise (· <·)
 |[],_=>by simp[BP]
 |b::l,lo=>by
  unfold BP;split
  ·exact Ry l (lo+1)
  ·rw[mf];exact⟨λx hx=>by have:=(LV l (lo+1) x hx).1;omega,Ry l (lo+1)⟩
theorem Yj:∀(l:List Bool)(lo i:Nat),BP lo (l.set i true)=(BP lo l).filter (λx=>decide (x≠lo+i))
 |[],lo,i=>by simp[BP]
 |b::l,lo,0=>by
  (have h:∀x∈BP (lo+1) l,decide (x≠lo)=true:=λx hx=>by have:=(LV l (lo+1) x hx).1;simp;omega);rw[P3]
  cases b
  ·simp only[BP,WV,A07,fO,Nat.add_zero];rw[eR,AO Fu,List.filter_eq_self.2 h]
  ·simp only[BP,WV,Nat.add_zero];rw[List.filter_eq_self.2 h]
 |b::l,lo,i+1=>by
  rw[P0];have ih:=Yj l (lo+1) i;rw[show lo+1+i=lo+(i+1) by omega] at ih
  cases b
  ·simp only[BP,A07,fO];rw[ih,eR,AW Fu]
  ·simp only[BP,WV];rw[ih]
end AJ
end
section
open RowKit
set_option maxRecDepth 512
structure AG(S:Nat->Prop)(w w':World):Prop where
 os:w'.os=w.os
 tape:w'.tape=w.tape
 output:w'.output=w.output
 size:w.heap.size<=w'.heap.size
 block:∀i,i<w.heap.size->¬S i->w'.heap[i]?=w.heap[i]?
section
variable{S S':Nat->Prop}{w w' w1:World}
theorem AG.refl(S:Nat->Prop)(w:World):AG S w w:=⟨rfl,rfl,rfl,Lr _,λ_ _ _=>rfl⟩
theorem AG.trans(h:AG S w w1)(k:AG S' w1 w')(hS:∀i,i<w.heap.size->S' i->S i):AG S w w':=
 ⟨k.os.trans h.os,k.tape.trans h.tape,k.output.trans h.output,Lt h.size k.size,λi hi hn=>(k.block i (Sv hi h.size) (λhs=>hn (hS i hi hs))).trans (h.block i hi hn)⟩
theorem AG.AS(h:Below w.heap.size w w'):AG S w w':=⟨h.os,h.tape,h.output,h.size,λi hi _=>h.block i hi⟩
theorem AG.JK{row:Option Nat}(h:w.grownBy w' row)(hS:∀g,row=some g->S g):AG S w w':=⟨h.os,h.tape,h.output,h.size,λi hi hn=>h.block i hi (λe=>hn (hS i e.symm))⟩
theorem AG.drew(h:AG S w w'):AG S w w'.drew:=⟨h.os,h.tape,h.output,h.size,h.block⟩
theorem AG.drewN(h:AG S w w')(n:Nat):AG S w (w'.drewN n):=⟨h.os,h.tape,h.output,h.size,h.block⟩
theorem AG.alloc(h:AG S w w')(o:Obj):AG S w (w'.alloc o):=⟨h.os,h.tape,h.output,Lt h.size Fu,λi hi hn=>(bX w' o i (Sv hi h.size)).trans (h.block i hi hn)⟩
theorem AG.setCell(h:AG S w w'){p:Addr}(hp:S p.block\/w.heap.size<=p.block)(u:Value):AG S w (w'.setCell p u):=
 ⟨h.os,h.tape,h.output,by simpa[World.setCell] using h.size,λi hi hn=>(iN w' p u i (by
  rintro rfl
  rcases hp with hp|hp
  ·exact hn hp
  ·omega)).trans (h.block i hi hn)⟩
theorem AG.below{B:Nat}(h:AG S w w')(hS:∀i,i<w.heap.size->S i->B<=i)(hB:B<=w.heap.size):Below B w w':=
 ⟨h.os,h.tape,h.output,h.size,λi hi=>h.block i Ft (λhs=>by have:=hS i Ft hs;omega)⟩
theorem AG.mono(h:AG S w w')(hS:∀i,i<w.heap.size->S i->S' i):AG S' w w':=⟨h.os,h.tape,h.output,h.size,λi hi hn=>h.block i hi (λhs=>hn (hS i hi hs))⟩
theorem AR{q:Nat}{x:Obj}(h:w.heap[q]?=some x)(k:AG S w w')(hq:¬S q):w'.heap[q]?=some x:=(k.block q (BG h) hq).trans h
theorem AG.rd{B:Nat}{A:Option Addr}{n:Nat}{l:List Int}(k:AG S w w')(h:Rd w B A n l)(hB:B<=w.heap.size)(hS:∀i,i<B->¬S i):Rd w' B A n l:=
 h.IE λb o hb=>Cb (k.block b Ft (hS b hb))
end
def Row(w:World)(base:Nat)(e:TypeId)(size:Nat)(A:Option Addr)(n c:Nat)(xs:List Value):Prop:=
 xs.length=n*size/\((A=none/\n=0/\c=0)\/
  ∃g o cur,A=some (Ad g o)/\base<=g/\w.heap[g]?=some (.cells cur e (0,0))/\n<=c/\c<=maxLen/\o+c*size<=cur.size/\(cur.toList.drop o).take (n*size)=xs)
def AK:Option Addr->Option Nat
 |some a=>some a.block
 |none=>none
section
variable{w w':World}{base base':Nat}{e:TypeId}{size n c:Nat}{A:Option Addr}{xs:List Value}
theorem Row.nil(w:World)(base:Nat)(e:TypeId)(size:Nat):Row w base e size none 0 0 []:=⟨by simp,.inl ⟨rfl,rfl,rfl⟩⟩
theorem Row.lt(h:Row w base e size A n c xs){g:Nat}(hg:AK A=some g):base<=g/\g<w.heap.size:=by
 rcases h.2 with⟨rfl,_⟩|⟨g',o,cur,rfl,hb,hh,_⟩
 ·simp[AK] at hg
 ·simp[AK] at hg;subst hg;exact⟨hb,BG hh⟩
theorem Row.le(h:Row w base e size A n c xs):n<=c/\c<=maxLen:=by
 rcases h.2 with⟨_,h1,h2⟩|⟨g',o,cur,rfl,hb,hh,h1,h2,_⟩
 ·subst h1;subst h2;exact⟨Lr _,by unfold maxLen;omega⟩
 ·exact⟨h1,h2⟩
theorem Row.FK{g o:Nat}{cur:Array Value}(h:w.heap[g]?=some (.cells cur e (0,0)))(hb:base<=g)(hn:n<=c)(hc:c<=maxLen)(ho:o+c*size<=cur.size)(hx:(cur.toList.drop o).take (n*size)=xs):Row w base e size (some (Ad g o)) n c xs:=by
 refine⟨?_,.inr ⟨g,o,cur,rfl,hb,h,hn,hc,ho,hx⟩⟩;rw[<-hx,Ul,Xu,Array.length_toList];have:n*size<=c*size:=cg _ hn;omega
theorem Row.kept{S:Nat->Prop}(h:Row w base e size A n c xs)(k:AG S w w')(hS:∀g,AK A=some g->¬S g):Row w' base e size A n c xs:=by
 refine⟨h.1,?_⟩
 rcases h.2 with hn|⟨g,o,cur,rfl,hb,hh,rest⟩
 ·exact .inl hn
 ·exact .inr ⟨g,o,cur,rfl,hb,AR hh k (hS g rfl),rest⟩
theorem Row.grown{row:Option Nat}(h:Row w base e size A n c xs)(k:w.grownBy w' row)(hS:∀g,AK A=some g->some g≠row):Row w' base e size A n c xs:=
 h.kept (AG.JK (S:=λg=>some g=row) k (λg hg=>hg.symm)) hS
theorem Row.below{B:Nat}(h:Row w base e size A n c xs)(k:Below B w w')(hB:w.heap.size<=B):Row w' base e size A n c xs:=
 h.kept (S:=λ_=>False) (w':=w') ⟨k.os,k.tape,k.output,k.size,λi hi _=>k.block i Ft⟩ (λ_ _ h=>h)
theorem Row.drew(h:Row w base e size A n c xs):Row w.drew base e size A n c xs:=h
theorem Row.drewN(h:Row w base e size A n c xs)(k:Nat):Row (w.drewN k) base e size A n c xs:=h
theorem Row.alloc(h:Row w base e size A n c xs)(o:Obj):Row (w.alloc o) base e size A n c xs:=h.kept ((AG.refl (λ_=>False) w).alloc o) (λ_ _ h=>h)
theorem Row.FY(h:Row w base e size A n c xs){p:Addr}(hp:∀g,AK A=some g->g≠p.block)(u:Value):Row (w.setCell p u) base e size A n c xs:=
 h.kept ((AG.refl (λg=>g=p.block) w).setCell (.inl rfl) u) (λg hg=>hp g hg)
theorem Row.more(h:Row w base e size A n c xs)(hb:base'<=base):Row w base' e size A n c xs:=by
 refine⟨h.1,?_⟩
 rcases h.2 with hn|⟨g,o,cur,h1,h2,rest⟩
 ·exact .inl hn
 ·exact .inr ⟨g,o,cur,h1,by omega,rest⟩
theorem Row.some_(h:Row w base e size A n c xs)(hn:0<n):∃g o cur,A=some (Ad g o)/\base<=g/\g<w.heap.size/\w.heap[g]?=some (.cells cur e (0,0))/\n<=c/\c<=maxLen/\o+c*size<=cur.size/\(cur.toList.drop o).take (n*size)=xs/\(∀j u,xs[j]?=some u->w.cell? (Ad g (o+j))=some u)/\∀j,w.frozen? (Ad g j)=false:=by
 rcases h.2 with⟨_,h0,_⟩|⟨g,o,cur,h1,h2,h3,h4,h5,h6,h7⟩
 ·omega
 ·refine⟨g,o,cur,h1,h2,BG h3,h3,h4,h5,h6,h7,λj u hu=> ?_,λj=>AE h3 j⟩;rw[<-h7,VU] at hu;split at hu
  ·rw[TF] at hu;simp only[World.cell?,h3];simpa using hu
  ·cases hu
theorem Row.reads(h:Row w base e size A n c xs):Reads w w.heap.size size A n xs:=by
 refine⟨h.1,λhn=> ?_⟩;obtain⟨g,o,cur,rfl,_,EK,_,_,_,_,_,hc,_⟩:=h.some_ hn;exact⟨_,rfl,EK,λj u hu=>by rw[CP];exact hc j u hu⟩
theorem Row.cut(h:Row w base e size A n c xs){k:Nat}(hk:k<=n):Row w base e size (if c=k then A else A.map (·.add (k*size))) (n-k) (c-k) (xs.drop (k*size)):=by
 rcases h.2 with⟨rfl,h1,h2⟩|⟨g,o,cur,rfl,h2,h3,h4,h5,h6,h7⟩
 ·(subst h1;subst h2);(have:k=0:=by omega);subst this;have hx:xs=[]:=a9 (by simpa using h.1);subst hx;simpa using Row.nil w base e size
 ·have hks:k*size<=n*size:=cg _ hk;have YS:n*size<=c*size:=cg _ h4
  by_cases hc:c=k
  ·rw[AW hc];(have h0:n-k=0:=by omega);(have h0':c-k=0:=by omega);rw[h0,h0'];refine Row.FK h3 h2 (Lr _) Ft Ft ?_;have:xs.drop (k*size)=[]:=List.drop_eq_nil_of_le (by rw[h.1];exact cg _ Ft);rw[this];simp
  ·rw[AO hc];simp only[Option.map_some,CP];refine Row.FK h3 h2 Ft Ft ?_ ?_
   ·have:(c-k)*size=c*size-k*size:=Nat.sub_mul _ _ _;omega
   ·rw[<-h7,List.drop_take,List.drop_drop,Nat.sub_mul]
end
section
variable{P:Program}(w:World)
theorem eP(dT sT ty elem:TypeId)(size g o Yz fq:Nat)(a:Addr)(Xp bs:Nat)(cur:Array Value)(t:TypeId)(cs:List Value)
  (hu:P.underlying dT=some (.slice elem))(hs:(P.info? elem).map (·.size)=some size)
  (hg:w.heap[g]?=some (.cells cur t (0,0)))(k:Nat)(hk:k=Nat.min Xp Yz)(hn:cs.length=k*size)
  (dh:∀j v,cs[j]?=some v->w.cell? (a.add j)=some v)(Px:o+cs.length<=cur.size)(h1:∀v∈cs,v.oneCell'=true):
  (Builtin.copy_ #[dT,sT] ty #[.slice (some (Ad g o)) Yz fq,.slice (some a) Xp bs]).run P w=
   .ok (goInt k) (w.setRow g (splice cur.toList o cs).toArray):=by
 have DJ:=run_storeCells_at P g o t cs 0 cur w hg (by simpa using Px) h1;have hf:=sW (P:=P) w size k a Xp bs cs hn dh
 cases hq:P.info? elem with
 |none=>simp[hq] at hs
 |some i=>(have hi:i.size=size:=by simpa[hq] using hs);simp[Builtin.copy_,cA hu,Builtin.lenOf,sizeOf,typeInfo,hq,hi,<-hk,hf,DJ,splice]
variable{w}
theorem bz(base:Nat)(t ty e:TypeId)(i:TypeInfo)(z:Value)(size bytes:Nat)(ht:P.underlying t=some (.slice e))(hi:P.info? e=some i)(hz:i.zero=some z)
  (SC:i.size=size)(MB:i.bytes=bytes)(fc:z.cells.size=size)(A:Option Addr)(n c:Nat)(xs:List Value)(FZ:Row w base e size A n c xs)
  (a:Addr)(m d:Nat)(news:List Value)(hl:news.length=m*size)(Tr:∀j u,news[j]?=some u->w.cell? (a.add j)=some u)(h1:∀u∈news,u.oneCell'=true)(hm:0<m)
  (oT:n+m<=maxLen)(Qj:(n+m)*bytes<=140737488355328)(BJ:base<=w.heap.size):
  ∃A' c' w',(Builtin.append_ #[t,t] ty #[.slice A n c,.slice (some a) m d]).run P w= .ok (.slice A' (n+m) c') w'/\Row w' base e size A' (n+m) c' (xs++news)/\w.grownBy w' (AK A)/\
   (AK A'=AK A\/AK A'=some w.heap.size):=by
 subst SC;have hlen:=FZ.1
 by_cases np:n+m<=c
 ·rcases FZ.2 with⟨rfl,h0,h00⟩|⟨g,o,cur,rfl,hb,hg,Xz,GC,Px,htake⟩
  ·omega
  ·have hmul:(n+m)*i.size<=c*i.size:=cg _ np;rw[mm] at hmul;have hf:=sW (P:=P) w i.size m a m d news hl Tr;have DJ:=run_storeCells_at P g (o+n*i.size) e news 0 cur w hg (by rw[hl];omega) h1;simp only[Nat.add_zero] at DJ;refine⟨some (Ad g o),c,w.setRow g (splice cur.toList (o+n*i.size) news).toArray,?_,?_,⟨rfl,rfl,rfl,by simp[World.setRow],λk _ hk=>Pq w g k _ (λe=>hk (by simp[e,AK]))⟩,.inl rfl⟩
   ·simp[Builtin.append_,cA ht,sizeOf,typeInfo,hi,Builtin.lenOf,np,hf,Addr.add_lit,DJ,splice]
   ·refine Row.FK (MR w g cur _ e _ hg) hb np GC ?_ ?_
    ·simp[splice];omega
    ·have VF:(cur.toList).length=cur.size:=Array.length_toList;simp only[splice];rw[List.drop_append_of_le_length (by rw[Ul,VF];omega),List.drop_take];rw[show o+n*i.size-o=n*i.size by omega,htake,<-a8,List.take_append_of_le_length Bq,R8 Bq]
 ·have dh:Src P i.size t (.slice (some a) m d) m news w:=Src.ofSlice w ht a m d news hl Tr h1;have hold:(Builtin.firstCells i.size n (.slice A n c)).run P w.drew= .ok xs.toArray w.drew:=by
   rcases FZ.2 with⟨rfl,h0,h00⟩|⟨g,o,cur,rfl,hb,hg,Xz,GC,Px,htake⟩
   ·subst h0;have hx:xs=[]:=a9 (by simpa using hlen);subst hx;exact run_firstCells_none w.drew i.size 0 0 c
   ·refine sW (P:=P) w.drew i.size n _ n c xs hlen (λj u hu=> ?_);rw[CP];have hn:0<n:=by
     rcases mg n with h0|h0
     ·subst h0;have hx:xs=[]:=a9 (by simpa using hlen);subst hx;simp at hu
     ·exact h0
    obtain⟨g',o',Acd,he,_,_,_,_,_,_,_,hc,_⟩:=FZ.some_ hn;(injection he with he;injection he with e1 e2);(subst e1;subst e2);exact hc j u hu
  (have A9d:n+m<=9223372036854775807:=by simp only[maxLen] at oT;omega);(have Px:Builtin.nextslicecap (n+m) c*i.bytes<=281474976710656:=by have:=nextslicecap_le (need:=n+m) (old:=c) Ft;rw[MB];exact Lt (cg _ this) (by rw[Nat.mul_assoc];omega));have hr:=run_append_grow_src (P:=P) w t t ty e i z ht hi hz A n c xs hold _ m news dh Ft Ft Px;have jj:=grownCap_ge w (n+m) c e;have GC:grownCap w (n+m) c e<=maxLen:=grownCap_le_maxLen w (n+m) c e oT;refine⟨_,_,_,hr,?_,⟨rfl,rfl,rfl,by simp,λk hk _=>bX w.drew _ k hk⟩,.inr rfl⟩;refine Row.FK (heap_alloc_new w.drew _) BJ jj GC ?_ ?_
  ·simp only[Array.size_append,cf,TW,size_zeroCells,fc,hlen,hl,<-mm,PL];(have:n+m+(grownCap w (n+m) c e-(n+m))=grownCap w (n+m) c e:=by omega);rw[this];exact Lr _
  ·simp only[Array.toList_append,bV];rw[List.take_append_of_le_length (by simp[hlen,hl,mm]),R8 (by simp[hlen,hl,mm])]
theorem Xa{o:Oper}{a:Act}{K:Act->World->Prop}{Q:Exit->Act->World->Prop}(s x:Operand)(t:TypeId)
  (ho:o.op= .call {callee:= .builtin .append,args:= #[s,x],argTypes:= #[t,t]})
  (base:Nat)(e:TypeId)(i:TypeInfo)(z:Value)(size bytes:Nat)(ht:P.underlying t=some (.slice e))(hi:P.info? e=some i)(hz:i.zero=some z)
  (SC:i.size=size)(MB:i.bytes=bytes)(fc:z.cells.size=size)(A:Option Addr)(n c:Nat)(xs:List Value)(hs:a.eval s= .slice A n c)(FZ:Row w base e size A n c xs)
  (ad:Addr)(m d:Nat)(news:List Value)(hx:a.eval x= .slice (some ad) m d)(hl:news.length=m*size)(Tr:∀j u,news[j]?=some u->w.cell? (ad.add j)=some u)(h1:∀u∈news,u.oneCell'=true)(hm:0<m)
  (oT:n+m<=maxLen)(Qj:(n+m)*bytes<=140737488355328)(BJ:base<=w.heap.size)
  (h:∀A' c' w',Row w' base e size A' (n+m) c' (xs++news)->w.grownBy w' (AK A)->(AK A'=AK A\/AK A'=some w.heap.size)->K (a.put o.dst (.slice A' (n+m) c')) w'):o.wp P a w K Q:=by
 obtain⟨A',c',w',Zf,h2,h3,h4⟩:=bz (P:=P) base t o.type e i z size bytes ht hi hz SC MB fc A n c xs FZ ad m d news hl Tr h1 hm oT Qj BJ;unfold Oper.wp execOp;simp only[ho,resolve,invoke,builtin,eQ,Sem.run_pure,Result.andThen_ok,List.map_toArray,me,fS,hs,hx,Zf];exact h A' c' w' h2 h3 h4
theorem JE{ops:Array Oper}{rest:List Oper}{o:Oper}{a:Act}{Q:Exit->Act->World->Prop}(hgd:o.guard=none)(s x:Operand)(t:TypeId)
  (ho:o.op= .call {callee:= .builtin .append,args:= #[s,x],argTypes:= #[t,t]})
  (base:Nat)(e:TypeId)(i:TypeInfo)(z:Value)(size bytes:Nat)(ht:P.underlying t=some (.slice e))(hi:P.info? e=some i)(hz:i.zero=some z)
  (SC:i.size=size)(MB:i.bytes=bytes)(fc:z.cells.size=size)(A:Option Addr)(n c:Nat)(xs:List Value)(hs:a.eval s= .slice A n c)(FZ:Row w base e size A n c xs)
  (ad:Addr)(m d:Nat)(news:List Value)(hx:a.eval x= .slice (some ad) m d)(hl:news.length=m*size)(Tr:∀j u,news[j]?=some u->w.cell? (ad.add j)=some u)(h1:∀u∈news,u.oneCell'=true)(hm:0<m)
  (oT:n+m<=maxLen)(Qj:(n+m)*bytes<=140737488355328)(BJ:base<=w.heap.size)
  (h:∀A' c' w',Row w' base e size A' (n+m) c' (xs++news)->w.grownBy w' (AK A)->(AK A'=AK A\/AK A'=some w.heap.size)->wpList P ops Q rest (a.put o.dst (.slice A' (n+m) c')) w'):wpList P ops Q (o::rest) a w:=
 wpList_plain hgd λ_ hK=>Xa s x t ho base e i z size bytes ht hi hz SC MB fc A n c xs hs FZ ad m d news hx hl Tr h1 hm oT Qj BJ λA' c' w' h2 h3 h4=>hK _ _ (h A' c' w' h2 h3 h4)
end
theorem Row.GR{w:World}{base:Nat}{e:TypeId}{size n c:Nat}{A:Option Addr}{xs:List Value}(h:w.ownsRow base e size (.slice A n c) n xs):Row w base e size A n c xs:=by
 refine⟨h.1,?_⟩
 rcases h.2 with⟨h1,h2⟩|⟨g,cap,cur,h1,h2,h3,h4,h5,h6,h7⟩
 ·injection h1 with e1 e2 e3;exact .inl ⟨e1,h2,e3⟩
 ·injection h1 with e1 e2 e3;subst e3;exact .inr ⟨g,0,cur,e1,h2,h3,h4,h5,by omega,by simpa using h7⟩
theorem EZ{w:World}{base:Nat}{e:TypeId}{size n:Nat}{v:Value}{xs:List Value}(h:w.ownsRow base e size v n xs):∃A cap,v= .slice A n cap:=by
 exact L8
end
end Go.Proofs.YtdocdgcdldpagaaGreat

import Derived.Test.YtdocdgcdldpagaaGreatAw23
open Go.Proofs.Tryz
namespace Go.Proofs.YtdocdgcdldpagaaGreat
set_option maxHeartbeats 64000000
set_option maxRecDepth 100000
set_option linter.all false
section
open RowKit
def zj(r:Nt.Ru)(n NA NS KA BA:Nat)(A4:Option Addr)(c4:Nat)(A5:Option Addr)(c5:Nat)(PA:Option Addr)(pc:Nat)(UA:Option Addr)(uc:Nat)(VA:Option Addr)(vc:Nat)(j:Nat):List Value:=
 [Iv (n:Int),Iv r.again,Iv r.step,Iv r.CY,Iv r.lost,Iv r.ret,Iv r.desc,Iv r.late,Iv r.every,Iv r.up.BY,Iv r.up.AY,Iv r.up.least,Iv r.up.BU,Iv r.up.seed,Iv r.dn.BY,Iv r.dn.AY,Iv r.dn.least,Iv r.dn.BU,Iv r.dn.seed,.slice A4 n c4,.slice A5 n c5,Iv 0,Iv 0,Iv r.again,Iv 0,Iv 0,Iv 0,.bool false,Iv 0,Iv 0,.slice none 0 0,Iv 0,.slice (some (Ad NA 0)) n n,.slice (some (Ad NS 0)) n n,.slice PA j pc,.slice UA j uc,.slice VA j vc,.slice (some (Ad KA 0)) n n,.slice (some (Ad BA 0)) (n+1) (n+1),.slice none 0 0]
def RLp(r:Nt.Ru)(n NA NS KA BA:Nat)(A4:Option Addr)(c4:Nat)(A5:Option Addr)(c5:Nat)(p:Nat)(U:World)(PA:Option Addr)(pc:Nat)(UA:Option Addr)(uc:Nat)(VA:Option Addr)(vc j:Nat)(wr:World):Prop:=
 wr.heap[p]?=some (.cells (zj r n NA NS KA BA A4 c4 A5 c5 PA pc UA uc VA vc j).toArray 55 (0,0))/\Row wr U.heap.size 101 24 PA j pc (PZ (Nt.FJ r j))/\Row wr U.heap.size 136 11 UA j uc (IS r.up (·.up) 0 (Nt.FJ r j) (List.replicate j (none,0)))/\
 Row wr U.heap.size 136 11 VA j vc (IS r.dn (·.dn) 0 (Nt.FJ r j) (List.replicate j (none,0)))/\AG (λq=>q=p) U wr/\∀q,AK UA=some q->AK VA≠some q
theorem RLp.next{r:Nt.Ru}{n NA NS KA BA:Nat}{A4:Option Addr}{c4:Nat}{A5:Option Addr}{c5 p:Nat}{U V:World}{PA:Option Addr}{pc:Nat}{UA:Option Addr}{uc:Nat}{VA:Option Addr}{vc j x6 x10 x12:Nat}{b1 b2 b3:Option Nat}{PB:Option Addr}{pd:Nat}{UB:Option Addr}{ud:Nat}{VB:Option Addr}{vd:Nat}
  (h:ZQ U V p (zj r n NA NS KA BA A4 c4 A5 c5 PA pc UA uc VA vc j).toArray x6 x10 x12 [Iv ((j:Int)+1),Iv r.lost,Iv r.ret,Iv r.desc,Iv r.late,Iv r.every,Iv r.CY,Iv 0,.bool false,Iv 0,Iv 0,Iv 0,.bool false,.bool false,.bool false,.bool false,Iv 0,Iv 0,Iv 0,Iv 0,Iv 0,Iv 0,Iv 0,Iv 0] [Iv r.up.BY,Iv r.up.AY,Iv r.up.least,Iv r.up.BU,Iv (r.up.seed+((j:Int)+1)),.int .u64 (r.up.seed+((j:Int)+1)),Iv 0,.slice none 0 0,Iv 0,Iv 0,Iv 0] [Iv r.dn.BY,Iv r.dn.AY,Iv r.dn.least,Iv r.dn.BU,Iv (r.dn.seed+((j:Int)+1)),.int .u64 (r.dn.seed+((j:Int)+1)),Iv 0,.slice none 0 0,Iv 0,Iv 0,Iv 0] PB (j+1) pd ((PZ (Nt.FJ r j))++[Iv ((j:Int)+1),Iv r.lost,Iv r.ret,Iv r.desc,Iv r.late,Iv r.every,Iv r.CY,Iv 0,.bool false,Iv 0,Iv 0,Iv 0,.bool false,.bool false,.bool false,.bool false,Iv 0,Iv 0,Iv 0,Iv 0,Iv 0,Iv 0,Iv 0,Iv 0]) UB (j+1) ud ((IS r.up (·.up) 0 (Nt.FJ r j) (List.replicate j (none,0)))++[Iv r.up.BY,Iv r.up.AY,Iv r.up.least,Iv r.up.BU,Iv (r.up.seed+((j:Int)+1)),.int .u64 (r.up.seed+((j:Int)+1)),Iv 0,.slice none 0 0,Iv 0,Iv 0,Iv 0]) VB (j+1) vd ((IS r.dn (·.dn) 0 (Nt.FJ r j) (List.replicate j (none,0)))++[Iv r.dn.BY,Iv r.dn.AY,Iv r.dn.least,Iv r.dn.BU,Iv (r.dn.seed+((j:Int)+1)),.int .u64 (r.dn.seed+((j:Int)+1)),Iv 0,.slice none 0 0,Iv 0,Iv 0,Iv 0]) b1 b2 b3):
  RLp r n NA NS KA BA A4 c4 A5 c5 p U PB pd UB ud VB vd (j+1) (((V.setCell (Ad p 34) (.slice PB (j+1) pd)).setCell (Ad p 35) (.slice UB (j+1) ud)).setCell (Ad p 36) (.slice VB (j+1) vd)):=by
 (have e1:PZ (Nt.FJ r (j+1))=(PZ (Nt.FJ r j))++[Iv ((j:Int)+1),Iv r.lost,Iv r.ret,Iv r.desc,Iv r.late,Iv r.every,Iv r.CY,Iv 0,.bool false,Iv 0,Iv 0,Iv 0,.bool false,.bool false,.bool false,.bool false,Iv 0,Iv 0,Iv 0,Iv 0,Iv 0,Iv 0,Iv 0,Iv 0]:=by rw[Nt.Tm,vM];rfl);(have hl:(List.replicate j ((none,0):Option Addr×Nat)).length=(Nt.FJ r j).length:=by rw[iP,Nt.NI]);(have e2:IS r.up (·.up) 0 (Nt.FJ r (j+1)) (List.replicate (j+1) (none,0))=(IS r.up (·.up) 0 (Nt.FJ r j) (List.replicate j (none,0)))++[Iv r.up.BY,Iv r.up.AY,Iv r.up.least,Iv r.up.BU,Iv (r.up.seed+((j:Int)+1)),.int .u64 (r.up.seed+((j:Int)+1)),Iv 0,.slice none 0 0,Iv 0,Iv 0,Iv 0]:=by exact Lf);(have e3:IS r.dn (·.dn) 0 (Nt.FJ r (j+1)) (List.replicate (j+1) (none,0))=(IS r.dn (·.dn) 0 (Nt.FJ r j) (List.replicate j (none,0)))++[Iv r.dn.BY,Iv r.dn.AY,Iv r.dn.least,Iv r.dn.BU,Iv (r.dn.seed+((j:Int)+1)),.int .u64 (r.dn.seed+((j:Int)+1)),Iv 0,.slice none 0 0,Iv 0,Iv 0,Iv 0]:=by exact Lf);(have q1:∀g,AK PB=some g->g≠p:=λg hg=>(h.w1.ty hg).ne ⟨_,h.hp⟩ Fj);(have q2:∀g,AK UB=some g->g≠p:=λg hg=>(h.w2.ty hg).ne ⟨_,h.hp⟩ Fj);(have q3:∀g,AK VB=some g->g≠p:=λg hg=>(h.w3.ty hg).ne ⟨_,h.hp⟩ Fj);refine⟨?_,?_,?_,?_,?_,h.d⟩
 ·have:=AP (AP (AP h.hp 34 (.slice PB (j+1) pd)) 35 (.slice UB (j+1) ud)) 36 (.slice VB (j+1) vd);simp only[Q8] at this;exact this
 ·rw[e1];exact((h.w1.FY (p:=(Ad p 34)) q1 _).FY (p:=(Ad p 35)) q1 _).FY (p:=(Ad p 36)) q1 _
 ·rw[e2];exact((h.w2.FY (p:=(Ad p 34)) q2 _).FY (p:=(Ad p 35)) q2 _).FY (p:=(Ad p 36)) q2 _
 ·rw[e3];exact((h.w3.FY (p:=(Ad p 34)) q3 _).FY (p:=(Ad p 35)) q3 _).FY (p:=(Ad p 36)) q3 _
 ·exact((h.kU.setCell (p:=(Ad p 34)) (.inl rfl) _).setCell (p:=(Ad p 35)) (.inl rfl) _).setCell (p:=(Ad p 36)) (.inl rfl) _
def A3M(m:RN):Prop:=(∀q,AK m.UA=some q->AK m.VA≠some q)/\(∀q,AK m.BA=some q->AK m.OA≠some q/\AK m.TA≠some q)/\(∀q,AK m.KA=some q->AK m.A≠some q)/\∀q,¬m.av q
theorem gm(v:Value)(n:Nat):(madeCells #[v] (n*1)).toList=List.replicate n v:=by
 apply eT;intro i
 by_cases hi:i<n
 ·simp[madeCells,hi,Nat.mod_one]
 ·rw[R3 (by rw[Array.length_toList,fW];omega),R3 (by rw[iP];omega)]
theorem RLp.done{r:Nt.Ru}{j NA NS KA BA:Nat}{A4:Option Addr}{c4:Nat}{A5:Option Addr}{c5 p:Nat}{U wr:World}{PA:Option Addr}{pc:Nat}{UA:Option Addr}{uc:Nat}{VA:Option Addr}{vc base:Nat}
  (h:RLp r j NA NS KA BA A4 c4 A5 c5 p U PA pc UA uc VA vc j wr)(hn:r.CJ.length=j)(hm:r.BL.length=j)(hg:(j:Int)=r.n)(hj:j<=1000)(hb:base<=U.heap.size)(hp:base<=p)(hK:base<=KA)(hB:base<=BA)
  (DJ:Q9 U none 0 (some (Ad NA 0)) j (some (Ad NS 0)) j (AJ.new j r.again))(ho:Row U base 3 1 A4 j c4 (Rt r.CJ))(ht:Row U base 3 1 A5 j c5 (Rt r.BL))
  (hk:U.heap[KA]?=some (.cells (madeCells #[.bool false] (j*1)) 4 (0,0)))(aK:U.heap[BA]?=some (.cells (madeCells #[Iv 0] ((j+1)*1)) 3 (0,0)))(Ze:Ty U p 55)(hBO:∀q,AK A4=some q\/AK A5=some q->q≠BA)(hKN:KA≠NA):
  ∃m,ij wr base p (λi=>base<=i) m (Nt.new r)/\A3M m:=by
 obtain⟨g1,g2,g3,g4,g5,g6⟩:=h;(have e:Nt.new r=Nt.Rc r j:=by unfold Nt.new;rw[hn]);have hlen:(Nt.Rc r j).cr.length=j:=Nt.NI r j;rw[e];refine⟨⟨A4,c4,A5,c5,none,0,some (Ad NA 0),j,some (Ad NS 0),j,PA,pc,UA,uc,VA,vc,some (Ad KA 0),j,some (Ad BA 0),j+1,none,0,List.replicate j (none,0),List.replicate j (none,0),λ_=>False⟩,⟨?_,?_,?_,?_,?_,?_,?_,?_,?_,Row.nil _ _ _ _,?_,?_,?_,hp⟩,g6,λq hq=>⟨λjY=> ?_,λjY=> ?_⟩,λq hq jY=> ?_,λq hq=>hq⟩
 ·rw[g1];simp[lO,zj,Nt.Rc,Nt.NI,hn,hm,hg,AJ.new,AJ.data]
 ·have:=DJ.Tp g5 (λi hi _=>⟨55,by rw[hi];exact Ze,by decide,by decide,by decide⟩);simpa[Nt.Rc,hn] using this
 ·have:=ho.kept g5 (λg Yq hh=>(ho.ty Yq).ne Ze Fj hh);simpa[Nt.Rc,hn] using this
 ·have:=ht.kept g5 (λg Yq hh=>(ht.ty Yq).ne Ze Fj hh);simpa[Nt.Rc,hm] using this
 ·rw[hlen];exact g2.more hb
 ·rw[hlen];exact g3.more hb
 ·rw[hlen];exact g4.more hb
 ·have hk':=AR hk g5 (λhh=>Ty.ne ⟨_,hk⟩ Ze Fj hh);rw[hlen];refine Row.FK hk' hK (Lr _) (show j<=maxLen by unfold maxLen;omega) (by rw[fW];show 0+j*1<=j*1;omega) ?_;rw[bV,gm];simp[Nt.Rc,hn,GY]
 ·have hk':=AR aK g5 (λhh=>Ty.ne ⟨_,aK⟩ Ze Fj hh);rw[hlen];refine Row.FK hk' hB (Lr _) (show j+1<=maxLen by unfold maxLen;omega) (by rw[fW];show 0+(j+1)*1<=(j+1)*1;omega) ?_;rw[bV,gm];have hs:∀k,(Nt.FJ r k).map (·.s)=List.replicate k 0:=λk=>by
   induction k with
   |zero=>rfl
   |succ k ih=>rw[Nt.Tm,bW,ih,List.replicate_succ'];rfl
  simp[Nt.Rc,eJ,hs,Rt,List.replicate_succ]
 ·exact⟨by rw[hlen];exact iP,by rw[hlen];exact iP⟩
 ·intro i hi;exact Ju
 ·intro i hi;exact Ju
 ·cases hq;exact hBO _ (.inl jY) rfl
 ·cases hq;exact hBO _ (.inr jY) rfl
 ·cases hq;cases jY;exact hKN rfl
end
end Go.Proofs.YtdocdgcdldpagaaGreat

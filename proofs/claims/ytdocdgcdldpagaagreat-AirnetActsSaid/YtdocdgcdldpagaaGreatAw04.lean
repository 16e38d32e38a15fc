import Derived.Test.YtdocdgcdldpagaaGreatAw01
open Go.Proofs.Tryz
namespace Go.Proofs.YtdocdgcdldpagaaGreat
set_option maxHeartbeats 64000000
set_option maxRecDepth 100000
set_option linter.all false
section
open RowKit
attribute [local go_sem ↓] wp_at_zero wp_at_succ
section
variable{P:Program}{w:World}
theorem XR{o:Oper}{a:Act}{K:Act->World->Prop}{Q:Exit->Act->World->Prop}(d s:Operand)(dT sT:TypeId)
  (ho:o.op= .call {callee:= .builtin .copy,args:= #[d,s],argTypes:= #[dT,sT]})(elem:TypeId)(hu:P.underlying dT=some (.slice elem))(size:Nat)(VF:(P.info? elem).map (·.size)=some size)
  (g off Yz fq:Nat)(ad:Addr)(Xp bs:Nat)(hd:a.eval d= .slice (some (Ad g off)) Yz fq)(hs:a.eval s= .slice (some ad) Xp bs)
  (cur:Array Value)(t:TypeId)(hg:w.heap[g]?=some (.cells cur t (0,0)))(cs:List Value)(k:Nat)(hk:k=Nat.min Xp Yz)(hn:cs.length=k*size)
  (dh:∀j v,cs[j]?=some v->w.cell? (ad.add j)=some v)(Px:off+cs.length<=cur.size)(h1:∀v∈cs,v.oneCell'=true)
  (h:∀w',Hid (w'.heap[g]?=some (.cells (splice cur.toList off cs).toArray t (0,0)))->w.grownBy w' (some g)->K (a.put o.dst (goInt k)) w'):o.wp P a w K Q:=by
 have hr:=eP (P:=P) w dT sT o.type elem size g off Yz fq ad Xp bs cur t cs hu VF hg k hk hn dh Px h1;unfold Oper.wp execOp;simp only[ho,resolve,invoke,builtin,eQ,Sem.run_pure,Result.andThen_ok,List.map_toArray,me,fS,hd,hs,hr];exact h _ (MR w g cur _ t _ hg) ⟨rfl,rfl,rfl,by simp[World.setRow],λj _ hj=>Pq w g j _ (λe=>hj (by rw[e]))⟩
theorem TQ{ops:Array Oper}{rest:List Oper}{o:Oper}{a:Act}{Q:Exit->Act->World->Prop}(hgd:o.guard=none)(d s:Operand)(dT sT:TypeId)
  (ho:o.op= .call {callee:= .builtin .copy,args:= #[d,s],argTypes:= #[dT,sT]})(elem:TypeId)(hu:P.underlying dT=some (.slice elem))(size:Nat)(VF:(P.info? elem).map (·.size)=some size)
  (g off Yz fq:Nat)(ad:Addr)(Xp bs:Nat)(hd:a.eval d= .slice (some (Ad g off)) Yz fq)(hs:a.eval s= .slice (some ad) Xp bs)
  (cur:Array Value)(t:TypeId)(hg:w.heap[g]?=some (.cells cur t (0,0)))(cs:List Value)(k:Nat)(hk:k=Nat.min Xp Yz)(hn:cs.length=k*size)
  (dh:∀j v,cs[j]?=some v->w.cell? (ad.add j)=some v)(Px:off+cs.length<=cur.size)(h1:∀v∈cs,v.oneCell'=true)
  (h:∀w',Hid (w'.heap[g]?=some (.cells (splice cur.toList off cs).toArray t (0,0)))->w.grownBy w' (some g)->wpList P ops Q rest (a.put o.dst (goInt k)) w'):wpList P ops Q (o::rest) a w:=
 wpList_plain hgd λ_ hK=>XR d s dT sT ho elem hu size VF g off Yz fq ad Xp bs hd hs cur t hg cs k hk hn dh Px h1 λw' a b=>hK _ _ (h w' a b)
theorem VK{ops:Array Oper}{o:Oper}{a:Act}{K:Act->World->Prop}{Q:Exit->Act->World->Prop}{E:Prop}(hgd:o.guard=none)(d s:Operand)(dT sT:TypeId)
  (ho:o.op= .call {callee:= .builtin .copy,args:= #[d,s],argTypes:= #[dT,sT]})(elem:TypeId)(hu:P.underlying dT=some (.slice elem))(size:Nat)(VF:(P.info? elem).map (·.size)=some size)
  (g off Yz fq:Nat)(ad:Addr)(Xp bs:Nat)(hd:a.eval d= .slice (some (Ad g off)) Yz fq)(hs:a.eval s= .slice (some ad) Xp bs)
  (cur:Array Value)(t:TypeId)(hg:w.heap[g]?=some (.cells cur t (0,0)))(cs:List Value)(k:Nat)(hk:k=Nat.min Xp Yz)(hn:cs.length=k*size)
  (dh:∀j v,cs[j]?=some v->w.cell? (ad.add j)=some v)(Px:off+cs.length<=cur.size)(h1:∀v∈cs,v.oneCell'=true)
  (h:∀w',Hid (w'.heap[g]?=some (.cells (splice cur.toList off cs).toArray t (0,0)))->w.grownBy w' (some g)->K (a.put o.dst (goInt k)) w'):
  if Region.wanted o (yielded ops a.tmps)=true then Oper.wp P o a w K Q else E:=by
 (refine K3P ?_;intro hw);exact XR d s dT sT ho elem hu size VF g off Yz fq ad Xp bs hd hs cur t hg cs k hk hn dh Px h1 h
end
theorem mU:(prog.info? 175).map (λi=>(i.zero,i.size,i.bytes))=some (some (.agg #[Iv 0,.string ⟨#[]⟩]),2,24):=by kernel_rfl
theorem Yi:(prog.info? 175).map (·.size)=some 2:=by kernel_rfl
theorem qo:∀w,(Go.sizeOf 175).run prog w= .ok 2 w:=λw=>by kernel_rfl
def aT(base:Nat)(A:Option Addr)(n:Nat)(ys:List Value)(w:World)(e:Ending)(w':World):Prop:=
 ∃A' c',e= .returned (.slice A' (n+1) c')/\Row w' base 175 2 A' (n+1) c' ys/\w.grownBy w' (AK A)/\(AK A'=AK A\/∃g,AK A'=some g/\w.heap.size<=g)
theorem A2N(A:Option Addr)(n c:Nat)(xs news:List Value)(vb:Nat)(base:Nat)(w:World)(CF:Row w base 175 2 A n c xs)(hn:n<=1000000)
  (hv:w.heap[vb]?=some (.cells news.toArray 175 (0,0)))(oO:news.length=2)(h1:∀v∈news,v.oneCell'=true)(BJ:base<=w.heap.size):
  Calls prog 172 #[.slice A n c,Iv n,.slice (some (Ad vb 0)) 1 1] w (aT base A n (xs++news) w):=by
 obtain⟨i0,OU,RR,IJ,Ot⟩:=MQ mU;have hle:=CF.le;obtain⟨AbP,A9l⟩:=hle;unfold maxLen at A9l;have HR:=Hd CF;have HV:=Hd hv;have HL:=Hd oO;clear hv CF oO
 cases A with
 |none=>
  rcases HR.out.2 with⟨_,h0,h00⟩|⟨g,o,cur,he,_⟩
  ·(subst h0;subst h00);go_enter func172,ntmps172;go_wp2_with (at_builtin;refine JE rfl (.tmp 23) (.tmp 24) _ rfl base 175 i0 _ 2 24 underlying170 OU RR IJ Ot rfl none 0 0 xs rfl HR.out (Ad vb 0) 1 1 news rfl Fe (λj u hu=>by rw[CP,PL];exact AB HV.out j hu) h1 Ft Ee Ft BJ ?_;intro A' c' w' FZ hg JV);exact Lm
  ·cases he
 |some ad=>
  by_cases hcn:c=n
  all_goals
   (first|subst hcn|skip);go_enter func172,ntmps172;go_wp2_with (at_builtin;refine JE rfl (.tmp 23) (.tmp 24) _ rfl base 175 i0 _ 2 24 underlying170 OU RR IJ Ot rfl (some ad) _ _ xs rfl HR.out (Ad vb 0) 1 1 news rfl Fe (λj u hu=>by rw[CP,PL];exact AB HV.out j hu) h1 Ft Ee Ft BJ ?_;intro A' c' w' FZ hg JV);exact Lm
theorem A1q{α:Type}(cur:List α)(o i n:Nat)(xs news:List α)(hx:(cur.drop o).take (n*2)=xs)(U3:i<n)(hn:news.length=2)(hL:o+(n+1)*2<=cur.length)(XM:xs.length=n*2):
  ((splice (splice cur (o+(i+1)*2) (xs.drop (i*2))) (o+i*2) news).drop o).take ((n+1)*2)=xs.take (i*2)++(news++xs.drop (i*2)):=by
 (have hd:(xs.drop (i*2)).length=(n-i)*2:=by rw[Xu,XM];omega);apply eT;intro j;simp only[splice,VU,TF,List.getElem?_append,Ul,TW,Xu,hn,hd,XM];have hxj:∀j,j<n*2->xs[j]?=cur[o+j]?:=λj hj=>by rw[<-hx,VU,AW hj,TF]
 by_cases h1:j<i*2
 ·rw[hxj j Ft];exact Le
 ·by_cases h2:j<i*2+2
  ·simp only[show j<(n+1)*2 by omega,WV];exact J4
  ·by_cases h3:j<(n+1)*2
   ·simp only[h3,WV];exact J4
   ·rw[AO h3];exact L9
theorem A0G(g o n c i:Nat)(xs news:List Value)(vb:Nat)(base:Nat)(w:World)(CF:Row w base 175 2 (some (Ad g o)) n c xs)(hn:n<=1000000)(hi:i<n)(np:n+1<=c)
  (hv:w.heap[vb]?=some (.cells news.toArray 175 (0,0)))(oO:news.length=2)(h1:∀v∈news,v.oneCell'=true)(tz:∀v∈xs,v.oneCell'=true)(LX:vb≠g):
  Calls prog 172 #[.slice (some (Ad g o)) n c,Iv i,.slice (some (Ad vb 0)) 1 1] w (aT base (some (Ad g o)) n (xs.take (i*2)++(news++xs.drop (i*2))) w):=by
 obtain⟨g',o',cur,he,hbg,EK,hg,Xz,GC,Px,OW,DD,_⟩:=CF.some_ Ft;(injection he with he;injection he with e1 e2);(subst e1;subst e2);have XM:=CF.1;(have eB:w.shape? vb=some (175,2):=by simp[World.shape?,hv,oO]);(have hsg:w.shape? g=some (175,cur.size):=by simp[World.shape?,hg]);have hov:∀lb cb,(callFunc 178 #[.slice (some (Ad vb 0)) 1 1,.slice (some (Ad g (o+(i+1)*2))) lb cb]).run prog w= .ok (.value (.bool false)) w:=λlb cb=>by
  rw[run_callFunc_extern func178 Ff Ff Ff (e:=Extern.SlicesOverlaps.overlaps #[170,170] #[4]) Ff,
   Lib.run_overlaps_apart w 170 4 175 underlying170 2 qo (Ad vb 0) (Ad g (o+(i+1)*2)) 1 1 lb cb LX 175 175 2 cur.size eB hsg Ft (AE hv 0) (AE hv 2)]
  rfl
 (have GZ:(xs.drop (i*2)).length=(n-i)*2:=by rw[Xu,XM];omega);unfold maxLen at GC;(have b1:¬(c=i+1):=by omega);(have b2:¬(c=i):=by omega);(have b3:(i:Int)<=(n:Int):=by omega);(have b4:(i:Int)+1<=(n:Int)+1:=by omega);(have b5:(i:Int)<=(n:Int)+1:=by omega);(have b6:(n:Int)+1<=(c:Int):=by omega);have b7:((i:Int)==(n:Int))=false:=JJ Ft;(have b8:(0:Int)<=(i:Int)+1:=by omega);(have b9:(0:Int)<=(n:Int)+1:=by omega);have w1:=GF ((i:Int)+1) Ft;have w2:=GF ((n:Int)+1) Ft;(have t1:((i:Int)+1).toNat=i+1:=by omega);(have t2:((n:Int)+1).toNat=n+1:=by omega);have HX:=Hd OW;have HL:=Hd oO;have HC:=Hd DD;have HG:=Hd hg;have HV:=Hd hv;have HXL:=Hd XM;have HD:=Hd GZ;clear OW oO DD hg hv XM GZ eB hsg CF;go_enter func172,ntmps172;go_wp2_with (simp only[hov]);go_region_law (refine VK rfl (.tmp 73) (.tmp 76) _ _ rfl 175 underlying170 2 Yi g (o+(i+1)*2) (n+1-(i+1)) (c-(i+1)) (Ad g (o+i*2)) (n+1-i) (c-i) Dn Dn cur _ HG.out (xs.drop (i*2)) (n-i) Dt HD.out (λj v hj=>by rw[CP,TE];exact HC.out _ _ (by rwa [TF] at hj)) (by rw[HD.out];omega) (λv hv=>tz v (vF hv)) ?_;intro wA hG1 GQ);have hG1':=hG1.out;have hV1:=(GQ.block vb (BG HV.out) Fp).trans HV.out;have e1:(xs.drop (i*2)).length=(n-i)*2:=HD.out;have e2:news.length=2:=HL.out;(have VF:(splice cur.toList (o+(i+1)*2) (xs.drop (i*2))).length=cur.size:=by rw[fV _ _ _ (by rw[e1];simp;omega)];simp);have HV1:=Hd hV1;have HG1:=Hd hG1';have oW:=Hd VF;clear hG1' hV1 e1 e2 VF hov;go_wp2_with (refine TQ rfl (.tmp 80) (.tmp 81) _ _ rfl 175 underlying170 2 Yi g (o+i*2) (n+1-i) (c-i) (Ad vb 0) 1 1 rfl rfl _ _ HG1.out news 1 Dt Fe (λj v hj=>by rw[CP,PL];exact AB HV1.out j hj) (by rw[cf,oW.out,HL.out];omega) h1 ?_;intro wB yd Ts);go_ret;refine⟨some (Ad g o),c,rfl,Row.FK yd.out hbg Ft Ee ?_ ?_,⟨Ts.os.trans GQ.os,Ts.tape.trans GQ.tape,Ts.output.trans GQ.output,Lt GQ.size Ts.size,λk hk LX=>(Ts.block k (Sv hk GQ.size) LX).trans (GQ.block k hk LX)⟩,.inl rfl⟩
 ·rw[cf,fV _ _ _ (by rw[List.toList_toArray,oW.out,HL.out];omega),List.toList_toArray,oW.out];omega
 ·simp only[List.toList_toArray];exact A1q cur.toList o i n xs news HX.out hi HL.out Fp HXL.out
theorem xp{α:Type}(Z:List α)(i n:Nat)(xs news:List α)(hf:∀j,j<i*2->Z[j]?=xs[j]?)(U3:i<n)(hn:news.length=2)(hL:(n+1)*2<=Z.length)(XM:xs.length=n*2):
  ((splice (splice Z (i*2) news) ((i+1)*2) (xs.drop (i*2))).drop 0).take ((n+1)*2)=xs.take (i*2)++(news++xs.drop (i*2)):=by
 (have hd:(xs.drop (i*2)).length=(n-i)*2:=by rw[Xu,XM];omega);apply eT;intro j;simp only[splice,VU,bV,TF,List.getElem?_append,Ul,TW,Xu,hn,hd,XM]
 by_cases h1:j<i*2
 ·rw[<-hf j h1];exact Le
 ·by_cases h2:j<i*2+2
  ·simp only[show j<(n+1)*2 by omega,WV];exact J4
  ·by_cases h3:j<(n+1)*2
   ·simp only[h3,WV];exact J4
   ·rw[AO h3];exact L9
theorem A0I(g o n c i:Nat)(xs news:List Value)(vb:Nat)(base:Nat)(w:World)(CF:Row w base 175 2 (some (Ad g o)) n c xs)(hn:n<=1000000)(hi:i<n)(np:c<n+1)
  (hv:w.heap[vb]?=some (.cells news.toArray 175 (0,0)))(oO:news.length=2)(h1:∀v∈news,v.oneCell'=true)(tz:∀v∈xs,v.oneCell'=true)(BJ:base<=w.heap.size):
  Calls prog 172 #[.slice (some (Ad g o)) n c,Iv i,.slice (some (Ad vb 0)) 1 1] w (aT base (some (Ad g o)) n (xs.take (i*2)++(news++xs.drop (i*2))) w):=by
 obtain⟨g',o',cur,he,hbg,EK,hg,Xz,GC,Px,OW,DD,_⟩:=CF.some_ Ft;(injection he with he;injection he with e1 e2);(subst e1;subst e2);obtain⟨i0,OU,RR,IJ,Ot⟩:=MQ mU;(obtain rfl:c=n:=by omega);have XM:=CF.1;(have GZ:(xs.drop (i*2)).length=(c-i)*2:=by rw[Xu,XM];omega);(have htl:(xs.take (i*2)).length=i*2:=by rw[Ul,XM];omega);(have hkk:(((c+1-i:Nat)):Int)=(c:Int)+1-(i:Int):=by omega);have Zf:=Lib.run_append_grow_zeros (P:=prog) w 170 3 170 175 i0 _ .i64 .i64 underlying170 underlying3 OU RR (some (Ad g o)) i c (xs.take (i*2))
  (sW (P:=prog) w.drew i0.size i _ i c (xs.take (i*2)) (by rw[IJ,htl]) (λj u hu=>by rw[CP];rw[VU] at hu;split at hu;(· exact DD j u hu);(· cases hu))) (c+1-i) Ft Ft Ft Ft Ez
  (Lt (cg _ (nextslicecap_le Ft)) Ez)
 rw[hkk,show i+(c+1-i)=c+1 by omega] at Zf;have jj:=grownCap_ge w (c+1) c 175;have hGm:=grownCap_le_maxLen w (c+1) c 175 Ee;(have Zh:((xs.take (i*2)).toArray++Builtin.zeroCells (Value.agg #[Iv 0,.string ⟨#[]⟩]).cells (c+1-i)++Builtin.zeroCells (Value.agg #[Iv 0,.string ⟨#[]⟩]).cells (grownCap w (c+1) c 175-(c+1))).size=grownCap w (c+1) c 175*2:=by simp only[Array.size_append,size_zeroCells,cf,htl,show(Value.agg #[Iv 0,.string ⟨#[]⟩]).cells.size=2 from rfl];omega);(have qR:∀j,j<i*2->((xs.take (i*2)).toArray++Builtin.zeroCells (Value.agg #[Iv 0,.string ⟨#[]⟩]).cells (c+1-i)++Builtin.zeroCells (Value.agg #[Iv 0,.string ⟨#[]⟩]).cells (grownCap w (c+1) c 175-(c+1))).toList[j]?=xs[j]?:=λj hj=>by simp only[Array.toList_append];rw[a8,mj (by rw[htl];exact hj),VU,AW hj]);generalize((xs.take (i*2)).toArray++Builtin.zeroCells (Value.agg #[Iv 0,.string ⟨#[]⟩]).cells (c+1-i)++Builtin.zeroCells (Value.agg #[Iv 0,.string ⟨#[]⟩]).cells (grownCap w (c+1) c 175-(c+1)))=Z at Zf Zh qR;generalize grownCap w (c+1) c 175=G at Zf Zh jj hGm;unfold maxLen at GC hGm;(have b1:¬(G=i+1):=by omega);(have b2:¬(G=i):=by omega);(have b2':¬(c=i):=by omega);(have b3:(i:Int)<=(c:Int):=by omega);(have b4:(i:Int)+1<=(c:Int)+1:=by omega);(have b5:(i:Int)<=(c:Int)+1:=by omega);(have b6:(c:Int)+1<=(G:Int):=by omega);have b7:((i:Int)==(c:Int))=false:=JJ Ft;(have b8:(0:Int)<=(i:Int)+1:=by omega);(have b9:(0:Int)<=(c:Int)+1:=by omega);have w1:=GF ((i:Int)+1) Ft;have w2:=GF ((c:Int)+1) Ft;have w3:=GF ((c:Int)+1-(i:Int)) Ft;(have t1:((i:Int)+1).toNat=i+1:=by omega);(have t2:((c:Int)+1).toNat=c+1:=by omega);have HX:=Hd OW;have HL:=Hd oO;have HC:=Hd DD;have HG:=Hd hg;have HV:=Hd hv;have HXL:=Hd XM;have HD:=Hd GZ;have HR:=Hd Zf;have HZ:=Hd Zh;have HF:=Hd qR;clear OW oO DD hg hv XM GZ CF Zf Zh qR hkk htl;go_enter func172,ntmps172;go_wp2_with (first|(at_builtin;refine Lib.wpList_append_run _ rfl (.tmp 34) (.tmp 39) _ _ rfl _ _ rfl rfl _ _ HR.out ?_)|(refine TQ rfl (.tmp 43) (.tmp 44) _ _ rfl 175 underlying170 2 Yi w.heap.size (i*2) (c+1-i) (G-i) (Ad vb 0) 1 1 rfl rfl _ _ (by first|exact AM w _|exact AM w.drew _) news 1 Dt Fe (λj v hj=>by rw[CP,PL];exact AB ((bX w.drew _ vb (BG HV.out)).trans HV.out) j hj) (by rw[HL.out,HZ.out];omega) h1 ?_;intro wA hG1 GQ));have hG1':=hG1.out;have Om:=GQ.size;(try simp at Om);have hO1:=(GQ.block g Fp Fp).trans ((bX w.drew _ g EK).trans HG.out);(have VF:(splice Z.toList (i*2) news).length=G*2:=by rw[fV _ _ _ (by rw[HL.out];simp[HZ.out];omega)];simp[HZ.out]);have oD:=Hd hO1;have HG1:=Hd hG1';have oW:=Hd VF;clear hG1 hG1' hO1 VF;go_wp2_with fail;go_region_law (refine VK rfl (.tmp 50) (.tmp 53) _ _ rfl 175 underlying170 2 Yi w.heap.size ((i+1)*2) (c+1-(i+1)) (G-(i+1)) (Ad g (o+i*2)) (c-i) (c-i) Dn Dn _ _ HG1.out (xs.drop (i*2)) (c-i) Dt HD.out (λj v hj=>by rw[CP,TE];have:=HC.out _ _ (by rwa [TF] at hj);exact(Cb (w:=w) (w':=wA) (a:=(Ad g (o+(i*2+j)))) (oD.out.trans HG.out.symm)).trans this) (by rw[cf,oW.out,HD.out];omega) (λv hv=>tz v (vF hv)) ?_;intro wB yd Ts);go_wp2_with fail;go_ret;have Wj:=Ts.size;refine⟨some (Ad w.heap.size 0),G,rfl,Row.FK yd.out BJ Ft Ee ?_ ?_,⟨Ts.os.trans GQ.os,Ts.tape.trans GQ.tape,Ts.output.trans GQ.output,by have:w.heap.size+1<=wB.heap.size:=Lt Om Ts.size;omega,λk hk LX=>(Ts.block k (by show k<wA.heap.size;omega) Fp).trans ((GQ.block k Fp Fp).trans (bX w.drew _ k hk))⟩,.inr ⟨_,rfl,Lr _⟩⟩
 ·rw[cf,fV _ _ _ (by rw[List.toList_toArray,oW.out,HD.out];omega),List.toList_toArray,oW.out];omega
 ·simp only[List.toList_toArray];exact xp Z.toList i c xs news HF.out hi HL.out (by simp[HZ.out];omega) HXL.out
theorem tu(A:Option Addr)(n c i:Nat)(xs news:List Value)(vb:Nat)(base:Nat)(w:World)(CF:Row w base 175 2 A n c xs)(hn:n<=1000000)(hi:i<=n)
  (hv:w.heap[vb]?=some (.cells news.toArray 175 (0,0)))(oO:news.length=2)(h1:∀v∈news,v.oneCell'=true)(tz:∀v∈xs,v.oneCell'=true)(LX:AK A≠some vb)(BJ:base<=w.heap.size):
  Calls prog 172 #[.slice A n c,Iv i,.slice (some (Ad vb 0)) 1 1] w (aT base A n (xs.take (i*2)++(news++xs.drop (i*2))) w):=by
 rcases Oj i n with h|h
 ·obtain⟨g,o,cur,rfl,_⟩:=CF.some_ Ft
  rcases Oj c (n+1) with hc|hc
  ·exact A0I g o n c i xs news vb base w CF hn h hc hv oO h1 tz BJ
  ·exact A0G g o n c i xs news vb base w CF hn h hc hv oO h1 tz (λe=>LX (by rw[e];rfl))
 ·(obtain rfl:i=n:=by omega);have:=A2N A i c xs news vb base w CF hn hv oO h1 BJ;rw[R8 (by rw[CF.1];omega),List.drop_eq_nil_of_le (by rw[CF.1];omega),List.append_nil];exact this
end
section
open RowKit
set_option maxRecDepth 512
theorem Oo(w:Nat)(a:Nat)(ha:a<2^w):(BitVec.ofInt w (a:Int)).toNat=a:=by
 rw[BitVec.ofInt_natCast,BitVec.toNat_ofNat];exact Nat.mod_eq_of_lt ha
theorem u16_xor(a b:Nat)(ha:a<65536)(hb:b<65536):bits .xor .u16 (a:Int) (b:Int)=((a^^^b:Nat):Int):=by
 have hx:a^^^b<65536:=AQ.YY ha hb;show IntKind.u16.wrap ((BitVec.ofInt 16 (a:Int)^^^BitVec.ofInt 16 (b:Int)).toNat:Int)=_;rw[BitVec.toNat_xor,Oo 16 a ha,Oo 16 b hb,IntKind.wrap_u16];omega
theorem A2R(a b:Nat)(ha:a<65536)(hb:b<65536):bits .xor .i64 (a:Int) (b:Int)=((a^^^b:Nat):Int):=by
 have hx:a^^^b<65536:=AQ.YY ha hb;show IntKind.i64.wrap ((BitVec.ofInt 64 (a:Int)^^^BitVec.ofInt 64 (b:Int)).toNat:Int)=_;rw[BitVec.toNat_xor,Oo 64 a Ft,Oo 64 b Ft,sQ];omega
theorem uD{c:Nat}{y:Int}(hc:c<65536)(hy:0<=y/\y<256):bits .xor .u16 (c:Int) (y*256)=((c^^^(y.toNat*256):Nat):Int):=by
 rw[<-u16_xor c _ hc Ft];congr 1;omega
theorem sj{d:Nat}(h:((d:Int)/32768==1)=true):bits .xor .u16 (IntKind.u16.wrap ((d:Int)*2)) 4129=((AQ.step d:Nat):Int):=by
 (have h':d/32768=1:=by have:=eq_of_beq h;omega);rw[AQ.step,AW h',<-u16_xor _ _ (Nat.mod_lt _ Fj) Fj,IntKind.wrap_u16];congr 1
theorem yq{d:Nat}(h:((d:Int)/32768==1)=false):IntKind.u16.wrap ((d:Int)*2)=((AQ.step d:Nat):Int):=by
 (have h':¬d/32768=1:=by intro e;have:=ne_of_beq_false h;omega);rw[AQ.step,AO h',IntKind.wrap_u16];omega
theorem Ww(l:List Int)(k:Nat)(h:k<l.length):l.take (k+1)=l.take k++[l.getD k 0]:=by
 rw[eV h];simp[List.getD,Gg h]
theorem By.take{l:List Int}(h:By l)(k:Nat):By (l.take k):=λx hx=>h x (cj hx)
theorem sk(A:Option Addr)(n cap:Nat)(l:List Int)(w:World)(hn:n<=140737488355328)(h:Rd w w.heap.size A n l):
  Calls prog 151 #[.slice A n cap] w (LP (Iv (AQ.S2 l:Nat)) w):=by
 obtain⟨hl,hb,hr⟩:=h;have HL:=Hd hl;have HB:=Hd hb;clear hl hb;go_enter func151,ntmps151;go_wp2_with fail;go_loop [3,9] (λs3 s9=>∃(k:Nat),s9=Iv k/\k<=n/\s3= .int .u16 (AQ.S2 (l.take k):Nat)) (λ_ s9=>n-(intOf s9).toNat)
 case atStart=>exact⟨0,by go_num,by omega,by simp[AQ.S2]⟩
 case round=>
  obtain⟨k,rfl,hk,rfl⟩:=hrel;have hc:=AQ.YC (HB.out.take k)
  by_cases EK:k<n
  ·obtain⟨b,o,rfl,QQ,GG⟩:=hr Ft;(refine K3C ?_;intro tJ MB E);generalize l.getD k 0=y at tJ MB E;generalize AQ.S2 (l.take k)=c at hc E;have F:=Hd (uD hc MB);obtain⟨y0,y1⟩:=MB;clear hr GG;go_wp2_with fail;rw[F.out];have G:=Hd (AQ.tq (AQ.YY hc (show y.toNat*256<65536 by omega)));go_loop [3,18] (λs3 s18=>∃(j:Nat),s18=Iv j/\j<=8/\s3= .int .u16 (AQ.iter j (c^^^(y.toNat*256)):Nat)) (λ_ s9=>8-(intOf s9).toNat)
   case atStart=>exact⟨0,by go_num,by omega,rfl⟩
   case round=>
    obtain⟨j,rfl,hj,rfl⟩:=hrel;have hd:=G.out j;have I:=Hd (show AQ.iter (j+1) (c^^^(y.toNat*256))=AQ.step (AQ.iter j (c^^^(y.toNat*256))) from rfl)
    by_cases Wl:j<8
    ·generalize AQ.iter j (c^^^(y.toNat*256))=d at hd I;go_wp2_with fail
     all_goals go_round
     case rel=>exact⟨j+1,by go_num,by omega,by rw[I.out];first|rw[sj Fo]|rw[yq Fo]⟩
     case measure=>simp[intOf];omega
     case rel=>exact⟨j+1,by go_num,by omega,by rw[I.out];first|rw[sj Fo]|rw[yq Fo]⟩
     case measure=>simp[intOf];omega
    ·(obtain rfl:j=8:=by omega);have E':=Hd (E.out.trans (show AQ.ZP c y.toNat=AQ.iter 8 (c^^^(y.toNat*256)) from rfl));generalize AQ.iter 8 (c^^^(y.toNat*256))=d at hd E';go_wp2_with fail;go_round
     case rel=>exact⟨k+1,by go_num,by omega,by rw[E'.out]⟩
     case measure=>simp[intOf];omega
  ·(obtain rfl:k=n:=by omega);have E:=Hd (show l.take k=l by rw[R8 Ep]);go_wp2_with fail;go_ret;exact⟨JL Fg,rfl⟩
theorem Pg{d:Nat}{y:Int}{j:Nat}{q:Int}(hd:d<65536)(hy:0<=y)(hq:q=y/((2^(7-j):Nat):Int)%2)(h:((d:Int)/32768 !=q)=false):(d:Int)%32768*2=((AQ.Xf d (y.toNat/2^(7-j)%2):Nat):Int):=by
 (have e:(d:Int)/32768=q:=by simpa using h);(have e2:d/32768=y.toNat/2^(7-j)%2:=by obtain⟨m,rfl⟩:∃m:Nat,y=m:=⟨y.toNat,by omega⟩;simp only[Int.toNat_natCast];(have:((d/32768:Nat):Int)=((m/2^(7-j)%2:Nat):Int):=by rw[Int.natCast_ediv,Int.natCast_emod,Int.natCast_ediv];exact e.trans hq);omega);rw[AQ.Xf,AW e2];omega
theorem MG{d:Nat}{y:Int}{j:Nat}{q:Int}(hd:d<65536)(hy:0<=y)(hq:q=y/((2^(7-j):Nat):Int)%2)(h:((d:Int)/32768 !=q)=true):bits .xor .i64 ((d:Int)%32768*2) 4129=((AQ.Xf d (y.toNat/2^(7-j)%2):Nat):Int):=by
 (have e:(d:Int)/32768≠q:=by simpa using h);(have e2:¬d/32768=y.toNat/2^(7-j)%2:=by obtain⟨m,rfl⟩:∃m:Nat,y=m:=⟨y.toNat,by omega⟩;simp only[Int.toNat_natCast];intro g;apply e;rw[hq];(have:((d/32768:Nat):Int)=((m/2^(7-j)%2:Nat):Int):=by rw[g]);rw[Int.natCast_ediv,Int.natCast_emod,Int.natCast_ediv] at this;exact this);rw[AQ.Xf,AO e2,<-A2R _ _ Ft Fj];congr 1
theorem lG(A:Option Addr)(n cap:Nat)(l:List Int)(w:World)(hn:n<=140737488355328)(h:Rd w w.heap.size A n l):
  Calls prog 117 #[.slice A n cap] w λe w'=>e= .returned (Iv (AQ.S2 l:Nat))/\∃q,w'=w.drewN q:=by
 obtain⟨hl,hb,hr⟩:=h;have HL:=Hd hl;have HB:=Hd hb;clear hl hb;go_enter func117,ntmps117;go_wp2_with fail;go_loopw[3,4] (λs3 s4 wr=>∃(k q:Nat),s4=Iv k/\k<=n/\s3=Iv (AQ.S2 (l.take k):Nat)/\wr=w.drewN q) (λ_ s4 _=>n-(intOf s4).toNat)
 case atStart=>exact⟨0,0,by go_num,by omega,by simp[AQ.S2],rfl⟩
 case round=>
  obtain⟨k,q,rfl,hk,rfl,rfl⟩:=hrel;have hc:=AQ.YC (HB.out.take k)
  by_cases EK:k<n
  ·obtain⟨b,o,rfl,QQ,GG⟩:=hr Ft;(refine K3C ?_;intro tJ MB E);generalize l.getD k 0=y at tJ MB E;generalize AQ.S2 (l.take k)=c at hc E;obtain⟨y0,y1⟩:=MB;have F:=Hd (AQ.xz (y:=y.toNat) hc Ft);have G:=Hd (AQ.lP (y:=y.toNat) hc);clear hr GG;go_wp2_with fail;go_loopw[3,5] (λs3 s5 wr=>∃(j q:Nat),s5=Iv (7-(j:Int))/\j<=8/\s3=Iv (AQ.Xg y.toNat j c:Nat)/\wr=w.drewN q) (λ_ s5 _=>(intOf s5+1).toNat)
   case atStart=>exact⟨0,q,by go_num,by omega,rfl,rfl⟩
   case round=>
    obtain⟨j,q,rfl,hj,rfl,rfl⟩:=hrel;have hd:=G.out j
    by_cases Wl:j<8
    ·have I:=Hd (show AQ.Xg y.toNat (j+1) c=AQ.Xf (AQ.Xg y.toNat j c) (y.toNat/2^(7-j)%2) from rfl);generalize AQ.Xg y.toNat j c=d at hd I;(have hj':j=0\/j=1\/j=2\/j=3\/j=4\/j=5\/j=6\/j=7:=by omega);clear hj Wl
     rcases hj' with rfl|rfl|rfl|rfl|rfl|rfl|rfl|rfl
     ·go_wp2_with fail;go_quiet (fail);go_wp2_with fail
      all_goals go_roundw
      case rel=>exact⟨1,_,by go_num,by omega,by rw[I.out];first|exact OP (Value.int .i64) (MG (j:=0) (q:=y/128%2) hd y0 Fu Fo)|exact OP (Value.int .i64) (Pg (j:=0) (q:=y/128%2) hd y0 Fu Fo),rfl⟩
      case measure=>simp[intOf]
      case rel=>exact⟨1,_,by go_num,by omega,by rw[I.out];first|exact OP (Value.int .i64) (MG (j:=0) (q:=y/128%2) hd y0 Fu Fo)|exact OP (Value.int .i64) (Pg (j:=0) (q:=y/128%2) hd y0 Fu Fo),rfl⟩
      case measure=>simp[intOf]
     ·go_wp2_with fail;go_quiet (fail);go_wp2_with fail
      all_goals go_roundw
      case rel=>exact⟨2,_,by go_num,by omega,by rw[I.out];first|exact OP (Value.int .i64) (MG (j:=1) (q:=y/64%2) hd y0 Fu Fo)|exact OP (Value.int .i64) (Pg (j:=1) (q:=y/64%2) hd y0 Fu Fo),rfl⟩
      case measure=>simp[intOf]
      case rel=>exact⟨2,_,by go_num,by omega,by rw[I.out];first|exact OP (Value.int .i64) (MG (j:=1) (q:=y/64%2) hd y0 Fu Fo)|exact OP (Value.int .i64) (Pg (j:=1) (q:=y/64%2) hd y0 Fu Fo),rfl⟩
      case measure=>simp[intOf]
     ·go_wp2_with fail;go_quiet (fail);go_wp2_with fail
      all_goals go_roundw
      case rel=>exact⟨3,_,by go_num,by omega,by rw[I.out];first|exact OP (Value.int .i64) (MG (j:=2) (q:=y/32%2) hd y0 Fu Fo)|exact OP (Value.int .i64) (Pg (j:=2) (q:=y/32%2) hd y0 Fu Fo),rfl⟩
      case measure=>simp[intOf]
      case rel=>exact⟨3,_,by go_num,by omega,by rw[I.out];first|exact OP (Value.int .i64) (MG (j:=2) (q:=y/32%2) hd y0 Fu Fo)|exact OP (Value.int .i64) (Pg (j:=2) (q:=y/32%2) hd y0 Fu Fo),rfl⟩
      case measure=>simp[intOf]
     ·go_wp2_with fail;go_quiet (fail);go_wp2_with fail
      all_goals go_roundw
      case rel=>exact⟨4,_,by go_num,by omega,by rw[I.out];first|exact OP (Value.int .i64) (MG (j:=3) (q:=y/16%2) hd y0 Fu Fo)|exact OP (Value.int .i64) (Pg (j:=3) (q:=y/16%2) hd y0 Fu Fo),rfl⟩
      case measure=>simp[intOf]
      case rel=>exact⟨4,_,by go_num,by omega,by rw[I.out];first|exact OP (Value.int .i64) (MG (j:=3) (q:=y/16%2) hd y0 Fu Fo)|exact OP (Value.int .i64) (Pg (j:=3) (q:=y/16%2) hd y0 Fu Fo),rfl⟩
      case measure=>simp[intOf]
     ·go_wp2_with fail;go_quiet (fail);go_wp2_with fail
      all_goals go_roundw
      case rel=>exact⟨5,_,by go_num,by omega,by rw[I.out];first|exact OP (Value.int .i64) (MG (j:=4) (q:=y/8%2) hd y0 Fu Fo)|exact OP (Value.int .i64) (Pg (j:=4) (q:=y/8%2) hd y0 Fu Fo),rfl⟩
      case measure=>simp[intOf]
      case rel=>exact⟨5,_,by go_num,by omega,by rw[I.out];first|exact OP (Value.int .i64) (MG (j:=4) (q:=y/8%2) hd y0 Fu Fo)|exact OP (Value.int .i64) (Pg (j:=4) (q:=y/8%2) hd y0 Fu Fo),rfl⟩
      case measure=>simp[intOf]
     ·go_wp2_with fail;go_quiet (fail);go_wp2_with fail
      all_goals go_roundw
      case rel=>exact⟨6,_,by go_num,by omega,by rw[I.out];first|exact OP (Value.int .i64) (MG (j:=5) (q:=y/4%2) hd y0 Fu Fo)|exact OP (Value.int .i64) (Pg (j:=5) (q:=y/4%2) hd y0 Fu Fo),rfl⟩
      case measure=>simp[intOf]
      case rel=>exact⟨6,_,by go_num,by omega,by rw[I.out];first|exact OP (Value.int .i64) (MG (j:=5) (q:=y/4%2) hd y0 Fu Fo)|exact OP (Value.int .i64) (Pg (j:=5) (q:=y/4%2) hd y0 Fu Fo),rfl⟩
      case measure=>simp[intOf]
     ·go_wp2_with fail;go_quiet (fail);go_wp2_with fail
      all_goals go_roundw
      case rel=>exact⟨7,_,by go_num,by omega,by rw[I.out];first|exact OP (Value.int .i64) (MG (j:=6) (q:=y/2%2) hd y0 Fu Fo)|exact OP (Value.int .i64) (Pg (j:=6) (q:=y/2%2) hd y0 Fu Fo),rfl⟩
      case measure=>simp[intOf]
      case rel=>exact⟨7,_,by go_num,by omega,by rw[I.out];first|exact OP (Value.int .i64) (MG (j:=6) (q:=y/2%2) hd y0 Fu Fo)|exact OP (Value.int .i64) (Pg (j:=6) (q:=y/2%2) hd y0 Fu Fo),rfl⟩
      case measure=>simp[intOf]
     ·go_wp2_with fail;go_quiet (fail);go_wp2_with fail
      all_goals go_roundw
      case rel=>exact⟨8,_,by go_num,by omega,by rw[I.out];first|exact OP (Value.int .i64) (MG (j:=7) (q:=y%2) hd y0 Fu Fo)|exact OP (Value.int .i64) (Pg (j:=7) (q:=y%2) hd y0 Fu Fo),rfl⟩
      case measure=>simp[intOf]
      case rel=>exact⟨8,_,by go_num,by omega,by rw[I.out];first|exact OP (Value.int .i64) (MG (j:=7) (q:=y%2) hd y0 Fu Fo)|exact OP (Value.int .i64) (Pg (j:=7) (q:=y%2) hd y0 Fu Fo),rfl⟩
      case measure=>simp[intOf]
    ·(obtain rfl:j=8:=by omega);rw[F.out] at hd⊢;rw[<-E.out] at hd⊢;go_wp2_with fail;go_roundw
     case rel=>exact⟨k+1,q,by go_num,by omega,rfl,rfl⟩
     case measure=>simp[intOf];omega
  ·(obtain rfl:k=n:=by omega);have E:=Hd (show l.take k=l by rw[R8 Ep]);go_wp2_with fail;go_ret;exact⟨JL Fg,q,rfl⟩
end
end Go.Proofs.YtdocdgcdldpagaaGreat

/- What HashNone asks, part 23 of 41: parts of the walks and laws, each true as it stands. -/
import Derived.Laws.EntriesVeiled
import Derived.Test.YthgdhacopamklaaGreatTAV
set_option maxHeartbeats 16000000
set_option maxRecDepth 100000
set_option linter.unusedVariables false
set_option linter.unusedSimpArgs false
namespace Go.Proofs.YthgdhacopamklaaGreat
open Go.Proofs.Tryz
section
open Go.RowKit
attribute [local go_sem] Oper.semAt_some
variable {es l : List aD} {i k : Nat} {x : aD}
section
variable {w : Wo} {base e sz n g c : Nat} {xs : List Va}
theorem tS (h:w.ownsRow base e sz (.slice (some ⟨g,0,none⟩) n c) n xs) (j:Nat) (u:Va):(w.setCell ⟨g,j,none⟩ u).ownsRow base e sz (.slice (some ⟨g,0,none⟩) n c) n (xs.set j u):=by
 obtain⟨hl,h1⟩:=h;refine⟨by rw[Zy];exact hl,.inr ?_⟩;rcases h1 with⟨h2,_⟩|⟨g',cap,cur,h2,hb,hh,hn,hm,hs,ht⟩
 ·cases h2
 ·cases h2
  have aJ:=(Qy.1 hh).1;have h' :w.heap[g]= .cells cur e (0,0):=by simpa[Xu aJ] using hh
  refine⟨g,c,cur.setIfInBounds j u,rfl,hb,?_,hn,hm,by rw[Array.size_setIfInBounds];exact hs,?_⟩
  ·show(w.heap.modify g _)[g]? =_;rw[Xu (by simpa using aJ),Array.getElem_modify_self,h'];simp
  ·rw[Array.toList_setIfInBounds,List.take_set,ht]
theorem Je (h:w.ownsRow base e sz (.slice (some ⟨g,0,none⟩) n c) n xs) (i:Nat) (hi:i≤n):w.ownsRow base e sz (.slice (some ⟨g,0,none⟩) i c) i (xs.take (i*sz)):=by
 obtain⟨hl,h1⟩:=h;have hm' :=Nat.mul_le_mul_right sz hi;refine⟨by rw[Qu,hl];exact Zh hm',.inr ?_⟩;rcases h1 with⟨h2,_⟩|⟨g',cap,cur,h2,hb,hh,hn,hm,hs,ht⟩
 ·cases h2
 ·cases h2
  exact⟨g,c,cur,rfl,hb,hh,Qh hi hn,hm,hs,by rw[←ht,List.take_take,Zh hm']⟩
end
theorem CO:∀(es:List aD) (i:Nat) (x:aD),i<es.length→((es.flatMap dC).set (i*2) (.int .u64 x.print)).set (i*2+1) (.int .u32 x.block)=(es.set i x).flatMap dC
 |[],_,_,h=>by simp at h
 |a::r,0,x,_=>rfl
 |a::r,i+1,x,h=>by
  have h1:=CO r i x (by simpa using h);rw[Qc,QH,QH,←h1,show(i+1)*2=i*2+1+1 by omega,show i*2+1+1+1=(i*2+1)+1+1 by omega];rfl
theorem Rj {w:Wo} {base g n c:Nat} (h:cV w base (.slice (some ⟨g,0,none⟩) n c) es) (hn:n=es.length) (i:Nat) (hi:i<n) (x:aD):cV ((w.setCell ⟨g,i*2,none⟩ (.int .u64 x.print)).setCell ⟨g,i*2+1,none⟩ (.int .u32 x.block)) base (.slice (some ⟨g,0,none⟩) n c) (es.set i x):=by
 unfold cV at h⊢;rw[←hn] at h;rw[Zy,←hn,←CO es i x (by omega)];exact tS (tS h _ _) _ _
theorem rZ (es:List aD) (i:Nat):(es.flatMap dC).take (i*2)=(es.take i).flatMap dC:=by
 induction es generalizing i with
 |nil=>simp
 |cons a r ih=>
  cases i with
  |zero=>simp
  |succ i=>
   rw[Zw,QH,QH,←ih i,show(i+1)*2=i*2+1+1 by omega];rfl
theorem Rk {w:Wo} {base g n c:Nat} (h:cV w base (.slice (some ⟨g,0,none⟩) n c) es) (hn:n=es.length) (i:Nat) (hi:i≤n):cV w base (.slice (some ⟨g,0,none⟩) i c) (es.take i):=by
 unfold cV at h⊢;rw[←hn] at h;rw[Qu,Zh (by omega),←rZ];exact Je h i hi
theorem GX {w:Wo} {base g n c:Nat} (h:cV w base (.slice (some ⟨g,0,none⟩) n c) es) (hn:n=es.length) (i:Nat) (hi:i≤n) (c' :Nat) (ty:TypeId):
  ∃w',(Builtin.clear_ #[90] ty #[.slice (some ⟨g,i*2,none⟩) (n - i) c']).run prog w= .ok (.tuple #[]) w'∧cV w' base (.slice (some ⟨g,0,none⟩) i c) (es.take i)∧w.grownBy w' (some g):=by
 rcases Nat.eq_or_lt_of_le hi with he|aJ
 ·subst he;refine⟨w,?_,Rk h hn i (Qg _),⟨rfl,rfl,rfl,Qg _,fun _ _ _=>rfl⟩⟩;rw[XE];simp[Builtin.clear_,run_underlying underlying90]
 ·have h0:=h;unfold cV at h;rw[←hn] at h;obtain⟨hl,h1⟩:=h;rcases h1 with⟨h2,_⟩|⟨g',cap,cur,h2,hb,hh,yW,hm,hs,ht⟩
  ·cases h2
  ·cases h2
   have JC:(Builtin.zeroCells #[.int .u64 0,.int .u32 0] (n - i)).toList.length=(n - i)*2:=by simp[Builtin.zeroCells]
   have mM:∀v∈(Builtin.zeroCells #[.int .u64 0,.int .u32 0] (n - i)).toList,v.oneCell' =true:=by
    intro v hv;simp[Builtin.zeroCells] at hv;obtain⟨q,-,rfl⟩:=hv;have h5:q%2=0∨q%2=1:=by omega
    rcases h5 with h5|h5<;>rw[h5]<;>rfl
   generalize hZ:(Builtin.zeroCells #[.int .u64 0,.int .u32 0] (n - i)).toList=Z at*;have cz:i*2+0+Z.length≤cur.size:=by rw[JC,hs];omega
   have cO:=run_storeCells_at (P:=prog) g (i*2) 68 Z 0 cur w hh cz mM;simp only[XC] at cO;have hh' :=setRow_heap w g cur (cur.toList.take (i*2)++Z++cur.toList.drop (i*2+Z.length)).toArray _ _ hh;refine⟨w.setRow g (cur.toList.take (i*2)++Z++cur.toList.drop (i*2+Z.length)).toArray,?_,?_,⟨rfl,rfl,rfl,?_,fun k _ hk=>setRow_other w g k _ (fun e=>hk (by rw[e]))⟩⟩
   ·obtain⟨m,Nf⟩:∃m,n - i=m+1:=⟨n - i - 1,by omega⟩;have hzv:∀w,(zeroValue 68).run prog w= .ok (.agg #[.int .u64 0,.int .u32 0]) w:=fun w=>by kernel_rfl
    rw[Nf] at hZ⊢;simp[Builtin.clear_,run_underlying underlying90,hzv,show(Value.agg #[Value.int .u64 0,Value.int .u32 0]).cells= #[.int .u64 0,.int .u32 0] from rfl,hZ,cO]
   ·have oJ:(es.take i).length=i:=by rw[Qu];omega
    unfold cV;rw[oJ,←rZ,←ht];have iH:i*2≤cur.toList.length:=by rw[Array.length_toList,hs];omega
    refine⟨?_,.inr ⟨g,c,_,rfl,hb,hh',by omega,hm,?_,?_⟩⟩
    ·rw[List.take_take,Qu,Array.length_toList,hs];omega
    ·rw[QW,Qo,Qo,Qu,Zt,Array.length_toList,hs,JC];omega
    ·rw[QY,List.take_append_of_le_length (by rw[Qu];omega),List.take_take,Nat.min_self,List.take_take,Zh (by omega)]
   ·show w.heap.size≤(w.heap.modify g _).size;rw[Array.size_modify];exact Qg _
theorem jN {w:Wo} {base e sz n g c:Nat} {xs:List Va} (h:w.ownsRow base e sz (.slice (some ⟨g,0,none⟩) n c) k xs) (j:Nat):w.frozen? ⟨g,j,none⟩=false:=by
 obtain⟨-,h1⟩:=h;rcases h1 with⟨h2,_⟩|⟨g',cap,cur,h2,hb,hh,_⟩
 ·cases h2
 ·cases h2
  simp[World.frozen?,hh]
theorem Gb {w:Wo} {base g n c:Nat} (h:cV w base (.slice (some ⟨g,0,none⟩) n c) es) (hi:i<es.length):∃x,w.cell? ⟨g,i*2,none⟩=some x:=by
 obtain⟨b9,o9,c9,Ea,-,-,Nb⟩:=(Sl.bU h:Sl w w.heap.size 2 _ es.length _).row (by omega);injection Ea with q1
 injection q1 with q1
 injection q1 with q2 q3
 subst q2 q3;have:=Nb.2 (i*2+0) _ ((jQ es i hi 0 (by decide)).trans rfl);exact⟨_,by simpa using this⟩
theorem Ga {w:Wo} {base g n c:Nat} (h:cV w base (.slice (some ⟨g,0,none⟩) n c) es) (hi:i<es.length):∃x,w.cell? ⟨g,i*2+1,none⟩=some x:=by
 obtain⟨b9,o9,c9,Ea,-,-,Nb⟩:=(Sl.bU h:Sl w w.heap.size 2 _ es.length _).row (by omega);injection Ea with q1
 injection q1 with q1
 injection q1 with q2 q3
 subst q2 q3;have:=Nb.2 (i*2+1) _ ((jQ es i hi 1 (by decide)).trans rfl);exact⟨_,by simpa using this⟩
structure UX (w:Wo) (base g n c hb fb mb half ax:Nat) (l:List aD) (j i:Nat) (wr:Wo):Prop where
 jn:j≤n
 ij:i≤j
 row:∃oT,cV wr base (.slice (some ⟨g,0,none⟩) n c) oT∧oT.length=n∧oT.take i=(l.take j).filter (cI half ax)∧oT.drop j=l.drop j
 side:ql wr hb fb mb half ax
 low:Below base w wr
theorem wZ (h:i<es.length):(es.set i x).take (i+1)=es.take i++[x]:=by
 rw[aA (es.set i x) i x (by rw[List.getElem?_set];simp[h]),List.take_set];congr 1
 rw[List.set_eq_of_length_le];rw[Qu];omega
theorem abV {w:Wo} {base:Nat} {v:Va} (h:cV w base v l) (hl:0<l.length):∃g c,v= .slice (some ⟨g,0,none⟩) l.length c∧base≤g∧g<w.heap.size∧l.length≤c:=by
 have h' :=h;have hx:∃g c,v= .slice (some ⟨g,0,none⟩) l.length c:=by unfold cV at h';obtain⟨n,hn⟩:∃n,l.length=n+1:=⟨l.length - 1,by omega⟩;rw[hn] at h';obtain⟨g,c,e⟩:=ownsRow_succ h';exact⟨g,c,by rw[e,hn]⟩
 obtain⟨g,c,rfl⟩:=hx;have h2:=Xr h g rfl;refine⟨g,c,rfl,h2.1,h2.2,?_⟩;obtain⟨-,⟨h3,_⟩|⟨g',cap,cur,h3,_,_,h4,_⟩⟩:=h
 ·cases h3
 ·cases h3;exact h4
theorem yF (p:aD→Bool):∀l:List aD,(¬∀e∈l,p e=true)→∃k x,l[k]? =some x∧p x=false∧∀e∈l.take k,p e=true
 |[],h=>absurd (fun e he=>by cases he) h
 |a::r,h=>by
  cases ha:p a with
  |false=>exact⟨0,a,rfl,ha,fun e he=>by cases he⟩
  |true=>
   obtain⟨k,x,h1,h2,h3⟩:=yF p r (fun h4=>h (fun e he=>by
    rcases QA.1 he with rfl|he
    ·exact ha
    ·exact h4 e he))
   refine⟨k+1,x,h1,h2,fun e he=> ?_⟩;rw[Zw] at he;rcases QA.1 he with rfl|he
   ·exact ha
   ·exact h3 e he
theorem LQ {p:aD→Bool} {k' :Nat} {x' :aD} (h1:l[k]? =some x) (h2:p x=false) (h3:∀e∈l.take k,p e=true) (g1:l[k']? =some x') (g2:p x' =false) (g3:∀e∈l.take k',p e=true):k=k' :=by
 rcases Nat.lt_trichotomy k k' with h|h|h
 ·have:x∈l.take k' :=Qi (i:=k) (by rw[Ze,Xo h];exact h1);rw[g3 x this] at h2;cases h2
 ·exact h
 ·have:x'∈l.take k:=Qi (i:=k') (by rw[Ze,Xo h];exact g1);rw[h3 x' this] at g2;cases g2
theorem DM (w:Wo) (base:Nat) (v:Va) (l:List aD) (h:cV w base v l) (jr:base≤w.heap.size) (hl:l.length≤9) (ho:∀e∈l,eR e) (hb fb mb half ax:Nat) (hs:ql w hb fb mb half ax):
  Calls prog 218 #[v,eG mb] w fun r w' =>∃v',r= .returned v'∧cV w' base v' (l.filter (cI half ax))∧Below base w w' :=by
 have Iw:Es w w.heap.size v l:=⟨Sl.bU h,ho⟩;have hI:=vL w v l Iw (by omega) (fun e he=>(ho e he).1) hb fb mb half ax hs;have HS:=aa hs;have HH:=aa h;obtain⟨A,c,hv⟩:=h.form;obtain⟨n,hn⟩:=eX l.length;rw[←hn] at hv;have Hn:=kH hn (by omega:n≤9) jr ho;subst hv;by_cases bm:∀e∈l,cI half ax e=true
 ·have HI:Af (Calls prog 248 #[.slice A n c,eG mb] w fun r w' =>r= .returned (.int .i64 (-1))∧Below w.heap.size w w'):=hI.mono fun r w' ⟨h1,h2⟩=>by
   rcases h1 with⟨k,hk,h3,⟨e,h4,h5⟩,-⟩|⟨h3,h4⟩
   ·rw[bm e (Qi h4)] at h5;cases h5
   ·exact⟨h3,h2⟩
  have HF:=aa (List.filter_eq_self.2 bm);unfold eG at HI⊢;clear h Iw hl ho hs hn jr hI bm;go_enter func218,ntmps218;go_wp2_with(go_at_call 248;go_must(refine HI.o.mono ?_);rintro e W2 ⟨rfl,b2⟩;have B2:=aa b2;clear b2)
  try rw[Qv]
  go_ret;exact⟨_,rfl,by rw[HF.o];exact aS HH.o B2.o,B2.o.mono Hn.o.2.2.1⟩
 ·obtain⟨k,x,h1,h2,h3⟩:=yF _ l bm;have bQ:=(Ql.1 h1).1;obtain⟨g,c',hv,Np,hgw,ZP⟩:=abV h (QO (Qp _) bQ);rw[←hn] at hv ZP;obtain⟨rfl,rfl⟩:A=some ⟨g,0,none⟩∧c=c' :=by injection hv with e1 _ e3;exact⟨e1,e3⟩
  have HI:Af (Calls prog 248 #[.slice (some ⟨g,0,none⟩) n c,eG mb] w fun r w' =>r= .returned (.int .i64 k)∧Below w.heap.size w w'):=hI.mono fun r w' ⟨q1,q2⟩=>by
   rcases q1 with⟨k',hk,q3,⟨e,q4,q5⟩,q6⟩|⟨q3,q4⟩
   ·rw[LQ h1 h2 h3 q4 q5 q6];exact⟨q3,q2⟩
   ·exact absurd q4 bm
  have TE:(l.take (k+1)).filter (cI half ax)=l.take k:=by rw[aA l k x h1,List.filter_append,List.filter_eq_self.2 h3];simp[h2]
  have rj:Af (∀W,Below w.heap.size w W→UX w base g n c hb fb mb half ax l (k+1) k W):=fun W hW=>⟨by rw[Hn.o.1];exact bQ,Q0 k,⟨l,aS h hW,hn.symm,TE.symm,rfl⟩,hs.on hW,hW.mono jr⟩
  have Hg:=kH Np hgw ZP (by rw[hn];exact bQ:k<n);have k0:((k:Int)== -1)=false:=Xc (by omega);have k9:k≤9:=by rw[←hn] at bQ;omega
  have kw:IntKind.i64.wrap ((k:Int)+1)=(k:Int)+1:=by simp only[XN];omega
  unfold eG at HI⊢;clear h Iw hl ho hs hn jr hI bm h1 h2 h3 bQ hv Np hgw ZP TE k9;go_enter func218,ntmps218;go_wp2_with(go_at_call 248;go_must(refine HI.o.mono ?_);rintro e W2 ⟨rfl,b2⟩;have B2:=aa b2;clear b2);have S2:=aa (rj.o W2 B2.o);clear k0 kw rj HI HH;go_loopw [6,5] (fun jv iv wr=>∃j i:Nat,jv= .int .i64 j∧iv= .int .i64 i∧Af (UX w base g n c hb fb mb half ax l j i wr)) (fun jv _ _=>n - (intOf jv).toNat)
  case atStart=>exact⟨k+1,k,by rw[Int.natCast_succ],rfl,S2.o⟩
  case round=>
   obtain⟨j,i,rfl,rfl,HD⟩:=hrel;by_cases hj:j<n
   ·obtain⟨oT,r1,r2,r3,r4⟩:=HD.o.row;obtain⟨y,hy⟩:∃y,l[j]? =some y:=⟨_,Qf (by rw[←Hn.o.1];exact hj)⟩;have hy' :oT[j]? =some y:=by have q1:=XF (fun z=>z[0]?) r4;simpa[Zb,hy] using q1
    have hyo:=Hn.o.2.2.2 y (Qi hy);have r1' :=r1;unfold cV at r1';rw[r2] at r1';have dL:=(Sl.bU r1' :Sl wr wr.heap.size 2 _ n _).row (by omega);obtain⟨b9,o9,c9,Ea,-,-,Nb⟩:=dL;obtain⟨e1,e2⟩:g=b9∧0=o9:=by injection Ea with q1;injection q1 with q1;injection q1 with q2 q3;exact⟨q2,q3⟩
    subst e1 e2;obtain⟨wI,hje⟩:=Ql.1 hy';have z0:wr.cell? ⟨g,j*2,none⟩=some (.int .u64 y.print):=by have q1:=Nb.2 (j*2+0) _ ((jQ oT j wI 0 (by decide)).trans (by rw[hje];rfl));simpa using q1
    have z1:wr.cell? ⟨g,j*2+1,none⟩=some (.int .u32 y.block):=by have q1:=Nb.2 (j*2+1) _ ((jQ oT j wI 1 (by decide)).trans (by rw[hje];rfl));simpa using q1
    obtain⟨R,hR⟩:=eX (cI half ax y);obtain⟨pr,gY⟩:=eX y.print;obtain⟨bk,ej⟩:=eX y.block;obtain⟨W5,j6,Y5,b5⟩:=nW wr [.int .u64 pr,.int .u32 bk] 68;obtain⟨eb,mR⟩:=eX wr.heap.size;rw[←mR] at Y5;have HO:=vG W5 y hyo.1 hb fb mb half ax (HD.o.side.on b5);unfold jz at HO;rw[←gY,←ej,←hR] at HO;rw[←gY] at z0;rw[←ej] at z1;have HO:=aa HO;have zb:=dK j6.symm mR.symm;have HY5:=aa Y5;obtain⟨v0,v1⟩:=gh Y5;have mU:=aa b5;have NQ:=aa HD.o;have jh:=kH r1 r2 r3 r4;have HX:=hI7 hy hR hj gY ej HD.o.ij (by rw[mR];exact(Xr r1 g rfl).2:g<eb);obtain⟨u1,u2,u3⟩:=bR hj Hn.o.2.1 (by decide);have Hu:=aa u1;have i0:=Xh i;have iN:(i:Int)<n:=by have:=HD.o.ij;omega
    have iw:IntKind.i64.wrap ((i:Int)+1)=(i:Int)+1:=by have:=HD.o.ij;have:=Hn.o.2.1;simp only[XN];omega
    clear r1 r2 r3 r4 hy hy' hyo r1' Nb Ea wI hje hR gY ej b5 Y5 j6 mR HD hj u1;go_upto_region 8 with fail
    rw[zb.o.1,zb.o.2];clear z0 z1;cases R
    ·have hN:∀W9,Below W5.heap.size W5 W9→UX w base g n c hb fb mb half ax l (j+1) i W9:=fun W9 b9=>by
      have bb:=mU.o.trans (b9.mono mU.o.size);refine⟨HX.o.2.2.1,XK HX.o.2.2.2.2.2.1,⟨oT,aS jh.o.1 bb,jh.o.2.1,?_,?_⟩,NQ.o.side.on bb,NQ.o.low.trans (bb.mono (Qh Hg.o.1 (QX (Xr jh.o.1 g rfl).2)))⟩
      ·rw[jh.o.2.2.1,aA l j y HX.o.1,List.filter_append];simp[←HX.o.2.1]
      ·rw[←List.drop_drop,jh.o.2.2.2,List.drop_drop]
     have HN:=aa hN;clear hN;go_wp2_with(go_at_call 217;go_must(refine HO.o.mono ?_);rintro e W9 ⟨rfl,b9⟩;have B9:=aa b9;clear b9);exact⟨⟨j+1,i,by first|rfl|(rw[Hu.o];rfl),rfl,HN.o _ B9.o⟩,by first|exact al HX.o.2.2.1|(rw[Hu.o];exact al HX.o.2.2.1)⟩
    ·have hN:∀W9,Below W5.heap.size W5 W9→cV W9 base (.slice (some ⟨g,0,none⟩) n c) oT∧Below wr.heap.size wr W9:=fun W9 b9=>⟨aS jh.o.1 (mU.o.trans (b9.mono mU.o.size)),mU.o.trans (b9.mono mU.o.size)⟩
     have HN:=aa hN;have hM:∀W9,Below W5.heap.size W5 W9→UX w base g n c hb fb mb half ax l (j+1) (i+1) ((W9.setCell ⟨g,i*2,none⟩ (.int .u64 pr)).setCell ⟨g,i*2+1,none⟩ (.int .u32 bk)):=fun W9 b9=>by
      have hil:i<oT.length:=by rw[jh.o.2.1];exact QO HX.o.2.2.2.2.2.1 HX.o.2.2.1
      obtain⟨o9,bb⟩:=HN.o W9 b9;have o10:=Rj o9 jh.o.2.1.symm i (by rw[←jh.o.2.1];exact hil) y;rw[←HX.o.2.2.2.1,←HX.o.2.2.2.2.1] at o10;have sd:=NQ.o.side.on bb;have n1:∀x,x<wr.heap.size→True:=fun _ _=>trivial
      have bT:∀{T:TypeId} {cs:List Va} {q:Nat},aq W9 q T cs→T≠68→q≠g:=fun hB hT e=>by subst e;exact aq.not_row hB hT o9 rfl
      refine⟨HX.o.2.2.1,Nat.succ_le_succ HX.o.2.2.2.2.2.1,⟨oT.set i y,o10,by rw[Zy];exact jh.o.2.1,?_,?_⟩,⟨(sd.h.az (p:=⟨g,i*2,none⟩) (bT sd.h (by decide)) _).az (p:=⟨g,i*2+1,none⟩) (bT sd.h (by decide)) _,(sd.f.az (p:=⟨g,i*2,none⟩) (bT sd.f (by decide)) _).az (p:=⟨g,i*2+1,none⟩) (bT sd.f (by decide)) _,(sd.m.az (p:=⟨g,i*2,none⟩) (bT sd.m (by decide)) _).az (p:=⟨g,i*2+1,none⟩) (bT sd.m (by decide)) _,sd.hh,sd.hf⟩,
       ((NQ.o.low.trans (bb.mono (Qh Hg.o.1 (QX (Xr jh.o.1 g rfl).2)))).setCell (p:=⟨g,i*2,none⟩) Hg.o.1 _).setCell (p:=⟨g,i*2+1,none⟩) Hg.o.1 _⟩
      ·rw[wZ hil,jh.o.2.2.1,aA l j y HX.o.1,List.filter_append];simp[←HX.o.2.1]
      ·rw[List.drop_set_of_lt (by have:=HX.o.2.2.2.2.2.1;omega),←List.drop_drop,jh.o.2.2.2,List.drop_drop]
     have HM:=aa hM;have HIl:Af (i<oT.length):=by show _<_;rw[jh.o.2.1];exact QO HX.o.2.2.2.2.2.1 HX.o.2.2.1
     clear hN hM;go_wp2_with(go_at_call 217;go_must(refine HO.o.mono ?_);rintro e W9 ⟨rfl,b9⟩;have B9:=aa b9;have w0:=(HY5.o.on b9).cell (j:=0) rfl;have w1:=(HY5.o.on b9).cell (j:=1) rfl;obtain⟨x0,gd⟩:=Gb (HN.o _ b9).1 HIl.o;obtain⟨x1,xx⟩:=Ga (HN.o _ b9).1 HIl.o;have g0:=jN (HN.o _ b9).1 (i*2);have g1:=jN (HN.o _ b9).1 (i*2+1);clear b9);exact⟨⟨j+1,i+1,by first|rfl|(rw[Hu.o];rfl),by first|rfl|(rw[Int.natCast_succ]),HM.o _ B9.o⟩,by first|exact al HX.o.2.2.1|(rw[Hu.o];exact al HX.o.2.2.1)⟩
   ·have tC:=QE HD.o.jn (QC hj);obtain⟨oT,r1,r2,r3,r4⟩:=HD.o.row;have ph:i≤n:=by rw[←tC];exact HD.o.ij
    obtain⟨w6,ZK,h6,g6⟩:=GX r1 r2.symm i ph (c - i) 0;have H6:=aa h6;have G6:=aa g6;have zm:oT.take i=l.filter (cI half ax):=by rw[r3,Qj (by rw[tC,Hn.o.1];exact Qg _)]
    have oN:=aa zm;have HL:=aa HD.o.low;have Hgr:=aa (Qh Hg.o.1 (QX (Xr r1 g rfl).2));have i0:=Xh i;have iN:=Int.ofNat_le.2 ph;have nc:=Int.ofNat_le.2 Hg.o.2.2.1;have ic:=Int.le_trans iN nc;subst tC;clear HD hj r1 r2 r3 r4 zm h6 g6;have mZ:=dK (by rw[←oN.o];exact H6.o:cV w6 base (.slice (some ⟨g,0,none⟩) i c) (l.filter (cI half ax))) (HL.o.grown G6.o Hgr.o (fun j e=>by cases(Qr e);exact Hg.o.1));by_cases hci:c=i
    ·have wJ:=QE ph (by rw[←hci];exact Hg.o.2.2.1);subst wJ;rw[XE] at ZK;have oI:∀(A:Option Addr) (q:Nat),(Builtin.clear_ #[90] 0 #[.slice A 0 q]).run prog wr= .ok (.tuple #[]) wr:=fun A q=>by cases A<;>simp[Builtin.clear_,run_underlying underlying90]
     have hw6:w6=wr:=by
      have h1:=ZK;rw[oI] at h1;injection h1 with _ h1
      exact h1.symm
     subst hw6;have mM:=oI (some ⟨g,0,none⟩) 0;subst hci;clear oI ZK;go_wp2_with fail
     try rw[Qv]
     go_ret;exact⟨_,rfl,mZ.o.1,mZ.o.2⟩
    ·go_wp2_with fail
     try rw[Qv]
     go_ret;exact⟨_,rfl,mZ.o.1,mZ.o.2⟩
end
section
open Go.RowKit
attribute [local go_sem] Oper.semAt_some
variable {w w' : Wo} {B b c n o sz : Nat} {xs : List Va} {S T : Nat → Prop} {v : Va} {ps : List (ay × Va)}
theorem I9 (h:Sl w B sz (.slice (some ⟨b,o,none⟩) (n+1) c) (n+1) xs):
  (c≠1→Sl w B sz (.slice (some ⟨b,o+sz,none⟩) n (c - 1)) n (xs.drop sz))∧(c=1→n=0∧Sl w B sz (.slice (some ⟨b,o,none⟩) 0 0) 0 (xs.drop sz)):=by
 obtain⟨hl,A,c',hv,hc,hm,-,hr⟩:=h;cases hv
 obtain⟨b',o',he,dL⟩:=hr (Nat.succ_pos n);cases he
 have oR:(xs.drop sz).length=n*sz:=by rw[Zt,hl,Nat.succ_mul];omega
 constructor
 ·intro _;exact kT oR (by omega) (by omega) ⟨dL.1,fun q u hu=>by rw[Zb] at hu;rw[XB];exact dL.2 _ _ hu⟩
 ·intro h1;have hn:n=0:=by omega
  subst hn;have N4:xs.drop sz=[]:=Zf (by omega);rw[N4];exact⟨rfl,⟨by simp,_,0,rfl,Qg _,Qp _,(fun _=>rfl),fun h=>absurd h (by decide)⟩⟩
theorem Jg {x:Int} {r:List Int} (h:Ns w B .i64 (.slice (some ⟨b,o,none⟩) n c) (x::r)) (hn:n=r.length+1):(c≠1→Ns w B .i64 (.slice (some ⟨b,o+1,none⟩) (n - 1) (c - 1)) r)∧(c=1→Ns w B .i64 (.slice (some ⟨b,o,none⟩) 0 0) r):=by
 subst hn;have h1:=I9 (sz:=1) (n:=r.length) h;refine⟨fun hc=>h1.1 hc,fun hc=> ?_⟩;obtain⟨h2,h3⟩:=h1.2 hc;unfold Ns;rw[h2];exact h3
theorem Cf {p:ay×Va} {r:List (ay×Va)} (h:mP w B (.slice (some ⟨b,o,none⟩) n c) (p::r)) (hn:n=r.length+1):(c≠1→mP w B (.slice (some ⟨b,o+3,none⟩) (n - 1) (c - 1)) r)∧(c=1→mP w B (.slice (some ⟨b,o,none⟩) 0 0) r):=by
 subst hn;have h1:=I9 (sz:=3) (n:=r.length) h.sl;have he:∀q∈r,Es w B q.2 q.1.es∧pC q.1:=fun q hq=>h.es q (Qs _ hq)
 refine⟨fun hc=>⟨h1.1 hc,he⟩,fun hc=> ?_⟩;obtain⟨h2,h3⟩:=h1.2 hc;refine⟨?_,he⟩;rw[h2];exact h3
theorem nk {m:Nat} {A:Option Addr} (h:Sl w B sz (.slice A n c) m xs):m≤c:=by
 obtain⟨-,A',c',hv,hc,-⟩:=h;injection hv with _ _ h3
 rw[h3];exact hc
theorem rG {o' n' c' :Nat} (h:Ap S (.slice (some ⟨b,o,none⟩) n c)) (hn:0<n):Ap S (.slice (some ⟨b,o',none⟩) n' c'):=jD (h b o n c hn rfl)
theorem iP.aL (h:iP w S v ps) (hc:aG T w w') (hT:∀x,T x→S x):iP w' S v ps:=
 ⟨⟨Sl.more (Sl.aL h.s.sl hc (Qg _) (h.a.mono hT)) hc.size,fun p hp=>⟨⟨Sl.more (Sl.aL (h.s.es p hp).1.1 hc (Qg _) ((h.e p hp).mono hT)) hc.size,(h.s.es p hp).1.2⟩,(h.s.es p hp).2⟩⟩,h.a,h.e⟩
theorem jw.aL {c:ak} (h:jw w S v c) (hc:aG T w w') (hT:∀x,T x→S x):jw w' S v c:=by
 obtain⟨bv,sv,ps,e,h1,h2,h3,h4⟩:=h.ex;exact⟨bv,sv,ps,e,Sl.more (Sl.aL h1 hc (Qg _) (h2.mono hT)) hc.size,h2,h3.aL hc hT,h4⟩
theorem iP.mono (h:iP w S v ps) (hT:∀x,T x→S x):iP w T v ps:=⟨h.s,h.a.mono hT,fun p hp=>(h.e p hp).mono hT⟩
theorem jw.mono {c:ak} (h:jw w S v c) (hT:∀x,T x→S x):jw w T v c:=by
 obtain⟨bv,sv,ps,e,h1,h2,h3,h4⟩:=h.ex;exact⟨bv,sv,ps,e,h1,h2.mono hT,h3.mono hT,h4⟩
theorem iP.apart (h:iP w S v ps) (hT:∀x,T x→S x∨w.heap.size≤x):iP w T v ps:=⟨h.s,Sl.apart h.s.sl h.a hT,fun p hp=>Sl.apart (h.s.es p hp).1.1 (h.e p hp) hT⟩
theorem vj (w:Wo) (g:Nat) (y0 y1 y2 y3:Va):aG (fun x=>x=g) w ((((w.setCell ⟨g,0,none⟩ y0).setCell ⟨g,1,none⟩ y1).setCell ⟨g,2,none⟩ y2).setCell ⟨g,3,none⟩ y3):=by
 have c0:aG (fun x=>x=g) w w:=aG.refl _ _;exact(((c0.setCell (p:=⟨g,0,none⟩) (fun _=>rfl) y0).setCell (p:=⟨g,1,none⟩) (fun _=>rfl) y1).setCell (p:=⟨g,2,none⟩) (fun _=>rfl) y2).setCell (p:=⟨g,3,none⟩) (fun _=>rfl) y3
structure xJ (w:Wo) (S:Nat→Prop) (xb hb half:Nat) (bv sv:Va) (c:ak) (ps:List (ay×Va)):Prop where
 x:aq w xb 50 [.int .i64 c.ax,.int .i64 c.depth,bv,sv]
 h:aq w hb 3 [.int .i64 half]
 b:Ns w w.heap.size .i64 bv c.blocks
 ba:Ap S bv
 s:iP w S sv ps
 p:ps.map Prod.fst=c.ah
theorem xJ.on {xb hb half:Nat} {bv sv:Va} {c:ak} (h:xJ w S xb hb half bv sv c ps) (EB :Below w.heap.size w w'):xJ w' S xb hb half bv sv c ps:=
 ⟨h.x.on EB,h.h.on EB,dU h.b EB,h.ba,h.s.on EB,h.p⟩
theorem xT (w:Wo) (S:Nat→Prop) (hS:∀x,S x→x<w.heap.size) (c:ak) (hc:ur c) (qc:c.depth<8) (xb hb half ax:Nat) (bv sv:Va) (ps:List (ay×Va)) (h:xJ w S xb hb half bv sv c ps) (cC:c.blocks.length≤4096) (hh:half<256) (hf:ax<256):
  Calls prog 215 #[.int .i64 ax,.pointer (some ⟨hb,0,none⟩),.pointer (some ⟨xb,0,none⟩)] w fun e w' =>∃v,e= .returned v∧jw w' S v (fR c half ax)∧Below w.heap.size w w' :=by
 obtain⟨sh,shr,b0,br,ta,fg,e8,EC,Bq⟩:=hc.cons;obtain⟨Ab,cb,rfl,-,-⟩:=h.b.form;obtain⟨As,cs,rfl⟩:=h.s.s.form;have dh:ps.length=c.ah.length:=by rw[←h.p,Qq]
 have jX:c.blocks.length=ps.length:=by rw[dh];exact hc.ok.len
 obtain⟨n,hn⟩:=eX ps.length;rw[jX,←hn] at h cC;cases ps with
 |nil=>rw[ta] at dh;simp at dh
 |cons p0 pr=>
 obtain⟨bb,ob,ug,oQ,-,-,bO,-⟩:=h.b.cells (by rw[jX];simp);obtain rfl:Ab=some ⟨bb,ob,none⟩:=by injection oQ
 obtain⟨bs,os,ks,Na,iV,s0,s1,s2⟩:=h.s.s.cells (k:=0) (p:=p0) rfl;obtain rfl:As=some ⟨bs,os,none⟩:=by injection Na
 rw[Xz,XC] at s0 s1 s2;have tA:p0.1=sh:=by have h1:=h.p;rw[ta] at h1;exact(List.cons.inj h1).1
 have gY:pr.map Prod.fst=shr:=by have h1:=h.p;rw[ta] at h1;exact(List.cons.inj h1).2
 have eE:=h.s.s.es p0 (Qm ..);rw[tA] at eE;obtain⟨Ae,ce,hU,-,-⟩:=eE.1.1.form;obtain⟨ne,bT⟩:=eX sh.es.length;rw[←bT] at hU;rw[hU] at s2 eE;have HI:Af ((∀x,S x→x<w.heap.size)∧ur c∧c.depth<8∧half<256∧ax<256∧n≤4096∧c.ah=sh::shr∧c.blocks=b0::br∧br.length=shr.length∧c.first=sh.es∧n=pr.length+1∧pr.map Prod.fst=shr∧n=br.length+1):=⟨hS,hc,qc,hh,hf,cC,ta,fg,e8,Bq,by rw[hn];rfl,gY,by rw[hn,←jX,fg];rfl⟩;obtain⟨S2,SS⟩:∃S2:Nat→Prop,S2=fun x=>S x∨w.heap.size≤x:=⟨_,rfl⟩
 have j2:Af (∀x,S2 x↔(S x∨w.heap.size≤x)):=by intro x;rw[SS]
 have HX:Af (xJ w S2 xb hb half (.slice (some ⟨bb,ob,none⟩) n cb) (.slice (some ⟨bs,os,none⟩) n cs) c (p0::pr)):=⟨h.x,h.h,h.b,Sl.apart h.b h.ba (fun x hx=>(j2.o x).1 hx),h.s.apart (fun x hx=>(j2.o x).1 hx),h.p⟩;clear SS;obtain⟨W0,aY,F0,B0⟩:=nW w [.int .i64 ax] 3;have lz:W0.heap.size=w.heap.size+1:=by rw[aY];simp
 obtain⟨W1,aW,R1,B1⟩:=nW W0 [.int .i64 0,.int .i64 0,.slice none 0 0,.slice none 0 0] 50;obtain⟨rb,ft⟩:=eX (w.heap.size+1);rw[lz,←ft] at R1;have fI:=B0.trans (B1.mono B0.size);have F1:=F0.on B1;have fD:=aa aY.symm;have gB:=dK aW.symm ft.symm;have HF1:=aa F1;have pX:=aa R1;have wP:=aa fI;have wD:Af (w.heap.size<rb):=by show _<_;rw[ft];exact XL _
 clear hS hc qc hh hf ta fg e8 EC Bq cC dh jX hn oQ Na tA gY hU aY lz aW ft F0 B0 R1 B1 fI F1 h;have Oj:=kH eE.2.2.2 bT bO iV;have ahl:=aa eE.1;clear eE bT bO iV;have EH:=aa s2;clear s0 s1 s2;go_enter func215,ntmps215;go_upto_region 1 with fail
 rw[fD.o,gB.o.1]
 try rw[gB.o.2]
 go_upto_region 2 with fail
 obtain⟨W2,cE,M2,b2⟩:=nW W1 [II hb w.heap.size] 166;obtain⟨mb,tB⟩:=eX W1.heap.size;rw[←tB] at M2;change Code.wp _ _ _ _ (W1.alloc (.cells #[II hb w.heap.size] 166));rw[←cE,←tB];have Uu:=wP.o.trans (b2.mono wP.o.size);have UU:ql W2 hb w.heap.size mb half ax:=⟨HX.o.h.on Uu,HF1.o.on b2,M2,HI.o.2.2.2.1,HI.o.2.2.2.2.1⟩;have UU:=aa UU;have fF:=aa (pX.o.on b2);have px:=aa Uu;clear b2 M2 cE tB Uu HF1 pX wP fD gB;go_upto_region 3 with fail
 obtain⟨W3,cD,M3,b3⟩:=nW W2 [eG mb] 166;obtain⟨qb,hqb⟩:=eX W2.heap.size;rw[←hqb] at M3;change Code.wp _ _ _ _ (W2.alloc (.cells #[eG mb] 166));rw[←cD,←hqb];have pw:=aa (px.o.trans (b3.mono px.o.size));have ahg:=aa (UU.o.on b3);have IC:=aa (fF.o.on b3);have NM:=aa M3;clear b3 M3 cD hqb UU fF px;go_cut [7] from 12 to 19 (fun v7 W=>∃(A:Option Addr) (q c' :Nat),v7= .slice A q c'∧Af (cV W W3.heap.size (.slice A q c') (sh.es.filter (cI half ax))∧Below W3.heap.size W3 W))
 case first=>
  have xC:=below_drewN (Xj W3.heap.size W3) 1;have X4:=HX.o.on (pw.o.trans (xC.mono pw.o.size));obtain⟨Wd,dJ⟩:=eX W3.drew;have x3:Wd.cell? ⟨xb,3,none⟩=some (.slice (some ⟨bs,os,none⟩) n cs):=by rw[dJ];exact X4.x.cell (j:=3) rfl
  have s2:Wd.cell? ⟨bs,os+2,none⟩=some (.slice Ae ne ce):=by rw[dJ];exact(pw.o.cell (p:=⟨bs,os+2,none⟩) Oj.o.2.2.2).trans EH.o
  have o0:Wd.cell? ⟨qb,0,none⟩=some (eG mb):=by rw[dJ];exact NM.o.cell (j:=0) rfl
  have wN:Af (Es Wd Wd.heap.size (.slice Ae ne ce) sh.es):=by show Es _ _ _ _;rw[dJ];exact gA ahl.o (pw.o.trans (xC.mono pw.o.size))
  have HSd:Af (ql Wd hb w.heap.size mb half ax):=by show ql _ _ _ _ _ _;rw[dJ];exact ahg.o.on xC
  have uk:Af (Wd.heap.size=W3.heap.size∧Below W3.heap.size W3 Wd):=by rw[dJ];exact⟨rfl,xC⟩
  have nN:(0:Int)<n:=by have:=HI.o.2.2.2.2.2.2.2.2.2.2.1;omega
  have nz:¬n=0:=by omega
  clear X4;refine bL (fun j=>[8].contains j) (fun W=>Below Wd.heap.size Wd W) (by kernel_rfl) ?_;rw[←dJ];clear dJ;refine tK 0 12 (.pointer (some ⟨xb,3,none⟩)) rfl rfl rfl (by kernel_rfl) (fun _ _ _ h=>h) (fun W hW=>by go_simp) (Xj _ _) ?_
  try simp only[Act.put,Qb,Qc,Qd]
  refine tK 1 13 (.slice (some ⟨bs,os,none⟩) n cs) rfl rfl rfl (by kernel_rfl) (fun _ _ _ h=>h) (fun W hW=>by have hx:=(hW.cell (XX x3)).trans x3;go_simp) (Xj _ _) ?_
  try simp only[Act.put,Qb,Qc,Qd]
  refine tK 2 14 (.pointer (some ⟨bs,os,none⟩)) rfl rfl rfl (by kernel_rfl) (fun _ _ _ h=>h) (fun W hW=>by go_simp) (Xj _ _) ?_
  try simp only[Act.put,Qb,Qc,Qd]
  refine tK 3 15 (.pointer (some ⟨bs,os+2,none⟩)) rfl rfl rfl (by kernel_rfl) (fun _ _ _ h=>h) (fun W hW=>by go_simp) (Xj _ _) ?_
  try simp only[Act.put,Qb,Qc,Qd]
  refine tK 4 16 (.slice Ae ne ce) rfl rfl rfl (by kernel_rfl) (fun _ _ _ h=>h) (fun W hW=>by have hx:=(hW.cell (XX s2)).trans s2;go_simp) (Xj _ _) ?_
  try simp only[Act.put,Qb,Qc,Qd]
  refine tK 6 18 (eG mb) rfl rfl rfl (by kernel_rfl) (fun _ _ _ h=>h) (fun W hW=>by have hx:=(hW.cell (XX o0)).trans o0;go_simp) (Xj _ _) ?_
  try simp only[Act.put,Qb,Qc,Qd]
  refine ju 5 rfl (by kernel_rfl) fun K hK=> ?_
  have je:=vU Wd Wd.heap.size (.slice Ae ne ce) sh.es wN.o (Qg _) (by have:=Oj.o.1;omega);go_simp;go_at_call 137;refine Calls.mono je ?_;rintro e V5 ⟨v5,rfl,o5,b5⟩;obtain⟨A5,c5,rfl⟩:=o5.form;rw[←Oj.o.2.1] at o5⊢;have L5:=b5;go_simp;refine hK.out _ _ (fun _=>L5) ?_;clear hK K
  try simp only[Act.put,Qb,Qc,Qd]
  refine ju 7 rfl (by kernel_rfl) fun K hK=> ?_
  have HDl:=DM V5 Wd.heap.size _ sh.es o5 b5.size Oj.o.1 wN.o.2 hb w.heap.size mb half ax (HSd.o.on b5);go_simp;go_at_call 218;refine Calls.mono HDl ?_;rintro e V7 ⟨v7,rfl,o7,b7⟩;obtain⟨A7,c7,rfl⟩:=o7.form;have L7:=b5.trans b7;go_simp;refine hK.out _ _ (fun _=>L7) ?_;clear hK K
  try simp only[Act.put,Qb,Qc,Qd]
  refine ju 8 rfl (by kernel_rfl) fun K hK=> ?_
  go_simp;refine hK.out _ _ (fun h=>absurd h (by decide)) ?_;clear hK K
  try simp only[Act.put,Qb,Qc,Qd]
  refine bD (by kernel_rfl) ?_ _;go_wp2_with fail;go_meet;exact⟨A7,_,c7,rfl,by rw[←uk.o.1];exact o7,uk.o.2.trans (by rw[←uk.o.1];exact L7)⟩
 case rest=>
  obtain⟨A7,q7,c7,rfl,H7⟩:=hcut;have hq:q7=(sh.es.filter (cI half ax)).length:=by obtain⟨A',c',e,-⟩:=(Sl.bU H7.o.1:Sl _ _ _ _ _ _).form;injection e
  have Hq:=aa hq;have b4:=pw.o.trans (H7.o.2.mono pw.o.size);have X4:=HX.o.on b4;have WT:=aa X4;have Uo:=aa b4;have WW:=aa (IC.o.on H7.o.2);have ahf:=aa (ahg.o.on H7.o.2);have HO4:=aa (NM.o.on H7.o.2);have ahp:=dK IC.o.lt pw.o.size;obtain⟨-,-,y2,y3⟩:=mm X4.x;have nN:(0:Int)<n:=by have:=HI.o.2.2.2.2.2.2.2.2.2.2.1;omega
  have n1:=nN;have e8:=HI.o.2.2.2.2.2.2.2.2.2.2.2.2;have UE:=HI.o.2.2.2.2.2.2.2.2.2.2.1;have agO:1≤cb:=by have h1:=nk X4.b;rw[HI.o.2.2.2.2.2.2.2.1] at h1;exact Qh (by simp) h1
  have agM:1≤cs:=Qh (by simp) (nk X4.s.s.sl);have ncb:=Int.ofNat_le.2 agO;have ncs:=Int.ofNat_le.2 agM;have nle:(n:Int)≤4096:=by have:=HI.o.2.2.2.2.2.1;omega
  have pS:=Jg (x:=b0) (r:=br) (by have h1:=X4.b;rw[HI.o.2.2.2.2.2.2.2.1] at h1;exact h1) e8;have ZC:=Cf X4.s.s UE;have HT:Af ((cb≠1→Ns wc wc.heap.size .i64 (.slice (some ⟨bb,ob+1,none⟩) (n - 1) (cb - 1)) br)∧(cb=1→Ns wc wc.heap.size .i64 (.slice (some ⟨bb,ob,none⟩) 0 0) br)∧(cs≠1→mP wc wc.heap.size (.slice (some ⟨bs,os+3,none⟩) (n - 1) (cs - 1)) pr)∧(cs=1→mP wc wc.heap.size (.slice (some ⟨bs,os,none⟩) 0 0) pr)∧(cb=1→n=1)∧(cs=1→n=1)∧(∀o n' c',Ap S2 (.slice (some ⟨bb,o,none⟩) n' c'))∧(∀o n' c',Ap S2 (.slice (some ⟨bs,o,none⟩) n' c'))∧∀p∈pr,Ap S2 p.2):=
   ⟨pS.1,pS.2,ZC.1,ZC.2,fun h=>by
    have h1:=nk X4.b;rw[HI.o.2.2.2.2.2.2.2.1,h] at h1;simp at h1;rw[e8,h1];rfl,fun h=>by
    have h1:=nk X4.s.s.sl;rw[h] at h1;simp at h1;rw[UE,h1];rfl,fun o n' c' =>rG X4.ba (by rw[e8];exact Nat.succ_pos _),fun o n' c' =>rG X4.s.a (by rw[UE];exact Nat.succ_pos _),fun p hp=>X4.s.e p (Qs _ hp)⟩
  clear pS ZC agO agM e8 UE;clear hq b4 X4;go_upto_region 4 with fail
  go_cut [8,9] from 20 to 25 (fun v8 v9 W=>∃(A8 A9:Option Addr) (n8 c8 n9 c9:Nat),v8= .slice A8 n8 c8∧v9= .slice A9 n9 c9∧Af (Ns W W.heap.size .i64 (.slice A8 n8 c8) br∧Ap S2 (.slice A8 n8 c8)∧iP W S2 (.slice A9 n9 c9) pr∧Below wc.heap.size wc W))
  case first=>
   by_cases h1:cb=1<;>by_cases h2:cs=1
   ·have rh:=HT.o.2.1 h1;have tG:=HT.o.2.2.2.1 h2;have En:=aa rh;have JT:=aa tG;have j5:=HT.o.2.2.2.2.1 h1;subst h1;subst h2;subst j5;clear rh tG;go_quiet (fail);go_wp2_with fail;go_meet;exact⟨_,_,_,_,_,_,rfl,rfl,dU En.o (below_drewN (Xj _ _) _),HT.o.2.2.2.2.2.2.1 _ _ _,⟨JT.o.on (below_drewN (Xj _ _) _),HT.o.2.2.2.2.2.2.2.1 _ _ _,HT.o.2.2.2.2.2.2.2.2⟩,below_drewN (Xj _ _) _⟩
   ·have rh:=HT.o.2.1 h1;have tG:=HT.o.2.2.1 h2;have En:=aa rh;have JT:=aa tG;have j5:=HT.o.2.2.2.2.1 h1;subst h1;subst j5;clear rh tG;go_quiet (fail);go_wp2_with fail;go_meet;exact⟨_,_,_,_,_,_,rfl,rfl,dU En.o (below_drewN (Xj _ _) _),HT.o.2.2.2.2.2.2.1 _ _ _,⟨JT.o.on (below_drewN (Xj _ _) _),HT.o.2.2.2.2.2.2.2.1 _ _ _,HT.o.2.2.2.2.2.2.2.2⟩,below_drewN (Xj _ _) _⟩
   ·have rh:=HT.o.1 h1;have tG:=HT.o.2.2.2.1 h2;have En:=aa rh;have JT:=aa tG;have j5:=HT.o.2.2.2.2.2.1 h2;subst h2;subst j5;clear rh tG;go_quiet (fail);go_wp2_with fail;go_meet;exact⟨_,_,_,_,_,_,rfl,rfl,dU En.o (below_drewN (Xj _ _) _),HT.o.2.2.2.2.2.2.1 _ _ _,⟨JT.o.on (below_drewN (Xj _ _) _),HT.o.2.2.2.2.2.2.2.1 _ _ _,HT.o.2.2.2.2.2.2.2.2⟩,below_drewN (Xj _ _) _⟩
   ·have rh:=HT.o.1 h1;have tG:=HT.o.2.2.1 h2;have En:=aa rh;have JT:=aa tG;clear rh tG;go_quiet (fail);go_wp2_with fail;go_meet;exact⟨_,_,_,_,_,_,rfl,rfl,dU En.o (below_drewN (Xj _ _) _),HT.o.2.2.2.2.2.2.1 _ _ _,⟨JT.o.on (below_drewN (Xj _ _) _),HT.o.2.2.2.2.2.2.2.1 _ _ _,HT.o.2.2.2.2.2.2.2.2⟩,below_drewN (Xj _ _) _⟩
  case rest=>
   obtain⟨A8,A9,n8,c8,n9,c9,rfl,rfl,H8⟩:=hcut;have hCo:=xj wc (.slice A9 n9 c9) pr H8.o.2.2.1.s (by have:=HI.o.2.2.2.2.2.1;have:=HI.o.2.2.2.2.2.2.2.2.2.2.1;omega) (fun p hp e he=>((H8.o.2.2.1.s.es p hp).1.2 e he).1) hb w.heap.size mb qb half ax (ahf.o.on H8.o.2.2.2) (HO4.o.on H8.o.2.2.2);unfold qG at hCo;obtain⟨R,hR⟩:=eX (pr.any fun p=>p.1.es.any fun e=> !cI half ax e);rw[←hR] at hCo;have HCo:=aa hCo;have HR:=aa hR;clear y2 y3 hCo hR;go_upto_if 28 with(go_at_call 61;go_must(refine HCo.o.mono ?_);rintro e W9 ⟨rfl,b9⟩;have B9:=aa b9;clear b9)
   have MC:=zE c half ax sh shr b0 br HI.o.2.2.2.2.2.2.1 HI.o.2.2.2.2.2.2.2.1;have hRr:R=shr.any fun s=>s.es.any fun e=> !cI half ax e:=by rw[HR.o,←HI.o.2.2.2.2.2.2.2.2.2.2.2.1,List.any_map];rfl
   rw[←hRr] at MC;have HSe:=aa MC;clear MC hRr HCo;go_cut [8,9] from 29 to 29 (fun v8 v9 W=>∃(A8 A9:Option Addr) (n8 c8 n9 c9:Nat) (bl' :List Int) (DX :List (ay×Va)),v8= .slice A8 n8 c8∧v9= .slice A9 n9 c9∧Af (Ns W W.heap.size .i64 (.slice A8 n8 c8) bl'∧Ap S2 (.slice A8 n8 c8)∧iP W S2 (.slice A9 n9 c9) DX∧Below W9.heap.size W9 W∧fR c half ax=bZ ax (c.depth+1) (sh.es.filter (cI half ax)) bl' (DX.map Prod.fst)∧bl'.length=DX.length∧(∀x∈bl',x∈c.blocks)∧bl'.length≤4096))
   case first=>
    cases R
    ·have h1:fR c half ax=bZ ax (c.depth+1) (sh.es.filter (cI half ax)) br (pr.map Prod.fst):=by rw[HI.o.2.2.2.2.2.2.2.2.2.2.2.1];exact HSe.o.2 (by decide)
     have H1:=aa h1;clear h1;go_wp2_with fail;go_meet;exact⟨A8,A9,n8,c8,n9,c9,br,pr,rfl,rfl,dU H8.o.1 B9.o,H8.o.2.1,H8.o.2.2.1.on B9.o,Xj _ _,H1.o,by have e1:=HI.o.2.2.2.2.2.2.2.2.2.2.1;have e2:=HI.o.2.2.2.2.2.2.2.2.2.2.2.2;omega,fun x hx=>by rw[HI.o.2.2.2.2.2.2.2.1];exact Qs _ hx,by have e1:=HI.o.2.2.2.2.2.2.2.2.2.2.2.2;have e2:=HI.o.2.2.2.2.2.1;omega⟩
    ·have h1:=HSe.o.1 rfl;have H1:=aa h1;clear h1;go_wp2_with fail;go_meet;exact⟨none,none,0,0,0,0,[],[],rfl,rfl,(cQ _ W9.heap.size 3 .i64).ns,Py _,⟨⟨Sl.bU (Ck W9 W9.heap.size),fun p hp=>by cases hp⟩,Py _,fun p hp=>by cases hp⟩,Xj _ _,H1.o,rfl,fun x hx=>(by cases hx),by decide⟩
   case rest=>
    obtain⟨A8,A9,n8,c8,n9,c9,bl',DX,rfl,rfl,H9⟩:=hcut;have an1:=aa H9.o.2.2.2.2.2.2.2;have bw9:=Uo.o.trans ((H8.o.2.2.2.trans ((B9.o.trans (H9.o.2.2.2.1.mono B9.o.size)).mono H8.o.2.2.2.size)).mono Uo.o.size);have b49:=H8.o.2.2.2.trans ((B9.o.trans (H9.o.2.2.2.1.mono B9.o.size)).mono H8.o.2.2.2.size);have hO7:=aS H7.o.1 b49;have hOE:=hO7;have hEo:∀e∈sh.es.filter (cI half ax),eR e:=fun e he=>ahl.o.2 e (List.mem_filter.1 he).1
    have hAh:=pR wc (fun x=>S x∨x=rb) (fun x hx=>by
      rcases hx with hx|hx
      ·exact Qn (HI.o.1 x hx) bw9.size
      ·rw[hx];exact Qn WW.o.lt b49.size) ax (c.depth+1) (sh.es.filter (cI half ax)) bl' DX (.slice A7 q7 c7) (.slice A8 n8 c8) (.slice A9 n9 c9) HI.o.2.2.1
     ⟨Sl.bU hOE,hEo⟩ (jG hOE (fun x hx=>by
      rcases hx with hx|hx
      ·exact Qn (HI.o.1 x hx) ahp.o.2
      ·rw[hx];exact ahp.o.1)) (Qh (List.length_filter_le _ _) Oj.o.1)
     H9.o.1 (H9.o.2.1.mono (fun x hx=>by
      rcases hx with hx|hx
      ·exact(j2.o x).2 (Or.inl hx)
      ·exact(j2.o x).2 (Or.inr (by rw[hx];exact QX wD.o)))) (H9.o.2.2.1.mono (fun x hx=>by
      rcases hx with hx|hx
      ·exact(j2.o x).2 (Or.inl hx)
      ·exact(j2.o x).2 (Or.inr (by rw[hx];exact QX wD.o)))) H9.o.2.2.2.2.2.1 an1.o (fun x hx=>HI.o.2.1.Ej x (H9.o.2.2.2.2.2.2.1 x hx))
    rw[←H9.o.2.2.2.2.1] at hAh;have HAh:=aa hAh;have z0:=(ahf.o.on b49).f.cell (j:=0) rfl;have z1:=(WT.o.on b49).x.cell (j:=1) rfl;have dw:IntKind.i64.wrap ((c.depth:Int)+1)=((c.depth+1:Nat):Int):=by have:=HI.o.2.2.1;simp only[XN];omega
    have WV:=aa (WW.o.on b49);have HW9:=aa bw9;clear bw9 b49 hO7 hOE hEo hAh;go_wp2_with(go_at_call 135;go_must(refine HAh.o.mono ?_);rintro e uh ⟨v,rfl,hv,wC⟩;obtain⟨bv,sv,Eu,rfl,q1,q2,q3,q4⟩:=hv.ex;obtain⟨Aq,cq,rfl,-,-⟩:=q1.form;obtain⟨Ar,cr,rfl⟩:=q3.s.form;have r9:=WV.o.on wC;have R9:=aa r9;have HV:=aa hv;have oU:=aa (HW9.o.trans (wC.mono HW9.o.size));have r0:=r9.cell (j:=0) rfl;have r1:=r9.cell (j:=1) rfl;have r2:=r9.cell (j:=2) rfl;have r3:=r9.cell (j:=3) rfl;have f0:=r9.free 0;have f1:=r9.free 1;have f2:=r9.free 2;have f3:=r9.free 3;clear hv q1 q2 q3 q4 wC r9);refine bodyPost_ret (lj rfl rfl (eY (oW R9.o _ _ _ _))) rfl ?_;have hle:=QX wD.o;have kG:aG (fun x=>x=rb) uh ((((uh.setCell ⟨rb,0,none⟩ (.int .i64 (fR c half ax).ax)).setCell ⟨rb,1,none⟩ (.int .i64 (fR c half ax).depth)).setCell ⟨rb,2,none⟩ (.slice Aq (fR c half ax).blocks.length cq)).setCell ⟨rb,3,none⟩ (.slice Ar Eu.length cr)):=
     vj uh rb _ _ _ _
    refine⟨_,rfl,(HV.o.aL kG (fun x hx=>Or.inr hx)).mono (fun x hx=>Or.inl hx),?_⟩;exact(((oU.o.setCell (p:=⟨rb,0,none⟩) hle _).setCell (p:=⟨rb,1,none⟩) hle _).setCell (p:=⟨rb,2,none⟩) hle _).setCell (p:=⟨rb,3,none⟩) hle _
end
end Go.Proofs.YthgdhacopamklaaGreat

/- What HashNone asks, part 32 of 41: parts of the walks and laws, each true as it stands. -/
import Derived.Test.YthgdhacopamklaaGreatTBA
set_option maxHeartbeats 16000000
set_option maxRecDepth 100000
set_option linter.unusedVariables false
set_option linter.unusedSimpArgs false
namespace Go.Proofs.YthgdhacopamklaaGreat
open Go.Proofs.Tryz
section
open Go.RowKit
attribute [local go_sem] Oper.semAt_some
variable {base c g n : Nat} {w : Wo} {l xs : List Int} {x : Int}
def Sw (tb:Nat):Va:= .func (.func 149) #[] #[.pointer (some ⟨tb,0,none⟩)]
structure sH (base:Nat) (W:Wo) (tb:Nat) (stay:List Int):Prop where
 lt:tb<base
 ex:∃A c,aq W tb 34 [.slice A stay.length c]∧Ns W base .i64 (.slice A stay.length c) stay
theorem sH.below {W W' :Wo} {tb:Nat} {stay:List Int} (h:sH base W tb stay) (hb:Below base W W'):sH base W' tb stay:=by
 obtain⟨A,c,h1,h2⟩:=h.ex;exact⟨h.lt,A,c,h1.aQ (hb.block tb h.lt),Ns.below h2 hb⟩
def j9 (stay:List Int) (x:Int):Bool:= !(stay.contains x)
theorem qT (base:Nat) (w:Wo) (tb:Nat) (stay:List Int) (h:sH base w tb stay) (hl:stay.length≤100000) (x:Int):
  Calls prog 149 #[.int .i64 x,.pointer (some ⟨tb,0,none⟩)] w fun r w' =>r= .returned (.bool (stay.contains x))∧w=w' :=by
 obtain⟨A,c,h1,h2⟩:=h.ex;have HC:=aa (oF w _ stay base h2 (Qh hl (by decide)) x);have z0:=h1.cell (j:=0) rfl;obtain⟨R,hR⟩:=eX (stay.contains x);rw[←hR] at HC⊢;generalize stay.length=n at*;clear h h1 h2 hl hR;go_enter func149,ntmps149;go_wp2_with(go_at_call 124;go_must(refine HC.o.mono ?_);rintro e W2 ⟨rfl,rfl⟩);go_ret;exact⟨rfl,rfl⟩
theorem DH (base:Nat) (w:Wo) (v:Va) (l:List Int) (h:Ns w w.heap.size .i64 v l) (hl:l.length≤100000) (tb:Nat) (stay:List Int) (hs:sH base w tb stay) (kr:stay.length≤100000):
  Calls prog 224 #[v,Sw tb] w fun r w' =>((∃k:Nat,k<l.length∧r= .returned (.int .i64 k)∧(∃e,l[k]? =some e∧j9 stay e=false)∧(∀e∈l.take k,j9 stay e=true))∨r= .returned (.int .i64 (-1))∧(∀e∈l,j9 stay e=true))∧w=w' :=by
 obtain⟨A,c,rfl,-,-⟩:=h.form;obtain⟨n,hn⟩:=eX l.length;have H:=aa h;have HS:=aa hs;have Hn:=iJ hn (by omega:n≤100000) kr;rw[←hn];unfold Sw;clear h hl hn hs kr;go_enter func224,ntmps224;go_wp2_with fail;go_loop [8] (fun iv=>∃k:Nat,k≤n∧iv= .int .i64 k∧Af (∀e∈l.take k,j9 stay e=true)) (fun iv=>n - (intOf iv).toNat)
 case atStart=>exact⟨0,Qp _,rfl,fun e he=>(by cases he)⟩
 case round=>
  obtain⟨k,cH,rfl,HR⟩:=hrel;by_cases hk:k<n
  ·have bQ:k<l.length:=by rw[←Hn.o.1];exact hk
   obtain⟨b,o,c',hv,-,-,bO,aH⟩:=H.o.cells (QO (Qp _) bQ);obtain rfl:A=some ⟨b,o,none⟩:=by injection hv
   have z0:=aH k bQ;obtain⟨x,hx⟩:=eX (l.getD k 0);have oP:l[k]? =some x:=by rw[hx,Qe,Qf bQ];rfl
   rw[←hx] at z0;have HO:=qT base w tb stay HS.o Hn.o.2.2 x;obtain⟨R,hR⟩:=eX (stay.contains x);rw[←hR] at HO;replace HO:=aa HO;have HX:=iJ oP hR hk;obtain⟨u1,u2,u3⟩:=bR hk Hn.o.2.1 (by decide);have Hu:=aa u1;clear hv bO aH hx oP hR hk bQ u1 cH;cases R
   ·go_wp2_with(go_at_call 149;go_must(refine HO.o.mono ?_);rintro e W2 ⟨rfl,rfl⟩);refine⟨⟨k+1,HX.o.2.2,by first|rfl|(rw[Hu.o];rfl),fun e he=> ?_⟩,by first|exact al HX.o.2.2|(rw[Hu.o];exact al HX.o.2.2)⟩;rw[aA l k x HX.o.1] at he;rcases Qz.1 he with he|he
    ·exact HR.o e he
    ·rw[Qx.1 he];unfold j9;rw[←HX.o.2.1];rfl
   ·go_wp2_with(go_at_call 149;go_must(refine HO.o.mono ?_);rintro e W2 ⟨rfl,rfl⟩)
    all_goals(try rw[Qv])
    all_goals go_ret
    all_goals exact⟨.inl ⟨k,HX.o.2.2,rfl,⟨x,HX.o.1,by unfold j9;rw[←HX.o.2.1];rfl⟩,HR.o⟩,rfl⟩
  ·have agx:=QE cH (QC hk);have bm:=HR.o;rw[Qj (by rw[agx,Hn.o.1];exact Qg _)] at bm;have HA:=aa bm;subst agx;clear hk bm HR cH;go_wp2_with fail
   try rw[Qv]
   go_ret;exact⟨.inr ⟨rfl,HA.o⟩,rfl⟩
theorem Rh (h:aB w base 3 .i64 (.slice (some ⟨g,0,none⟩) n c) xs) (hn:n=xs.length) (i:Nat) (hi:i≤n):aB w base 3 .i64 (.slice (some ⟨g,0,none⟩) i c) (xs.take i):=by
 unfold aB at h⊢;rw[←hn] at h;have:=Je h i hi;rw[Nat.mul_one,←List.map_take] at this;rw[Qu,Zh (by omega)];exact this
theorem Cp (h:aB w base 3 .i64 (.slice (some ⟨g,0,none⟩) n c) xs) (i:Nat) (x:Int):aB (w.setCell ⟨g,i,none⟩ (.int .i64 x)) base 3 .i64 (.slice (some ⟨g,0,none⟩) n c) (xs.set i x):=by
 have hn:n=xs.length:=by
  rcases h.2 with⟨h2,_⟩|⟨g',cap,cur,h2,_⟩
  ·cases h2
  ·injection h2
 subst hn;unfold aB at h⊢;rw[Zy,List.map_set];exact tS h i _
theorem abU {v:Va} (h:aB w base 3 .i64 v l) (hl:0<l.length):∃g c,v= .slice (some ⟨g,0,none⟩) l.length c∧base≤g∧g<w.heap.size∧l.length≤c:=by
 have h' :=h;have hx:∃g c,v= .slice (some ⟨g,0,none⟩) l.length c:=by unfold aB at h';obtain⟨n,hn⟩:∃n,l.length=n+1:=⟨l.length - 1,by omega⟩;rw[hn] at h';obtain⟨g,c,e⟩:=ownsRow_succ h';exact⟨g,c,by rw[e,hn]⟩
 obtain⟨g,c,rfl⟩:=hx;have h2:=Xr h g rfl;refine⟨g,c,rfl,h2.1,h2.2,?_⟩;obtain⟨-,⟨h3,_⟩|⟨g',cap,cur,h3,_,_,h4,_⟩⟩:=h
 ·cases h3
 ·cases h3;exact h4
theorem GW (h:aB w base 3 .i64 (.slice (some ⟨g,0,none⟩) n c) xs) (hn:n=xs.length) (i:Nat) (hi:i≤n) (c' :Nat) (ty:TypeId):
  ∃w',(Builtin.clear_ #[34] ty #[.slice (some ⟨g,i,none⟩) (n - i) c']).run prog w= .ok (.tuple #[]) w'∧aB w' base 3 .i64 (.slice (some ⟨g,0,none⟩) i c) (xs.take i)∧w.grownBy w' (some g):=by
 rcases Nat.eq_or_lt_of_le hi with he|aJ
 ·subst he;refine⟨w,?_,Rh h hn i (Qg _),⟨rfl,rfl,rfl,Qg _,fun _ _ _=>rfl⟩⟩;rw[XE];simp[Builtin.clear_,run_underlying underlying34]
 ·have h0:=h;unfold aB at h;rw[←hn] at h;obtain⟨hl,h1⟩:=h;rcases h1 with⟨h2,_⟩|⟨g',cap,cur,h2,hb,hh,yW,hm,hs,ht⟩
  ·cases h2
  ·cases h2
   have JC:(Builtin.zeroCells #[.int .i64 0] (n - i)).toList.length=(n - i)*1:=by simp[Builtin.zeroCells]
   have mM:∀v∈(Builtin.zeroCells #[.int .i64 0] (n - i)).toList,v.oneCell' =true:=by intro v hv;simp[Builtin.zeroCells] at hv;obtain⟨q,-,rfl⟩:=hv;rw[Nat.mod_one];rfl
   generalize hZ:(Builtin.zeroCells #[.int .i64 0] (n - i)).toList=Z at*;rw[Nat.mul_one] at hs;have cz:i+0+Z.length≤cur.size:=by rw[JC,hs];omega
   have cO:=run_storeCells_at (P:=prog) g i 3 Z 0 cur w hh cz mM;simp only[XC] at cO;have hh' :=setRow_heap w g cur (cur.toList.take i++Z++cur.toList.drop (i+Z.length)).toArray _ _ hh;refine⟨w.setRow g (cur.toList.take i++Z++cur.toList.drop (i+Z.length)).toArray,?_,?_,⟨rfl,rfl,rfl,?_,fun k _ hk=>setRow_other w g k _ (fun e=>hk (by rw[e]))⟩⟩
   ·obtain⟨m,Nf⟩:∃m,n - i=m+1:=⟨n - i - 1,by omega⟩;have hzv:∀w,(zeroValue 3).run prog w= .ok (.int .i64 0) w:=fun w=>by kernel_rfl
    rw[Nf] at hZ⊢;simp[Builtin.clear_,run_underlying underlying34,hzv,show(Value.int .i64 0).cells= #[.int .i64 0] from rfl,hZ,cO]
   ·have oJ:(xs.take i).length=i:=by rw[Qu];omega
    unfold aB;rw[oJ,List.map_take,←ht];have iH:i≤cur.toList.length:=by rw[Array.length_toList,hs];omega
    refine⟨?_,.inr ⟨g,c,_,rfl,hb,hh',by omega,hm,?_,?_⟩⟩
    ·rw[List.take_take,Qu,Array.length_toList,hs,Nat.mul_one];omega
    ·rw[QW,Qo,Qo,Qu,Zt,Array.length_toList,hs,JC];omega
    ·rw[Nat.mul_one,QY,List.take_append_of_le_length (by rw[Qu];omega),List.take_take,Nat.min_self,List.take_take,Zh (by omega)]
   ·show w.heap.size≤(w.heap.modify g _).size;rw[Array.size_modify];exact Qg _
theorem vN (p:Int→Bool):∀l:List Int,(¬∀e∈l,p e=true)→∃k x,l[k]? =some x∧p x=false∧∀e∈l.take k,p e=true
 |[],h=>absurd (fun e he=>by cases he) h
 |a::r,h=>by
  cases ha:p a with
  |false=>exact⟨0,a,rfl,ha,fun e he=>by cases he⟩
  |true=>
   obtain⟨k,x,h1,h2,h3⟩:=vN p r (fun h4=>h (fun e he=>by
    rcases QA.1 he with rfl|he
    ·exact ha
    ·exact h4 e he))
   refine⟨k+1,x,h1,h2,fun e he=> ?_⟩;rw[Zw] at he;rcases QA.1 he with rfl|he
   ·exact ha
   ·exact h3 e he
theorem GG {p:Int→Bool} {k k' :Nat} {x' :Int} (h1:l[k]? =some x) (h2:p x=false) (h3:∀e∈l.take k,p e=true) (g1:l[k']? =some x') (g2:p x' =false) (g3:∀e∈l.take k',p e=true):k=k' :=by
 rcases Nat.lt_trichotomy k k' with h|h|h
 ·have:x∈l.take k' :=Qi (i:=k) (by rw[Ze,Xo h];exact h1);rw[g3 x this] at h2;cases h2
 ·exact h
 ·have:x'∈l.take k:=Qi (i:=k') (by rw[Ze,Xo h];exact g1);rw[h3 x' this] at g2;cases g2
theorem we {es:List Int} {i:Nat} (h:i<es.length):(es.set i x).take (i+1)=es.take i++[x]:=by
 rw[aA (es.set i x) i x (by rw[List.getElem?_set];simp[h]),List.take_set];congr 1
 rw[List.set_eq_of_length_le];rw[Qu];omega
structure UY (base g n c tb:Nat) (stay l:List Int) (w:Wo) (j i:Nat) (wr:Wo):Prop where
 jn:j≤n
 ij:i≤j
 row:∃oT,aB wr base 3 .i64 (.slice (some ⟨g,0,none⟩) n c) oT∧oT.length=n∧oT.take i=(l.take j).filter (j9 stay)∧oT.drop j=l.drop j
 st:sH base wr tb stay
 low:Below base w wr
 sz:base≤wr.heap.size
theorem zZ (w:Wo) (base:Nat) (v:Va) (l:List Int) (h:aB w base 3 .i64 v l) (jr:base≤w.heap.size) (hl:l.length≤100000) (tb:Nat) (stay:List Int) (hs:sH base w tb stay) (kr:stay.length≤100000):
  Calls prog 148 #[v,Sw tb] w fun r w' =>∃v',r= .returned v'∧aB w' base 3 .i64 v' (l.filter (j9 stay))∧Below base w w' :=by
 have hI:=DH base w v l h.ns hl tb stay hs kr;have HS:=aa hs;have HH:=aa h;obtain⟨A,c,hv,-,-⟩:=Ns.form h.ns;obtain⟨n,hn⟩:=eX l.length;rw[←hn] at hv;have Hn:=kH hn (by omega:n≤100000) jr kr;subst hv;by_cases bm:∀e∈l,j9 stay e=true
 ·have HI:Af (Calls prog 224 #[.slice A n c,Sw tb] w fun r w' =>r= .returned (.int .i64 (-1))∧w=w'):=hI.mono fun r w' ⟨h1,h2⟩=>by
   rcases h1 with⟨k,hk,h3,⟨e,h4,h5⟩,-⟩|⟨h3,h4⟩
   ·rw[bm e (Qi h4)] at h5;cases h5
   ·exact⟨h3,h2⟩
  have HF:=aa (List.filter_eq_self.2 bm);unfold Sw at HI⊢;clear h hl hs hn jr hI bm kr;go_enter func148,ntmps148;go_wp2_with(go_at_call 224;go_must(refine HI.o.mono ?_);rintro e W2 ⟨rfl,rfl⟩)
  try rw[Qv]
  go_ret;exact⟨_,rfl,by rw[HF.o];exact HH.o,Xj _ _⟩
 ·obtain⟨k,x,h1,h2,h3⟩:=vN _ l bm;have bQ:=(Ql.1 h1).1;obtain⟨g,c',hv,Np,hgw,ZP⟩:=abU h (QO (Qp _) bQ);rw[←hn] at hv ZP;obtain⟨rfl,rfl⟩:A=some ⟨g,0,none⟩∧c=c' :=by injection hv with e1 _ e3;exact⟨e1,e3⟩
  have HI:Af (Calls prog 224 #[.slice (some ⟨g,0,none⟩) n c,Sw tb] w fun r w' =>r= .returned (.int .i64 k)∧w=w'):=hI.mono fun r w' ⟨q1,q2⟩=>by
   rcases q1 with⟨k',hk,q3,⟨e,q4,q5⟩,q6⟩|⟨q3,q4⟩
   ·rw[GG h1 h2 h3 q4 q5 q6];exact⟨q3,q2⟩
   ·exact absurd q4 bm
  have TE:(l.take (k+1)).filter (j9 stay)=l.take k:=by rw[aA l k x h1,List.filter_append,List.filter_eq_self.2 h3];simp[h2]
  have rj:Af (UY base g n c tb stay l w (k+1) k w):=
   ⟨by rw[Hn.o.1];exact bQ,Q0 k,⟨l,h,hn.symm,TE.symm,rfl⟩,hs,Xj _ _,jr⟩
  have Hg:=iJ Np ZP (by rw[hn];exact bQ:k<n);have k0:((k:Int)== -1)=false:=Xc (by omega);have k9:k≤100000:=by rw[←hn] at bQ;omega
  have kw:IntKind.i64.wrap ((k:Int)+1)=(k:Int)+1:=by simp only[XN];omega
  unfold Sw at HI⊢;clear h hl hs hn jr hI bm h1 h2 h3 bQ hv Np hgw ZP TE k9 kr;go_enter func148,ntmps148;go_wp2_with(go_at_call 224;go_must(refine HI.o.mono ?_);rintro e W2 ⟨rfl,rfl⟩);clear k0 kw HI HH;go_loopw [6,5] (fun jv iv wr=>∃j i:Nat,jv= .int .i64 j∧iv= .int .i64 i∧Af (UY base g n c tb stay l w j i wr)) (fun jv _ _=>n - (intOf jv).toNat)
  case atStart=>exact⟨k+1,k,by rw[Int.natCast_succ],rfl,rj.o⟩
  case round=>
   obtain⟨j,i,rfl,rfl,HD⟩:=hrel;by_cases hj:j<n
   ·obtain⟨oT,r1,r2,r3,r4⟩:=HD.o.row;obtain⟨y,hy⟩:∃y,l[j]? =some y:=⟨_,Qf (by rw[←Hn.o.1];exact hj)⟩;have hy' :oT[j]? =some y:=by have q1:=XF (fun z=>z[0]?) r4;simpa[Zb,hy] using q1
    obtain⟨b9,o9,c9,Ea,-,-,l9,Nb⟩:=r1.ns.cells (by rw[r2];omega);obtain⟨e1,e2⟩:g=b9∧0=o9:=by injection Ea with q1;injection q1 with q1;injection q1 with q2 q3;exact⟨q2,q3⟩
    subst e1 e2;have z0:wr.cell? ⟨g,j,none⟩=some (.int .i64 y):=by have q1:=Nb j (by rw[r2];exact hj);rw[QR,Qe,hy'] at q1;exact q1
    have zi:∃u,wr.cell? ⟨g,i,none⟩=some u:=by have q1:=Nb i (by rw[r2];exact QO HD.o.ij hj);rw[QR] at q1;exact⟨_,q1⟩
    obtain⟨ui,zi⟩:=zi;have fi:=jN r1 i;have HO:=qT base wr tb stay HD.o.st Hn.o.2.2.2 y;obtain⟨R,hR⟩:=eX (stay.contains y);rw[←hR] at HO;replace HO:=aa HO;have hRp:j9 stay y= !R:=by rw[hR];rfl
    have NQ:=aa HD.o;have jh:=kH r1 r2 r3 r4;have HX:=kH hy hRp hj HD.o.ij;obtain⟨u1,u2,u3⟩:=bR hj Hn.o.2.1 (by decide);have Hu:=aa u1;have i0:=Xh i;have iN:(i:Int)<n:=by have:=HD.o.ij;omega
    have iw:IntKind.i64.wrap ((i:Int)+1)=(i:Int)+1:=by have:=HD.o.ij;have:=Hn.o.2.1;simp only[XN];omega
    clear r1 r2 r3 r4 hy hy' Nb Ea hR hRp HD hj u1 l9;go_upto_region 8 with fail
    cases R
    ·have hM:UY base g n c tb stay l w (j+1) (i+1) (wr.setCell ⟨g,i,none⟩ (.int .i64 y)):=by
      have hil:i<oT.length:=by rw[jh.o.2.1];exact QO HX.o.2.2.2 HX.o.2.2.1
      refine⟨HX.o.2.2.1,Nat.succ_le_succ HX.o.2.2.2,⟨oT.set i y,Cp jh.o.1 i y,by rw[Zy];exact jh.o.2.1,?_,?_⟩,NQ.o.st.below ((Xj base wr).setCell (p:=⟨g,i,none⟩) Hg.o.1 _),NQ.o.low.setCell (p:=⟨g,i,none⟩) Hg.o.1 _,?_⟩
      ·rw[we hil,jh.o.2.2.1,aA l j y HX.o.1,List.filter_append];simp[HX.o.2.1]
      ·rw[List.drop_set_of_lt (by have:=HX.o.2.2.2;omega),←List.drop_drop,jh.o.2.2.2,List.drop_drop]
      ·rw[World.size_setCell];exact NQ.o.sz
     have HM:=aa hM;clear hM;go_wp2_with(go_at_call 149;go_must(refine HO.o.mono ?_);rintro e W9 ⟨rfl,rfl⟩);exact⟨⟨j+1,i+1,by first|rfl|(rw[Hu.o];rfl),by first|rfl|(rw[Int.natCast_succ]),HM.o⟩,by first|exact al HX.o.2.2.1|(rw[Hu.o];exact al HX.o.2.2.1)⟩
    ·have hN:UY base g n c tb stay l w (j+1) i wr:=by
      refine⟨HX.o.2.2.1,XK HX.o.2.2.2,⟨oT,jh.o.1,jh.o.2.1,?_,?_⟩,NQ.o.st,NQ.o.low,NQ.o.sz⟩
      ·rw[jh.o.2.2.1,aA l j y HX.o.1,List.filter_append];simp[HX.o.2.1]
      ·rw[←List.drop_drop,jh.o.2.2.2,List.drop_drop]
     have HN:=aa hN;clear hN;go_wp2_with(go_at_call 149;go_must(refine HO.o.mono ?_);rintro e W9 ⟨rfl,rfl⟩);exact⟨⟨j+1,i,by first|rfl|(rw[Hu.o];rfl),rfl,HN.o⟩,by first|exact al HX.o.2.2.1|(rw[Hu.o];exact al HX.o.2.2.1)⟩
   ·have tC:=QE HD.o.jn (QC hj);obtain⟨oT,r1,r2,r3,r4⟩:=HD.o.row;have ph:i≤n:=by rw[←tC];exact HD.o.ij
    obtain⟨w6,ZK,h6,g6⟩:=GW r1 r2.symm i ph (c - i) 0;have H6:=aa h6;have G6:=aa g6;have zm:oT.take i=l.filter (j9 stay):=by rw[r3,Qj (by rw[tC,Hn.o.1];exact Qg _)]
    have oN:=aa zm;have HL:=aa HD.o.low;have Hgr:=aa HD.o.sz;have i0:=Xh i;have iN:=Int.ofNat_le.2 ph;have nc:=Int.ofNat_le.2 Hg.o.2.1;have ic:=Int.le_trans iN nc;subst tC;clear HD hj r1 r2 r3 r4 zm h6 g6;have mZ:=dK (by rw[←oN.o];exact H6.o:aB w6 base 3 .i64 (.slice (some ⟨g,0,none⟩) i c) (l.filter (j9 stay))) (HL.o.grown G6.o Hgr.o (fun j e=>by cases(Qr e);exact Hg.o.1));by_cases hci:c=i
    ·have wJ:=QE ph (by rw[←hci];exact Hg.o.2.1);subst wJ;rw[XE] at ZK;have oI:∀(A:Option Addr) (q:Nat),(Builtin.clear_ #[34] 0 #[.slice A 0 q]).run prog wr= .ok (.tuple #[]) wr:=fun A q=>by cases A<;>simp[Builtin.clear_,run_underlying underlying34]
     have hw6:w6=wr:=by
      have h1:=ZK;rw[oI] at h1;injection h1 with _ h1
      exact h1.symm
     subst hw6;have mM:=oI (some ⟨g,0,none⟩) 0;subst hci;clear oI ZK;go_wp2_with fail
     try rw[Qv]
     go_ret;exact⟨_,rfl,mZ.o.1,mZ.o.2⟩
    ·go_wp2_with fail
     try rw[Qv]
     go_ret;exact⟨_,rfl,mZ.o.1,mZ.o.2⟩
end
end Go.Proofs.YthgdhacopamklaaGreat

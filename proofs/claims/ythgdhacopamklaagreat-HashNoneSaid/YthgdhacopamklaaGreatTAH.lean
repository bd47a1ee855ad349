/- What HashNone asks, part 8 of 41: parts of the walks and laws, each true as it stands. -/
import Derived.Deep.MidRow
import Derived.Great.BuildSlice
import Derived.Test.YthgdhacopamklaaGreatTAG
set_option maxHeartbeats 16000000
set_option maxRecDepth 100000
set_option linter.unusedVariables false
set_option linter.unusedSimpArgs false
namespace Go.Proofs.YthgdhacopamklaaGreat
open Go.Proofs.Tryz
section
open Go.RowKit
attribute [local go_sem] Oper.semAt_some
variable {w : Wo} {B : Nat}
theorem ff (n:Int) (h0:0≤n) (h1:n≤100000):0≤aR n∧aR n≤1700:=by unfold aR;split<;>omega
theorem Cy (w:Wo) (n:Nat) (h0:1≤n) (h1:n≤4096):Calls prog 78 #[.int .i64 n] w fun e w' =>e= .returned (.int .i64 (kU n))∧w=w' :=by
 obtain⟨k,hk⟩:=eX (aR n);obtain⟨m,hm⟩:=eX (aR k);have r1:=ff n (by omega) (by omega);have tp:=aa (dY w n (by omega) (by omega));have r2:=ff k (by omega) (by omega);have AJ:=aa (dY w k (by omega) (by omega));rw[←hk] at tp r1;rw[←hm] at AJ r2;unfold kU;rw[←hk,←hm];have g:¬(n:Int)<1:=by omega
 have hw:=trivial;obtain⟨r3,r4⟩:=r1;obtain⟨r5,r6⟩:=r2;clear hk hm h0 h1 hw;go_enter func78,ntmps78;go_wp2_with(first
  |(go_at_call 36;(with_reducible refine tp.o.mono ?_);rintro e W2 ⟨rfl,rfl⟩)
  |(go_at_call 36;(with_reducible refine AJ.o.mono ?_);rintro e W2 ⟨rfl,rfl⟩))
 go_ret;exact⟨rfl,rfl⟩
theorem wj (l:List Int) (o k:Nat) (x:Int) (h:l[o+k]? =some x):(l.drop o).take (k+1)=(l.drop o).take k++[x]:=by
 rw[List.take_add_one,Zb,h];rfl
theorem Yr {p k q:Nat} (h:p+k<q):q - (intOf (.int .i64 ((p:Int)+k+1))).toNat<q - (intOf (.int .i64 ((p:Int)+k))).toNat:=by simp[intOf];omega
theorem GQ (w:Wo) (tb cb mb:Nat) (t:aE) (h:bf w tb cb mb t) (eL:Nat) (hp:61*eL≤t.len):
  Calls prog 113 #[.pointer (some ⟨tb,0,none⟩),.int .i64 eL] w fun e w' =>∃v,e= .returned v∧aB w' w.heap.size 61 .u16 v (eI t eL)∧Below w.heap.size w w' :=by
 obtain⟨n,hn⟩:=eX t.len;obtain⟨q,hq⟩:=eX (min (61*eL+61) n);have H:=aa h;have Hn:=Ba hn (by have:=h.ok.n1;omega:n≤4096) (by omega:61*eL≤n) hq (by omega:61*eL≤q);have hm:IntKind.i64.wrap 0=0:=by decide
 have g0:¬(eL:Int)<0:=by omega
 have w1:wrap64 ((eL:Int)*61)=61*eL:=by unfold wrap64;have:=Hn.o;omega
 have w2:wrap64 ((eL:Int)+1)=eL+1:=by unfold wrap64;have:=Hn.o;omega
 have w3:wrap64 (((eL:Int)+1)*61)=61*eL+61:=by unfold wrap64;have:=Hn.o;omega
 have HB:=aa (fun (W:Wo) (hW:Below w.heap.size w W)=>cn W tb n _ _ (by rw[hn];exact(h.on hW).x0));have hpq:min (61*(eL:Int)+61) n=q:=by omega
 clear h hn hq hp;go_enter func113,ntmps113;go_wp2_with fail;obtain⟨p0,tA⟩:∃p0:Nat,p0=61*eL:=⟨_,rfl⟩;have e0:(61*(eL:Int))=(p0:Int):=by omega
 rw[e0] at w1 w3 hpq⊢;have Hp0:=aa tA;have ZN:(q:Int)≤4096:=by have:=Hn.o;omega
 clear hm e0 tA;go_loopw [6,5] (fun b v wr=>∃k:Nat,b= .int .i64 ((p0:Int)+k)∧Af (p0+k≤q∧aB wr w.heap.size 61 .u16 v ((t.counts.drop p0).take k)∧Below w.heap.size w wr)) (fun b _ _=>q - (intOf b).toNat)
 case atStart=>exact⟨0,by simp,by have:=Hn.o;have:=Hp0.o;omega,cQ _ _ _ _,Xj _ _⟩
 case round=>
  obtain⟨k,rfl,HR⟩:=hrel;have MV:=aa (HB.o wr HR.o.2.2);by_cases aJ:p0+k<q
  ·have hi:(p0:Int)+k<q:=by omega
   have ml:(0:Int)≤(p0:Int)+k:=by omega
   obtain⟨x,hx⟩:=eX (t.get (p0+k));have cH:p0+k<t.len:=by have:=Hn.o;omega
   have pf:t.counts[p0+k]? =some x:=by rw[hx];exact aE.Fk cH
   have wA:=aE.ll H.o.ok (p0+k);rw[←hx] at wA;have HG:=qH wr tb cb mb t (H.o.on HR.o.2.2) ((p0:Int)+k);rw[Xo ml,show((p0:Int)+k).toNat=p0+k by omega,←hx] at HG;have HGr:=aa HG;have JF:IntKind.u16.wrap x=x:=by unfold IntKind.wrap;simp[IntKind.signed,IntKind.bits];omega
   have Hx:=dK pf (by rw[Qu,Zt];have:t.len=t.counts.length:=rfl;have:=Hn.o;omega:((t.counts.drop p0).take k).length≤100000);have hw4:wrap64 ((p0:Int)+k+1)=(p0:Int)+k+1:=by unfold wrap64;omega
   have bj:=aa aJ;have Hw4:=aa hw4;obtain⟨A0,n0,c0,Ew⟩:=HR.o.2.1.bu;subst Ew;have tJ:=aa (aB.on HR.o.2.1 (aF wr (.cells #[.int .u16 x] 61)));have IB:=aa (ar wr [.int .u16 x] 61);have rk:=aa (HR.o.2.2.trans ((aF wr (.cells #[.int .u16 x] 61)).mono HR.o.2.2.size));clear hx cH pf wA HG aJ HR;go_wp2_with(first
    |(go_at_call 98;go_must(refine MV.o.mono ?_);rintro e W2 ⟨rfl,rfl⟩)
    |(go_at_call 95;go_must(refine HGr.o.mono ?_);rintro e W3 ⟨rfl,rfl⟩)
    |(at_builtin;(with_reducible refine wl_app1 NKw (os:= .tmp 21) (ox:= .tmp 26) w.heap.size _ _ tJ.o wr.heap.size x IB.o ?_ ?_ ?_ ?_ ?_);go_must((·exact Hx.o.2);(·exact rk.o.size);(·rfl);(·rfl);intro v' w' ho hg;have JW:=aa ho;have px:=aa (Below.app rk.o tJ.o (Qg _) rk.o.size hg);clear ho hg w1 w2 w3 hpq JF hi ml ZN g0)))
   go_roundw
   case rel=>refine⟨k+1,by first|(rw[Hw4.o];exact XF _ (Int.add_assoc _ _ _))|exact XF _ (Int.add_assoc _ _ _),bj.o,?_,px.o⟩;rw[wj _ _ _ _ Hx.o.1];exact JW.o
   case measure=>first|(rw[Hw4.o];exact Yr bj.o)|exact Yr bj.o
  ·have hk:p0+k=q:=by have:=HR.o.1;omega
   have hi:¬(p0:Int)+k<q:=by omega
   have e1:(t.counts.drop p0).take k=eI t eL:=by
    unfold eI;rw[←Hp0.o];have h1:t.len=t.counts.length:=rfl;have:=Hn.o;have:=Hp0.o;by_cases h2:k=61
    ·rw[h2]
    ·rw[Qj (by rw[Zt];omega),Qj (by rw[Zt];omega)]
   have fF:=aa HR.o.2;rw[e1] at fF;obtain⟨A0,n0,c0,Ew⟩:=fF.o.1.bu;subst Ew;clear e1 HR hk aJ;go_wp2_with(go_at_call 98;go_must(refine MV.o.mono ?_);rintro e W2 ⟨rfl,rfl⟩);go_ret;exact⟨_,rfl,fF.o.1,fF.o.2⟩
theorem aA {α:Type} (l:List α) (k:Nat) (x:α) (h:l[k]? =some x):l.take (k+1)=l.take k++[x]:=by
 rw[List.take_add_one,h];rfl
theorem yo (w:Wo) (v:Va) (l:List Int) (h:Ns w w.heap.size .i64 v l) (hl:l.length≤10000) (hr:∀x∈l,0≤x∧x≤65535):
  Calls prog 53 #[v] w fun e w' =>∃v',e= .returned v'∧aB w' w.heap.size 61 .u16 v' l∧Below w.heap.size w w' :=by
 obtain⟨A,c,rfl,jb,pk⟩:=h.form;obtain⟨n,hn⟩:=eX l.length;have H:=aa h;have Hn:=dK hn (by omega:n≤10000);have Hr:=aa hr;rw[←hn];clear h hl hr hn jb pk;go_enter func53,ntmps53;go_wp2_with fail;go_loopw [8,3] (fun i v wr=>∃k:Nat,i= .int .i64 k∧Af (k≤n∧aB wr w.heap.size 61 .u16 v (l.take k)∧Below w.heap.size w wr)) (fun i _ _=>n - (intOf i).toNat)
 case atStart=>exact⟨0,rfl,Qp _,cQ _ _ _ _,Xj _ _⟩
 case round=>
  obtain⟨k,rfl,HR⟩:=hrel;obtain⟨A0,n0,c0,Ew⟩:=HR.o.2.1.bu;subst Ew;by_cases aJ:k<n
  ·have bQ:k<l.length:=by have:=Hn.o;omega
   obtain⟨b,o,c',hv,-,-,hb,aH⟩:=H.o.cells (by omega);cases hv
   obtain⟨x,hx⟩:=eX (l.getD k 0);have pf:l[k]? =some x:=by rw[hx,Qe,Qf bQ];rfl
   have wA:=Hr.o x (Qi pf);have y0:wr.cell? ⟨b,o+k,none⟩=some (.int .i64 x):=(HR.o.2.2.cell (p:=⟨b,o+k,none⟩) hb).trans (by rw[hx];exact aH k bQ);have JF:IntKind.u16.wrap x=x:=by unfold IntKind.wrap;simp[IntKind.signed,IntKind.bits];omega
   have fp:wrap64 ((k:Int)+1)=(k:Int)+1:=by unfold wrap64;have:=Hn.o;omega
   have hi:(k:Int)<n:=by omega
   have ml:(0:Int)≤k:=by omega
   have bj:=aa aJ;have eu:=aa fp;have Hx:=dK pf (by rw[Qu];have:=Hn.o;omega:(l.take k).length≤100000);have tJ:=aa (aB.on HR.o.2.1 (aF wr (.cells #[.int .u16 x] 61)));have IB:=aa (ar wr [.int .u16 x] 61);have rk:=aa (HR.o.2.2.trans ((aF wr (.cells #[.int .u16 x] 61)).mono HR.o.2.2.size));clear hx pf wA bQ aJ HR aH hb;go_wp2_with(at_builtin;(with_reducible refine wl_app1 NKw (os:= .tmp 12) (ox:= .tmp 15) w.heap.size _ _ tJ.o wr.heap.size x IB.o ?_ ?_ ?_ ?_ ?_);go_must((·exact Hx.o.2);(·exact rk.o.size);(·rfl);(·rfl);intro v' w' ho hg;have JW:=aa ho;have px:=aa (Below.app rk.o tJ.o (Qg _) rk.o.size hg);clear ho hg hi ml JF));go_roundw
   case rel=>refine⟨k+1,by first|rfl|(rw[eu.o];rfl),bj.o,?_,px.o⟩;rw[aA _ _ _ Hx.o.1];exact JW.o
   case measure=>first|exact al bj.o|(rw[eu.o];exact al bj.o)
  ·have hk:k=n:=by have:=HR.o.1;omega
   have hi:¬(k:Int)<n:=by omega
   have e1:l.take k=l:=Qj (by have:=Hn.o;omega);have fF:=aa HR.o.2;rw[e1] at fF;clear e1 HR hk aJ;go_wp2_with fail;go_ret;exact⟨_,rfl,fF.o.1,fF.o.2⟩
theorem Fh {A:Option Addr} {c:Nat} {k:IntKind} {l:List Int} (h:Ns w B k (.slice A l.length c) l) (i j:Nat) (wJ:i≤j) (hj:j≤l.length) (hic:i<l.length):
  ∃b o,A=some ⟨b,o,none⟩∧Ns w B k (.slice (some ⟨b,o+i,none⟩) (j - i) (c - i)) ((l.drop i).take (j - i)):=by
 obtain⟨hl,A',c',hv,hc,hm,hz,hr⟩:=h;cases hv
 have hlen:((l.drop i).take (j - i)).length=j - i:=by simp;omega
 obtain⟨b,o,hA,dL⟩:=hr (by omega);refine⟨b,o,hA,?_⟩;unfold Ns;rw[hlen];refine kT (by simp;omega) (by omega) (by omega) ⟨dL.1,fun q u hu=> ?_⟩;rw[Qt,Ze] at hu;split at hu
 ·rw[Zb] at hu;rw[XB];exact dL.2 _ _ (by rw[Qt];exact hu)
 ·simp at hu
theorem KY (w:Wo) (v:Va) (l:List Int) (h:Ns w w.heap.size .i64 v l) (hl:l.length≤10000) (i:Nat) (hi:61*i<l.length):
  Calls prog 114 #[v,.int .i64 i] w fun e w' =>(∃v',e= .returned v'∧Ns w w.heap.size .i64 v' (bG l i))∧w=w' :=by
 obtain⟨A,c,rfl,jb,pk⟩:=h.form;obtain⟨q,hq⟩:=eX (min (61*i+61) l.length);obtain⟨b,o,rfl,hs⟩:=Fh h (61*i) q (by omega) (by omega) hi;have hp:(l.drop (61*i)).take (q - 61*i)=bG l i:=by
  unfold bG;by_cases h2:q=61*i+61
  ·rw[h2,Nat.add_sub_cancel_left]
  ·rw[Qj (by rw[Zt];omega),Qj (by rw[Zt];omega)]
 rw[hp] at hs;have HS:=aa hs;obtain⟨n,hn⟩:=eX l.length;rw[←hn] at jb⊢;obtain⟨p,tA⟩:=eX (61*i);rw[←tA] at HS;have w1:wrap64 ((i:Int)*61)=p:=by unfold wrap64;omega
 have w2:wrap64 ((i:Int)+1)=i+1:=by unfold wrap64;omega
 have w3:wrap64 (((i:Int)+1)*61)=(p:Int)+61:=by unfold wrap64;omega
 have hpq:min ((p:Int)+61) n=q:=by omega
 have h1:(0:Int)≤p:=by omega
 have h2:(p:Int)≤q:=by omega
 have h3:(q:Int)≤c:=by omega
 have h4:p≤q:=by omega
 have h5:q≤c:=by omega
 have h6:¬c=p:=by omega
 clear h hl hi pk hq hs hp hn tA jb;go_enter func114,ntmps114;go_wp2_with fail;go_ret;exact⟨⟨_,rfl,HS.o⟩,rfl⟩
def eT (l:List Bool):List Int:=(gG l).map fun i:Nat=>(i:Int)
theorem sM (l:List Bool) (b:Bool):gG (l++[b])=gG l++if b then[l.length] else[]:=by
 unfold gG;rw[Qo,ZA,List.range_succ,List.filter_append];congr 1
 ·refine List.filter_congr fun i hi=> ?_
  have:=Zm.1 hi;simp[Qe,QN this]
 ·simp[List.filter_cons]
theorem PA (l:List Bool) (k:Nat) (h:l[k]? =some true):eT (l.take (k+1))=eT (l.take k)++[(k:Int)]:=by
 have hk:=(Ql.1 h).1;unfold eT;rw[aA l k _ h,sM,Xo rfl,Qu,Zh (by omega),QL];rfl
theorem PB (l:List Bool) (k:Nat) (h:l[k]? =some false):eT (l.take (k+1))=eT (l.take k):=by
 unfold eT;rw[aA l k _ h,sM];simp
theorem Ft (l:List Bool):(eT l).length≤l.length:=by
 unfold eT gG;rw[Qq];exact Qh (List.length_filter_le _ _) (by simp)
def Ts (w:Wo) (B:Nat) (v:Va) (xs:List Bool):Prop:=Sl w B 1 v xs.length (xs.map .bool)
theorem Ts.cells {v:Va} {xs:List Bool} (h:Ts w B v xs) (h0:0<xs.length):∃b o c,v= .slice (some ⟨b,o,none⟩) xs.length c∧xs.length≤c∧c≤maxLen∧b<B∧∀j,j<xs.length→w.cell? ⟨b,o+j,none⟩=some (.bool (xs.getD j false)):=by
 obtain⟨b,o,c,hv,hc,hm,hr⟩:=Sl.row h h0;refine⟨b,o,c,hv,hc,hm,hr.1,fun j hj=>hr.2 j _ ?_⟩;rw[Qt,Qf hj,Qe,Qf hj];rfl
theorem xL (w:Wo) (v:Va) (l:List Bool) (h:Ts w w.heap.size v l) (hl:l.length≤10000):
  Calls prog 103 #[v] w fun e w' =>∃v',e= .returned v'∧aB w' w.heap.size 3 .i64 v' (eT l)∧Below w.heap.size w w' :=by
 obtain⟨A,c,rfl,jb,pk⟩:=Sl.form h;obtain⟨n,hn⟩:=eX l.length;have H:=aa h;have Hn:=dK hn (by omega:n≤10000);rw[←hn];clear h hl hn jb pk;go_enter func103,ntmps103;go_wp2_with fail;go_loopw [8,3] (fun i v wr=>∃k:Nat,i= .int .i64 k∧Af (k≤n∧aB wr w.heap.size 3 .i64 v (eT (l.take k))∧Below w.heap.size w wr)) (fun i _ _=>n - (intOf i).toNat)
 case atStart=>exact⟨0,rfl,Qp _,cQ _ _ _ _,Xj _ _⟩
 case round=>
  obtain⟨k,rfl,HR⟩:=hrel;obtain⟨A0,n0,c0,Ew⟩:=HR.o.2.1.bu;subst Ew;by_cases aJ:k<n
  ·have bQ:k<l.length:=by have:=Hn.o;omega
   obtain⟨b,o,c',hv,-,-,hb,aH⟩:=H.o.cells (by omega);cases hv
   obtain⟨x,hx⟩:=eX (l.getD k false);have pf:l[k]? =some x:=by rw[hx,Qe,Qf bQ];rfl
   have y0:wr.cell? ⟨b,o+k,none⟩=some (.bool x):=(HR.o.2.2.cell (p:=⟨b,o+k,none⟩) hb).trans (by rw[hx];exact aH k bQ);have fp:wrap64 ((k:Int)+1)=(k:Int)+1:=by unfold wrap64;have:=Hn.o;omega
   have hi:(k:Int)<n:=by omega
   have ml:(0:Int)≤k:=by omega
   have bj:=aa aJ;have eu:=aa fp;have Hx:Af (l[k]? =some x∧(eT (l.take k)).length≤100000):=⟨pf,Qh (Ft _) (by rw[Qu];have:=Hn.o;omega)⟩;have tJ:=aa (aB.on HR.o.2.1 (aF wr (.cells #[.int .i64 k] 3)));have IB:=aa (ar wr [.int .i64 k] 3);have rk:=aa (HR.o.2.2.trans ((aF wr (.cells #[.int .i64 k] 3)).mono HR.o.2.2.size));have fF:=aa HR.o.2;clear hx pf bQ aJ HR aH hb;cases x with
   |true=>
    go_wp2_with(at_builtin;(with_reducible refine wl_app1 NKi (os:= .tmp 14) (ox:= .tmp 16) w.heap.size _ _ tJ.o wr.heap.size k IB.o ?_ ?_ ?_ ?_ ?_);go_must((·exact Hx.o.2);(·exact rk.o.size);(·rfl);(·rfl);intro v' w' ho hg;have JW:=aa ho;have px:=aa (Below.app rk.o tJ.o (Qg _) rk.o.size hg);clear ho hg hi ml));go_roundw
    case rel=>refine⟨k+1,by first|rfl|(rw[eu.o];rfl),bj.o,?_,px.o⟩;rw[PA _ _ Hx.o.1];exact JW.o
    case measure=>first|exact al bj.o|(rw[eu.o];exact al bj.o)
   |false=>
    go_wp2_with fail;go_roundw
    case rel=>refine⟨k+1,by first|rfl|(rw[eu.o];rfl),bj.o,?_,fF.o.2⟩;rw[PB _ _ Hx.o.1];exact fF.o.1
    case measure=>first|exact al bj.o|(rw[eu.o];exact al bj.o)
  ·have hk:k=n:=by have:=HR.o.1;omega
   have hi:¬(k:Int)<n:=by omega
   have e1:l.take k=l:=Qj (by have:=Hn.o;omega);have fF:=aa HR.o.2;rw[e1] at fF;clear e1 HR hk aJ;go_wp2_with fail;go_ret;exact⟨_,rfl,fF.o.1,fF.o.2⟩
end
section
open Go.RowKit Go.Shelf
attribute [local go_sem] Oper.semAt_some
variable {s : aN}
def aP (s:aN):List Va:= .int .u64 s.gen:: .int .u32 s.blocks::(s.roots.map (.int .u32)++s.marks.map (.int .u64))
structure bM (s:aN):Prop where
 r8:s.roots.length=8
 m8:s.marks.length=8
 g:bI s.gen
 b:bX s.blocks
 r:∀x∈s.roots,bX x
 m:∀x∈s.marks,bI x
def wR (s:aN):List Int:=s.gen::s.blocks::(s.roots++s.marks)
theorem bK (h:bM s):(aP s).length=18:=by simp[aP,h.r8,h.m8]
theorem uV (h:bM s) (k:Nat) (hk:k<18):(aP s)[k]? =some (.int (fy k) ((wR s).getD k 0)):=by
 unfold aP wR fy
 match k with
 |0=>rfl
 |1=>rfl
 |k+2=>
  rw[Xd (by omega),List.getElem?_cons_succ,List.getElem?_cons_succ,List.getD_cons_succ,List.getD_cons_succ];by_cases h8:k<8
  ·rw[Xo (by omega),QN (by rw[Qq,h.r8];exact h8),Qe,QN (by rw[h.r8];exact h8),Qt,Qf (by rw[h.r8];exact h8)];rfl
  ·rw[Xd (by omega),QM (by rw[Qq,h.r8];omega),Qq,Qe,QM (by rw[h.r8];omega),Qt,Qf (by rw[h.m8,h.r8];omega)];rfl
theorem xP (h:bM s) (k:Nat) (hk:k<18):kX k ((wR s).getD k 0):=by
 unfold kX wR ia
 match k with
 |0=>exact h.g
 |1=>exact h.b
 |k+2=>
  rw[Xd (by omega),List.getD_cons_succ,List.getD_cons_succ,Qe];by_cases h8:k<8
  ·rw[Xo (by omega),QN (by rw[h.r8];exact h8),Qf (by rw[h.r8];exact h8)];exact h.r _ (QI _)
  ·rw[Xd (by omega),QM (by rw[h.r8];omega),Qf (by rw[h.m8,h.r8];omega)];exact h.m _ (QI _)
theorem jI (s:aN):∀u∈aP s,u.oneCell' =true:=by
 intro u hu;unfold aP at hu;rcases QA.1 hu with rfl|hu
 ·rfl
 ·rcases QA.1 hu with rfl|hu
  ·rfl
  ·rcases Qz.1 hu with hu|hu<;>exact dW _ _ u hu
theorem VJ (w:Wo) (xb:Nat) (b r:Int) (h:w.cell? ⟨xb,1,none⟩=some (.int .u32 b)):
  Calls prog 183 #[.int .u32 r,.pointer (some ⟨xb,0,none⟩)] w fun e w' =>e= .returned (.bool (decide (b≤r)))∧w=w' :=by
 go_enter func183,ntmps183;go_wp2_with fail;go_ret;exact⟨rfl,rfl⟩
theorem Gr (w:Wo) (xb:Nat) (b:Int) (h:w.cell? ⟨xb,1,none⟩=some (.int .u32 b)) (l:List Int) (hl:l.length=8) (hc:∀j,j<8→w.cell? ⟨xb,2+j,none⟩=some (.int .u32 (l.getD j 0))):
  Calls prog 239 #[.slice (some ⟨xb,2,none⟩) 8 8,.func (.func 183) #[] #[.pointer (some ⟨xb,0,none⟩)]] w fun e w' =>(∃k:Int,e= .returned (.int .i64 k)∧decide (0≤k)=l.any (fun r=>decide (b≤r)))∧w=w' :=by
 have HF:=aa (fun r=>VJ w xb b r h);have HC:=aa hc;have HL:=aa hl;clear h hc hl;go_enter func239,ntmps239;go_wp2_with fail;go_loop [8] (fun i=>∃k:Nat,i= .int .i64 k∧Af (k≤8∧(l.take k).any (fun r=>decide (b≤r))=false)) (fun i=>8 - (intOf i).toNat)
 case atStart=>exact⟨0,rfl,by decide,rfl⟩
 case round=>
  obtain⟨k,rfl,HR⟩:=hrel;by_cases aJ:k<8
  ·have hi:(k:Int)<8:=by omega
   have ml:(0:Int)≤k:=by omega
   have Ng:=aJ;have fp:wrap64 ((k:Int)+1)=(k:Int)+1:=by unfold wrap64;omega
   obtain⟨r,hr⟩:=eX (l.getD k 0);have y0:=HC.o k aJ;rw[←hr] at y0;have hre:l[k]? =some r:=by rw[hr,Qe,Qf (by rw[HL.o];exact aJ)];rfl
   have Hre:=aa hre;have bj:=aa aJ;have eu:=aa fp;have EM:=aa (HF.o r);have Hi0:=aa ml;clear hr hre aJ;by_cases e8:b≤r
   ·have Hbr:=aa e8;rw[Xa e8] at EM;clear e8;go_wp2_with(go_at_call 183;go_must(refine EM.o.mono ?_);rintro e W2 ⟨rfl,rfl⟩);go_ret;refine⟨⟨k,rfl,?_⟩,rfl⟩;rw[Xa Hi0.o];symm
    rw[Xb];exact⟨r,Qi Hre.o,Xa Hbr.o⟩
   ·have Hbr:=aa e8;rw[Xe e8] at EM;clear e8;go_wp2_with(go_at_call 183;go_must(refine EM.o.mono ?_);rintro e W2 ⟨rfl,rfl⟩);go_round
    case rel=>refine⟨k+1,by first|rfl|(rw[eu.o];rfl),bj.o,?_⟩;rw[aA _ _ _ Hre.o,List.any_append,HR.o.2,List.any_cons,Xe (by have:=Hbr.o;omega)];rfl
    case measure=>first|exact al bj.o|(rw[eu.o];exact al bj.o)
  ·have hi:¬(k:Int)<8:=by omega
   have hk:k=8:=by have:=HR.o.1;omega
   subst hk;have fF:=aa HR.o.2;rw[Qj (by rw[HL.o];exact Qg _)] at fF;clear HR aJ;go_wp2_with fail;go_ret;exact⟨⟨-1,rfl,by rw[fF.o];rfl⟩,rfl⟩
theorem Gs (w:Wo) (xb:Nat) (b:Int) (h:w.cell? ⟨xb,1,none⟩=some (.int .u32 b)) (l:List Int) (hl:l.length=8) (hc:∀j,j<8→w.cell? ⟨xb,2+j,none⟩=some (.int .u32 (l.getD j 0))):
  Calls prog 184 #[.slice (some ⟨xb,2,none⟩) 8 8,.func (.func 183) #[] #[.pointer (some ⟨xb,0,none⟩)]] w fun e w' =>e= .returned (.bool (l.any (fun r=>decide (b≤r))))∧w=w' :=by
 have HI:=aa (Gr w xb b h l hl hc);clear h hl hc;go_enter func184,ntmps184;go_wp2_with(go_at_call 239;go_must(refine HI.o.mono ?_);rintro e W2 ⟨⟨k,rfl,hk⟩,rfl⟩;have Hk:=aa hk;clear hk);go_ret;exact⟨jK Hk.o,rfl⟩
theorem DV (l:List Int) (b:Int):(l.all fun r=>decide (r<b))= !(l.any fun r=>decide (b≤r)):=by
 induction l with
 |nil=>rfl
 |cons x r ih=>
  rw[List.all_cons,List.any_cons,ih,Bool.not_or];congr 1
  rw[←decide_not];exact decide_eq_decide.2 (by omega)
theorem vB (w:Wo) (s:aN) (h:bM s):
  Calls prog 104 #[.agg (aP s).toArray] w fun e w' =>e= .returned (.bool (nm s))∧Below w.heap.size w w' :=by
 obtain⟨C,hC⟩:=eX (aP s);obtain⟨W1,aW⟩:=eX (w.alloc (.cells C.toArray 41));obtain⟨xb,eD⟩:=eX w.heap.size;have X1:aq W1 xb 41 C:=by rw[aW,eD];exact ar _ _ _
 have B1:Af (Below w.heap.size w W1):=by rw[aW];exact aF _ _
 have x0:W1.cell? ⟨xb,0,none⟩=some (.int .u64 s.gen):=X1.cell (by rw[hC];rfl);have x1:W1.cell? ⟨xb,1,none⟩=some (.int .u32 s.blocks):=X1.cell (by rw[hC];rfl);have HF:=aa (Gs W1 xb s.blocks x1 s.roots h.r8 (fun j hj=>X1.cell (by rw[hC,uV h (2+j) (by omega)];unfold fy wR;rw[Xd (by omega),Xo (by omega),show 2+j=(j+1)+1 by omega,List.getD_cons_succ,List.getD_cons_succ,Qe,QN (by rw[h.r8];exact hj),←Qe])))
 have gB:=aa aW.symm;have xD:=aa eD.symm;rw[←hC];unfold nm;rw[DV];generalize s.roots.any (fun r=>decide (s.blocks≤r))=a at*;generalize s.gen=g at*;generalize s.blocks=b at*;clear X1 hC aW eD h;by_cases h1:0<g
 ·by_cases h2:16≤b
  ·by_cases h3:b≤4096
   ·rw[Xa h1,Xa h2,Xa h3];go_enter func104,ntmps104;go_upto_region 1 with fail
    rw[gB.o,xD.o];go_wp2_with(go_at_call 184;go_must(refine HF.o.mono ?_);rintro e W2 ⟨rfl,rfl⟩);go_ret;exact⟨rfl,B1.o⟩
   ·rw[Xa h1,Xa h2,Xe h3];go_enter func104,ntmps104;go_upto_region 1 with fail
    rw[gB.o,xD.o];go_wp2_with fail;go_ret;exact⟨rfl,B1.o⟩
  ·rw[Xa h1,Xe h2];go_enter func104,ntmps104;go_upto_region 1 with fail
   rw[gB.o,xD.o];go_wp2_with fail;go_ret;exact⟨rfl,B1.o⟩
 ·rw[Xe h1];go_enter func104,ntmps104;go_upto_region 1 with fail
  rw[gB.o,xD.o];go_wp2_with fail;go_ret;exact⟨rfl,B1.o⟩
end
section
open Go.RowKit
variable {w : Wo} {d pl : Nat} {bl : List (List Int)} {P : Program} {dst : Option Tmp} {x : Operand} {t ty : TypeId} {pos : String} {after : Array Edge} {a : Act} {ops : Array Oper} {Q : Exit → Act → Wo → Prop} {E : Prop} {K : Act → Wo → Prop}
def wu (p:Int×List Int):List Va:= .int .i64 p.1::p.2.map (.int .u8)
structure mz (w:Wo) (d pl:Nat) (bl:List (List Int)) (base:Nat) (wv:Va) (ws:List (Int×List Int)):Prop where
 own:aq w d 110 (J8 pl bl.length wv)
 eP:aq w pl 213 (bl.flatten.map (.int .u8))
 ne:d≠pl
 size:∀b∈bl,b.length=128
 byte:∀b∈bl,∀x∈b,aI x
 n0:16≤bl.length
 n1:bl.length≤4096
 row:w.ownsRow base 215 129 wv ws.length (ws.flatMap wu)
 YX:∀p∈ws,p.2.length=128∧(∀x∈p.2,aI x)∧0≤p.1∧p.1<bl.length
theorem cF.wait (h:cF w d pl bl) (base:Nat):mz w d pl bl base (.slice none 0 0) []:=
 ⟨h.own,h.eP,h.ne,h.size,h.byte,h.n0,h.n1,World.ownsRow_nil _ _ _ _,fun p hp=>by cases hp⟩
theorem lq {f:Operand→Va} (p v:Va) (hx:f x=p) (h:(Instr.loadAt t p).run P w= .ok v w):
  (execOp f ⟨dst,.load t x,ty,pos,after,none⟩).run P w= .ok (.value v) w:=by
 rw[←hx] at h;simp[execOp,h,Result.andThen]
theorem rM (w:Wo) (g:Nat) (cs:List Va) (hl:cs.length=129) (h:aq w g 215 cs):
  (Instr.loadAt 215 (.pointer (some ⟨g,0,none⟩))).run prog w= .ok (.agg cs.toArray) w:=by
 have h1:=run_loadCells_list (P:=prog) w ⟨g,0,none⟩ cs (fun j v hj=>by rw[dP,QR];exact h.cell hj);simp only[hl] at h1;have h2:(isAgg 215).run prog w= .ok true w:=by kernel_rfl
 have h3:(sizeOf 215).run prog w= .ok 129 w:=by kernel_rfl
 have h4:(Instr.sureAddr (.pointer (some ⟨g,0,none⟩))).run prog w= .ok ⟨g,0,none⟩ w:=rfl;simp[Instr.loadAt,loadVar,h1,h2,h3,h4,Result.andThen]
theorem kF {B b:Nat} {a:Wo} (hb:B≤b):∀(vs:List Va) (o:Nat) (w:Wo),Below B a w→Below B a (w.setCells b o vs)
 |[],_,_,h=>h
 |v::r,o,_,h=>kF hb r (o+1) _ (h.setCell (p:=⟨b,o,none⟩) hb v)
theorem there_alloc (w:Wo) (cs:Array Va) (t:TypeId) (n:Nat) (hn:n≤cs.size):(w.alloc (.cells cs t)).there w.heap.size 0 n:=fun j hj=>by
 have h:=heap_alloc_new w (.cells cs t);refine⟨?_,?_⟩
 ·unfold World.cell?
  simp only[h];simp;omega
 ·unfold World.frozen?
  simp only[h];simp
theorem mh {e:TypeId} {g:Nat}:∀(vs:List Va) (o:Nat) (w:Wo) (cs:List Va),aq w g e cs→o+vs.length≤cs.length→aq (w.setCells g o vs) g e (cs.take o++vs++cs.drop (o+vs.length))
 |[],o,w,cs,h,hl=>by
  have e:cs.take o++[]++cs.drop (o+0)=cs:=by simp
  rw[show([]:List Va).length=0 from rfl,e];exact h
 |v::r,o,w,cs,h,hl=>by
  have h1:=mh r (o+1) (w.setCell ⟨g,o,none⟩ v) (cs.set o v) (h.set o v) (by simp at hl⊢;omega)
  have e:(cs.set o v).take (o+1)++r++(cs.set o v).drop (o+1+r.length)=cs.take o++(v::r)++cs.drop (o+(v::r).length):=by
   have aJ:o<cs.length:=by simp at hl;omega
   rw[List.take_set,List.drop_set_of_lt (by omega),QF,show o+(r.length+1)=o+1+r.length by omega];rw[XJ aJ,ZB _ _ (by rw[Qu];exact Nat.min_le_left _ _)]
   simp[Zh (QX aJ)]
  rw[e] at h1;exact h1
def gF (i:Int):List Va:= .int .i64 i::List.replicate 128 (.int .u8 0)
theorem lK (i:Int):(gF i).length=129:=by simp[gF]
theorem Fs (i:Int):(gF i).toArray.all (·.oneCell')=true:=all_oneCell_toArray (fun v hv=>by
 unfold gF at hv;rcases QA.1 hv with rfl|h
 ·rfl
 ·rw[QJ h];rfl)
theorem ahz:(prog.info? 215).map (·.size)=some 129:=by kernel_rfl
theorem Yt:(prog.info? 215).map (fun i=>(i.zero,i.size,i.bytes))=some (some (.agg (.int .i64 0::List.replicate 128 (Value.int .u8 0)).toArray),129,136):=by kernel_rfl
theorem mz.on {w' :Wo} {base:Nat} {wv:Va} {ws:List (Int×List Int)} (h:mz w d pl bl base wv ws) (hb:Below w.heap.size w w'):mz w' d pl bl base wv ws:=
 ⟨h.own.on hb,h.eP.on hb,h.ne,h.size,h.byte,h.n0,h.n1,aS h.row hb,h.YX⟩
theorem vn:Tryz.zeroCells215.size=129:=by kernel_rfl
theorem Kl (i:Int) (data:List Int) (h:data.length=128):splice (gF i) 1 (data.map (.int .u8))=wu (i,data):=by
 unfold splice wu;rw[Zu (by rw[lK,Qq];omega),Zi];rfl
theorem vf:∀(zs:List Va) (k:Nat) (cs:Array Va),k+zs.length≤cs.size→((zs.zipIdx k).foldl (fun (cs:Array Va) (p:Va×Nat)=>cs.setIfInBounds (0+p.2) p.1) cs).toList=cs.toList.take k++zs++cs.toList.drop (k+zs.length)
 |[],k,cs,_=>by simp
 |z::r,k,cs,h=>by
  have aJ:k<cs.size:=by simp at h;omega
  rw[List.zipIdx_cons,List.foldl_cons,vf r (k+1) _ (by simp at h⊢;omega)]
  rw[QR,Array.toList_setIfInBounds,List.drop_set_of_lt (by omega),List.take_set,QF,show k+(r.length+1)=k+1+r.length by omega];rw[XJ (by simpa using aJ),ZB _ _ (by rw[Qu];exact Nat.min_le_left _ _)]
  simp[Zh (QX aJ)]
theorem FK (w:Wo) (Z:List Va) (hz:Z.length=129):(Instr.buildSlice 106 1 #[(0,.agg Z.toArray)]).run prog w= .ok (.slice (some ⟨w.heap.size,0,none⟩) 1 1) (w.alloc (.cells Z.toArray 215)):=by
 obtain⟨i0,hi,oI,mM,xw⟩:=info_parts Yt;refine run_buildSlice w _ _ 1 _ Z.toArray i0 _ underlying106 hi oI (by rw[mM];decide) (by rw[mM];decide) ?_;rw[mM];generalize hc:((Array.range (1*129)).map _)=cells;have iH:cells.size=129:=by rw[←hc];simp
 show Instr.fill _ cells [(0,.agg Z.toArray)]=_;unfold Instr.fill;simp only;have cz:(Value.agg Z.toArray).cells.size=129:=by show Z.toArray.size=129;simpa using hz
 rw[Xd (by rw[cz,iH];decide)];show some _=some _;congr 1
 have h1:=vf Z 0 cells (by omega);rw[Zq,QZ,Zu (by rw[Array.length_toList];omega),Zi] at h1;apply Array.ext';refine Eq.trans ?_ h1;rw[←Array.foldl_toList,Array.toList_zipIdx];have e:(Value.agg Z.toArray).cells.toList=Z:=rfl;rw[e]
theorem Fz {w2:Wo} {n:Nat}
  (p v:Va) (hx:a.eval x=p) (h:(Instr.buildSlice t n #[(0,p)]).run P w= .ok v w2) (hk:K (a.put dst v) w2):
  if Region.wanted ⟨dst,.buildSlice t n #[(0,x)],ty,pos,after,none⟩ (yielded ops a.tmps)=true then Oper.wp P ⟨dst,.buildSlice t n #[(0,x)],ty,pos,after,none⟩ a w K Q else E:=by
 simp only[Region.wanted,if_true];unfold Oper.wp;rw[←hx] at h;simp[execOp,h,Result.andThen];exact hk
theorem wh {os ox:Operand} (base:Nat) (t e:TypeId) (z:Va) (size bytes:Nat) (ht:P.underlying t=some (.slice e)) (hi:(P.info? e).map (fun i=>(i.zero,i.size,i.bytes))=some (some z,size,bytes))
  (Tq:z.cells.size=size) (cz:0<size) (v:Va) (n:Nat) (xs:List Va) (bN:w.ownsRow base e size v n xs) (g:Nat) (news:List Va) (hx:aq w g e news) (oc:news.length=size)
  (h1:∀u∈news,u.oneCell' =true) (TP:n+1≤maxLen) (lF:(n+1)*bytes≤140737488355328) (ey:base≤w.heap.size) (hs:a.eval os=v) (AM:a.eval ox= .slice (some ⟨g,0,none⟩) 1 1)
  (hK:∀v' w',w'.ownsRow base e size v' (n+1) (xs++news)→w.grownBy w' v.ownBlock→(v'.ownBlock=v.ownBlock∨v'.ownBlock=some w.heap.size)→K (a.put dst v') w'):
  if Region.wanted ⟨dst,.call {callee:= .builtin .append,args:= #[os,ox],argTypes:= #[t,t]},ty,pos,after,none⟩ (yielded ops a.tmps)=true then
   Oper.wp P ⟨dst,.call {callee:= .builtin .append,args:= #[os,ox],argTypes:= #[t,t]},ty,pos,after,none⟩ a w K Q else E:=by
 simp only[Region.wanted,if_true];obtain⟨i,hi,hz,BF,hby⟩:=info_parts hi;obtain⟨v',w',hr,h2,h3,_,h4⟩:=run_append_own_at (P:=P) w base t ty e i z size bytes ht hi hz BF hby Tq cz v n xs bN ⟨g,0,none⟩ 1 1 news (by omega)
  (fun j u hu=>by rw[dP,QR];exact hx.cell hu) h1 TP lF ey
 unfold Oper.wp execOp;simp only[resolve,invoke,builtin,Sem.run_bind,Sem.run_pure,XH,List.map_toArray,Zs,List.map_nil,hs,AM,hr];exact hK v' w' h2 h3 h4
theorem I1 (p:Int×List Int):∀u∈wu p,u.oneCell' =true:=by
 intro u hu;unfold wu at hu;rcases QA.1 hu with rfl|h
 ·rfl
 ·exact dW .u8 _ u h
theorem Kk (w:Wo) (d pl:Nat) (bl:List (List Int)) (base:Nat) (wv:Va) (ws:List (Int×List Int)) (h:mz w d pl bl base wv ws) (iV:base≤w.heap.size) (Ev:ws.length≤10000) (i:Nat) (hi:i<bl.length) (v:Va) (data:List Int) (hd:Bs w w.heap.size v data) (oR:data.length=128):
  Calls prog 109 #[.pointer (some ⟨d,0,none⟩),.int .i64 i,v] w fun e w' =>e= .returned (.int .i64 0)∧∃wv',mz w' d pl bl base wv' (ws++[((i:Int),data)])∧aG (fun x=>x=d∨wv.ownBlock=some x) w w'∧(∀x,wv'.ownBlock=some x→wv.ownBlock=some x∨w.heap.size≤x):=by
 obtain⟨A,c,rfl,jb,pk⟩:=hd.1.form;rw[oR] at jb;obtain⟨n,hn⟩:∃n,n=bl.length:=⟨_,rfl⟩;have H:=aa h;have Hn:Af (n=bl.length∧i<n∧ws.length≤10000∧base≤w.heap.size):=⟨hn,by omega,Ev,iV⟩;have HD:Af (Bs w w.heap.size (.slice A 128 c) data∧data.length=128):=⟨by have:=hd;rw[oR] at this;exact this,oR⟩;have HM:=aa (zL w d pl n _ (by rw[hn];exact h.own));have HPw:=aa (yg w d pl n _ (by rw[hn];exact h.own));have x0:w.cell? ⟨d,0,none⟩=some (.slice (some ⟨pl,0,none⟩) n n):=by rw[hn];exact h.own.cell (j:=0) rfl
 have ph:(i:Int)<n:=by omega
 have ml:(0:Int)≤i:=by omega
 have ang:¬(n:Int)≤i:=by omega
 obtain⟨g,hg⟩:∃g,g=w.heap.size:=⟨_,rfl⟩;have G:Af (g=w.heap.size):=hg;rw[oR];clear h hn hi hd oR Ev iV hg jb pk;go_enter func109,ntmps109;go_upto_region 10 with(first
  |(go_at_call 110;go_must(refine HM.o.mono ?_);rintro e W2 ⟨rfl,rfl⟩)
  |(go_at_call 111;go_must(refine HPw.o.mono ?_);rintro e W3 ⟨rfl,rfl⟩)
  |((refine wpList_store_mid rfl 215 _ _ rfl w.heap.size 0 (gF i).toArray ?_ ?_ (there_alloc w _ _ _ ?_) ?_ (Fs i) ?_);go_must((·rfl);(·rfl);(·first|exact Qg _|simp[gF]);(·exact ahz);go_frame)))
 clear HM HPw;have K2:Af (aq ((w.alloc (.cells Tryz.zeroCells215 215)).setCells w.heap.size 0 (gF i)) w.heap.size 215 (gF i)):=by
  have h0:aq (w.alloc (.cells Tryz.zeroCells215 215)) w.heap.size 215 Tryz.zeroCells215.toList:=by show _=_;rw[Array.toArray_toList];exact heap_alloc_new _ _
  have h1:=mh (gF i) 0 _ _ h0 (by rw[lK,Array.length_toList,vn];omega);rw[Zq,QZ,Zu (by rw[lK,Array.length_toList,vn];omega),Zi] at h1;exact h1
 have B2:Af (Below w.heap.size w ((w.alloc (.cells Tryz.zeroCells215 215)).setCells w.heap.size 0 (gF i))):=kF (Qg _) _ _ _ (aF w _);generalize (w.alloc (.cells Tryz.zeroCells215 215)).setCells w.heap.size 0 (gF i)=W2 at*;obtain⟨cs,iH⟩:∃cs,cs=data.map (Value.int .u8):=⟨_,rfl⟩;have WS:=aa iH;have tk:Af (cs.length=128):=by show _=_;rw[iH,Qq];exact HD.o.2
 have uE:Af (∃ad,A=some ad∧∀j u,cs[j]? =some u→W2.cell? (ad.add j)=some u):=by
  obtain⟨b,o,c',hv,-,-,hr⟩:=HD.o.1.1.row (by have:=HD.o.2;omega);injection hv with e1 e2 e3
  subst e1;refine⟨_,rfl,fun j u hj=> ?_⟩;rw[dP,B2.o.cell hr.1];exact hr.2 j u (by rw[←iH];exact hj)
 clear iH x0;go_upto_region 11 with(refine wpList_copy_splice rfl (.tmp 40) (.tmp 41) 87 87 rfl 5 underlying87 tP _ _ _ _ _ _ rfl rfl w.heap.size 1 (gF i) 215 K2.o cs ?_ ?_ ?_ ?_ w.heap.size w B2.o (Qg _) ?_;go_must((·have:=tk.o;simp only[Nat.min_def];split<;>omega);(·intro hp;obtain⟨ad,h1,h2⟩:=uE.o;exact⟨rfl,ad,h1,h2⟩);(·have:=tk.o;rw[lK];omega);(·intro u hu;rw[WS.o] at hu;exact dW .u8 data u hu);(intro W3 qa jW;have B3:=aa jW;clear jW)))
 have K3:Af (aq W3 w.heap.size 215 (wu ((i:Int),data))):=by have h1:=qa.out;rw[WS.o,Kl _ _ HD.o.2] at h1;exact h1
 have H3:=aa (H.o.on B3.o);obtain⟨Aw,nw,cw,hwv⟩:∃A n c,wv= .slice A n c:=by rcases H.o.row.2 with⟨h1,_⟩|⟨g,cap,cur,h1,_⟩<;>exact⟨_,_,_,h1⟩
 subst hwv;have q1:=H3.o.own.cell (j:=1) rfl;obtain⟨Z,hZ⟩:∃Z,Z=wu ((i:Int),data):=⟨_,rfl⟩;have HZ:Af (Z=wu ((i:Int),data)∧Z.length=129):=⟨hZ,by rw[hZ];simp[wu];exact HD.o.2⟩;have xF:=aa (rM W3.drew w.heap.size Z HZ.o.2 (by rw[hZ];exact K3.o));clear hZ qa uE tk K2 B2;have AD:=aF W3.drew (.cells Z.toArray 215);have UA:=aa (aS (show W3.drew.ownsRow base 215 129 (.slice Aw nw cw) ws.length (ws.flatMap wu) from H3.o.row) AD);have XA:Af (aq (W3.drew.alloc (.cells Z.toArray 215)) W3.heap.size 215 Z):=ar W3.drew Z _;have HZ1:Af (∀u∈Z,u.oneCell' =true):=by show ∀u∈Z,_;rw[HZ.o.1];exact I1 _
 have HBs:Af (base≤(W3.drew.alloc (.cells Z.toArray 215)).heap.size):=Qh (Qh Hn.o.2.2.2 B3.o.size) AD.size;have HA:=aa (aq.on (w:=W3.drew) H3.o.own AD);have qA:=HA.o.cell (j:=1) rfl;have qB:(W3.alloc (.cells Z.toArray 215)).cell? ⟨d,1,none⟩=some (.slice Aw nw cw):=qA;have oN:Af (∀(v' :Va) (w' :Wo),w'.ownsRow base 215 129 v' (ws.length+1) (ws.flatMap wu++Z)→(W3.drew.alloc (.cells Z.toArray 215)).grownBy w' (Value.slice Aw nw cw).ownBlock→(v'.ownBlock=(Value.slice Aw nw cw).ownBlock∨v'.ownBlock=some (W3.drew.alloc (.cells Z.toArray 215)).heap.size)→
   w'.cell? ⟨d,1,none⟩=some (.slice Aw nw cw)∧w'.frozen? ⟨d,1,none⟩=false∧mz (w'.setCell ⟨d,1,none⟩ v') d pl bl base v' (ws++[((i:Int),data)])∧aG (fun x=>x=d∨(Value.slice Aw nw cw).ownBlock=some x) w (w'.setCell ⟨d,1,none⟩ v')∧(∀x,v'.ownBlock=some x→(Value.slice Aw nw cw).ownBlock=some x∨w.heap.size≤x)):=by
  intro v' w' ho hg hn;have hPA:aq (W3.drew.alloc (.cells Z.toArray 215)) pl 213 (bl.flatten.map (.int .u8)):=aq.on (w:=W3.drew) H3.o.eP AD;have kd:=HA.o.grown hg (Xm (aq.not_row HA.o (by decide) UA.o));have kp:=hPA.grown hg (Xm (aq.not_row hPA (by decide) UA.o));refine⟨kd.cell (j:=1) rfl,kd.free 1,⟨kd.set 1 v',kp.az (Xm H3.o.ne) _,H3.o.ne,H3.o.size,H3.o.byte,H3.o.n0,H3.o.n1,?_,?_⟩,?_,?_⟩
  ·have h1:=World.ownsRow.kept ho (row:=some d) (w' :=w'.setCell ⟨d,1,none⟩ v') ⟨rfl,rfl,rfl,by simp,fun k _ bT=>Xl _ _ _ _ (fun e=>bT (by rw[e]))⟩ (.inr (aq.not_row kd (by decide) ho));rw[HZ.o.1] at h1;rw[Qo,QP];simpa using h1
  ·intro p hp;rcases Qz.1 hp with h|h
   ·exact H3.o.YX p h
   ·rw[Qx] at h;subst h;exact⟨HD.o.2,HD.o.1.2,by show(0:Int)≤i;omega,by show(i:Int)<bl.length;have:=Hn.o;omega⟩
  ·have c1:aG (fun x=>x=d∨(Value.slice Aw nw cw).ownBlock=some x) w (W3.drew.alloc (.cells Z.toArray 215)):=aG.aZ ((B3.o.drew).trans (AD.mono B3.o.size));have c2:aG (fun x=>x=d∨(Value.slice Aw nw cw).ownBlock=some x) (W3.drew.alloc (.cells Z.toArray 215)) w' :=aG.dH hg (fun x _ e=> .inr e);exact(c1.trans c2).setCell (fun _=> .inl rfl) _
  ·intro x hx;rcases hn with h|h
   ·exact .inl (h▸hx)
   ·rw[h] at hx;have:=Qr hx;exact .inr (by rw[←this];exact Qh B3.o.size AD.size)
 have SA:Af (aq (W3.drew.alloc (.cells Z.toArray 215)) w.heap.size 215 Z):=by refine aq.on (w:=W3.drew) ?_ AD;rw[HZ.o.1];exact K3.o
 have HSg:Af (∀w',(W3.drew.alloc (.cells Z.toArray 215)).grownBy w' (Value.slice Aw nw cw).ownBlock→aq w' w.heap.size 215 Z):=fun w' hg=>SA.o.grown hg (fun e=>by have:=(Xr H.o.row w.heap.size e.symm).2;omega)
 have HwD:Af (w.heap.size≠d):=by have:=H.o.own.lt;show _≠_;omega
 clear AD;have hS:aq W3.drew w.heap.size 215 Z:=by rw[HZ.o.1];exact K3.o
 have SS:aq W3.drew w.heap.size 215 Z∧W3.drew.cell? ⟨d,1,none⟩=some (.slice Aw nw cw):=⟨hS,H3.o.own.cell (j:=1) rfl⟩;refine bL (fun j=>[12].contains j) (fun W=>aq W w.heap.size 215 Z∧W.cell? ⟨d,1,none⟩=some (.slice Aw nw cw)) (by kernel_rfl) ?_;refine tK 0 43 (.pointer (some ⟨d,0,none⟩)) rfl rfl rfl (by kernel_rfl) (fun _ _ _ h=>h) (fun W hW=>by go_simp) SS ?_
 try simp only[Act.put,Qb,Qc,Qd]
 refine tK 1 44 (.pointer (some ⟨d,0,none⟩)) rfl rfl rfl (by kernel_rfl) (fun _ _ _ h=>h) (fun W hW=>by go_simp) SS ?_
 try simp only[Act.put,Qb,Qc,Qd]
 refine tK 2 45 (.pointer (some ⟨d,0,none⟩)) rfl rfl rfl (by kernel_rfl) (fun _ _ _ h=>h) (fun W hW=>by go_simp) SS ?_
 try simp only[Act.put,Qb,Qc,Qd]
 refine tK 3 46 (.pointer (some ⟨d,1,none⟩)) rfl rfl rfl (by kernel_rfl) (fun _ _ _ h=>h) (fun W hW=>by go_simp) SS ?_
 try simp only[Act.put,Qb,Qc,Qd]
 refine tK 4 47 (.pointer (some ⟨d,1,none⟩)) rfl rfl rfl (by kernel_rfl) (fun _ _ _ h=>h) (fun W hW=>by go_simp) SS ?_
 try simp only[Act.put,Qb,Qc,Qd]
 refine tK 5 48 (.slice Aw nw cw) rfl rfl rfl (by kernel_rfl) (fun _ _ _ h=>h) (fun W hW=>by have hx:=hW.2;go_simp) SS ?_
 try simp only[Act.put,Qb,Qc,Qd]
 refine tK 6 49 (.agg Z.toArray) rfl rfl rfl (by kernel_rfl) (fun _ _ _ h=>h) (fun W hW=>lq (.pointer (some ⟨w.heap.size,0,none⟩)) _ rfl (rM W w.heap.size Z HZ.o.2 hW.1)) SS ?_
 try simp only[Act.put,Qb,Qc,Qd]
 refine ju 7 rfl (by kernel_rfl) fun K hK=> ?_
 refine Fz (.agg Z.toArray) (.slice (some ⟨W3.heap.size,0,none⟩) 1 1) ?_ (FK W3.drew Z HZ.o.2) ?_
 ·rfl
 refine hK.out _ _ (fun _=>⟨SA.o,qA⟩) ?_;clear hK K
 try simp only[Act.put,Qb,Qc,Qd]
 refine ju 8 rfl (by kernel_rfl) fun K hK=> ?_
 refine wh base 106 215 (.agg (.int .i64 0::List.replicate 128 (Value.int .u8 0)).toArray) 129 136 underlying106 Yt rfl (by decide) (.slice Aw nw cw) ws.length (ws.flatMap wu) UA.o W3.heap.size Z XA.o HZ.o.2 HZ1.o (by have:=Hn.o;unfold maxLen;omega) (by have:=Hn.o;omega) HBs.o rfl rfl ?_;intro v4 w4 ua og hn4;obtain⟨g4,Og,rfl⟩:=ownsRow_succ ua;have HF:=aa (oN.o _ _ ua og hn4);have q4:=HF.o.1;have f4:=HF.o.2.1;have S4:=aa (HSg.o _ og);have S5:=aa (S4.o.az (p:=⟨d,1,none⟩) HwD.o (.slice (some ⟨g4,0,none⟩) (ws.length+1) Og));clear ua og hn4;refine hK.out _ _ (fun _=>⟨S4.o,q4⟩) ?_;clear hK K
 try simp only[Act.put,Qb,Qc,Qd]
 refine tK 9 52 (.pointer (some ⟨d,0,none⟩)) rfl rfl rfl (by kernel_rfl) (fun _ _ _ h=>h) (fun W hW=>by go_simp) ⟨S4.o,q4⟩ ?_
 try simp only[Act.put,Qb,Qc,Qd]
 refine tK 10 53 (.pointer (some ⟨d,1,none⟩)) rfl rfl rfl (by kernel_rfl) (fun _ _ _ h=>h) (fun W hW=>by go_simp) ⟨S4.o,q4⟩ ?_
 try simp only[Act.put,Qb,Qc,Qd]
 refine tK 11 54 (.pointer (some ⟨d,1,none⟩)) rfl rfl rfl (by kernel_rfl) (fun _ _ _ h=>h) (fun W hW=>by go_simp) ⟨S4.o,q4⟩ ?_
 try simp only[Act.put,Qb,Qc,Qd]
 refine ju 12 rfl (by kernel_rfl) fun K hK=> ?_
 go_simp;refine hK.out _ _ (fun h=>absurd h (by decide)) ?_;clear hK K;refine bD (by kernel_rfl) ?_ _;go_wp2_with fail;go_ret;exact⟨rfl,_,HF.o.2.2.1,HF.o.2.2.2.1,HF.o.2.2.2.2⟩
end
end Go.Proofs.YthgdhacopamklaaGreat

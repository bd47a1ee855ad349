/- What HashNone asks, part 17 of 41: parts of the walks and laws, each true as it stands. -/
import Derived.Test.YthgdhacopamklaaGreatTAP
set_option maxHeartbeats 16000000
set_option maxRecDepth 100000
set_option linter.unusedVariables false
set_option linter.unusedSimpArgs false
namespace Go.Proofs.YthgdhacopamklaaGreat
open Go.Proofs.Tryz
section
open Go.RowKit
attribute [local go_sem] Oper.semAt_some
variable {counts au p0 p1 ag : List Int} {x : aN} {W w : Wo} {base : Nat} {v : Va} {I : bF} {bl : List (List Int)}
theorem Ys {l:List Int} (h:l.length=8):∃a0 a1 a2 a3 a4 a5 a6 a7,l=[a0,a1,a2,a3,a4,a5,a6,a7]:=by
 match l,h with
 |[a0,a1,a2,a3,a4,a5,a6,a7],_=>exact⟨a0,a1,a2,a3,a4,a5,a6,a7,rfl⟩
structure IW (bl:List (List Int)) (x:aN) (ag au counts:List Int):Prop where
 pick:∀p0 p1,bl[0]? =some p0→bl[1]? =some p1→qu p0 p1=some x
 bx:x.blocks=bl.length
 dl:au.length=mN bl.length
 dr:au=x.roots.take (mN bl.length)
 root:qE x au=x
 pl:ag.length=kN bl.length
 cl:counts.length=bl.length
 cr:∀c∈counts,0≤c∧c≤65535
 rg:∀y∈ag++au,0≤y∧y<bl.length
 sh:ke (aE.of counts) ag au=true
 th1:∃ls,IQ bl 4 (kN bl.length) au ls∧ls.flatten=ag
 th2:∃ls,IQ bl 5 bl.length ag ls∧ls.flatten=counts
def EP (bl:List (List Int)) (x:aN) (ag au counts:List Int):aX:=⟨bl,aE.of counts,2,ag,au,List.replicate bl.length none,x,x,(x.gen%2).toNat,false⟩
def abu (w:Wo) (d pl:Nat) (I:bF):Prop:=I.d=d∧I.pl=pl∧w.heap.size≤I.b∧w.heap.size≤I.tb∧w.heap.size≤I.cb∧w.heap.size≤I.mb∧w.heap.size≤I.pb∧w.heap.size≤I.fb
theorem Da {slot:Nat} {p:List Int} {gC:aN} (hb:∀y∈p,aI y) (h:bM gC):bM (nh slot p gC):=by
 unfold nh;cases hd:kA p with
 |none=>exact h
 |some s=>
  dsimp only;split
  ·exact zQ hb hd
  ·exact h
theorem Rf (h0:∀y∈p0,aI y) (h1:∀y∈p1,aI y) (h:qu p0 p1=some x):bM x:=by
 unfold qu at h;simp only at h;split at h
 ·cases h
 ·cases h
  exact Da h1 (Da h0 Cb)
theorem KU {v0 v1:Va} (h0:Bs w w.heap.size v0 p0) (h1:Bs w w.heap.size v1 p1) (h:qu p0 p1=some x):Calls prog 50 #[v0,v1] w fun e w' =>e= .returned (.tuple #[.agg (aP x).toArray,.int .i64 (x.gen%2),.int .i64 0])∧Below w.heap.size w w' :=
 (KV w v0 v1 p0 p1 h0 h1).mono fun e w' ⟨hb,h2⟩=>by
  rcases h2 with⟨h3,-⟩|⟨s,h3,-,h4⟩
  ·rw[h] at h3;cases h3
  ·rw[h] at h3;cases h3;exact⟨h4,hb⟩
structure ag6 (w:Wo) (xb sb:Nat) (x:aN) (au:List Int) (wr:Wo):Prop where
 xc:aq wr xb 41 (aP x)
 sc:∃A n c,aq wr sb 36 [.slice none 0 0,.slice A n c]∧aB wr w.heap.size 3 .i64 (.slice A n c) au
 low:Below w.heap.size w wr
theorem kj {K V:Type} [DecidableEq K] {M:MK K V} {m s n sz:Nat} {f:K→Option V} {e:TypeId} {xs:List Va} (h:MG M w m f s) (ho:w.ownsRow base e sz v n xs):v.ownBlock≠some m:=by
 obtain⟨D,⟨es,clock,h0,_⟩,_⟩:=h;intro e1;rcases ho.2 with⟨rfl,_⟩|⟨g',cap,cur,rfl,_,h1,_⟩
 ·cases e1
 ·cases e1
  rw[h0] at h1;cases h1
theorem aB.ag5 {t:aE} {next:Nat} {xs:List Int} (h:aB W base 3 .i64 v xs) (hd:cF W I.d I.pl bl) (ht:bf W I.tb I.cb I.mb t) (hp:aq W I.pb 189 (iX I.tb 2 next)) (hf:W.heap.size≤I.fb) (hb:W.heap.size≤I.b):Ap (BS I) v:=by
 intro b o n c _ e hS;subst e;have aJ:=(Xr h b rfl).2;rcases hS with e|e|e|e|e|e|e|e<;>subst e
 ·omega
 ·exact aq.not_row hd.own (by decide) h rfl
 ·exact aq.not_row hd.eP (by decide) h rfl
 ·exact aq.not_row ht.own (by decide) h rfl
 ·exact aq.not_row ht.counts (by decide) h rfl
 ·exact kj ht.kept h rfl
 ·exact aq.not_row hp (by decide) h rfl
 ·omega
theorem abW (ho:IW bl x ag au counts) (hx:bM x) (h0:16≤bl.length) (h1:bl.length≤4096):Yj (EP bl x ag au counts):=by
 have hc:(EP bl x ag au counts).t.len=bl.length:=ho.cl;obtain⟨e1,e2⟩:=uK (n:=bl.length) (by omega);refine⟨hc.symm,by rw[hc];exact QK,by rw[hc];show(ag.length:Int)=_;rw[ho.pl];exact e1,by show(au.length:Int)=aR ag.length;rw[ho.dl,ho.pl];exact e2,fun y hy=>by rw[hc];exact ho.rg y hy,Qg _,by rw[hc];show 2≤_;omega,hx,hx,by show(x.gen%2).toNat≤1;omega,fun data hd=> ?_⟩;cases QJ hd
theorem Gd (n:Nat):jf (List.replicate n none)=List.replicate n none:=by unfold jf;rw[List.map_replicate];rfl
theorem Rm {pv dv:Va} (hbm:I.b=W.heap.size+1) (hfm:I.fb=W.heap.size) (ho:IW bl x ag au counts) (hx:bM x)
  (hd:cF W I.d I.pl bl) (ht:bf W I.tb I.cb I.mb (aE.of counts)) (hp:aq W I.pb 189 (iX I.tb 2 2)) (h1:aB W base 3 .i64 pv ag) (h2:aB W base 3 .i64 dv au)
  (cs:Array Va) (iH:cs=(ni I pv dv x x (x.gen%2).toNat false).toArray):cR ((W.alloc (.map #[] 0)).alloc (.cells cs 43)) I (EP bl x ag au counts):=by
 subst iH;have hb:Below W.heap.size W ((W.alloc (.map #[] 0)).alloc (.cells (ni I pv dv x x (x.gen%2).toNat false).toArray 43)):=(aF W _).alloc (by simp) _;have a1:=h1.ag5 hd ht hp (by omega) (by omega);have a2:=h2.ag5 hd ht hp (by omega) (by omega);refine⟨⟨pv,dv,List.replicate bl.length none,?_,(aB.on h1 hb).ns,a1,(aB.on h2 hb).ns,a2,?_,?_⟩,hd.on hb,ht.on hb,hp.on hb,?_,abW ho hx hd.n0 hd.n1⟩
 ·rw[hbm]
  exact cL W _ _
 ·rw[hfm,Gd,qN,←ko]
  exact MG.aQ (MG.made (M:=Ud) W) (Below.heap_alloc _ _ _ (by simp))
 ·refine⟨by simp[EP],fun i=> .inl ⟨?_,?_⟩⟩
  ·rw[Qe,Zr];split<;>rfl
  ·show(List.replicate bl.length none).getD i none=none
   rw[Qe,Zr];split<;>rfl
 ·have:=ht.kept.lt
  omega
theorem Ld (w:Wo) (d pl:Nat) (bl:List (List Int)) (h:cF w d pl bl) (x:aN) (ag au counts:List Int) (ho:IW bl x ag au counts):
  Calls prog 12 #[.pointer (some ⟨d,0,none⟩)] w fun e w' =>∃I,e= .returned (.tuple #[.pointer (some ⟨I.b,0,none⟩),.int .i64 0])∧cR w' I (EP bl x ag au counts)∧abu w d pl I∧Below w.heap.size w w' :=by
 obtain⟨n,hn⟩:∃n,n=bl.length:=⟨_,rfl⟩;have h0:16≤n:=by rw[hn];exact h.n0
 have h1:n≤4096:=by rw[hn];exact h.n1
 have HL:=aa (zN w d pl n _ (by rw[hn];exact h.own));have tI:=oA w d pl bl h 0 (by omega);have pX:=aa (fun (W:Wo) (hW:Below w.heap.size w W)=>oA W d pl bl (h.on hW) 1 (by omega));rw[show((0:Nat):Int)=(0:Int) from rfl] at tI;rw[show((1:Nat):Int)=(1:Int) from rfl] at pX;have tI:=aa tI;have p0:Af (bl[0].length=128∧∀y∈bl[0],aI y):=⟨h.size _ (QI _),h.byte _ (QI _)⟩;have p1:Af (bl[1].length=128∧∀y∈bl[1],aI y):=⟨h.size _ (QI _),h.byte _ (QI _)⟩;have HPk:=aa (ho.pick bl[0] bl[1] (Qf _) (Qf _));generalize bl[0]=P0 at*;generalize bl[1]=P1 at*;have Ho:=aa ho;have H:=aa h;have Hn:Af (n=bl.length∧16≤n∧n≤4096):=⟨hn,h0,h1⟩;have n1:(n:Int)≤4096:=by omega
 have n0:((n:Int)==0)=false:=Xc (by omega);clear h h0 h1 hn ho;go_enter func12,ntmps12;go_upto_region 8 with(first
  |(go_at_call 39;go_must(refine HL.o.mono ?_);rintro e W2 ⟨rfl,rfl⟩)
  |((go_at_call 49;with_reducible refine tI.o.mono ?_);go_must(skip);rintro e W2 ⟨g0,rfl,l2,o2,b2⟩;have O2:=aa o2;have B2:=aa b2;have L2:=aa l2;clear o2 b2 l2)
  |((go_at_call 49;with_reducible refine(pX.o _ B2.o).mono ?_);go_must(skip);rintro e W3 ⟨g1,rfl,l3,o3,b3⟩;have O3:=aa o3;have B3:=aa b3;have L3:=aa l3;clear o3 b3 l3))
 have bs0:Bs W3 W3.heap.size (.slice (some ⟨g0,0,none⟩) 128 128) P0:=(O2.o.aQ (w' :=W3) (B3.o.block g0 O2.o.lt)).whole p0.o.1 p0.o.2;have bs1:=O3.o.whole p1.o.1 p1.o.2;have HP:=KU bs0 bs1 HPk.o;have py:=aa (B2.o.trans (B3.o.mono B2.o.size));have Hx:=aa (Rf p0.o.2 p1.o.2 HPk.o);obtain⟨C,hC⟩:∃C,C=aP x:=⟨_,rfl⟩;have HC:=aa hC;have je:Af (C.length=18):=by show _=_;rw[HC.o];exact bK Hx.o
 have su:Af (C.toArray.all (·.oneCell')=true):=by show _=_;rw[HC.o];exact all_oneCell_toArray (jI _)
 have wO:Af ((prog.info? 41).map (·.size)=some C.toArray.size):=by show _=_;rw[QW,je.o];exact ka
 rw[←hC] at HP;have HP:=aa HP;obtain⟨sl,kr⟩:∃s,s=x.gen%2:=⟨_,rfl⟩;have Hsl:=aa kr;rw[←kr] at HP;clear bs0 bs1 hC kr HL tI pX HPk p0 p1 O2 O3 L2 L3;go_upto_region 9 with(first
  |(go_at_call 50;go_must(refine HP.o.mono ?_);rintro e W4 ⟨rfl,b4⟩;have B4:=aa b4;clear b4)
  |((refine wpList_store_mid rfl 41 _ _ rfl W4.heap.size 0 C.toArray ?_ ?_ ?_ wO.o su.o ?_);go_must((·rfl);(·rfl);(·exact uQ W4 C je.o);go_frame)))
 change Code.wp _ _ _ _ ((W4.alloc (.cells (aP aV).toArray 41)).setCells W4.heap.size 0 C);obtain⟨b5,x5⟩:=nI W4 C 41 (aP aV) je.o;obtain⟨xb,eD⟩:∃g,g=W4.heap.size:=⟨_,rfl⟩;have hxw:w.heap.size≤xb:=by rw[eD];exact Qh py.o.size B4.o.size
 rw[←eD] at x5 b5⊢;obtain⟨W5,j6⟩:∃y,y=(W4.alloc (.cells (aP aV).toArray 41)).setCells xb 0 C:=⟨_,rfl⟩;rw[←j6] at x5 b5⊢;have Us:=aa (py.o.trans (B4.o.trans (b5.mono (by rw[eD];exact B4.o.size)) |>.mono py.o.size));have X5:=aa x5;have Hxw:=aa hxw;have x1:W5.cell? ⟨xb,1,none⟩=some (.int .u32 n):=x5.cell (by rw[HC.o,Hn.o.1,←Ho.o.bx];rfl);have Tt:IntKind.i64.wrap (n:Int)=n:=by unfold IntKind.wrap;simp[IntKind.signed,IntKind.bits];omega
 obtain⟨k,hk⟩:∃k,k=kN n:=⟨_,rfl⟩;obtain⟨m,hm⟩:∃m,m=mN n:=⟨_,rfl⟩;obtain⟨e1,e2⟩:=uK (n:=n) (by have:=Hn.o.2.1;omega);obtain⟨q1,q2,q3,q4,q5,q6⟩:=BE Hn.o.2.1 Hn.o.2.2;rw[←hk,←hm] at e2;rw[←hk] at e1 q2;rw[←hm] at q4;have tp:=aa (fun W=>dY W n (by omega) (by omega));have AJ:=aa (fun W=>dY W k (by omega) (by omega));rw[←e1] at tp;rw[←e2] at AJ;have xE:Af (k=kN n∧m=mN n∧k≤70∧m≤2):=⟨hk,hm,q2,q4⟩;have m2:(m:Int)≤2:=by omega
 clear j6 eD hxw b5 x5 hk hm e1 e2 q1 q2 q3 q4 q5 q6 HP B4;go_upto_region 13 with(go_at_call 36;go_must(refine(tp.o _).mono ?_);rintro e W6 ⟨rfl,rfl⟩)
 have s6:aq (W5.alloc (.cells #[.slice none 0 0,.slice none 0 0] 36)) W5.heap.size 36 [.slice none 0 0,.slice none 0 0]:=ar W5 [_,_] _;have b6:=aF W5 (.cells #[.slice none 0 0,.slice none 0 0] 36);obtain⟨W6,jc⟩:∃y,y=W5.alloc (.cells #[.slice none 0 0,.slice none 0 0] 36):=⟨_,rfl⟩;obtain⟨sb,jq⟩:∃y,y=W5.heap.size:=⟨_,rfl⟩;have hsw:w.heap.size≤sb:=by rw[jq];exact Us.o.size
 rw[←jc] at s6 b6⊢;rw[←jq] at s6⊢;have rj:Af (ag6 w xb sb x (au.take 0) W6):=⟨by rw[←HC.o];exact X5.o.on b6,⟨none,0,0,s6,cQ _ _ _ _⟩,Us.o.trans (b6.mono Us.o.size)⟩;have Hsw:=aa hsw;clear jc jq hsw s6 b6 x1 tp;go_wp2_with(go_at_call 36;go_must(refine(AJ.o _).mono ?_);rintro e W7 ⟨rfl,rfl⟩);go_loopw [62] (fun i wr=>∃q:Nat,i= .int .i64 q∧Af (q≤m∧ag6 w xb sb x (au.take q) wr)) (fun i _=>m - (intOf i).toNat)
 case atStart=>exact⟨0,rfl,Qp _,rj.o⟩
 case round=>
  obtain⟨q,rfl,HR⟩:=hrel;obtain⟨A,nd,cd,hs,bN⟩:=HR.o.2.sc;by_cases aJ:q<m
  ·have ZM:q<au.length:=by rw[Ho.o.dl,←Hn.o.1];have:=xE.o.2.1;omega
   obtain⟨y,hy⟩:∃y,au[q]? =some y:=⟨_,Qf ZM⟩;have hyr:=Ho.o.rg y (QD _ (Qi hy));have OI:x.roots.getD q 0=y:=by
    have h1:=Ho.o.dr;rw[h1,Ze] at hy;split at hy
    ·rw[Qe,hy];rfl
    ·cases hy
   have q8:q<8:=by have:=xE.o.2.2.2;omega
   have r0:wr.drew.cell? ⟨xb,2+q,none⟩=some (.int .u32 y):=HR.o.2.xc.cell (by rw[nC Hx.o q8,OI]);have z1:wr.drew.cell? ⟨sb,1,none⟩=some (.slice A nd cd):=hs.cell rfl;have hwy:IntKind.i64.wrap y=y:=by unfold IntKind.wrap;simp[IntKind.signed,IntKind.bits];have:=Hn.o;omega
   have fp:wrap64 ((q:Int)+1)=(q:Int)+1:=by unfold wrap64;omega
   have i0:(0:Int)≤q:=by omega
   have i1:(q:Int)<m:=by omega
   have i8:(q:Int)<8:=by omega
   have bA:=aF wr (.cells #[.int .i64 y] 3);have r1:((wr.alloc (.cells #[.int .i64 y] 3)).drew).cell? ⟨xb,2+q,none⟩=some (.int .u32 y):=(HR.o.2.xc.on bA).cell (by rw[nC Hx.o q8,OI]);have z2:((wr.alloc (.cells #[.int .i64 y] 3)).drew).cell? ⟨sb,1,none⟩=some (.slice A nd cd):=(hs.on bA).cell rfl;have tJ:Af (((wr.alloc (.cells #[.int .i64 y] 3)).drew).ownsRow w.heap.size 3 1 (.slice A nd cd) (au.take q).length ((au.take q).map (.int .i64))):=bN.on bA.drew;have HSA:Af (aq ((wr.alloc (.cells #[.int .i64 y] 3)).drew) sb 36 [.slice none 0 0,.slice A nd cd]):=hs.on bA.drew;have IB:Af (aq ((wr.alloc (.cells #[.int .i64 y] 3)).drew) xb 41 (aP x)):=HR.o.2.xc.on bA.drew;have rk:Af (Below w.heap.size w ((wr.alloc (.cells #[.int .i64 y] 3)).drew)):=(HR.o.2.low.trans (bA.mono HR.o.2.low.size)).drew;have HNA:Af (Sl ((wr.alloc (.cells #[.int .i64 y] 3)).drew) (wr.heap.size+1) 1 (.slice (some ⟨wr.heap.size,0,none⟩) 1 1) 1 [.int .i64 y]):=Fg wr [.int .i64 y] _ 1 rfl;have bj:=aa aJ;have eu:=aa fp;have tH:=aa (aA au q y hy);have Hql:Af ((au.take q).length≤10):=by show _≤_;rw[Qu];exact Qh (Nat.min_le_left _ _) (by omega)
   obtain⟨D,hD⟩:∃D,D=au.take q:=⟨_,rfl⟩;rw[←hD] at tJ Hql tH;obtain⟨nD,hnD⟩:∃z,z=D.length:=⟨_,rfl⟩;rw[←hnD] at tJ Hql;have HnD:=aa hnD;clear hs bN ZM hy hyr OI q8 bA aJ HR hD hnD;go_upto_region 16 with fail
   go_region_law (first
    |((with_reducible refine nX (os:= .tmp 66) (ox:= .tmp 72) w.heap.size 34 3 (.int .i64 0) 1 8 underlying34 iE ?_ ?_ (.slice A nd cd) nD (D.map (.int .i64)) tJ.o (.slice (some ⟨wr.heap.size,0,none⟩) 1 1) 1 [.int .i64 y] HNA.o ?_ ?_ ?_ ?_ ?_ ?_ ?_);go_must((·rfl);(·decide);(·exact dW .i64 [y]);(·have:=Hql.o;unfold maxLen;omega);(·have:=Hql.o;omega);(·exact rk.o.size);(·rfl);(·rfl);intro v4 w4 ua og;obtain⟨g4,c4,rfl⟩:=ownsRow_succ ua;have O4:=aa ua;have G4:=aa og;have S4:=aa (HSA.o.grown og (fun e=>aq.not_row HSA.o (by decide) tJ.o e.symm));have X4:=aa (IB.o.grown og (fun e=>aq.not_row IB.o (by decide) tJ.o e.symm));have y4:=S4.o.cell (j:=1) rfl;have f4:=S4.o.free 1;clear ua og)))
   all_goals
    go_wp2_with fail;go_roundw
    case rel=>
     refine⟨q+1,by first|rfl|(rw[eu.o];rfl),bj.o,?_,⟨some ⟨g4,0,none⟩,nD+1,c4,S4.o.set 1 _,?_⟩,?_⟩
     ·exact X4.o.az (p:=⟨sb,1,none⟩) (fun e=>absurd (X4.o.ne S4.o (by decide)) (fun h=>h e)) _
     ·rw[tH.o];refine aB.aT (T:=36) (nb:=sb) ?_ S4.o (by decide) 1 _;unfold aB;rw[Qo,QL,←HnD.o];exact O4.o
     ·exact(rk.o.grown G4.o rk.o.size (fun j e=>(Xr tJ.o j e).1)).setCell (p:=⟨sb,1,none⟩) Hsw.o _
    case measure=>first|exact al bj.o|(rw[eu.o];exact al bj.o)
  ·have i1:¬(q:Int)<m:=by omega
   have e1:au.take q=au:=Qj (by rw[Ho.o.dl,←Hn.o.1,←xE.o.2.1];omega);have HS:=aa HR.o.2.low;have HX:=aa HR.o.2.xc;rw[e1] at bN;have zt:=aa bN;have Hs:=aa hs;clear hs bN HR aJ e1;go_upto_region 18 with fail
   have NS:Af (aq wr.drew xb 41 C):=by show aq _ _ _ _;rw[HC.o];exact HX.o
   have HSb:Af (aq wr.drew sb 36 [.slice none 0 0,.slice A nd cd]):=Hs.o;have HNs:Ns wr.drew wr.drew.heap.size .i64 (.slice A nd cd) au:=aB.ns (aB.on zt.o (Xj _ wr).drew);have mn:Af (Calls prog 44 #[.agg C.toArray,.slice A nd cd] wr.drew fun e w' =>e= .returned (.agg C.toArray)∧Below wr.drew.heap.size wr.drew w'):=by have h1:=vA wr.drew x Hx.o _ au HNs (fun d hd=>by have:=Ho.o.rg d (QD _ hd);have:=Hn.o;omega) (by rw[Ho.o.dl,←Hn.o.1,←xE.o.2.1];have:=xE.o.2.2.2;omega);rw[Ho.o.root,←HC.o] at h1;exact h1
   have HL:=aa (fun (W:Wo) (j:aq W xb 41 C)=>ef (w:=W) (b:=xb) (cs:=C) je.o (fun j' v hj=>j.cell hj));have bT:∀W,(binOp .neq 41 (.agg C.toArray) (.agg C.toArray)).run prog W= .ok (.bool false) W:=fun W=>by have h1:=ahy W x x Hx.o Hx.o;rw[←HC.o] at h1;rw[run_neq_struct,h1];simp
   have Wv:prog.eqGuardType prog.depth 41=false:=by kernel_rfl
   clear HNs;have hS:aq wr.drew xb 41 C∧aq wr.drew sb 36 [.slice none 0 0,.slice A nd cd]:=⟨NS.o,HSb.o⟩;refine wp_region_held_drew (S:=fun W=>aq W xb 41 C∧aq W sb 36 [.slice none 0 0,.slice A nd cd]) (by kernel_rfl) hS (fun _=> ?_);refine wpAnyH_take (i:=0) (v:= .agg C.toArray) rfl (by kernel_rfl) (by kernel_rfl) (by kernel_rfl) (fun _ _ _ h=>h) (Or.inl ⟨by rfl,fun W hW=>lq (.pointer (some ⟨xb,0,none⟩)) _ rfl (HL.o W hW.1)⟩) hS ?_
   try simp only[Act.put]
   refine wpAnyH_take (i:=1) (v:= .pointer (some ⟨sb,1,none⟩)) rfl (by kernel_rfl) (by kernel_rfl) (by kernel_rfl) (fun _ _ _ h=>h) (Or.inl ⟨by rfl,fun W hW=>by go_simp⟩) hS ?_
   try simp only[Act.put]
   refine wpAnyH_take (i:=2) (v:= .slice A nd cd) rfl (by kernel_rfl) (by kernel_rfl) (by kernel_rfl) (fun _ _ _ h=>h) (Or.inl ⟨by rfl,fun W hW=>by have hx:=hW.2.cell (j:=1) rfl;go_simp⟩) hS ?_
   try simp only[Act.put]
   refine wpAnyH_take (i:=4) (v:= .agg C.toArray) rfl (by kernel_rfl) (by kernel_rfl) (by kernel_rfl) (fun _ _ _ h=>h) (Or.inl ⟨by rfl,fun W hW=>lq (.pointer (some ⟨xb,0,none⟩)) _ rfl (HL.o W hW.1)⟩) hS ?_
   try simp only[Act.put]
   refine wpAnyH_ready (rs:=[3]) (by kernel_rfl) (by simp) ?_;refine AllReadyH.cons rfl (fun K hK=> ?_) AllReadyH.nil;go_simp;go_at_call 44;refine mn.o.mono ?_;rintro e W8 ⟨rfl,b8⟩;go_simp;have B8:Af (Below wr.heap.size wr W8):=⟨b8.os,b8.tape,b8.output,b8.size,b8.block⟩;refine hK.out _ _ ⟨NS.o.on b8,HSb.o.on b8⟩ (fun hS=> ?_);clear hK K b8
   try simp only[Act.put]
   refine wpAnyH_take (i:=5) (v:= .bool false) rfl (by kernel_rfl) (by kernel_rfl) (by kernel_rfl) (fun _ _ _ h=>h) (Or.inl ⟨by rfl,fun W hW=>by go_simp⟩) hS ?_
   try simp only[Act.put]
   refine wpAnyH_done (by kernel_rfl) ?_ _;have B08:=aa (HS.o.trans (B8.o.mono HS.o.size));obtain⟨ls1,UI,Nk⟩:=Ho.o.th1;obtain⟨ls2,UH,TF⟩:=Ho.o.th2;have D8:=aa (zt.o.on B8.o);have S8:=aa (HSb.o.on (w:=wr) B8.o);have X8:=aa (NS.o.on (w:=wr) B8.o);have rh:=sN W8 d pl bl (H.o.on B08.o) 4 (.inl rfl) k (by have:=xE.o.2.2.1;omega) _ au D8.o.ns (by rw[Ho.o.dl,←Hn.o.1,←xE.o.2.1];have:=xE.o.2.2.2;omega) ls1 (by rw[xE.o.1,Hn.o.1];exact UI);rw[Nk] at rh;have En:=aa rh;have z8:=S8.o.cell (j:=1) rfl;have f8:=S8.o.free 0;have z80:=S8.o.cell (j:=0) rfl;clear rh Nk UI NS HSb mn HL bT Wv HS HX zt Hs rj;go_upto_region 21 with(go_at_call 51;go_must(refine En.o.mono ?_);rintro e W9 ⟨v9,rfl,o9,b9⟩;obtain⟨Ap,np,cp,rfl⟩:=o9.bu;have O9:=aa o9;have B9:=aa b9;have S9:=aa (S8.o.on b9);have y9:=S9.o.cell (j:=0) rfl;have f9:=S9.o.free 0;clear o9 b9)
   have MS:aq (W9.setCell ⟨sb,0,none⟩ (.slice Ap np cp)) sb 36 [.slice Ap np cp,.slice A nd cd]:=S9.o.set 0 _;have X10:aq (W9.setCell ⟨sb,0,none⟩ (.slice Ap np cp)) xb 41 C:=(X8.o.on B9.o).az (p:=⟨sb,0,none⟩) (aq.ne X8.o S8.o (by decide)) _;have P10:aB (W9.setCell ⟨sb,0,none⟩ (.slice Ap np cp)) W8.heap.size 3 .i64 (.slice Ap np cp) ag:=aB.aT (T:=36) (nb:=sb) O9.o S9.o (by decide) 0 _;have D10:aB (W9.setCell ⟨sb,0,none⟩ (.slice Ap np cp)) w.heap.size 3 .i64 (.slice A nd cd) au:=aB.aT (T:=36) (nb:=sb) (D8.o.on B9.o) S9.o (by decide) 0 _;have oU:Below w.heap.size w (W9.setCell ⟨sb,0,none⟩ (.slice Ap np cp)):=(B08.o.trans (B9.o.mono B08.o.size)).setCell (p:=⟨sb,0,none⟩) Hsw.o _;obtain⟨uh,agY⟩:∃y,y=W9.setCell ⟨sb,0,none⟩ (.slice Ap np cp):=⟨_,rfl⟩;rw[←agY] at MS X10 P10 D10 oU⊢;have MS:=aa MS;have X10:=aa X10;have P10:=aa (P10.low B08.o.size);have D10:=aa D10;have oU:=aa oU;have tG:=sN uh d pl bl (H.o.on oU.o) 5 (.inr rfl) n Hn.o.2.2 _ ag P10.o.ns (by rw[Ho.o.pl,←Hn.o.1,←xE.o.1];have:=xE.o.2.2.1;omega) ls2 (by rw[Hn.o.1];exact UH);rw[TF] at tG;have JT:=aa tG;have z10:=MS.o.cell (j:=0) rfl;have oJ:counts.length=n:=Ho.o.cl.trans Hn.o.1.symm;have tk:=aa oJ;clear tG TF UH agY z8 f8 z80 y9 f9 En O9 B9 S9 S8 X8 D8 oJ;go_upto_region 27 with(first
    |(go_at_call 51;go_must(refine JT.o.mono ?_);rintro e MP ⟨v11,rfl,Y9,Ek⟩;have Th:=aa Ek;have HNu:=aa (yo MP v11 counts Y9.ns (by have:=tk.o;have:=Hn.o;omega) Ho.o.cr);clear Y9 Ek)
    |(go_at_call 53;go_must(refine HNu.o.mono ?_);rintro e Bg ⟨v12,rfl,o12,Be⟩;have Ur:=aa Be;have HOf:=aa (Vs Bg Bg.heap.size (Qg _) v12 counts o12.ns (by have:=tk.o;have:=Hn.o;omega) (by have:=tk.o;have:=Hn.o;omega) Ho.o.cr);clear o12 Be)
    |(go_at_call 52;go_must(refine HOf.o.mono ?_);rintro e W13 ⟨tb,cb,mb,rfl,t13,l1,l2,l3,mO⟩;have T13:=aa t13;have B13:=aa mO;have L13:Af (Bg.heap.size≤tb∧Bg.heap.size≤cb∧Bg.heap.size≤mb):=⟨l1,l2,l3⟩;clear t13 mO l1 l2 l3))
   have mO:=Th.o.trans ((Ur.o.trans (B13.o.mono Ur.o.size)).mono Th.o.size);have abJ:=aa (oU.o.trans (mO.mono oU.o.size));have S13:=aa (MS.o.on mO);have TW:=aa (X10.o.on mO);have P13:=aa (P10.o.on mO);have D13:=aa (D10.o.on mO);have hlen:(aE.of counts).len=n:=tk.o;have ta:=vC W13 tb cb mb (aE.of counts) T13.o _ _ ag au P13.o.ns D13.o.ns (by rw[hlen,Ho.o.pl,←Hn.o.1];exact(uK (by have:=Hn.o;omega)).1) (by rw[Ho.o.dl,Ho.o.pl,←Hn.o.1];exact(uK (by have:=Hn.o;omega)).2) (fun y hy=>by have:=Ho.o.rg y hy;have:=Hn.o;omega);rw[Ho.o.sh] at ta;have HSh:=aa ta;have lD:=aa hlen;have z0:=S13.o.cell (j:=0) rfl;have z1:=S13.o.cell (j:=1) rfl;clear mO hlen ta z10 JT HNu HOf MS X10 P10 D10;go_upto_region 30 with(first
    |(go_at_call 54;go_must(refine HSh.o.mono ?_);rintro e W14 ⟨rfl,b14⟩;have B14:=aa b14;have HNP:=aa (Cw W14 tb n 2 _ _ (by have:=(T13.o.on b14).x0;rw[lD.o] at this;exact this) (by have:=Hn.o;omega) (by have:=Hn.o;omega));clear b14)
    |(go_at_call 41;go_must(refine HNP.o.mono ?_);rintro e TX ⟨pb,rfl,lp,p15,b15⟩;have P15:=aa p15;have B15:=aa b15;have Lp:=aa lp;clear p15 b15 lp))
   have b15:=B14.o.trans (B15.o.mono B14.o.size);have Oy:=aa (abJ.o.trans (b15.mono abJ.o.size));have S15:=aa (S13.o.on b15);have z0:=S15.o.cell (j:=0) rfl;have z1:=S15.o.cell (j:=1) rfl;obtain⟨r0,r1,r2,r3,r4,r5,r6,r7,hr8⟩:∃r0 r1 r2 r3 r4 r5 r6 r7,x.roots=[r0,r1,r2,r3,r4,r5,r6,r7]:=Ys Hx.o.r8;obtain⟨m0,m1,m2,m3,m4,m5,m6,m7,hm8⟩:∃m0 m1 m2 m3 m4 m5 m6 m7,x.marks=[m0,m1,m2,m3,m4,m5,m6,m7]:=Ys Hx.o.m8;obtain⟨gg,hgg⟩:∃g,g=x.gen:=⟨_,rfl⟩;obtain⟨bb,bO⟩:∃g,g=x.blocks:=⟨_,rfl⟩;have hCe:aP x=[.int .u64 gg,.int .u32 bb,.int .u32 r0,.int .u32 r1,.int .u32 r2,.int .u32 r3,.int .u32 r4,.int .u32 r5,.int .u32 r6,.int .u32 r7,.int .u64 m0,.int .u64 m1,.int .u64 m2,.int .u64 m3,.int .u64 m4,.int .u64 m5,.int .u64 m6,.int .u64 m7]:=by unfold aP;rw[hr8,hm8,hgg,bO];rfl
   have HCe:=aa hCe;have x15:=(TW.o.on b15);rw[HC.o,hCe] at x15;have Tk:=x15.alloc (.map #[] 0);have HLx:=aa (ef (w:=TX.alloc (.map #[] 0)) (b:=xb) (cs:=[.int .u64 gg,.int .u32 bb,.int .u32 r0,.int .u32 r1,.int .u32 r2,.int .u32 r3,.int .u32 r4,.int .u32 r5,.int .u32 r6,.int .u32 r7,.int .u64 m0,.int .u64 m1,.int .u64 m2,.int .u64 m3,.int .u64 m4,.int .u64 m5,.int .u64 m6,.int .u64 m7]) rfl (fun j' v hj=>Tk.cell hj));clear b15 hr8 hm8 hgg bO hCe x15 Tk HSh HNP;have xA:= @run_makeMap prog;go_wp2_with((with_reducible refine wl_load _ _ ?_ HLx.o ?_);go_must((·rfl);go_frame));go_ret2;have b16:Below TX.heap.size TX (TX.alloc (.map #[] 0)):=aF _ _;have bO:=Rm (W:=TX) (I:=⟨TX.heap.size+1,d,pl,tb,cb,mb,pb,TX.heap.size⟩) (base:=w.heap.size) rfl rfl Ho.o Hx.o (H.o.on Oy.o) ((T13.o.on B14.o).on B15.o) P15.o ((P13.o.on B14.o).on B15.o) ((D13.o.on B14.o).on B15.o) _ (show _=_ from by unfold ni;rw[HCe.o,show(((x.gen%2).toNat:Nat):Int)=sl from by rw[Hsl.o];have:=Int.emod_nonneg x.gen (show(2:Int)≠0 by decide);omega])
   have am8:=Oy.o.size;have wV:w.heap.size≤Bg.heap.size:=Qh oU.o.size (Qh Th.o.size Ur.o.size);have hl:=L13.o;have Wt:=Lp.o;have ani:w.heap.size≤W14.heap.size:=Qh abJ.o.size B14.o.size;refine⟨_,?_,bO,⟨rfl,rfl,?_,Qh wV hl.1,Qh wV hl.2.1,Qh wV hl.2.2,Qh ani Wt,am8⟩,(Oy.o.alloc Oy.o.size _).alloc (Qh Oy.o.size (by simp)) _⟩
   ·simp
   ·show w.heap.size≤TX.heap.size+1;omega
end
section
open Go.RowKit
attribute [local go_sem] Oper.semAt_some
variable {base : Nat} {v : Va} {rs : List (Nat × Nat)}
def ux (p:Nat×Nat):List Va:=[.int .i64 p.1,.int .i64 p.2]
def iz (ae:List (Nat×Int)) (n:Nat):List (Nat×Nat):=(List.range n).map fun j=>(aC ae j,aC ae (j+1))
theorem FH (ae:List (Nat×Int)) (n:Nat):iz ae (n+1)=iz ae n++[(aC ae n,aC ae (n+1))]:=by simp[iz,List.range_succ]
theorem rL (ae:List (Nat×Int)) (n:Nat):(iz ae n).length=n:=by simp[iz]
theorem zJ {x k n:Nat} (h:x<k) (h2:x<n):n - (intOf (.int .i64 (k:Int))).toNat<n - (intOf (.int .i64 (x:Int))).toNat:=by simp[intOf];omega
def oM (w:Wo) (base:Nat) (v:Va) (rs:List (Nat×Nat)):Prop:=w.ownsRow base 296 2 v rs.length (rs.flatMap ux)
theorem ahL:(prog.info? 296).map (fun i=>(i.zero,i.size,i.bytes))=some (some (.agg #[.int .i64 0,.int .i64 0]),2,16):=by kernel_rfl
theorem PY (p:Nat×Nat):∀u∈ux p,u.oneCell' =true:=by
 intro u hu;simp[ux] at hu;rcases hu with rfl|rfl<;>rfl
section
variable {ops : Array Oper} {w : Wo} {Q : Exit → Act → Wo → Prop} {a : Act} {rest : List Oper} {dst : Option Tmp} {os ox : Operand} {ty : TypeId} {pos : String} {after : Array Edge}
theorem wl_app_r {xs:List (Nat×Nat)} (bN:oM w base v xs) (g:Nat) (p:Nat×Nat) (hx:aq w g 296 (ux p))
  (hb:xs.length≤10000) (ey:base≤w.heap.size) (hs:a.eval os=v) (AM:a.eval ox= .slice (some ⟨g,0,none⟩) 1 1)
  (hK:∀v' w',oM w' base v' (xs++[p])→w.grownBy w' v.ownBlock→wpList prog ops Q rest (a.put dst v') w'):
  wpList prog ops Q (⟨dst,.call {callee:= .builtin .append,args:= #[os,ox],argTypes:= #[293,293]},ty,pos,after,none⟩::rest) a w:=
 wl_append base 293 296 _ 2 16 underlying293 ahL rfl (by omega) v xs.length _ bN (B:=w.heap.size) _ 1 (ux p) (by
   have:=hx.sl (o:=0) (n:=1) (sz:=2) (c:=1) (by simp[ux]) (Qg _) (by unfold maxLen;decide)
   exact this) (PY p) (by unfold maxLen;omega) (by omega) ey hs AM
  (fun v' w' h1 h2=>hK v' w' (by unfold oM;rw[Qo,QP];simpa using h1) h2)
end
theorem oM.form {w:Wo} (h:oM w base v rs):∃A n c,v= .slice A n c:=by
 rcases h.2 with⟨rfl,_⟩|⟨g,cap,cur,rfl,_⟩<;>exact⟨_,_,_,rfl⟩
theorem oM.on {w w' :Wo} (h:oM w base v rs) (hb:Below w.heap.size w w'):oM w' base v rs:=aS h hb
theorem PR (w:Wo) (dep:Nat) (ae:List (Nat×Int)) (hs:eQ dep ae) (v:Va) (hv:Ns w w.heap.size .u16 v (expand ae)):
  Calls prog 197 #[v] w fun e w' =>∃v',e= .returned v'∧oM w' w.heap.size v' (iz ae ae.length)∧Below w.heap.size w w' :=by
 obtain⟨A,c,rfl,-,-⟩:=hv.form;obtain⟨n,hn⟩:=eX ((expand ae).length);have HV:=aa hv;rw[←hn] at HV⊢;have Hn:=dK hn (by rw[hn];exact hs.len:n≤256);have HS:=aa hs;have n256:(n:Int)≤256:=by have:=Hn.o.2;omega
 clear hv hs hn;go_enter func197,ntmps197;go_wp2_with fail;go_loopw [3,4] (fun v i wr=>∃j x:Nat,i= .int .i64 x∧Af (x=aC ae j∧j≤ae.length∧oM wr w.heap.size v (iz ae j)∧Below w.heap.size w wr)) (fun _ i _=>n - (intOf i).toNat)
 case atStart=>exact⟨0,0,rfl,rfl,Qp _,World.ownsRow_nil _ _ _ _,Xj _ _⟩
 case round=>
  obtain⟨j,x,rfl,HR⟩:=hrel;obtain⟨A0,n0,c0,rfl⟩:=HR.o.2.2.1.form;by_cases aJ:j<ae.length
  ·obtain⟨s,lA⟩:∃s,ae[j]? =some s:=⟨_,Qf aJ⟩;have kO:=HS.o.pos lA;have tt:=bH ae j s lA;have hle:=fH ae (j+1);rw[tt,←HR.o.1,←Hn.o.1] at hle;have i0:(0:Int)≤x:=by omega
   have i1:(x:Int)<n:=by omega
   have nZ:wrap64 ((x:Int)+1)=(x:Int)+1:=by unfold wrap64;omega
   obtain⟨b,o,c',hv,-,-,hb,aH⟩:=HV.o.cells (by have:=Hn.o.1;omega);obtain rfl:A=some ⟨b,o,none⟩:=by injection hv
   have iO:∀i,i<s.1→w.cell? ⟨b,o+(x+i),none⟩=some (.int .u16 s.2):=fun i hi=>by have h1:=eh ae j s lA i hi;rw[←HR.o.1] at h1;rw[aH (x+i) (by have:=Hn.o.1;omega),Qe,h1];rfl
   have zu:=aa iO;have ahS:Af (x+s.1=n∨∃y,w.cell? ⟨b,o+(x+s.1),none⟩=some (.int .u16 y)∧y≠s.2):=by
    rcases HS.o.next lA with h1|⟨y,h1,h2⟩
    ·rw[←HR.o.1,←Hn.o.1] at h1;exact .inl h1
    ·rw[←HR.o.1] at h1;refine .inr ⟨y,?_,h2⟩;rw[aH (x+s.1) (Ql.1 h1).1,Qe,h1];rfl
   have Hb:=aa hb;have Hs:=kH lA (by rw[tt,HR.o.1]:aC ae (j+1)=x+s.1) kO hle;have bj:=aa aJ;have HX:=aa HR.o.1;clear iO aH hv hb lA tt kO hle aJ;go_wp2_with fail;have HOr:=aa HR.o.2.2.1;have MV:=aa HR.o.2.2.2;clear HR;have mZ:Af (∀(W2 W3:Wo) (g:Nat),Below wr.heap.size wr W2→g=W2.heap.size→W3=W2.alloc (.cells #[.int .i64 x,.int .i64 (x+s.1:Nat)] 296)→oM W3 w.heap.size (.slice A0 n0 c0) (iz ae j)∧aq W3 g 296 (ux (x,x+s.1))∧Below w.heap.size w W3):=fun W2 W3 g h2 hg h3=>by subst hg h3;exact⟨(HOr.o.on h2).on (aF W2 _),ar W2 (ux (x,x+s.1)) _,(MV.o.trans (h2.mono MV.o.size)).alloc (Qh MV.o.size h2.size) _⟩
   have Hll:Af ((iz ae j).length≤10000):=by show _≤_;rw[rL];exact Qh (QX bj.o) (Qh HS.o.many (by decide))
   have Hru:Af (iz ae (j+1)=iz ae j++[(x,x+s.1)]):=by show _=_;rw[FH,Hs.o.2.1,←HX.o]
   go_loopw [5] (fun kv wr2=>∃k:Nat,kv= .int .i64 k∧Af (x<k∧k≤x+s.1∧Below wr.heap.size wr wr2)) (fun kv _=>n - (intOf kv).toNat)
   case atStart=>exact⟨x+1,rfl,XL x,by have:=Hs.o;omega,Xj _ _⟩
   case round=>
    obtain⟨k,rfl,HK⟩:=hrel;have gd:wr.cell? ⟨b,o+x,none⟩=some (.int .u16 s.2):=((MV.o.trans (HK.o.2.2.mono MV.o.size)).cell (p:=⟨b,o+x,none⟩) Hb.o).trans (zu.o 0 Hs.o.2.2.1);by_cases hk:k<x+s.1
    ·have k0:(0:Int)≤k:=by omega
     have k1:(k:Int)<n:=by have:=Hs.o;omega
     have DZ:wrap64 ((k:Int)+1)=(k:Int)+1:=by unfold wrap64;omega
     have oP:wr.cell? ⟨b,o+k,none⟩=some (.int .u16 s.2):=by refine((MV.o.trans (HK.o.2.2.mono MV.o.size)).cell (p:=⟨b,o+k,none⟩) Hb.o).trans ?_;have:=zu.o (k - x) (by have:=HK.o.1;omega);rwa[show x+(k - x)=k by have:=HK.o.1;omega] at this
     have Hk:=aa hk;have Hk1:Af (k<n):=by show k<n;omega
     have HKb:=aa HK.o;clear hk HK;go_wp2_with fail;go_quiet (fail);go_wp2_with fail;go_roundw
     case rel=>exact⟨k+1,by first|rfl|trivial,Nat.lt_succ_of_lt HKb.o.1,Hk.o,below_drewN HKb.o.2.2 _⟩
     case measure=>exact al Hk1.o
    ·have si:k=x+s.1:=by have:=HK.o;omega
     have DZ:wrap64 ((k:Int)+1)=(k:Int)+1:=by unfold wrap64;have:=Hs.o;omega
     have HKb:=aa HK.o.2.2;have Hk2:=aa si;have HE:Af (∀q,oM ((wr.drewN q).alloc (.cells #[.int .i64 x,.int .i64 k] 296)) w.heap.size (.slice A0 n0 c0) (iz ae j)∧aq ((wr.drewN q).alloc (.cells #[.int .i64 x,.int .i64 k] 296)) wr.heap.size 296 (ux (x,x+s.1))∧Below w.heap.size w ((wr.drewN q).alloc (.cells #[.int .i64 x,.int .i64 k] 296))):=fun q=>by have:=mZ.o (wr.drewN q) _ _ (below_drewN HK.o.2.2 q) rfl rfl;rw[←si] at this;rw[←si];exact this
     have Kh:Af (∀(q:Nat) (v' :Va) (w' :Wo),oM w' w.heap.size v' (iz ae j++[(x,x+s.1)])→((wr.drewN q).alloc (.cells #[.int .i64 x,.int .i64 k] 296)).grownBy w' (Value.slice A0 n0 c0).ownBlock→k=aC ae (j+1)∧j+1≤ae.length∧oM w' w.heap.size v' (iz ae (j+1))∧Below w.heap.size w w'):=fun q v' w' h1 h2=>by refine⟨by rw[si,Hs.o.2.1],bj.o,by rw[Hru.o];exact h1,(HE.o q).2.2.grown h2 (HE.o q).2.2.size (fun j' e=>(Xr (HE.o q).1 j' e).1)⟩
     have HM:=dK HK.o.1 (by have:=Hs.o;omega:x<n);clear HK mZ;rcases ahS.o with he|⟨y,hy,hyn⟩
     ·have k1:¬k<n:=by omega
      clear he si hk;go_wp2_with fail;go_quiet (fail);go_wp2_with(at_builtin;(with_reducible refine wl_app_r (os:= .tmp 29) (ox:= .tmp 33) (base:=w.heap.size) (HE.o _).1 wr.heap.size _ (HE.o _).2.1 ?_ ?_ ?_ ?_ ?_);go_must((·exact Hll.o);(·exact(HE.o _).2.2.size);(·rfl);(·rfl);intro v4 w4 ua og;obtain⟨A4,n4,c4,rfl⟩:=ua.form;have WW:=aa (Kh.o _ _ _ ua og);clear ua og));go_roundw
      case rel=>exact⟨j+1,k,rfl,WW.o⟩
      case measure=>exact zJ HM.o.1 HM.o.2
     ·have Sz:wr.cell? ⟨b,o+k,none⟩=some (.int .u16 y):=((MV.o.trans (HKb.o.mono MV.o.size)).cell (p:=⟨b,o+k,none⟩) Hb.o).trans (by rw[si];exact hy);have Io:=Xc hyn;have k0:(0:Int)≤k:=by omega
      by_cases k1:k<n
      ·clear si hk hy hyn;go_wp2_with fail;go_quiet (fail);go_wp2_with(at_builtin;(with_reducible refine wl_app_r (os:= .tmp 29) (ox:= .tmp 33) (base:=w.heap.size) (HE.o _).1 wr.heap.size _ (HE.o _).2.1 ?_ ?_ ?_ ?_ ?_);go_must((·exact Hll.o);(·exact(HE.o _).2.2.size);(·rfl);(·rfl);intro v4 w4 ua og;obtain⟨A4,n4,c4,rfl⟩:=ua.form;have WW:=aa (Kh.o _ _ _ ua og);clear ua og));go_roundw
       case rel=>exact⟨j+1,k,rfl,WW.o⟩
       case measure=>exact zJ HM.o.1 HM.o.2
      ·clear si hk hy hyn Sz Io;go_wp2_with fail;go_quiet (fail);go_wp2_with(at_builtin;(with_reducible refine wl_app_r (os:= .tmp 29) (ox:= .tmp 33) (base:=w.heap.size) (HE.o _).1 wr.heap.size _ (HE.o _).2.1 ?_ ?_ ?_ ?_ ?_);go_must((·exact Hll.o);(·exact(HE.o _).2.2.size);(·rfl);(·rfl);intro v4 w4 ua og;obtain⟨A4,n4,c4,rfl⟩:=ua.form;have WW:=aa (Kh.o _ _ _ ua og);clear ua og));go_roundw
       case rel=>exact⟨j+1,k,rfl,WW.o⟩
       case measure=>exact zJ HM.o.1 HM.o.2
  ·have hj:j=ae.length:=by have:=HR.o.2.1;omega
   have hx:x=n:=by rw[HR.o.1,hj,nM ae _ (Qg _),Hn.o.1]
   have fF:=aa HR.o.2.2;rw[hj] at fF;clear HR aJ hj;subst hx;go_wp2_with fail;go_ret;exact⟨_,rfl,fF.o.1,fF.o.2⟩
end
section
open Go.RowKit
attribute [local go_sem] Oper.semAt_some
theorem U6:∀e:Nat,e≤8→bits .and .i64 ((2^e:Nat):Int) (((2^e:Nat):Int) - 1)=0
 |0,_|1,_|2,_|3,_|4,_|5,_|6,_|7,_|8,_=>by decide
 |e+9,h=>by omega
theorem rz {e:Nat} (h:e≤8):1≤2^e∧2^e≤256:=⟨Nat.two_pow_pos e,Qh (Nat.pow_le_pow_right (by decide) h) (by decide)⟩
theorem Ig (w:Wo) (b:Int) (h0:0<b) (h1:b<4096):
  Calls prog 198 #[.int .u16 b] w fun e w' =>e= .returned (.bool true)∧w=w' :=by
 go_enter func198,ntmps198;go_wp2_with fail;go_ret;exact⟨rfl,rfl⟩
theorem Km (w:Wo) (x n:Nat) (e:Nat) (he:e≤8) (hn:n=2^e) (hm:x%n=0):
  Calls prog 199 #[.agg #[.int .i64 x,.int .i64 (x+n:Nat)]] w fun e w' =>e= .returned (.bool true)∧Below w.heap.size w w' :=by
 have hb:bits .and .i64 (n:Int) ((n:Int) - 1)=0:=by rw[hn];exact U6 e he
 have h2:=rz he;rw[←hn] at h2;obtain⟨y,hy⟩:=eX (x+n);rw[←hy];have hs:wrap64 ((y:Int) - x)=n:=by unfold wrap64;omega
 have Ip:wrap64 ((n:Int) - 1)=(n:Int) - 1:=by unfold wrap64;omega
 have n0:(n:Int)≠0:=by omega
 have hr:Int.tmod (x:Int) n=0:=by rw[←Int.ofNat_tmod,hm];rfl
 have hB:=aa (aF w (.cells #[.int .i64 x,.int .i64 y] 296));clear he hn hm h2 hy;go_enter func199,ntmps199;go_wp2_with fail;go_ret;exact⟨rfl,hB.o⟩
def MKq:MK Int Int where
 mt:=292
 kt:=61
 vt:=3
 xz:=underlying292
 keyed:=Maps.int_keyed underlying61
 kv:= .int .u16
 kl:= .int .u16
 qY:=fun x=>(Lit.int .u16 x).wf=true
 ir:=fun x h=>Maps.keyOf_int_mk underlying61 h
 Bn:=fun x y h=>by simpa using h
 sB:=fun v l h=>by
  obtain⟨y,e1,e2,e3⟩:=Maps.keyOf_int_inv underlying61 h;exact⟨y,e3,e1⟩
 vv:= .int .i64
 Ix:=fun y=> .lit (.int .i64 y)
 R:=RI .i64
 MZ:=IU .i64
 Bm:=zy .i64
 zo:=zz .i64
 zero:=0
 hz:=fun w=>by kernel_rfl
theorem ahw {x:Int} (h:0≤x∧x≤65535):(Lit.int .u16 x).wf=true:=by
 simp[Lit.wf,IntKind.min,IntKind.max,IntKind.signed,IntKind.bits];omega
theorem Cg:∀dep:Nat,dep≤8→wrap64 ((2:Int)^dep)=((2^dep:Nat):Int)
 |0,_|1,_|2,_|3,_|4,_|5,_|6,_|7,_|8,_=>by decide+kernel
 |e+9,h=>by omega
def uD (dep:Nat) (v:Va):List Va:=[.int .u8 dep,v]
theorem RR (rs:List (Nat×Nat)) (j:Nat) (p:Nat×Nat) (h:rs[j]? =some p):(rs.flatMap ux)[j*2]? =some (.int .i64 p.1)∧(rs.flatMap ux)[j*2+1]? =some (.int .i64 p.2):=by
 induction rs generalizing j with
 |nil=>simp at h
 |cons a r ih=>
  cases j with
  |zero=>simp at h;subst h;exact⟨rfl,rfl⟩
  |succ j=>
   have h1:=ih j (by simpa using h);rw[QH,show(j+1)*2=j*2+2 by omega,show j*2+2+1=(j*2+1)+2 by omega];exact h1
theorem KF (ae:List (Nat×Int)) (n j:Nat) (h:j<n):(iz ae n)[j]? =some (aC ae j,aC ae (j+1)):=by
 unfold iz;rw[Qt,List.getElem?_range h];rfl
theorem aci {j m x n k:Nat} (h:j<m) (hx:x<n) (hn:n≤256) (hm:m=k) (Nf:m≤256):(0:Int)≤j∧(j:Int)<m∧(0:Int)≤x∧(x:Int)<n∧wrap64 ((j:Int)+1)=(j:Int)+1∧j≤256∧j<k∧0<n:=by
 unfold wrap64;omega
structure abG (w:Wo) (ae:List (Nat×Int)) (db mb:Nat) (dep:Nat) (sv rv:Va) (j:Nat) (wr:Wo):Prop where
 le:j≤ae.length
 map:MG MKq wr mb (fx ((ae.take j).map Prod.snd).reverse) j
 dir:aq wr db 133 (uD dep sv)
 rs:oM wr w.heap.size rv (iz ae ae.length)
 low:Below w.heap.size w wr
theorem vD (w:Wo) (dep:Nat) (ae:List (Nat×Int)) (hs:eQ dep ae) (v:Va) (hv:Ns w w.heap.size .u16 v (expand ae)):
  Calls prog 122 #[.agg #[.int .u8 dep,v]] w fun e w' =>e= .returned (.bool true)∧Below w.heap.size w w' :=by
 obtain⟨A,c,rfl,-,-⟩:=hv.form;obtain⟨n,hn⟩:=eX ((expand ae).length);obtain⟨m,hm⟩:=eX ae.length;have HV:=aa hv;rw[←hn] at HV⊢;have Hn:=kH hn (by rw[hn];exact hs.len:n≤256) hm (by rw[hm];exact hs.many:m≤256);have agc:=Cg dep hs.d8;have uz:2^dep=n:=by rw[hn];exact hs.sum.symm
 rw[uz] at agc;have d8:¬8<dep:=by have:=hs.d8;omega
 have d8i:¬(8:Int)<dep:=by have:=hs.d8;omega
 have HS:=aa hs;have avH:(m:Int)≤256:=by have:=Hn.o;omega
 obtain⟨W0,aY⟩:=eX (w.alloc (.cells #[.int .u8 dep,.slice A n c] 133));have X0:Af (aq W0 w.heap.size 133 (uD dep (.slice A n c))):=by show aq _ _ _ _;rw[aY];exact ar w [_,_] _
 have B0:Af (Below w.heap.size w W0):=by rw[aY];exact aF _ _
 have fD:=aa aY.symm;have x0:W0.cell? ⟨w.heap.size,0,none⟩=some (.int .u8 dep):=X0.o.cell rfl;have x1:W0.cell? ⟨w.heap.size,1,none⟩=some (.slice A n c):=X0.o.cell rfl;have xA:= @run_makeMap prog;clear hv hs hn hm uz aY;go_enter func122,ntmps122;go_upto_region 1 with fail
 rw[fD.o];go_step3;go_upto_region 4 with fail
 have M1:MG MKq (W0.alloc (.map #[] 0)) W0.heap.size (fun _=>none) 0:=MG.made W0;have b1:=aF W0 (.map #[] 0);obtain⟨W1,aW⟩:=eX (W0.alloc (.map #[] 0));obtain⟨mb,tB⟩:=eX W0.heap.size;have hmw:w.heap.size≤mb:=by rw[tB];exact B0.o.size
 rw[←aW] at M1 b1⊢;rw[←tB] at M1⊢;have M1:=aa M1;have Hmw:=aa hmw;have B1:=aa (B0.o.trans (b1.mono B0.o.size));have X1:=aa (X0.o.on b1);have y1:W1.cell? ⟨w.heap.size,1,none⟩=some (.slice A n c):=X1.o.cell rfl;have HRn:=aa (PR W1 dep ae HS.o (.slice A n c) (by have h1:Ns W1 w.heap.size .u16 (.slice A n c) (expand ae):=Sl.below (by rw[Hn.o.1] at HV⊢;exact HV.o) B1.o;exact Sl.more h1 B1.o.size));clear aW tB hmw b1 x0 x1 X0 agc xA d8 d8i fD;go_step3;go_wp2_with(go_at_call 197;go_must(refine HRn.o.mono ?_);rintro e W2 ⟨rv,rfl,o2,b2⟩;obtain⟨Ar,nr,cr,rfl⟩:=o2.form;have O2:=aa o2;have B2:=aa b2;have Hnr:Af (nr=m):=(by have h1:=o2.1;have h2:=(Sl.bU o2).form;obtain⟨A',c',e,-⟩:=h2;rw[rL,←Hn.o.2.2.1] at e;injection e);clear o2 b2)
 have TA:=Hnr.o;subst TA;have rj:Af (abG w ae w.heap.size mb dep (.slice A n c) (.slice Ar nr cr) 0 W2):=⟨Qp _,M1.o.on B2.o,X1.o.on B2.o,by have h1:=O2.o;exact fB h1 B1.o.size,B1.o.trans (B2.o.mono B1.o.size)⟩;clear y1 HRn M1 O2 X1;go_loopw [24] (fun i wr=>∃j:Nat,i= .int .i64 j∧Af (abG w ae w.heap.size mb dep (.slice A n c) (.slice Ar nr cr) j wr)) (fun i _=>nr - (intOf i).toNat)
 case atStart=>exact⟨0,rfl,rj.o⟩
 case round=>
  obtain⟨j,rfl,HR⟩:=hrel;by_cases aJ:j<nr
  ·obtain⟨s,lA⟩:∃s,ae[j]? =some s:=⟨_,Qf (by have:=Hn.o;omega)⟩;have kO:=HS.o.pos lA;have tt:=bH ae j s lA;have hle:=fH ae (j+1);rw[tt,←Hn.o.1] at hle;obtain⟨x,hx⟩:=eX (aC ae j);obtain⟨y,hy⟩:=eX (x+s.1);rw[←hx] at tt hle;rw[←hy] at tt hle;obtain⟨i0,i1,j0,j1,fp,agD,agC,jU⟩:=aci aJ (Qn (Qn (Nat.lt_add_of_pos_right kO) (Xg hy.symm)) hle) Hn.o.2.1 Hn.o.2.2.1 Hn.o.2.2.2;have eu:=aa fp;obtain⟨b,o,c',hv,-,-,hb,aH⟩:=HV.o.cells (by rw[←Hn.o.1];exact jU);obtain rfl:A=some ⟨b,o,none⟩:=by injection hv
   have Yy:wr.cell? ⟨b,o+x,none⟩=some (.int .u16 s.2):=by have h1:=eh ae j s lA 0 kO;rw[XC,←hx] at h1;rw[HR.o.low.cell (p:=⟨b,o+x,none⟩) hb,aH x (by rw[←Hn.o.1];exact Xi.1 j1),Qe,h1];rfl
   have kr:=Sl.bU HR.o.rs;obtain⟨br,or,cr',hvr,-,-,dL⟩:=kr.row (by rw[rL];have:=Hn.o;omega);obtain rfl:Ar=some ⟨br,or,none⟩:=by injection hvr
   obtain⟨f1,f2⟩:=RR _ j _ (KF ae ae.length j (by have:=Hn.o;omega));have z0:wr.cell? ⟨br,or+j*2,none⟩=some (.int .i64 x):=by rw[hx];exact dL.2 _ _ f1
   have z1:wr.cell? ⟨br,or+j*2+1,none⟩=some (.int .i64 y):=by rw[XB,←tt];exact dL.2 _ _ f2
   obtain⟨e,he8,MC,EC⟩:=HS.o.two j s lA;rw[←hx] at EC;have uA:=HS.o.Ej s (Qi lA);have HWh:=aa (fun W=>Km W x s.1 e (Qh he8 HS.o.d8) MC EC);rw[←hy] at HWh;have AL:=aa (fun W=>Ig W s.2 uA.1 uA.2);have mY:=aa (ahw ⟨Int.le_of_lt uA.1,Int.le_of_lt (Int.lt_trans uA.2 (by decide))⟩);have zj:s.2∉((ae.take j).map Prod.snd).reverse:=fun hm=>by rw[List.mem_reverse] at hm;obtain⟨j',Eg,ud⟩:=List.getElem_of_mem hm;rw[Qq,Qu] at Eg;rw[List.getElem_map,List.getElem_take] at ud;obtain⟨hjj,hee⟩:=Ql.1 lA;have:=(List.pairwise_iff_getElem.1 HS.o.nd) j' j (by simp;omega) (by simpa using hjj) (by omega);rw[List.getElem_map,List.getElem_map,ud,hee] at this;exact this rfl
   obtain⟨seen,IM⟩:=eX (((ae.take j).map Prod.snd).reverse);have Pq:((ae.take (j+1)).map Prod.snd).reverse=s.2::seen:=by rw[IM,aA _ _ _ lA,QL,List.reverse_append];rfl
   rw[←IM] at zj;have WH:=HR.o.map;rw[←IM] at WH;have hf:fx seen s.2=none:=by unfold fx;rw[Xd zj]
   have q0:∀W,MG MKq W mb (fx seen) j→(Instr.lookup 292 (.map (some mb)) (.int .u16 s.2) false).run prog W= .ok (.int .i64 0) W:=fun W hW=>by have h1:=hW.at (x:=s.2) mY.o;rw[hf] at h1;exact h1
   have b3:=aF wr (.cells #[.int .i64 x,.int .i64 y] 296);have X3:=aa (ar wr [.int .i64 x,.int .i64 y] 296);have D3:=aa (HR.o.dir.on b3);have M3:=aa (WH.on b3);have R3:=aa (HR.o.rs.on b3);have L3:=aa (HR.o.low.trans (b3.mono HR.o.low.size));have s3:=(b3.cell (p:=⟨b,o+x,none⟩) (Qn hb HR.o.low.size)).trans Yy;have Hb:=aa hb;have bj:=aa aJ;have Hj:=dK agD agC;have EH:=aa Pq;have HF:=aa hf;clear lA kO tt hle hx hy hv aH Yy kr hvr dL f1 f2 he8 MC EC uA zj IM Pq WH hf aJ HR hb agD agC jU;go_upto_region 7 with fail
   obtain⟨W3,cD⟩:=eX (wr.alloc (.cells #[.int .i64 x,.int .i64 y] 296));obtain⟨rb,ft⟩:=eX wr.heap.size;rw[←cD] at X3 D3 M3 R3 L3 s3⊢;rw[←ft] at X3⊢;have d1:W3.cell? ⟨w.heap.size,1,none⟩=some (.slice (some ⟨b,o,none⟩) n c):=D3.o.cell rfl;obtain⟨r0,r1⟩:=gh X3.o;have p0:=q0 W3 M3.o;clear cD ft b3 z0 z1;go_upto_region 9 with((refine wl_put MKq (f:=fx seen) (s:=j) rfl M3.o ?_ s.2 1 mY.o rfl rfl rfl ?_);go_must((·have:=Hj.o;omega);intro W4 hm4 og;have HM4:=aa hm4;have HG4:=aa og;clear hm4 og))
   have TF:eM (fx seen) s.2 1 s.2=some 1:=by simp[eM]
   have p1:(Instr.lookup 292 (.map (some mb)) (.int .u16 s.2) false).run prog W4= .ok (.int .i64 1) W4:=by have h1:=HM4.o.at (x:=s.2) mY.o;rw[TF] at h1;exact h1
   have X4:=X3.o.grown HG4.o (fun e=>X3.o.bS M3.o (Qr e));obtain⟨r40,r41⟩:=gh X4;have HE:Af (∀W,Below W4.heap.size W4 W→abG w ae w.heap.size mb dep (.slice (some ⟨b,o,none⟩) n c) (.slice (some ⟨br,or,none⟩) nr cr) (j+1) W):=fun W hW=>by
    refine⟨Hj.o.2,?_,(D3.o.grown HG4.o (fun e=>D3.o.bS M3.o (Qr e))).on hW,?_,(L3.o.grown HG4.o L3.o.size (fun j' e=>by rw[←Qr e];exact Hmw.o)).trans (hW.mono (Qh L3.o.size HG4.o.size))⟩
    ·rw[EH.o,←ym];have h1:=HM4.o;rw[show(fx seen s.2).isSome=false from by rw[HF.o];rfl] at h1;exact MG.on h1 hW
    ·exact oM.on (World.ownsRow.kept R3.o HG4.o (.inr (kj M3.o R3.o))) hW
   clear TF X4 q0;go_wp2_with(first
    |(go_at_call 198;go_must(refine(AL.o _).mono ?_);rintro e W5 ⟨rfl,rfl⟩)
    |(go_at_call 199;go_must(refine(HWh.o _).mono ?_);rintro e W5 ⟨rfl,b5⟩;have B5:=aa b5;clear b5))
   exact⟨⟨j+1,by first|rfl|(rw[eu.o];rfl),HE.o W5 B5.o⟩,al bj.o⟩
  ·have i1:¬(j:Int)<nr:=by omega
   have HL:=aa HR.o.low;clear HR aJ;go_wp2_with fail
   try rw[Qv]
   go_ret;exact⟨rfl,HL.o⟩
theorem I8 {p:Int} (hp:bI p) {dep:Nat} (hd:dep≤8):0≤p/2^(64 - dep)∧p/2^(64 - dep)<256:=by
 have h0:=hp.1;have h1:=hp.2;have kO:(0:Int)<2^(64 - dep):=Int.pow_pos (by decide);refine⟨Int.ediv_nonneg h0 (Int.le_of_lt kO),?_⟩;refine Int.ediv_lt_of_lt_mul kO (Int.lt_of_lt_of_le h1 ?_);have e:∀d:Nat,d≤8→(18446744073709551616:Int)≤256*2^(64 - d):=fun d hd=>by
  match d,hd with
  |0,_|1,_|2,_|3,_|4,_|5,_|6,_|7,_|8,_=>decide
  |d+9,h=>omega
 exact e dep hd
theorem VU (w:Wo) (dep:Nat) (ae:List (Nat×Int)) (hs:eQ dep ae) (v:Va) (hv:Ns w w.heap.size .u16 v (expand ae)) (p:Int) (hp:bI p):
  Calls prog 57 #[.agg #[.int .u8 dep,v],.int .u64 p] w fun e w' =>e= .returned (.tuple #[.int .i64 (p/2^(64 - dep)),.int .i64 0])∧Below w.heap.size w w' :=by
 obtain⟨A,c,rfl,-,-⟩:=hv.form;obtain⟨W0,aY⟩:=eX (w.alloc (.cells #[.int .u8 dep,.slice A (expand ae).length c] 133));have X0:Af (aq W0 w.heap.size 133 (uD dep (.slice A (expand ae).length c))):=by show aq _ _ _ _;rw[aY];exact ar w [_,_] _
 have B0:Af (Below w.heap.size w W0):=by rw[aY];exact aF _ _
 have HR:=vD W0 dep ae hs _ (Sl.more (Sl.below hv B0.o) B0.o.size);obtain⟨n,hn⟩:=eX ((expand ae).length);rw[←hn] at aY X0 HR⊢;have HR:=aa HR;have fD:=aa aY.symm;have x0:W0.cell? ⟨w.heap.size,0,none⟩=some (.int .u8 dep):=X0.o.cell rfl;have x1:W0.cell? ⟨w.heap.size,1,none⟩=some (.slice A n c):=X0.o.cell rfl;have d8:=hs.d8;clear hv hn aY hs;go_enter func57,ntmps57;go_upto_region 1 with fail
 rw[fD.o];go_wp2_with(go_at_call 122;go_must(refine HR.o.mono ?_);rintro e W1 ⟨rfl,b1⟩;have B1:=aa b1;have y0:W1.cell? ⟨w.heap.size,0,none⟩=some (.int .u8 dep):=(X0.o.on b1).cell rfl;clear b1);go_ret2;obtain⟨l0,l1⟩:=I8 hp d8;have hw:wrap64 (p/2^(64 - dep))=p/2^(64 - dep):=by generalize p/2^(64 - dep)=q at*;unfold wrap64;omega
 rw[hw];exact⟨rfl,B0.o.trans (B1.o.mono B0.o.size)⟩
end
end Go.Proofs.YthgdhacopamklaaGreat

/- What HashNone asks, part 12 of 41: parts of the walks and laws, each true as it stands. -/
import Derived.Test.YthgdhacopamklaaGreatTAK
set_option maxHeartbeats 16000000
set_option maxRecDepth 100000
set_option linter.unusedVariables false
set_option linter.unusedSimpArgs false
namespace Go.Proofs.YthgdhacopamklaaGreat
open Go.Proofs.Tryz
section
open Go.RowKit
attribute [local go_sem] Oper.semAt_some
def amN (tb pb g0 g1 h0 h1 np nd c0 c1:Nat):List Va:=[.pointer (some ⟨tb,0,none⟩),.pointer (some ⟨pb,0,none⟩),.slice (some ⟨g0,0,none⟩) np c0,.slice (some ⟨g1,0,none⟩) nd c1,.slice (some ⟨h0,0,none⟩) np np,.slice (some ⟨h1,0,none⟩) nd nd]
structure nj (w:Wo) (xb tb pb g0 g1 h0 h1 c0 c1:Nat) (x:fk):Prop where
 own:aq w xb 196 (amN tb pb g0 g1 h0 h1 x.ag.length x.au.length c0 c1)
 r0:Rw w g0 3 (x.ag.map (.int .i64))
 r1:Rw w g1 3 (x.au.map (.int .i64))
 p0:Rw w h0 4 (x.pp.map .bool)
 p1:Rw w h1 4 (x.pd.map .bool)
 SX:g0≠g1
 SW:h0≠h1
 lp:x.pp.length=x.ag.length
 ld:x.pd.length=x.au.length
 pV:x.ag.length≤c0∧c0≤maxLen
 jb:x.au.length≤c1∧c1≤maxLen
 n0:x.ag.length≤2000
 n1:x.au.length≤2000
theorem nj.on {w w' :Wo} {xb tb pb g0 g1 h0 h1 c0 c1:Nat} {x:fk} (h:nj w xb tb pb g0 g1 h0 h1 c0 c1 x) (hb:Below w.heap.size w w'):nj w' xb tb pb g0 g1 h0 h1 c0 c1 x:=
 ⟨h.own.on hb,h.r0.on hb,h.r1.on hb,h.p0.on hb,h.p1.on hb,h.SX,h.SW,h.lp,h.ld,h.pV,h.jb,h.n0,h.n1⟩
theorem Gn (w:Wo) (B:Nat) (v:Va) (l:List Bool) (h:Ts w B v l) (hl:l.length≤10000):
  Calls prog 236 #[v,.bool true] w fun e w' =>(∃k:Int,e= .returned (.int .i64 k)∧decide (0≤k)=l.any id)∧w=w' :=by
 obtain⟨A,c,rfl,jb,pk⟩:=Sl.form h;obtain⟨n,hn⟩:=eX l.length;have H:=aa h;have Hn:=dK hn (by omega:n≤10000);rw[←hn];clear h hl hn jb pk;go_enter func236,ntmps236;go_wp2_with fail;go_loop [8] (fun i=>∃k:Nat,i= .int .i64 k∧Af (k≤n∧(l.take k).any id=false)) (fun i=>n - (intOf i).toNat)
 case atStart=>exact⟨0,rfl,Qp _,rfl⟩
 case round=>
  obtain⟨k,rfl,HR⟩:=hrel;by_cases aJ:k<n
  ·have bQ:k<l.length:=by have:=Hn.o;omega
   obtain⟨b,o,c',hv,-,-,hb,aH⟩:=H.o.cells (by omega);cases hv
   obtain⟨x,hx⟩:=eX (l.getD k false);have pf:l[k]? =some x:=by rw[hx,Qe,Qf bQ];rfl
   have y0:w.cell? ⟨b,o+k,none⟩=some (.bool x):=by rw[hx];exact aH k bQ
   have fp:wrap64 ((k:Int)+1)=(k:Int)+1:=by unfold wrap64;have:=Hn.o;omega
   have hi:(k:Int)<n:=by omega
   have ml:(0:Int)≤k:=by omega
   have bj:=aa aJ;have eu:=aa fp;have Hx:=aa pf;have Hi0:=aa ml;clear hx pf bQ aJ aH hb;cases x with
   |true=>
    go_wp2_with fail;go_ret;refine⟨⟨k,rfl,?_⟩,rfl⟩;rw[Xa Hi0.o];symm
    rw[Xb];exact⟨true,Qi Hx.o,rfl⟩
   |false=>
    go_wp2_with fail;go_round
    case rel=>refine⟨k+1,by first|rfl|(rw[eu.o];rfl),bj.o,?_⟩;rw[aA _ _ _ Hx.o,List.any_append,HR.o.2];rfl
    case measure=>first|exact al bj.o|(rw[eu.o];exact al bj.o)
  ·have hk:k=n:=by have:=HR.o.1;omega
   have hi:¬(k:Int)<n:=by omega
   have e1:l.take k=l:=Qj (by have:=Hn.o;omega);have fF:=aa HR.o.2;rw[e1] at fF;clear e1 HR hk aJ;go_wp2_with fail;go_ret;exact⟨⟨-1,rfl,by rw[fF.o];rfl⟩,rfl⟩
theorem xi (w:Wo) (B:Nat) (v:Va) (l:List Bool) (h:Ts w B v l) (hl:l.length≤10000):
  Calls prog 180 #[v,.bool true] w fun e w' =>e= .returned (.bool (l.any id))∧w=w' :=by
 have HI:=aa (Gn w B v l h hl);clear h hl;go_enter func180,ntmps180;go_wp2_with(go_at_call 236;go_must(refine HI.o.mono ?_);rintro e W2 ⟨⟨k,rfl,hk⟩,rfl⟩;have Hk:=aa hk;clear hk);go_ret;exact⟨jK Hk.o,rfl⟩
theorem Fu (w:Wo) (xb tb pb g0 g1 h0 h1 c0 c1:Nat) (x:fk) (h:nj w xb tb pb g0 g1 h0 h1 c0 c1 x) (i:Nat) (hi:i<x.au.length) (hii:61*i<x.ag.length):
  Calls prog 101 #[.pointer (some ⟨xb,0,none⟩),.int .i64 1,.int .i64 i] w fun e w' =>e= .returned (.bool (x.gH i))∧w=w' :=by
 obtain⟨x0,-,-,x3,x4,x5⟩:=cL6 h.own;have hid:i<x.pd.length:=by rw[h.ld];exact hi
 have y0:=h.p1.cell (j:=i) (u:= .bool (x.pd.getD i false)) (by rw[Qt,Qf hid,bE _ _ _ hid];rfl);have y1:=h.r1.cell (j:=i) (u:= .int .i64 (x.au.getD i 0)) (by rw[Qt,Qf hi,bE _ _ _ hi];rfl);have hT:Ts w w.heap.size (.slice (some ⟨h0,61*i,none⟩) (min (61*i+61) x.ag.length - 61*i) (x.ag.length - 61*i)) ((x.pp.drop (61*i)).take 61):=by
  have hl:((x.pp.drop (61*i)).take 61).length=min (61*i+61) x.ag.length - 61*i:=by rw[Qu,Zt,h.lp];omega
  unfold Ts;rw[hl];refine kT (by rw[Qq,hl,Nat.mul_one]) (by omega) (by have:=h.n0;unfold maxLen;omega) ⟨h.p0.lt,fun j u hu=>h.p0.cell ?_⟩;rw[Qt,Ze] at hu;split at hu
  ·rw[Zb] at hu;rw[Qt];exact hu
  ·simp at hu
 obtain⟨q,hq⟩:=eX (min (61*i+61) x.ag.length);obtain⟨p,hp⟩:=eX (61*i);obtain⟨np,ei⟩:=eX x.ag.length;have jU:=h.n0;unfold fk.gH;rw[←hq,←hp,←ei] at hT;have HC:=aa (xi w _ _ _ hT (by rw[Qu];omega));rw[←hp];rw[←ei] at x4;have w1:wrap64 ((i:Int)*61)=p:=by unfold wrap64;omega
 have w2:wrap64 ((i:Int)+1)=i+1:=by unfold wrap64;omega
 have w3:wrap64 (((i:Int)+1)*61)=(p:Int)+61:=by unfold wrap64;omega
 have hpq:min ((p:Int)+61) np=q:=by omega
 have k1:(0:Int)≤p:=by omega
 have k2:(p:Int)≤q:=by omega
 have k3:(q:Int)≤np:=by omega
 have k4:p≤q:=by omega
 have k5:q≤np:=by omega
 have k6:¬np=p:=by omega
 have k7:(0:Int)≤i:=by omega
 have k8:(i:Int)<x.au.length:=by omega
 have k9:(i:Int)<x.pd.length:=by omega
 generalize x.au.length=nd at*;generalize x.pd.length=nd' at*;generalize x.pd.getD i false=pl at*;generalize x.au.getD i 0=a at*;generalize ((x.pp.drop p).take 61).any id=r at*;clear h hi hii hid hT hq hp ei jU;cases pl with
 |true=>
  go_enter func101,ntmps101;go_wp2_with fail;go_ret;exact⟨rfl,rfl⟩
 |false=>
  by_cases ha:a=0
  ·subst ha;go_enter func101,ntmps101;go_wp2_with fail;go_ret;exact⟨rfl,rfl⟩
  ·have ha2:=Xc ha;rw[Xd ha];clear ha;go_enter func101,ntmps101;go_wp2_with(go_at_call 180;go_must(refine HC.o.mono ?_);rintro e W2 ⟨rfl,rfl⟩);go_ret;exact⟨rfl,rfl⟩
theorem wm {l:List Int} {a:Int} (h:∀y∈l,a≤y):l.countP (·<a)=0:=List.countP_eq_zero.2 fun y hy=>by have:=h y hy;simp;omega
theorem yU:∀(l:List Int) (a e:Int),l.Pairwise (·<·)→a<e→l.any (fun b=>decide (a≤b)&&decide (b<e))=(l.contains a||(decide (l.countP (·<a)<l.length)&&decide (l.getD (l.countP (·<a)) 0<e)))
 |[],a,e,_,_=>rfl
 |b::r,a,e,h,hae=>by
  obtain⟨h1,h2⟩:=List.pairwise_cons.1 h;by_cases hb:b<a
  ·rw[List.any_cons,yU r a e h2 hae,List.countP_cons_of_pos (by simpa using hb),QF,List.getD_cons_succ,List.contains_cons]
   have e1:decide (a≤b)=false:=Xe (by omega);have e2:(a==b)=false:=Xc (by omega);rw[e1,e2];simp
  ·have h3:∀y∈b::r,a≤y:=fun y hy=>by
    rcases QA.1 hy with rfl|hy
    ·omega
    ·have:=h1 y hy;omega
   rw[wm h3,List.getD_cons_zero,QF,Xa (by omega:0<r.length+1),Bool.true_and];by_cases mG:b<e
   ·rw[Xa mG,Bool.or_true,List.any_cons,Xa (by omega:a≤b),Xa mG]
    rfl
   ·rw[Xe mG,Bool.or_false]
    have e1:(b::r).contains a=false:=by
     rw[Xf];intro hc;have hm:a∈b::r:=by simpa using hc
     rcases QA.1 hm with e2|e2
     ·omega
     ·have:=h1 a e2;omega
    rw[e1,List.any_eq_false];intro y hy;rcases QA.1 hy with rfl|hy
    ·simp;omega
    ·have:=h1 y hy
     simp;omega
theorem w61 (i p:Nat) (hp:p=61*i) (h:i≤5000):wrap64 ((i:Int)*61)=p∧wrap64 ((i:Int)+1)=i+1∧wrap64 (((i:Int)+1)*61)=(p:Int)+61:=by
 refine⟨?_,?_,?_⟩<;>unfold wrap64<;>omega
theorem Gj {V:Type} (l:List (Option V)):(gJ l).length≤l.length:=by
 unfold gJ;rw[Qq];exact Qh (List.length_filter_le _ _) (by simp)
theorem Am {t:aE} {i:Nat} (h:t.kept.length=t.len):t.changed.any (fun b=>decide (61*i≤b)&&decide (b<61*(i+1)))=(gJ t.kept).any (fun b=>decide (((61*i:Nat):Int)≤b)&&decide (b<((61*i:Nat):Int)+61)):=by
 unfold aE.changed gJ;rw[List.any_map,h];congr 1
 funext b
 simp only[Function.comp];congr 1<;>exact decide_eq_decide.2 (by omega)
theorem Fv (w:Wo) (xb tb pb g0 g1 h0 h1 c0 c1 cb mb:Nat) (x:fk) (h:nj w xb tb pb g0 g1 h0 h1 c0 c1 x) (ht:bf w tb cb mb x.t) (i:Nat) (hi:i<x.ag.length):
  Calls prog 101 #[.pointer (some ⟨xb,0,none⟩),.int .i64 0,.int .i64 i] w fun e w' =>e= .returned (.bool (x.fU i))∧Below w.heap.size w w' :=by
 obtain⟨x0,-,x2,-,x4⟩:=cL5 h.own;have hip:i<x.pp.length:=by rw[h.lp];exact hi
 have y0:=h.p0.cell (j:=i) (u:= .bool (x.pp.getD i false)) (by rw[Qt,Qf hip,bE _ _ _ hip];rfl);have y1:=h.r0.cell (j:=i) (u:= .int .i64 (x.ag.getD i 0)) (by rw[Qt,Qf hi,bE _ _ _ hi];rfl);have jU:=h.n0;unfold fk.fU;have uC:=Am (i:=i) ht.ok.J0;have OP:=Gj x.t.kept;rw[ht.ok.J0] at OP;have anf:=ht.ok.n1;have ET:=sP x.t.kept;rw[yU _ _ _ ET (by omega)] at uC;rw[uC];have Ep:=aa (fun (W:Wo) (hW:Below w.heap.size w W)=>DR W tb cb mb x.t (ht.on hW));have HOw:=aa (fun (W:Wo) (hW:Below w.heap.size w W)=>(hW.cell (p:=⟨xb,0,none⟩) h.own.lt).trans x0);obtain⟨ch,kG⟩:=eX (gJ x.t.kept);rw[←kG] at Ep ET OP⊢;have anI:=aa (ET.imp (S:=(·≤·)) fun h=>by omega);obtain⟨p,hp⟩:=eX (61*i);rw[←hp];obtain⟨c,hc⟩:=eX (ch.countP (·<(p:Int)));rw[←hc];obtain⟨th,ZE⟩:=eX (ch.contains (p:Int));rw[←ZE];obtain⟨y,hy⟩:∃q:Int,q=ch.getD c 0:=⟨_,rfl⟩;rw[←hy];obtain⟨m,hm⟩:=eX ch.length;rw[←hm];have Hc:=Ba hc ZE hy hm (by omega:m≤5000);have HcL:Af (ch.length≤1000000):=Qh (Xg Hc.o.2.2.2.1.symm) (Qh Hc.o.2.2.2.2 (by decide));have k7:=Xh i;have k8:=Xi.2 hi;have k9:=Xi.2 hip;obtain⟨w1,w2,w3⟩:=w61 i p hp (Qh (QX hi) (Qh jU (by decide)));have Wt:=h.lp;rw[←Wt] at x2 k8 x4;generalize x.pp.length=np at*;generalize x.pp.getD i false=pl at*;generalize x.ag.getD i 0=a at*;clear h ht hi hip hp jU uC anf OP ET kG hc ZE hy hm Wt;cases pl with
 |true=>
  go_enter func101,ntmps101;go_wp2_with fail;go_ret;exact⟨rfl,Xj _ _⟩
 |false=>
  by_cases ha:a=0
  ·subst ha;go_enter func101,ntmps101;go_wp2_with fail;go_ret;exact⟨rfl,Xj _ _⟩
  ·have ha2:=Xc ha;rw[Xd ha];have su:=aa (Ep.o w (Xj _ _));clear ha;go_enter func101,ntmps101;go_upto_region 6 with fail
   go_upto_region 7 with(first
    |(go_at_call 84;go_must(refine su.o.mono ?_);rintro e W1 ⟨v1,rfl,o1,b1⟩;have O1:=aa o1;have B1:=aa b1;clear o1 b1)
    |(go_at_call 181;go_must(refine(Si W1 v1 ch W1.heap.size O1.o.ns HcL.o p anI.o).mono ?_);rintro e W2 ⟨rfl,q,hq⟩;rw[←Hc.o.1,←Hc.o.2.1];have B2:Af (Below w.heap.size w W2):=(by show Below _ _ _;rw[hq];exact below_drewN B1.o q);clear hq))
   clear su;by_cases ZE:th=true
   ·subst ZE;go_wp2_with fail;go_ret;exact⟨rfl,B2.o⟩
   ·have am6:th=false:=by simpa using ZE
    have gd:=HOw.o W2 B2.o;have HC2:=aa (Ep.o W2 B2.o);clear ZE;subst am6;go_upto_region 10 with(go_at_call 84;go_must(refine HC2.o.mono ?_);rintro e W3 ⟨v3,rfl,o3,b3⟩;have O3:=aa o3;have B3:=aa (B2.o.trans (b3.mono B2.o.size));have hv3:=o3.ns.form;obtain⟨A3,c3,hv3,-,-⟩:=hv3;rw[←Hc.o.2.2.2.1] at hv3;subst hv3;clear o3 b3)
    clear HC2 gd k7 k8 k9 w1;by_cases oS:c<m
    ·obtain⟨b,o,c',hv,-,-,hb,aH⟩:=O3.o.ns.cells (Hc.o.2.2.2.1▸QO (Qp c) oS);rw[←Hc.o.2.2.2.1] at hv;cases hv
     have z0:W3.cell? ⟨b,o+c,none⟩=some (.int .i64 y):=by rw[Hc.o.2.2.1];exact aH c (Hc.o.2.2.2.1▸oS)
     have q1:=Xi.2 oS;have q2:=Xh c;have Hcm:=aa oS;clear aH hb oS;go_wp2_with fail;go_ret;exact⟨jK (by simp[Hcm.o]),B3.o⟩
    ·have q1:¬(c:Int)<m:=fun h=>oS (Xi.1 h)
     have Hcm:=aa oS;clear oS;go_wp2_with fail;go_ret;exact⟨jK (by simp[Hcm.o]),B3.o⟩
end
section
open Go.RowKit
attribute [local go_sem] Oper.semAt_some
variable {a b : Nat} {e : TypeId} {cs : List Va}
structure fA (w:Wo) (xb tb pb g0 g1 h0 h1 c0 c1 cb mb:Nat) (x:fk):Prop where
 gm:nj w xb tb pb g0 g1 h0 h1 c0 c1 x
 fh:bf w tb cb mb x.t
 pick:aq w pb 189 (iX tb 2 x.next)
 n2:2≤x.next
 nl:x.next≤x.t.len
 pos:∀y∈x.ag++x.au,0≤y
def PS (pb tb cb mb g0 g1 h0 h1:Nat):Nat→Prop:=fun k=>(k=pb∨TS tb cb mb k)∨k=g0∨k=g1∨k=h0∨k=h1
theorem aE.Jq {t:aE} {k:Nat} (SQ:a≤b) (h:t.find a b=some k):k<t.len∧a≤k∧t.free k=true:=by
 unfold aE.find at h;have h1:=List.find?_some h;have h2:=List.mem_of_find?_eq_some h;have h4:=h1;unfold aE.free at h1;simp at h1;rcases Qz.1 h2 with h3|h3
 ·have:=(List.mem_range'_1.1 h3).1;exact⟨h1.1.1,by omega,h4⟩
 ·have:=(List.mem_range'_1.1 h3).1;exact⟨h1.1.1,this,h4⟩
theorem aE.lM (t:aE) (next:Nat) (h1:2≤next) (h2:next≤t.len):(t.take 2 next).2.2.1.len=t.len∧2≤(t.take 2 next).2.2.2∧(t.take 2 next).2.2.2≤t.len∧0≤(t.take 2 next).1∧(t.take 2 next).1≤t.len:=by
 unfold aE.take;cases hf:t.find 2 next with
 |none=>exact⟨rfl,h1,h2,Int.le_refl _,by simp⟩
 |some k=>
  obtain⟨k1,k2,-⟩:=aE.Jq h1 hf;refine⟨aE.tU _ _,?_,?_,by simp,?_⟩
  ·show 2≤if k+1=t.len then 2 else k+1
   split<;>omega
  ·show(if k+1=t.len then 2 else k+1)≤t.len;split<;>omega
  ·show(k:Int)≤t.len;omega
theorem aE.vh (t:aE) (b:Nat):(t.down b).2.len=t.len:=by
 unfold aE.down;split
 ·rfl
 ·split
  ·rfl
  ·exact aE.tU _ _
section
variable {w w' : Wo} {xb tb pb g0 g1 h0 h1 c0 c1 cb mb : Nat} {x : fk}
theorem nj.aL {S:Nat→Prop} (h:nj w xb tb pb g0 g1 h0 h1 c0 c1 x) (hc:aG S w w') (k0:¬S xb) (k1:¬S g0) (k2:¬S g1) (k3:¬S h0) (k4:¬S h1):nj w' xb tb pb g0 g1 h0 h1 c0 c1 x:=
 ⟨h.own.aL hc k0,h.r0.aL hc k1,h.r1.aL hc k2,h.p0.aL hc k3,h.p1.aL hc k4,h.SX,h.SW,h.lp,h.ld,h.pV,h.jb,h.n0,h.n1⟩
theorem Rw.bS {K V:Type} {M:MK K V} {w:Wo} {m s:Nat} {f:K→Option V} (h:Rw w a e cs) (k:MG M w m f s):a≠m:=by
 rintro rfl;obtain⟨cur,h0,_⟩:=h;obtain⟨D,⟨es,clock,h1,_⟩,_⟩:=k;rw[h0] at h1;cases h1
theorem fA.apart (h:fA w xb tb pb g0 g1 h0 h1 c0 c1 cb mb x):∀k,(k=xb∨k=g0∨k=g1∨k=h0∨k=h1)→¬(k=pb∨TS tb cb mb k):=by
 intro k hk hs;unfold TS at hs;have a1:=h.gm.own.ne h.pick (by decide);have a2:=h.gm.own.ne h.fh.own (by decide);have a3:=h.gm.own.ne h.fh.counts (by decide);have a4:=h.gm.own.bS h.fh.kept;have b1:=h.gm.r0.ne h.pick (by decide);have b2:=h.gm.r0.ne h.fh.own (by decide);have b3:=h.gm.r0.ne h.fh.counts (by decide);have b4:=h.gm.r0.bS h.fh.kept;have d1:=h.gm.r1.ne h.pick (by decide);have d2:=h.gm.r1.ne h.fh.own (by decide);have d3:=h.gm.r1.ne h.fh.counts (by decide);have d4:=h.gm.r1.bS h.fh.kept;have e1:=h.gm.p0.ne h.pick (by decide);have e2:=h.gm.p0.ne h.fh.own (by decide);have e3:=h.gm.p0.ne h.fh.counts (by decide);have e4:=h.gm.p0.bS h.fh.kept;have f1:=h.gm.p1.ne h.pick (by decide);have f2:=h.gm.p1.ne h.fh.own (by decide);have f3:=h.gm.p1.ne h.fh.counts (by decide);have f4:=h.gm.p1.bS h.fh.kept;rcases hk with rfl|rfl|rfl|rfl|rfl<;>rcases hs with h' |h' |h' |h' <;>
  first|exact a1 h' |exact a2 h' |exact a3 h' |exact a4 h' |exact b1 h' |exact b2 h' |exact b3 h' |exact b4 h' |exact d1 h' |exact d2 h' |exact d3 h' |exact d4 h' |exact e1 h' |exact e2 h' |exact e3 h' |exact e4 h' |exact f1 h' |exact f2 h' |exact f3 h' |exact f4 h'
end
theorem iC {w:Wo} {e' :TypeId} {ks :List Va} (h:Rw w a e cs) (k:Rw w b e' ks) (he:e≠e'):a≠b:=by
 rintro rfl;obtain⟨cur,h0,_⟩:=h;obtain⟨anw,h1,_⟩:=k;rw[h0] at h1;injection h1 with h2
 injection h2 with h3 h4
 exact he h4
theorem F3 (w W3:Wo) (xb tb pb g0 g1 h0 h1 c0 c1 cb mb:Nat) (x:fk) (i:Nat) (b:Int) (t:aE) (next:Nat) (hS:nj W3 xb tb pb g0 g1 h0 h1 c0 c1 x) (hT:bf W3 tb cb mb t) (hP:aq W3 pb 189 (iX tb 2 next))
  (hQ:aG (fun k=>k=pb∨TS tb cb mb k) w W3) (yW:2≤next) (oc:next≤t.len) (kO:∀y∈x.ag++x.au,0≤y) (hb:0≤b):
  ∀W,W.heap=((W3.setCell ⟨g0,i,none⟩ (.int .i64 b)).setCell ⟨h0,i,none⟩ (.bool true)).heap→W.os=W3.os→W.tape=W3.tape→W.output=W3.output→fA W xb tb pb g0 g1 h0 h1 c0 c1 cb mb {x with t:=t,next:=next,ag:=x.ag.set i b,pp:=x.pp.set i true}∧aG (PS pb tb cb mb g0 g1 h0 h1) w W:=by
 have dh:fA W3 xb tb pb g0 g1 h0 h1 c0 c1 cb mb {x with t:=t,next:=next}:=⟨⟨hS.own,hS.r0,hS.r1,hS.p0,hS.p1,hS.SX,hS.SW,hS.lp,hS.ld,hS.pV,hS.jb,hS.n0,hS.n1⟩,hT,hP,yW,oc,kO⟩;have pt:=dh.apart;have pZ:=hS.r0.ne hS.own (by decide);have hhx:=hS.p0.ne hS.own (by decide);have ngh:=iC hS.r0 hS.p0 (by decide);have nog:=iC hS.r0 hS.p1 (by decide);have noh:=iC hS.r1 hS.p0 (by decide);intro W hW ho ht hu;have q:aG (fun k=>k=g0∨k=h0) W3 W:=by
  refine⟨ho,ht,hu,by rw[hW];simp,fun k hk hn=> ?_⟩
  rw[hW,Xl _ _ _ _ (fun e=>hn (.inr e)),Xl _ _ _ _ (fun e=>hn (.inl e))]
 have hg:Rw W g0 3 ((x.ag.set i b).map (.int .i64)):=by
  have h1:=(hS.r0.set i (.int .i64 b)).az (p:=⟨h0,i,none⟩) ngh (.bool true);rw[←List.map_set] at h1;exact h1.aQ (by rw[hW])
 have hh:Rw W h0 4 ((x.pp.set i true).map .bool):=by
  have h1:=(hS.p0.az (p:=⟨g0,i,none⟩) (Xm ngh) (.int .i64 b)).set i (.bool true);rw[←List.map_set] at h1;exact h1.aQ (by rw[hW])
 have AR:Rw W g1 3 (x.au.map (.int .i64)):=hS.r1.aL q (by
  have:=hS.SX;rintro(e|e)
  ·exact this (by omega)
  ·exact noh e)
 have ZO:Rw W h1 4 (x.pd.map .bool):=hS.p1.aL q (by
  have:=hS.SW;rintro(e|e)
  ·exact nog e.symm
  ·exact this (by omega))
 have hx:=hS.own.aL q (by rintro(e|e);exact pZ e.symm;exact hhx e.symm)
 have hn:∀k,(k=pb∨TS tb cb mb k)→¬(k=g0∨k=h0):=fun k hk he=>pt k (by omega) hk
 have hl:(x.ag.set i b).length=x.ag.length:=Zy;have rf:(x.pp.set i true).length=x.pp.length:=Zy;refine⟨⟨?_,hT.aL q (hn tb (.inr (.inl rfl))) (hn cb (.inr (.inr (.inl rfl)))) (hn mb (.inr (.inr (.inr rfl)))),hP.aL q (hn pb (.inl rfl)),yW,oc,?_⟩,?_⟩
 ·constructor<;>first|(simp only[hl,rf];first|exact hx|exact hS.lp|exact hS.ld|exact hS.pV|exact hS.jb|exact hS.n0|exact hS.n1)|exact hx|exact hg|exact hh|exact AR|exact ZO|exact hS.SX|exact hS.SW|exact hS.lp|exact hS.ld|exact hS.pV|exact hS.jb|exact hS.n0|exact hS.n1
 ·intro y hy
  rcases Qz.1 hy with h1|h1
  ·rcases Zz h1 with h2|h2
   ·exact kO y (Qz.2 (.inl h2))
   ·rw[h2];exact hb
  ·exact kO y (Qz.2 (.inr h1))
 ·refine(hQ.mono fun k _ h=> .inl h).trans (q.mono fun k _ h=> ?_)
  rcases h with rfl|rfl
  ·exact .inr (.inl rfl)
  ·exact .inr (.inr (.inr (.inl rfl)))
theorem F4 (w:Wo) (xb tb pb g0 g1 h0 h1 c0 c1 cb mb:Nat) (x:fk) (h:fA w xb tb pb g0 g1 h0 h1 c0 c1 cb mb x) (i:Nat) (hi:i<x.ag.length):
  Calls prog 102 #[.pointer (some ⟨xb,0,none⟩),.int .i64 0,.int .i64 i] w fun e w' =>e= .returned (.int .i64 (x.place false i).1)∧fA w' xb tb pb g0 g1 h0 h1 c0 c1 cb mb (x.place false i).2∧aG (PS pb tb cb mb g0 g1 h0 h1) w w' :=by
 have pt:=h.apart;obtain⟨x0,-,x2⟩:=ra h.gm.own;obtain⟨a,ha⟩:=eX (x.ag.getD i 0);have y1:=h.gm.r0.cell (j:=i) (u:= .int .i64 a) (by rw[ha,Qt,Qf hi,bE _ _ _ hi];rfl);have BN:0≤a:=by rw[ha,bE _ _ _ hi];exact h.pos _ (Qz.2 (.inl (QI hi)))
 obtain⟨n,hn⟩:=eX x.ag.length;rw[←hn] at x2 hi;have H:=aa h;have JS:=aa pt;have Hn:=dK hn hi;have k7:=Xh i;have k8:=Xi.2 hi;have k9:=hi;obtain⟨t1,Ex⟩:=eX (if a=0 then x.t else(x.t.down a.toNat).2);obtain⟨r,hr⟩:=eX (t1.take 2 x.next);have hlen:t1.len=x.t.len:=by
  rw[Ex];split
  ·rfl
  ·exact aE.vh _ _
 have gK:=aE.lM t1 x.next h.n2 (by rw[hlen];exact h.nl);rw[←hr] at gK;have dh:x.place false i=(r.2.1,{x with t:=r.2.2.1,next:=r.2.2.2,ag:=x.ag.set i r.1,pp:=x.pp.set i true}):=by unfold fk.place;simp only[Xn,if_false];rw[←ha,←Ex,←hr]
 rw[dh];have En:=aa Ex;have Hr:=aa hr;have Hf:=Ba hlen gK.1 gK.2.1 gK.2.2.1 gK.2.2.2.1;have Ha:=aa ha;clear h pt hn hi dh Ex hr hlen gK ha;go_enter func102,ntmps102;go_upto_if 20 with fail
 go_cut [3] from 20 to 27 (fun _ wx=>Af (bf wx tb cb mb t1∧aG (TS tb cb mb) w wx))
 case first=>
  by_cases It:a=0
  ·have jr:(a !=0)=false:=by rw[It];rfl
   have e1:Af (t1=x.t):=by show _=_;rw[En.o,Xo It]
   clear It;go_wp2_with fail;go_meet
   case rel=>exact⟨by rw[e1.o];exact H.o.fh,aG.refl _ _⟩
  ·have jr:(a !=0)=true:=by simp[It]
   have e1:Af (t1=(x.t.down a.toNat).2):=by show _=_;rw[En.o,Xd It]
   have hD:=sa w tb cb mb x.t H.o.fh a.toNat;rw[Xp BN] at hD;have HD:=aa hD;clear It hD;go_wp2_with(go_at_call 182;go_must(refine HD.o.mono ?_);rintro e W2 ⟨rfl,t2,q2⟩;have T2:=aa t2;have Q2:=aa q2;clear t2 q2);go_meet
   case rel=>exact⟨by rw[e1.o];exact T2.o,Q2.o⟩
 case rest=>
  have T1:=aa hcut.o.1;have C1:Af (aG (fun k=>k=pb∨TS tb cb mb k) w wc):=hcut.o.2.mono fun k _ h=> .inr h
  have Tw:¬TS tb cb mb pb:=by
   have a1:=H.o.pick.ne H.o.fh.own (by decide);have a2:=H.o.pick.ne H.o.fh.counts (by decide);have a3:=H.o.pick.bS H.o.fh.kept;rintro(e|e|e)
   ·exact a1 e
   ·exact a2 e
   ·exact a3 e
  have hP1:=H.o.pick.aL hcut.o.2 Tw;have hk:=qK wc pb tb cb mb 2 x.next t1 hP1 T1.o H.o.n2 (by rw[Hf.o.1];exact H.o.nl);rw[←Hr.o] at hk;have HK:=aa hk;have z1:=(H.o.gm.own.aL C1.o (JS.o xb (.inl rfl))).cell (j:=1) rfl;clear hk hP1 Tw hcut x0 y1 x2;go_upto_region 5 with(go_at_call 157;go_must(refine HK.o.mono ?_);rintro e W3 ⟨rfl,t3,p3,q3⟩;have T3:=aa t3;have P3:=aa p3;have Q3:=aa (C1.o.trans q3);clear t3 p3 q3)
  have S3:=aa (H.o.gm.aL Q3.o (JS.o xb (.inl rfl)) (JS.o g0 (.inr (.inl rfl))) (JS.o g1 (.inr (.inr (.inl rfl)))) (JS.o h0 (.inr (.inr (.inr (.inl rfl))))) (JS.o h1 (.inr (.inr (.inr (.inr rfl))))));obtain⟨-,-,x2,-,x4⟩:=cL5 S3.o.own;rw[←Hn.o.1] at x2 x4;have z2:=S3.o.r0.cell (by rw[Qt,Qf (by rw[←Hn.o.1];exact Hn.o.2),←bE _ _ 0,←Ha.o];rfl);have z3:=S3.o.p0.cell (by rw[Qt,Qf (by rw[H.o.gm.lp,←Hn.o.1];exact Hn.o.2),←bE _ _ false];rfl);have f2:=S3.o.r0.free i;have f3:=S3.o.p0.free i;have pZ:=S3.o.r0.ne S3.o.own (by decide);have hhx:=S3.o.p0.ne S3.o.own (by decide);have hgh:=iC S3.o.r0 S3.o.p0 (by decide);have HK3:=aa (F3 w W3 xb tb pb g0 g1 h0 h1 c0 c1 cb mb x i r.1 r.2.2.1 r.2.2.2 S3.o T3.o P3.o Q3.o Hf.o.2.2.1 (by rw[Hf.o.2.1];exact Hf.o.2.2.2.1) H.o.pos Hf.o.2.2.2.2);clear HK C1 BN T1;go_region_held3 (fun W=>W.cell? ⟨xb,2,none⟩=some (.slice (some ⟨g0,0,none⟩) n c0)∧W.cell? ⟨xb,4,none⟩=some (.slice (some ⟨h0,0,none⟩) n n)) (first|with_reducible exact⟨x2,x4⟩|go_keep) (fail);go_wp2_with fail;go_ret;exact⟨rfl,HK3.o _ rfl rfl rfl rfl⟩
theorem FZ (w W3:Wo) (xb tb pb g0 g1 h0 h1 c0 c1 cb mb:Nat) (x:fk) (i:Nat) (b:Int) (t:aE) (next:Nat) (hS:nj W3 xb tb pb g0 g1 h0 h1 c0 c1 x) (hT:bf W3 tb cb mb t) (hP:aq W3 pb 189 (iX tb 2 next))
  (hQ:aG (fun k=>k=pb∨TS tb cb mb k) w W3) (yW:2≤next) (oc:next≤t.len) (kO:∀y∈x.ag++x.au,0≤y) (hb:0≤b):
  ∀W,W.heap=((W3.setCell ⟨g1,i,none⟩ (.int .i64 b)).setCell ⟨h1,i,none⟩ (.bool true)).heap→W.os=W3.os→W.tape=W3.tape→W.output=W3.output→fA W xb tb pb g0 g1 h0 h1 c0 c1 cb mb {x with t:=t,next:=next,au:=x.au.set i b,pd:=x.pd.set i true}∧aG (PS pb tb cb mb g0 g1 h0 h1) w W:=by
 have dh:fA W3 xb tb pb g0 g1 h0 h1 c0 c1 cb mb {x with t:=t,next:=next}:=⟨⟨hS.own,hS.r0,hS.r1,hS.p0,hS.p1,hS.SX,hS.SW,hS.lp,hS.ld,hS.pV,hS.jb,hS.n0,hS.n1⟩,hT,hP,yW,oc,kO⟩;have pt:=dh.apart;have pZ:=hS.r1.ne hS.own (by decide);have hhx:=hS.p1.ne hS.own (by decide);have ngh:=iC hS.r1 hS.p1 (by decide);have nog:=iC hS.r1 hS.p0 (by decide);have noh:=iC hS.r0 hS.p1 (by decide);intro W hW ho ht hu;have q:aG (fun k=>k=g1∨k=h1) W3 W:=by
  refine⟨ho,ht,hu,by rw[hW];simp,fun k hk hn=> ?_⟩
  rw[hW,Xl _ _ _ _ (fun e=>hn (.inr e)),Xl _ _ _ _ (fun e=>hn (.inl e))]
 have hg:Rw W g1 3 ((x.au.set i b).map (.int .i64)):=by
  have h1:=(hS.r1.set i (.int .i64 b)).az (p:=⟨h1,i,none⟩) ngh (.bool true);rw[←List.map_set] at h1;exact h1.aQ (by rw[hW])
 have hh:Rw W h1 4 ((x.pd.set i true).map .bool):=by
  have h1:=(hS.p1.az (p:=⟨g1,i,none⟩) (Xm ngh) (.int .i64 b)).set i (.bool true);rw[←List.map_set] at h1;exact h1.aQ (by rw[hW])
 have AR:Rw W g0 3 (x.ag.map (.int .i64)):=hS.r0.aL q (by
  have:=hS.SX;rintro(e|e)
  ·exact this (by omega)
  ·exact noh e)
 have ZO:Rw W h0 4 (x.pp.map .bool):=hS.p0.aL q (by
  have:=hS.SW;rintro(e|e)
  ·exact nog e.symm
  ·exact this (by omega))
 have hx:=hS.own.aL q (by rintro(e|e);exact pZ e.symm;exact hhx e.symm)
 have hn:∀k,(k=pb∨TS tb cb mb k)→¬(k=g1∨k=h1):=fun k hk he=>pt k (by omega) hk
 have hl:(x.au.set i b).length=x.au.length:=Zy;have rf:(x.pd.set i true).length=x.pd.length:=Zy;refine⟨⟨?_,hT.aL q (hn tb (.inr (.inl rfl))) (hn cb (.inr (.inr (.inl rfl)))) (hn mb (.inr (.inr (.inr rfl)))),hP.aL q (hn pb (.inl rfl)),yW,oc,?_⟩,?_⟩
 ·constructor<;>first|(simp only[hl,rf];first|exact hx|exact hS.lp|exact hS.ld|exact hS.pV|exact hS.jb|exact hS.n0|exact hS.n1)|exact hx|exact hg|exact hh|exact AR|exact ZO|exact hS.SX|exact hS.SW|exact hS.lp|exact hS.ld|exact hS.pV|exact hS.jb|exact hS.n0|exact hS.n1
 ·intro y hy
  rcases Qz.1 hy with h1|h1
  ·exact kO y (Qz.2 (.inl h1))
  ·rcases Zz h1 with h2|h2
   ·exact kO y (Qz.2 (.inr h2))
   ·rw[h2];exact hb
 ·refine(hQ.mono fun k _ h=> .inl h).trans (q.mono fun k _ h=> ?_)
  rcases h with rfl|rfl
  ·exact .inr (.inr (.inl rfl))
  ·exact .inr (.inr (.inr (.inr rfl)))
theorem F2 (w:Wo) (xb tb pb g0 g1 h0 h1 c0 c1 cb mb:Nat) (x:fk) (h:fA w xb tb pb g0 g1 h0 h1 c0 c1 cb mb x) (i:Nat) (hi:i<x.au.length):
  Calls prog 102 #[.pointer (some ⟨xb,0,none⟩),.int .i64 1,.int .i64 i] w fun e w' =>e= .returned (.int .i64 (x.place true i).1)∧fA w' xb tb pb g0 g1 h0 h1 c0 c1 cb mb (x.place true i).2∧aG (PS pb tb cb mb g0 g1 h0 h1) w w' :=by
 have pt:=h.apart;obtain⟨x0,-,-,x2⟩:=mm h.gm.own;obtain⟨a,ha⟩:=eX (x.au.getD i 0);have y1:=h.gm.r1.cell (j:=i) (u:= .int .i64 a) (by rw[ha,Qt,Qf hi,bE _ _ _ hi];rfl);have BN:0≤a:=by rw[ha,bE _ _ _ hi];exact h.pos _ (Qz.2 (.inr (QI hi)))
 obtain⟨n,hn⟩:=eX x.au.length;rw[←hn] at x2 hi;have H:=aa h;have JS:=aa pt;have Hn:=dK hn hi;have k7:=Xh i;have k8:=Xi.2 hi;have k9:=hi;obtain⟨t1,Ex⟩:=eX (if a=0 then x.t else(x.t.down a.toNat).2);obtain⟨r,hr⟩:=eX (t1.take 2 x.next);have hlen:t1.len=x.t.len:=by
  rw[Ex];split
  ·rfl
  ·exact aE.vh _ _
 have gK:=aE.lM t1 x.next h.n2 (by rw[hlen];exact h.nl);rw[←hr] at gK;have dh:x.place true i=(r.2.1,{x with t:=r.2.2.1,next:=r.2.2.2,au:=x.au.set i r.1,pd:=x.pd.set i true}):=by unfold fk.place;simp only[if_true];rw[←ha,←Ex,←hr]
 rw[dh];have En:=aa Ex;have Hr:=aa hr;have Hf:=Ba hlen gK.1 gK.2.1 gK.2.2.1 gK.2.2.2.1;have Ha:=aa ha;clear h pt hn hi dh Ex hr hlen gK ha;go_enter func102,ntmps102;go_upto_if 20 with fail
 go_cut [3] from 20 to 27 (fun _ wx=>Af (bf wx tb cb mb t1∧aG (TS tb cb mb) w wx))
 case first=>
  by_cases It:a=0
  ·have jr:(a !=0)=false:=by rw[It];rfl
   have e1:Af (t1=x.t):=by show _=_;rw[En.o,Xo It]
   clear It;go_wp2_with fail;go_meet
   case rel=>exact⟨by rw[e1.o];exact H.o.fh,aG.refl _ _⟩
  ·have jr:(a !=0)=true:=by simp[It]
   have e1:Af (t1=(x.t.down a.toNat).2):=by show _=_;rw[En.o,Xd It]
   have hD:=sa w tb cb mb x.t H.o.fh a.toNat;rw[Xp BN] at hD;have HD:=aa hD;clear It hD;go_wp2_with(go_at_call 182;go_must(refine HD.o.mono ?_);rintro e W2 ⟨rfl,t2,q2⟩;have T2:=aa t2;have Q2:=aa q2;clear t2 q2);go_meet
   case rel=>exact⟨by rw[e1.o];exact T2.o,Q2.o⟩
 case rest=>
  have T1:=aa hcut.o.1;have C1:Af (aG (fun k=>k=pb∨TS tb cb mb k) w wc):=hcut.o.2.mono fun k _ h=> .inr h
  have Tw:¬TS tb cb mb pb:=by
   have a1:=H.o.pick.ne H.o.fh.own (by decide);have a2:=H.o.pick.ne H.o.fh.counts (by decide);have a3:=H.o.pick.bS H.o.fh.kept;rintro(e|e|e)
   ·exact a1 e
   ·exact a2 e
   ·exact a3 e
  have hP1:=H.o.pick.aL hcut.o.2 Tw;have hk:=qK wc pb tb cb mb 2 x.next t1 hP1 T1.o H.o.n2 (by rw[Hf.o.1];exact H.o.nl);rw[←Hr.o] at hk;have HK:=aa hk;have z1:=(H.o.gm.own.aL C1.o (JS.o xb (.inl rfl))).cell (j:=1) rfl;clear hk hP1 Tw hcut x0 y1 x2;go_upto_region 5 with(go_at_call 157;go_must(refine HK.o.mono ?_);rintro e W3 ⟨rfl,t3,p3,q3⟩;have T3:=aa t3;have P3:=aa p3;have Q3:=aa (C1.o.trans q3);clear t3 p3 q3)
  have S3:=aa (H.o.gm.aL Q3.o (JS.o xb (.inl rfl)) (JS.o g0 (.inr (.inl rfl))) (JS.o g1 (.inr (.inr (.inl rfl)))) (JS.o h0 (.inr (.inr (.inr (.inl rfl))))) (JS.o h1 (.inr (.inr (.inr (.inr rfl))))));obtain⟨-,-,-,x2,-,x4⟩:=cL6 S3.o.own;rw[←Hn.o.1] at x2 x4;have z2:=S3.o.r1.cell (by rw[Qt,Qf (by rw[←Hn.o.1];exact Hn.o.2),←bE _ _ 0,←Ha.o];rfl);have z3:=S3.o.p1.cell (by rw[Qt,Qf (by rw[H.o.gm.ld,←Hn.o.1];exact Hn.o.2),←bE _ _ false];rfl);have f2:=S3.o.r1.free i;have f3:=S3.o.p1.free i;have pZ:=S3.o.r1.ne S3.o.own (by decide);have hhx:=S3.o.p1.ne S3.o.own (by decide);have hgh:=iC S3.o.r1 S3.o.p1 (by decide);have HK3:=aa (FZ w W3 xb tb pb g0 g1 h0 h1 c0 c1 cb mb x i r.1 r.2.2.1 r.2.2.2 S3.o T3.o P3.o Q3.o Hf.o.2.2.1 (by rw[Hf.o.2.1];exact Hf.o.2.2.2.1) H.o.pos Hf.o.2.2.2.2);clear HK C1 BN T1;go_region_held3 (fun W=>W.cell? ⟨xb,3,none⟩=some (.slice (some ⟨g1,0,none⟩) n c1)∧W.cell? ⟨xb,5,none⟩=some (.slice (some ⟨h1,0,none⟩) n n)) (first|with_reducible exact⟨x2,x4⟩|go_keep) (fail);go_wp2_with fail;go_ret;exact⟨rfl,HK3.o _ rfl rfl rfl rfl⟩
end
section
open Go.RowKit
attribute [local go_sem] Oper.semAt_some
variable {w : Wo} {x : fk} {p : Nat → Bool} {k n : Nat}
theorem fA.on {w' :Wo} {xb tb pb g0 g1 h0 h1 c0 c1 cb mb:Nat} (h:fA w xb tb pb g0 g1 h0 h1 c0 c1 cb mb x) (hb:Below w.heap.size w w'):fA w' xb tb pb g0 g1 h0 h1 c0 c1 cb mb x:=
 ⟨h.gm.on hb,h.fh.on hb,h.pick.on hb,h.n2,h.nl,h.pos⟩
theorem vO (hk:k<n) (hp:p k=true) (h:∀j,j<k→p j=false):(List.range n).find? p=some k:=by
 rw[List.find?_range_eq_some];exact⟨hp,Zm.2 hk,fun j hj=>by rw[h j hj];rfl⟩
theorem rX (h:∀j,j<n→p j=false):(List.range n).find? p=none:=by
 rw[List.find?_eq_none];intro j hj;rw[h j (Zm.1 hj)];simp
def kc (x:fk):List Va:=
 match x.fst with
 |some (false,i)=>[.int .i64 0,.int .i64 i]
 |some (true,i)=>[.int .i64 1,.int .i64 i]
 |none=>[.int .i64 (-1),.int .i64 (-1)]
theorem LI (hk:k<x.ag.length) (hp:x.fU k=true) (h:∀j,j<k→x.fU j=false):x.fst=some (false,k):=by
 unfold fk.fst;rw[vO hk hp h]
theorem RQ (h0:∀j,j<x.ag.length→x.fU j=false) (hk:k<x.au.length) (hp:x.gH k=true) (h:∀j,j<k→x.gH j=false):x.fst=some (true,k):=by
 unfold fk.fst;rw[rX h0,vO hk hp h]
theorem RP (h0:∀j,j<x.ag.length→x.fU j=false) (h1:∀j,j<x.au.length→x.gH j=false):x.fst=none:=by
 unfold fk.fst;rw[rX h0,rX h1]
theorem Ry {b o:Nat} {x0 x1:Va} (h0:w.cell? ⟨b,o,none⟩=some x0) (h1:w.cell? ⟨b,o+1,none⟩=some x1):(Instr.loadAt 192 (.pointer (some ⟨b,o,none⟩))).run prog w= .ok (.agg #[x0,x1]) w:=by
 have hl:=run_loadCells_list (P:=prog) w ⟨b,o,none⟩ [x0,x1] (fun j v hj=>by
  rw[dP]
  match j,hj with
  |0,hj=>cases hj;exact h0
  |1,hj=>cases hj;exact h1
  |j+2,hj=>simp at hj)
 simp only[QF,Xq,QR,Nat.reduceAdd] at hl;have h2:(isAgg 192).run prog w= .ok true w:=by kernel_rfl
 have h3:(sizeOf 192).run prog w= .ok 2 w:=by kernel_rfl
 have h4:(Instr.sureAddr (.pointer (some ⟨b,o,none⟩))).run prog w= .ok ⟨b,o,none⟩ w:=rfl;simp[Instr.loadAt,loadVar,hl,h2,h3,h4,Result.andThen]
theorem amZ (W:Wo) (a b:Va):(Instr.index 192 (.agg #[a,b]) (.int .i64 0)).run prog W= .ok a W:=by kernel_rfl
theorem amY (W:Wo) (a b:Va):(Instr.index 192 (.agg #[a,b]) (.int .i64 1)).run prog W= .ok b W:=by kernel_rfl
theorem Rq (w:Wo) (nb xb tb pb g0 g1 h0 h1 c0 c1 cb mb:Nat) (x:fk) (h:fA w xb tb pb g0 g1 h0 h1 c0 c1 cb mb x) (hb:aq w nb 190 [.pointer (some ⟨xb,0,none⟩)]) (oR:∀i,i<x.au.length→61*i<x.ag.length):
  Calls prog 100 #[.pointer (some ⟨nb,0,none⟩)] w fun e w' =>e= .returned (.tuple (kc x).toArray)∧Below w.heap.size w w' :=by
 have n0:=hb.cell (j:=0) rfl;have HL:=aa (Ry (h.gm.own.cell (j:=2) rfl) (h.gm.own.cell (j:=3) rfl));have NH:=aa (fun (W:Wo) (hW:Below w.heap.size w W) (i:Nat) (hi:i<x.ag.length)=>Fv W xb tb pb g0 g1 h0 h1 c0 c1 cb mb x (h.gm.on hW) (h.fh.on hW) i hi);have El:=aa (fun (W:Wo) (hW:Below w.heap.size w W) (i:Nat) (hi:i<x.au.length)=>Fu W xb tb pb g0 g1 h0 h1 c0 c1 x (h.gm.on hW) i hi (oR i hi));have Hnb:=aa (fun (W:Wo) (hW:Below w.heap.size w W)=>(hW.cell (p:=⟨nb,0,none⟩) hb.lt).trans n0);obtain⟨np,ei⟩:=eX x.ag.length;obtain⟨nd,im⟩:=eX x.au.length;rw[←ei] at NH HL;rw[←im] at El HL;have Hn:=kH ei im (by have:=h.gm.n0;omega:np≤2000) (by have:=h.gm.n1;omega:nd≤2000);clear h hb oR ei im;go_enter func100,ntmps100;go_wp2_with((with_reducible refine wl_load _ _ ?_ HL.o ?_);go_must((·rfl);go_frame));clear HL;go_loopw [10] (fun kk wr=>∃k:Nat,kk= .int .i64 k∧Af (k≤2∧Below w.heap.size w wr∧(1≤k→∀j,j<np→x.fU j=false)∧(2≤k→∀j,j<nd→x.gH j=false))) (fun kk _=>2 - (intOf kk).toNat)
 case atStart=>exact⟨0,rfl,by decide,Xj _ _,fun h=>absurd h (by decide),fun h=>absurd h (by decide)⟩
 case round=>
  obtain⟨k,rfl,HR⟩:=hrel;have hk:=HR.o.1;rcases Nat.lt_or_ge k 1 with h|h
  ·obtain rfl:k=0:=by omega
   have ix:=amZ wr (.slice (some ⟨g0,0,none⟩) np c0) (.slice (some ⟨g1,0,none⟩) nd c1);have mV:=aa HR.o.2.1;clear n0 h hk HR;rw[show((0:Nat):Int)=(0:Int) from rfl];go_wp2_with fail;go_loopw [16] (fun ii wx=>∃j:Nat,ii= .int .i64 j∧Af (j≤np∧Below w.heap.size w wx∧∀q,q<j→x.fU q=false)) (fun ii _=>np - (intOf ii).toNat)
   case atStart=>exact⟨0,rfl,Qp _,mV.o,fun q h=>absurd h (Nat.not_lt_zero _)⟩
   case round=>
    obtain⟨j,rfl,HJ⟩:=hrel;by_cases aJ:j<np
    ·have hi:=Xi.2 aJ;have hn:=Hnb.o wr HJ.o.2.1;have HW:=aa (NH.o wr HJ.o.2.1 j aJ);have fp:wrap64 ((j:Int)+1)=(j:Int)+1:=by unfold wrap64;have:=Hn.o;omega
     have eu:=aa fp;have bj:=aa aJ;clear aJ;cases hwt:x.fU j with
     |true=>
      rw[hwt] at HW;have Hwt:=aa hwt;clear hwt;go_wp2_with(go_at_call 101;go_must(refine HW.o.mono ?_);rintro e W2 ⟨rfl,b2⟩;have B2:=aa b2;clear b2);go_ret2;refine⟨?_,HJ.o.2.1.trans (B2.o.mono HJ.o.2.1.size)⟩;unfold kc;rw[LI (by rw[←Hn.o.1];exact bj.o) Hwt.o HJ.o.2.2]
      rfl
     |false=>
      rw[hwt] at HW;have Hwt:=aa hwt;clear hwt;go_wp2_with(go_at_call 101;go_must(refine HW.o.mono ?_);rintro e W2 ⟨rfl,b2⟩;have B2:=aa b2;clear b2);go_roundw
      case rel=>
       refine⟨j+1,by first|rfl|(rw[eu.o];rfl),bj.o,HJ.o.2.1.trans (B2.o.mono HJ.o.2.1.size),fun q hq=> ?_⟩;rcases Nat.lt_succ_iff_lt_or_eq.1 hq with h|h
       ·exact HJ.o.2.2 q h
       ·rw[h];exact Hwt.o
      case measure=>first|exact al bj.o|(rw[eu.o];exact al bj.o)
    ·have tC:j=np:=by have:=HJ.o.1;omega
     have hi:¬(j:Int)<np:=fun h=>aJ (Xi.1 h)
     have Hj:=aa tC;clear aJ tC;go_wp2_with fail;go_roundw
     case rel=>exact⟨1,rfl,by decide,HJ.o.2.1,fun _ q hq=>HJ.o.2.2 q (by rw[Hj.o];exact hq),fun h=>absurd h (by decide)⟩
     case measure=>decide
  ·rcases Nat.lt_or_ge k 2 with h' |h'
   ·obtain rfl:k=1:=by omega
    have ix:=amY wr (.slice (some ⟨g0,0,none⟩) np c0) (.slice (some ⟨g1,0,none⟩) nd c1);have mV:=aa HR.o.2.1;have HP:=aa (HR.o.2.2.1 (Qg _));clear n0 h h' hk HR;rw[show((1:Nat):Int)=(1:Int) from rfl];go_wp2_with fail;go_loopw [16] (fun ii wx=>∃j:Nat,ii= .int .i64 j∧Af (j≤nd∧Below w.heap.size w wx∧∀q,q<j→x.gH q=false)) (fun ii _=>nd - (intOf ii).toNat)
    case atStart=>exact⟨0,rfl,Qp _,mV.o,fun q h=>absurd h (Nat.not_lt_zero _)⟩
    case round=>
     obtain⟨j,rfl,HJ⟩:=hrel;by_cases aJ:j<nd
     ·have hi:=Xi.2 aJ;have hn:=Hnb.o wr HJ.o.2.1;have HW:=aa (El.o wr HJ.o.2.1 j aJ);have fp:wrap64 ((j:Int)+1)=(j:Int)+1:=by unfold wrap64;have:=Hn.o;omega
      have eu:=aa fp;have bj:=aa aJ;clear aJ;cases hwt:x.gH j with
      |true=>
       rw[hwt] at HW;have Hwt:=aa hwt;clear hwt;go_wp2_with(go_at_call 101;go_must(refine HW.o.mono ?_);rintro e W2 ⟨rfl,rfl⟩);go_ret2;refine⟨?_,HJ.o.2.1⟩;unfold kc;rw[RQ (fun q hq=>HP.o q (by rw[Hn.o.1];exact hq)) (by rw[←Hn.o.2.1];exact bj.o) Hwt.o HJ.o.2.2]
       rfl
      |false=>
       rw[hwt] at HW;have Hwt:=aa hwt;clear hwt;go_wp2_with(go_at_call 101;go_must(refine HW.o.mono ?_);rintro e W2 ⟨rfl,rfl⟩);go_roundw
       case rel=>
        refine⟨j+1,by first|rfl|(rw[eu.o];rfl),bj.o,HJ.o.2.1,fun q hq=> ?_⟩;rcases Nat.lt_succ_iff_lt_or_eq.1 hq with h|h
        ·exact HJ.o.2.2 q h
        ·rw[h];exact Hwt.o
       case measure=>first|exact al bj.o|(rw[eu.o];exact al bj.o)
     ·have tC:j=nd:=by have:=HJ.o.1;omega
      have hi:¬(j:Int)<nd:=fun h=>aJ (Xi.1 h)
      have Hj:=aa tC;clear aJ tC;go_wp2_with fail;go_roundw
      case rel=>exact⟨2,rfl,by decide,HJ.o.2.1,fun _=>HP.o,fun _ q hq=>HJ.o.2.2 q (by rw[Hj.o];exact hq)⟩
      case measure=>decide
   ·obtain rfl:k=2:=by omega
    have fF:=aa HR.o.2;clear n0 h h' hk HR;go_wp2_with fail;go_ret2;refine⟨?_,fF.o.1⟩;unfold kc;rw[RP (fun q hq=>fF.o.2.1 (by decide) q (by rw[Hn.o.1];exact hq)) (fun q hq=>fF.o.2.2 (by decide) q (by rw[Hn.o.2.1];exact hq))];rfl
end
end Go.Proofs.YthgdhacopamklaaGreat

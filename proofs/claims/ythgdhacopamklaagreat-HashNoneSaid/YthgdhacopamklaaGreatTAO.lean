/- What HashNone asks, part 15 of 41: parts of the walks and laws, each true as it stands. -/
import Derived.Test.YthgdhacopamklaaGreatTAN
set_option maxHeartbeats 16000000
set_option maxRecDepth 100000
set_option linter.unusedVariables false
set_option linter.unusedSimpArgs false
namespace Go.Proofs.YthgdhacopamklaaGreat
open Go.Proofs.Tryz
section
open Go.RowKit
attribute [local go_sem] Oper.semAt_some
variable {x : aN} {w : Wo}
def gr (x:aN) (au:List Int) (k:Nat):aN:={x with roots:=(List.range k).map (fun i=>au.getD i 0)++x.roots.drop k}
theorem FN (x:aN) (au:List Int):gr x au 0=x:=by simp[gr]
theorem kZ (h:bM x) (au:List Int) (hd:∀d∈au,0≤d∧d≤65535) (k:Nat) (hk:k≤8):bM (gr x au k):=
 ⟨by simp[gr,h.r8];omega,h.m8,h.g,h.b,fun y hy=>by
  rcases Qz.1 hy with h1|h1
  ·obtain⟨i,-,rfl⟩:=QU.1 h1
   rw[Qe]
   cases hg:au[i]? with
   |none=>exact⟨by decide,by decide⟩
   |some d=>have:=hd d (Qi hg);exact⟨this.1,by show d<_;omega⟩
  ·exact h.r y (Q6 h1),h.m⟩
theorem FO (h:bM x) (au:List Int) (k:Nat) (hk:k<8):(gr x au k).roots.set k (au.getD k 0)=(gr x au (k+1)).roots:=by
 unfold gr;simp only;rw[List.range_succ,QL,QY,ZB _ _ (by simp)];rw[Qq,List.length_range,XE,Zd (by rw[h.r8];exact hk)];rfl
theorem aq.root {b:Nat} (h:aq w b 41 (aP x)) (hx:bM x) (i:Nat) (hi:i<8) (y:Int):aq (w.setCell ⟨b,2+i,none⟩ (.int .u32 y)) b 41 (aP {x with roots:=x.roots.set i y}):=by
 have:=h.set (2+i) (.int .u32 y);rw[xR hx i y hi] at this;exact this
theorem rQ {P:Program} {fn:Func} {t:TypeId} {p:Tmp} {a:Addr} {tmps:Array Va} {x:Va} (h:fn.results= #[.cell p t]) (hp:tmps.getD p undef= .pointer (some a)) (hl:(loadVar t a).run P w= .ok x w):
  (results fn tmps).run P w= .ok x w:=by
 simp only[results,h];simp only[Array.getD_eq_getD_getElem?] at hp;simp[hp,hl,asAddr]
structure Fc (w:Wo) (x:aN) (au:List Int) (v:Va) (b1 rb:Nat) (k:Nat) (wr:Wo):Prop where
 le:k≤2
 own:aq wr b1 41 (aP (gr x au k))
 res:aq wr rb 41 (aP aV)
 low:Below w.heap.size w wr
 ds:Ns wr w.heap.size .i64 v au
theorem Fc.step {wr W:Wo} {au:List Int} {v:Va} {b1 rb k:Nat} (h:Fc w x au v b1 rb k wr) (hx:bM x) (hd:∀d∈au,0≤d∧d≤65535) (hb:w.heap.size≤b1) (bT:b1≠rb) (hk:k<2)
  (hW:W=(wr.setCell ⟨b1,2+k,none⟩ (.int .u32 0)).setCell ⟨b1,2+k,none⟩ (.int .u32 (au.getD k 0))∨(W=wr.setCell ⟨b1,2+k,none⟩ (.int .u32 0)∧au.length≤k)):Fc w x au v b1 rb (k+1) W:=by
 have ok:=kZ hx au hd k (by omega);have o1:=h.own.root ok k (by omega) 0;have hs:∀(W1:Wo) (u:Va),Below w.heap.size w W1→Below w.heap.size w (W1.setCell ⟨b1,2+k,none⟩ u):=fun W1 u hl=>hl.setCell (p:=⟨b1,2+k,none⟩) hb u
 have e1:=FO hx au k (by omega);rcases hW with rfl|⟨rfl,hl⟩
 ·have To:bM {gr x au k with roots:=(gr x au k).roots.set k 0}:=⟨by rw[Zy];exact ok.r8,ok.m8,ok.g,ok.b,fun y hy=>by
   rcases Zz hy with h1|rfl
   ·exact ok.r y h1
   ·exact⟨by decide,by decide⟩,ok.m⟩
  have o2:=o1.root To k (by omega) (au.getD k 0);refine⟨hk,?_,(h.res.az (p:=⟨b1,2+k,none⟩) (Xm bT) _).az (p:=⟨b1,2+k,none⟩) (Xm bT) _,hs _ _ (hs _ _ h.low),?_⟩
  ·have e2:gr x au (k+1)={gr x au k with roots:=((gr x au k).roots.set k 0).set k (au.getD k 0)}:=by rw[List.set_set,e1];rfl
   rw[e2];exact o2
  ·exact Sl.setCell (Sl.setCell h.ds (p:=⟨b1,2+k,none⟩) hb _) (p:=⟨b1,2+k,none⟩) hb _
 ·refine⟨hk,?_,h.res.az (p:=⟨b1,2+k,none⟩) (Xm bT) _,hs _ _ h.low,Sl.setCell h.ds (p:=⟨b1,2+k,none⟩) hb _⟩;have e0:au.getD k 0=0:=by rw[Qe,QQ hl];rfl
  have e2:gr x au (k+1)={gr x au k with roots:=(gr x au k).roots.set k 0}:=by rw[e0] at e1;rw[e1];rfl
  rw[e2];exact o1
theorem vA (w:Wo) (x:aN) (hx:bM x) (v:Va) (au:List Int) (hv:Ns w w.heap.size .i64 v au) (hd:∀d∈au,0≤d∧d≤65535) (oR:au.length≤100):
  Calls prog 44 #[.agg (aP x).toArray,v] w fun e w' =>e= .returned (.agg (aP (qE x au)).toArray)∧Below w.heap.size w w' :=by
 obtain⟨A,c,rfl,-,-⟩:=hv.form;obtain⟨n,hn⟩:=eX au.length;rw[←hn] at hv⊢;have Hn:=aa hn;obtain⟨C,hC⟩:=eX (aP x);obtain⟨W0,aY⟩:=eX (w.alloc (.cells C.toArray 41));obtain⟨W1,aW⟩:=eX (W0.alloc (.cells (aP aV).toArray 41));obtain⟨rb,ft⟩:=eX W0.heap.size;obtain⟨b1,yZ⟩:=eX w.heap.size;have r0:aq W0 b1 41 (aP x):=by rw[aY,yZ,←hC];exact ar w _ _
 have q0:Below w.heap.size w W0:=by rw[aY];exact aF _ _
 have q1:Below W0.heap.size W0 W1:=by rw[aW];exact aF _ _
 have t1:aq W1 rb 41 (aP aV):=by rw[aW,ft];exact ar W0 _ _
 have q01:=q0.trans (q1.mono q0.size);have ST1:Af (Fc w x au (.slice A n c) b1 rb 0 W1):=⟨by decide,by rw[FN];exact r0.on q1,t1,q01,Sl.below (by rw[hn] at hv⊢;exact hv) q01⟩;have fq:=dK (Xg yZ.symm) (by have:=r0.lt;omega:b1≠rb);have anM:Af (w.heap.size≤rb):=by show _≤_;rw[ft];exact q0.size
 have HX:=aa hx;have HD:=aa hd;have fD:=aa aY.symm;have gB:=aa aW.symm;have wD:Af (w.heap.size+1=rb):=by show _=_;rw[ft,aY];simp
 have Hb1:=aa yZ.symm;rw[←hC];have j5:(n:Int)≤100:=by omega
 clear hv aY aW ft yZ r0 q0 q1 t1 q01 hC hx hd hn oR;go_enter func44,ntmps44;go_upto_region 1 with fail
 change Code.wp _ _ _ _ ((w.alloc (.cells C.toArray 41)).alloc (.cells (aP aV).toArray 41));rw[fD.o,gB.o];clear fD gB;rw[wD.o,Hb1.o];clear wD;go_wp2_with fail;go_loopw [6] (fun i wr=>∃k:Nat,i= .int .i64 k∧Af (Fc w x au (.slice A n c) b1 rb k wr)) (fun i _=>2 - (intOf i).toNat)
 case atStart=>exact⟨0,rfl,ST1.o⟩
 case round=>
  obtain⟨k,rfl,HS⟩:=hrel;rcases(show k=0∨k=1∨k=2 by have:=HS.o.le;omega) with hk|hk|hk
  ·subst hk;rw[show((0:Nat):Int)=(0:Int) from rfl];have y0:=HS.o.own.cell (nC (kZ HX.o au HD.o 0 (by decide)) (i:=0) (by decide));have f0:=HS.o.own.free 2;generalize (gr x au 0).roots.getD 0 0=u0 at y0;by_cases aJ:0<n
   ·have hi:(0:Int)<n:=by omega
    obtain⟨b,o,c',hv,-,-,hb,dL⟩:=HS.o.ds.cells (by have:=Hn.o;omega);have gd:=dL 0 (by have:=Hn.o;omega);have TI:0≤au.getD 0 0∧au.getD 0 0≤65535:=by rw[Qe,Qf (by have:=Hn.o;omega)];exact HD.o _ (QI _)
    have bT:b≠b1:=by have:=fq.o.1;omega
    have xx:(wr.setCell ⟨b1,2,none⟩ (.int .u32 0)).cell? ⟨b,o,none⟩=some (.int .i64 (au.getD 0 0)):=(World.cell?_setCell_other wr _ _ _ (fun e=>bT (XF Addr.block e).symm)).trans gd;have y1:(wr.setCell ⟨b1,2,none⟩ (.int .u32 0)).cell? ⟨b1,2,none⟩=some (.int .u32 0):=(HS.o.own.set 2 _).cell (by rw[List.getElem?_set_self];rw[bK (kZ HX.o au HD.o 0 (by decide))];decide);have f1:(wr.setCell ⟨b1,2,none⟩ (.int .u32 0)).frozen? ⟨b1,2,none⟩=false:=(HS.o.own.set 2 _).free 2;have hA:A=some ⟨b,o,none⟩:=by cases hv;rfl
    have bj:=aa aJ;have HE:Af (∀u,u=au.getD 0 0→Fc w x au (.slice A n c) b1 rb (0+1) ((wr.setCell ⟨b1,2,none⟩ (.int .u32 0)).setCell ⟨b1,2,none⟩ (.int .u32 u))):=fun u hu=>by subst hu;exact HS.o.step HX.o HD.o fq.o.1 fq.o.2 (by decide) (.inl rfl)
    subst hA;have HE2:=aa (HE.o _ rfl);generalize au.getD 0 0=dk at gd xx HE2 TI;have hw:IntKind.u32.wrap dk=dk:=by unfold IntKind.wrap;simp[IntKind.signed,IntKind.bits];omega
    clear dL hv aJ TI HE;go_wp2_with fail;go_roundw
    case rel=>exact⟨0+1,by first|rfl|trivial,HE2.o⟩
    case measure=>decide
   ·have hi:¬(0:Int)<n:=by omega
    have HE:=aa (HS.o.step HX.o HD.o fq.o.1 fq.o.2 (by decide) (.inr ⟨rfl,by have:=Hn.o;omega⟩));clear aJ;go_wp2_with fail;go_roundw
    case rel=>exact⟨0+1,by first|rfl|trivial,HE.o⟩
    case measure=>decide
  ·subst hk;rw[show((1:Nat):Int)=(1:Int) from rfl];have y0:=HS.o.own.cell (nC (kZ HX.o au HD.o 1 (by decide)) (i:=1) (by decide));have f0:=HS.o.own.free 3;generalize (gr x au 1).roots.getD 1 0=u0 at y0;by_cases aJ:1<n
   ·have hi:(1:Int)<n:=by omega
    obtain⟨b,o,c',hv,-,-,hb,dL⟩:=HS.o.ds.cells (by have:=Hn.o;omega);have gd:=dL 1 (by have:=Hn.o;omega);have TI:0≤au.getD 1 0∧au.getD 1 0≤65535:=by rw[Qe,Qf (by have:=Hn.o;omega)];exact HD.o _ (QI _)
    have bT:b≠b1:=by have:=fq.o.1;omega
    have xx:(wr.setCell ⟨b1,3,none⟩ (.int .u32 0)).cell? ⟨b,o+1,none⟩=some (.int .i64 (au.getD 1 0)):=(World.cell?_setCell_other wr _ _ _ (fun e=>bT (XF Addr.block e).symm)).trans gd;have y1:(wr.setCell ⟨b1,3,none⟩ (.int .u32 0)).cell? ⟨b1,3,none⟩=some (.int .u32 0):=(HS.o.own.set 3 _).cell (by rw[List.getElem?_set_self];rw[bK (kZ HX.o au HD.o 1 (by decide))];decide);have f1:(wr.setCell ⟨b1,3,none⟩ (.int .u32 0)).frozen? ⟨b1,3,none⟩=false:=(HS.o.own.set 3 _).free 3;have hA:A=some ⟨b,o,none⟩:=by cases hv;rfl
    have bj:=aa aJ;have HE:Af (∀u,u=au.getD 1 0→Fc w x au (.slice A n c) b1 rb (1+1) ((wr.setCell ⟨b1,3,none⟩ (.int .u32 0)).setCell ⟨b1,3,none⟩ (.int .u32 u))):=fun u hu=>by subst hu;exact HS.o.step HX.o HD.o fq.o.1 fq.o.2 (by decide) (.inl rfl)
    subst hA;have HE2:=aa (HE.o _ rfl);generalize au.getD 1 0=dk at gd xx HE2 TI;have hw:IntKind.u32.wrap dk=dk:=by unfold IntKind.wrap;simp[IntKind.signed,IntKind.bits];omega
    clear dL hv aJ TI HE;go_wp2_with fail;go_roundw
    case rel=>exact⟨1+1,by first|rfl|trivial,HE2.o⟩
    case measure=>decide
   ·have hi:¬(1:Int)<n:=by omega
    have HE:=aa (HS.o.step HX.o HD.o fq.o.1 fq.o.2 (by decide) (.inr ⟨rfl,by have:=Hn.o;omega⟩));clear aJ;go_wp2_with fail;go_roundw
    case rel=>exact⟨1+1,by first|rfl|trivial,HE.o⟩
    case measure=>decide
  ·subst hk;rw[show((2:Nat):Int)=(2:Int) from rfl];obtain⟨C2,hC2⟩:=eX (aP (qE x au));have To:=kZ HX.o au HD.o 2 (by decide);have HO:Af (aq wr b1 41 C2):=by show aq _ _ _ _;rw[hC2];exact HS.o.own
   have Oq:Af (C2.length=18):=by show _=_;rw[hC2];exact bK To
   have su:Af (C2.toArray.all (·.oneCell')=true):=by show _=_;rw[hC2];exact all_oneCell_toArray (jI _)
   have wO:Af ((prog.info? 41).map (·.size)=some C2.toArray.size):=by show _=_;rw[QW,Oq.o];exact ka
   have HL:=aa (ef (w:=wr) (b:=b1) (cs:=C2) Oq.o (fun j v hj=>HO.o.cell hj));have HR:=aa HS.o.res;have HC2:=aa hC2;clear hC2 To;go_wp2_with(first
    |((with_reducible refine wl_load _ _ ?_ HL.o ?_);go_must((·rfl);go_frame))
    |((refine wpList_store_mid rfl 41 _ _ rfl rb 0 C2.toArray ?_ ?_ (dX HR.o ?_) wO.o su.o ?_);go_must((·rfl);(·rfl);(·exact Xg (by rw[QW,Oq.o];rfl));go_frame)))
   have C3:=cN (S:=fun x=>x=rb) rfl C2 0 wr (aG.refl _ wr);have R3:=HR.o.fill (vs:=C2) (by rw[Oq.o];rfl);refine bodyPost_ret (rQ rfl rfl (eZ (cs:=C2) Oq.o (fun j v hj=>R3.cell hj))) rfl ?_;exact⟨by rw[HC2.o],HS.o.low.trans (C3.below HS.o.low.size (fun x hx e=>by have:=anM.o;omega))⟩
end
section
open Go.RowKit
attribute [local go_sem] Oper.semAt_some
theorem Du {body:List Int} (hb:∀x∈body,aI x):∀x∈mq body,0≤x∧x≤65535:=by
 intro x hx;obtain⟨i,-,rfl⟩:=QU.1 hx;unfold cK;have h:=lR ((body.drop (1+2*i)).take 2) (fun y hy=>hb y (Q6 (Za hy)));have hl:((body.drop (1+2*i)).take 2).length≤2:=by simp;omega
 have:(256:Int)^((body.drop (1+2*i)).take 2).length≤256^2:=by
  generalize ((body.drop (1+2*i)).take 2).length=m at hl
  match m,hl with
  |0,_=>decide
  |1,_=>decide
  |2,_=>decide
 have e:(256:Int)^2=65536:=by decide
 omega
theorem vS {k:Int} {p l:List Int} (h:pB k p=some l) (hb:∀x∈p,aI x):(∀x∈l,0≤x∧x≤65535)∧l.length≤61∧Pz k p:=by
 unfold pB at h;cases ho:dy p with
 |none=>rw[ho] at h;cases h
 |some q=>
  obtain⟨k',body⟩:=q;rw[ho] at h;dsimp only at h;split at h
  ·rename_i hc
   cases h
   refine⟨fun x hx=>Du (jO ho hb).2.2 x (Za hx),?_,fun YP ho' _=> ?_⟩
   ·rw[Qu];unfold mq;simp;omega
   ·rw[ho] at ho';cases ho';exact hc.2.2.2
  ·cases h
theorem KK (w:Wo) (d pl:Nat) (bl:List (List Int)) (h:cF w d pl bl) (kind:Int) (hk:kind=4∨kind=5) (i:Nat) (hi:i<bl.length) (l:List Int) (hl:pB kind bl[i]=some l):
  Calls prog 118 #[.pointer (some ⟨d,0,none⟩),.int .u8 kind,.int .i64 i,.int .i64 l.length] w fun e w' =>∃v,e= .returned (.tuple #[v,.int .i64 0])∧aB w' w.heap.size 3 .i64 v l∧Below w.heap.size w w' :=by
 have HR:=aa (oA w d pl bl h i hi);have fg:bl[i].length=128∧∀x∈bl[i],aI x:=⟨h.size _ (QI _),h.byte _ (QI _)⟩;obtain⟨p,hp⟩:=eX (bl[i]);rw[←hp] at fg hl HR;obtain⟨hr,ane,Pp⟩:=vS hl fg.2;have HDe:Af (∀(W:Wo) (v:Va),Bs W W.heap.size v p→Calls prog 88 #[.int .u8 kind,v] W fun e w' =>∃v',e= .returned (.tuple #[v',.int .i64 0])∧aB w' W.heap.size 61 .u16 v' l∧Below W.heap.size W w'):=fun W v hv=>(Js W kind hk v p hv Pp).mono fun e w' ⟨hb,h1⟩=>(by
  rcases h1 with⟨h2,-⟩|⟨l',v',h2,h3,h4⟩
  ·rw[hl] at h2;cases h2
  ·rw[hl] at h2;cases h2;exact⟨v',h3,h4,hb⟩)
 have Hp:=aa fg;have Hr:=aa hr;obtain⟨n,hn⟩:=eX l.length;have Hn:=dK hn (by omega:n≤61);have n1:(n:Int)≤61:=by omega
 rw[←hn];clear h hi hp fg hl hr ane Pp hn hk;go_enter func118,ntmps118;go_upto_region 5 with(first
  |(go_at_call 49;go_must(refine HR.o.mono ?_);rintro e W2 ⟨g,rfl,l2,o2,b2⟩;have B2:=aa b2;have HD2:=aa (HDe.o W2 _ (by have:=o2.bs (o:=0) (n:=128) (c:=128) (by rw[Hp.o.1];exact Qg _) (Qg _) (by unfold maxLen;decide) Hp.o.2;rwa[Zl,Qj (by rw[Hp.o.1];exact Qg _)] at this));clear o2 b2 l2)
  |(go_at_call 88;go_must(refine HD2.o.mono ?_);rintro e W3 ⟨uv,rfl,o3,b3⟩;have O3:=aa o3;have B3:=aa (B2.o.trans (b3.mono B2.o.size));clear b3 o3))
 have pT:=O3.o.ns;obtain⟨Au,cu,hv,-,-⟩:=pT.form;rw[←Hn.o.1] at hv;subst hv;have MT:=aa pT;clear pT HR HDe HD2;go_wp2_with fail;go_loopw [41,13] (fun i v wr=>∃k:Nat,i= .int .i64 k∧Af (k≤n∧aB wr W3.heap.size 3 .i64 v (l.take k)∧Below W3.heap.size W3 wr)) (fun i _ _=>n - (intOf i).toNat)
 case atStart=>exact⟨0,rfl,Qp _,cQ _ _ _ _,Xj _ _⟩
 case round=>
  obtain⟨k,rfl,HR⟩:=hrel;obtain⟨A0,n0,c0,Ew⟩:=HR.o.2.1.bu;subst Ew;by_cases aJ:k<n
  ·have bQ:k<l.length:=by have:=Hn.o;omega
   obtain⟨b,o,c',hv,-,-,hb,aH⟩:=MT.o.cells (by omega);obtain rfl:Au=some ⟨b,o,none⟩:=by injection hv
   obtain⟨x,hx⟩:=eX (l.getD k 0);have pf:l[k]? =some x:=by rw[hx,Qe,Qf bQ];rfl
   have wA:=Hr.o x (Qi pf);have y0:wr.cell? ⟨b,o+k,none⟩=some (.int .u16 x):=(HR.o.2.2.cell (p:=⟨b,o+k,none⟩) hb).trans (by rw[hx];exact aH k bQ);have JF:IntKind.i64.wrap x=x:=by unfold IntKind.wrap;simp[IntKind.signed,IntKind.bits];omega
   have fp:wrap64 ((k:Int)+1)=(k:Int)+1:=by unfold wrap64;have:=Hn.o;omega
   have hi:(k:Int)<n:=by omega
   have ml:(0:Int)≤k:=by omega
   have bj:=aa aJ;have eu:=aa fp;have Hx:=dK pf (by rw[Qu];have:=Hn.o;omega:(l.take k).length≤100000);have tJ:=aa (aB.on HR.o.2.1 (aF wr (.cells #[.int .i64 x] 3)));have IB:=aa (ar wr [.int .i64 x] 3);have rk:=aa (HR.o.2.2.trans ((aF wr (.cells #[.int .i64 x] 3)).mono HR.o.2.2.size));clear hx pf wA bQ aJ HR aH hb hv;go_wp2_with(at_builtin;(with_reducible refine wl_app1 NKi (os:= .tmp 45) (ox:= .tmp 48) W3.heap.size _ _ tJ.o wr.heap.size x IB.o ?_ ?_ ?_ ?_ ?_);go_must((·exact Hx.o.2);(·exact rk.o.size);(·rfl);(·rfl);intro v' w' ho hg;have JW:=aa ho;have px:=aa (Below.app rk.o tJ.o (Qg _) rk.o.size hg);clear ho hg hi ml JF));go_roundw
   case rel=>refine⟨k+1,by first|rfl|(rw[eu.o];rfl),bj.o,?_,px.o⟩;rw[aA _ _ _ Hx.o.1];exact JW.o
   case measure=>first|exact al bj.o|(rw[eu.o];exact al bj.o)
  ·have hi:¬(k:Int)<n:=by omega
   have e1:l.take k=l:=Qj (by have:=Hn.o;omega);have fF:=aa HR.o.2;rw[e1] at fF;clear e1 HR aJ;go_wp2_with fail;go_ret2;exact⟨_,rfl,fF.o.1.low B3.o.size,B3.o.trans (fF.o.2.mono B3.o.size)⟩
theorem Jp:∀(ls:List (List Int)),(∀l∈ls,l.length≤61)→ls.flatten.length≤61*ls.length
 |[],_=>by simp
 |l::r,h=>by
  have h1:=h l (by simp);have h2:=Jp r fun x hx=>h x (by simp[hx])
  rw[List.flatten_cons,Qo,QF];omega
theorem LN (ls:List (List Int)) (k:Nat) (l:List Int) (h:ls[k]? =some l):(ls.take (k+1)).flatten=(ls.take k).flatten++l:=by
 rw[aA _ _ _ h,List.flatten_append];simp
theorem U7 {k m n:Nat} (h:k<m) (hm:m≤100) (hn:n≤4096):wrap64 ((k:Int)+1)=(k:Int)+1∧wrap64 ((k:Int)*61)=(k:Int)*61∧wrap64 ((n:Int) - (k:Int)*61)=(n:Int) - (k:Int)*61∧(k:Int)<m:=by
 unfold wrap64;omega
structure IQ (bl:List (List Int)) (kind:Int) (n:Nat) (at_:List Int) (ls:List (List Int)):Prop where
 len:ls.length=at_.length
 le:∀l∈ls,l.length≤61
 rng:∀k (_:k<at_.length),∃i:Nat,at_[k]? =some (i:Int)∧2≤i∧∃hi:i<bl.length,∃l,ls[k]? =some l∧pB kind bl[i]=some l∧(l.length:Int)=min ((n:Int) - k*61) 61
theorem sN (w:Wo) (d pl:Nat) (bl:List (List Int)) (h:cF w d pl bl) (kind:Int) (hk:kind=4∨kind=5) (n:Nat) (hn:n≤4096) (v:Va) (at_:List Int) (hv:Ns w w.heap.size .i64 v at_) (EC:at_.length≤100) (ls:List (List Int)) (hls:IQ bl kind n at_ ls):
  Calls prog 51 #[.pointer (some ⟨d,0,none⟩),.int .u8 kind,v,.int .i64 n] w fun e w' =>∃v,e= .returned (.tuple #[v,.int .i64 0])∧aB w' w.heap.size 3 .i64 v ls.flatten∧Below w.heap.size w w' :=by
 obtain⟨A,c,rfl,-,-⟩:=hv.form;obtain⟨m,hm⟩:=eX at_.length;have H:=aa h;have HV:=aa hv;rw[←hm] at HV⊢;have Hn:=iJ hm (by omega:m≤100) hn;have HLs:=aa hls;have m1:(m:Int)≤100:=by omega
 have n1:(n:Int)≤4096:=by omega
 have n0:(0:Int)≤n:=by omega
 have Ta:=aa h.n1;have HLe:=aa (fun (W:Wo) (hW:Below w.heap.size w W)=>zN W d pl bl.length _ (h.own.on hW));clear h hv EC hls hm hn;go_enter func51,ntmps51;go_wp2_with fail;go_loopw [17,10] (fun i v wr=>∃k:Nat,i= .int .i64 k∧Af (k≤m∧aB wr w.heap.size 3 .i64 v (ls.take k).flatten∧Below w.heap.size w wr)) (fun i _ _=>m - (intOf i).toNat)
 case atStart=>exact⟨0,rfl,Qp _,cQ _ _ _ _,Xj _ _⟩
 case round=>
  obtain⟨k,rfl,HR⟩:=hrel;obtain⟨A0,n0',c0,Ew⟩:=HR.o.2.1.bu;subst Ew;by_cases aJ:k<m
  ·have bQ:k<at_.length:=by have:=Hn.o;omega
   obtain⟨b,o,c',hv,-,-,hb,aH⟩:=HV.o.cells (by omega);obtain rfl:A=some ⟨b,o,none⟩:=by injection hv
   obtain⟨i,hi,h2,ub,l,hl,hd,hll⟩:=HLs.o.rng k bQ;have y0:wr.cell? ⟨b,o+k,none⟩=some (.int .i64 i):=(HR.o.2.2.cell (p:=⟨b,o+k,none⟩) hb).trans (by rw[aH k bQ,Qe,hi];rfl);obtain⟨fp,DZ,hw4,i1⟩:=U7 aJ Hn.o.2.1 Hn.o.2.2;have i0:=Xh k;have i2:=Int.not_lt.2 (Int.ofNat_le.2 h2);have i3:=Int.not_le.2 (Xi.2 ub);have bj:=aa aJ;have eu:=aa fp;have HD:=aa (H.o.on HR.o.2.2);have HL1:=aa (HLe.o wr HR.o.2.2);have Td:=aa (KK wr d pl bl HD.o kind hk i ub l hd);rw[hll] at Td;have HB:=aa HR.o.2.2;have HO:=aa HR.o.2.1;have Hfl:Af ((ls.take k).flatten.length+l.length≤1000000):=by have h1:=Jp (ls.take k) (fun x hx=>HLs.o.le x (Za hx));have h2:=HLs.o.le l (Qi hl);rw[Qu] at h1;have h3:min k ls.length≤100:=Qh (Nat.min_le_left _ _) (Qh HR.o.1 Hn.o.2.1);exact Qh (Nat.add_le_add h1 h2) (Qh (Nat.add_le_add_right (Nat.mul_le_mul_left 61 h3) 61) (by decide))
   have tH:=aa (LN ls k l hl);clear hv aH hi h2 ub hl hd hll bQ aJ HR hb;go_upto_region 8 with(first
    |(go_at_call 39;go_must(refine HL1.o.mono ?_);rintro e W2 ⟨rfl,rfl⟩)
    |(go_at_call 118;go_must(refine Td.o.mono ?_);rintro e W3 ⟨lv,rfl,o3,b3⟩;have O3:=aa o3;have B3:=aa b3;clear o3 b3))
   have pT:=O3.o.ns;obtain⟨Al,cl,rfl,-,-⟩:=pT.form;have MT:=aa pT;have NM:=aa (HO.o.on B3.o);have pw:=aa (HB.o.trans (B3.o.mono HB.o.size));clear pT y0 i2 i3 DZ hw4;go_wp2_with(at_builtin;(with_reducible refine wl_appNs NKi (os:= .tmp 45) (ox:= .tmp 46) w.heap.size _ _ NM.o _ _ MT.o ?_ ?_ ?_ ?_ ?_);go_must((·exact Hfl.o);(·exact pw.o.size);(·rfl);(·rfl);intro v' w' ho hg;have JW:=aa ho;have px:=aa (Below.app pw.o NM.o (Qg _) pw.o.size hg);clear ho hg));go_roundw
   case rel=>refine⟨k+1,by first|rfl|(rw[eu.o];rfl),bj.o,?_,px.o⟩;rw[tH.o];exact JW.o
   case measure=>first|exact al bj.o|(rw[eu.o];exact al bj.o)
  ·have hi:¬(k:Int)<m:=by omega
   have e1:ls.take k=ls:=Qj (by have:=Hn.o;have:=HLs.o.len;omega);have fF:=aa HR.o.2;rw[e1] at fF;clear e1 HR aJ;go_wp2_with fail;go_ret2;exact⟨_,rfl,fF.o.1,fF.o.2⟩
end
section
open Go.RowKit
variable {B : Nat} {s : ri} {T : Nat → Prop} {m : List (Va × ri)}
theorem cy {P:Program} (w:Wo) (base:Nat) (t ty e:TypeId) (z:Va) (size bytes:Nat) (ht:P.underlying t=some (.slice e)) (hi:(P.info? e).map (fun i=>(i.zero,i.size,i.bytes))=some (some z,size,bytes))
  (Tq:z.cells.size=size) (cz:0<size) (v:Va) (n:Nat) (xs:List Va) (bN:w.ownsRow base e size v n xs) (vx:Va) (m:Nat) (news:List Va) (hx:Sl w B size vx m news)
  (h1:∀u∈news,u.oneCell' =true) (TP:n+m≤maxLen) (lF:(n+m)*bytes≤140737488355328) (ey:base≤w.heap.size):
  ∃v' w',(Builtin.append_ #[t,t] ty #[v,vx]).run P w= .ok v' w'∧w'.ownsRow base e size v' (n+m) (xs++news)∧w.grownBy w' v.ownBlock∧(v'.ownBlock=v.ownBlock∨v'.ownBlock=some w.heap.size):=by
 cases hq:P.info? e with
 |none=>simp[hq] at hi
 |some i=>
  simp[hq] at hi;obtain⟨hz,BF,hby⟩:=hi;obtain⟨hl,A,c,rfl,hc,hm,N4,hr⟩:=hx
  cases A with
  |none=>
   have xB:m=0:=by
    rcases XG m with h|h
    ·exact h
    ·obtain⟨b,o,h,_⟩:=hr h
     cases h
   have pV:=N4 rfl;subst xB;subst pV;have uL:=Zf (by simpa using hl);subst uL;have:=run_append_owned_none (P:=P) (w:=w) base t ty e i size ht hq v n xs bN;exact⟨v,w,this,by simpa using bN,⟨rfl,rfl,rfl,Qg _,fun _ _ _=>rfl⟩,.inl rfl⟩
  |some ad=>
   obtain⟨v',w',h2,h3,h4,_,h5⟩:=run_append_own_at (P:=P) (w:=w) base t ty e i z size bytes ht hq hz BF hby Tq cz v n xs bN ad m c news hl (fun j u hu=>by
    have xB:0<m:=by
     rcases XG m with h|h
     ·subst h
      have uL:=Zf (by simpa using hl);subst uL;simp at hu
     ·exact h
    obtain⟨b,o,h,dL⟩:=hr xB
    cases h
    rw[dP];exact dL.2 j u hu) h1 TP lF ey
   exact⟨v',w',h2,h3,h4,h5⟩
def cB (w:Wo) (S:Nat→Prop) (d:Nat) (v:Va):ri→Prop
 | .wr i data=>∃b1 b2 b3 dv,v= .func (.func 108) #[] #[.pointer (some ⟨b1,0,none⟩),.pointer (some ⟨b2,0,none⟩),.pointer (some ⟨b3,0,none⟩)]∧aq w b1 24 [.pointer (some ⟨d,0,none⟩)]∧aq w b2 3 [.int .i64 i]∧aq w b3 87 [dv]∧Bs w w.heap.size dv data∧Ap S dv∧¬S b1∧¬S b2∧¬S b3
 | .fl=>v= .func (.func 46) #[.pointer (some ⟨d,0,none⟩)] #[]
theorem cB.is {w:Wo} {S:Nat→Prop} {d pl:Nat} {v:Va} (h:cB w S d v s) (hS:∀x,DS d pl x→S x):lI w d pl v s:=by
 cases s with
 |fl=>exact h
 |wr i data=>
  obtain⟨b1,b2,b3,dv,e,h1,h2,h3,h4,h5,n1,n2,n3⟩:=h;exact⟨b1,b2,b3,dv,e,h1,h2,h3,h4,h5.mono hS,fun x=>n1 (hS _ x),fun x=>n2 (hS _ x),fun x=>n3 (hS _ x)⟩
theorem cB.aL {w w' :Wo} {S:Nat→Prop} {d:Nat} {v:Va} (h:cB w S d v s) (hc:aG T w w') (hT:∀x,T x→S x):cB w' S d v s:=by
 cases s with
 |fl=>exact h
 |wr i data=>
  obtain⟨b1,b2,b3,dv,e,h1,h2,h3,h4,h5,n1,n2,n3⟩:=h;exact⟨b1,b2,b3,dv,e,h1.aL hc (fun x=>n1 (hT _ x)),h2.aL hc (fun x=>n2 (hT _ x)),h3.aL hc (fun x=>n3 (hT _ x)),⟨(h4.1.aL hc (Qg _) (h5.mono hT)).more hc.size,h4.2⟩,h5,n1,n2,n3⟩
theorem cB.on {w w' :Wo} {S:Nat→Prop} {d:Nat} {v:Va} (h:cB w S d v s) (hb:Below w.heap.size w w'):cB w' S d v s:=h.aL (T:=fun _=>False) (aG.aZ hb) (fun _ e=>e.elim)
theorem cB.set {w:Wo} {S:Nat→Prop} {d:Nat} {v:Va} (h:cB w S d v s) (hT:∀x,x<w.heap.size→T x→S x):cB w T d v s:=by
 cases s with
 |fl=>exact h
 |wr i data=>
  obtain⟨b1,b2,b3,dv,e,h1,h2,h3,h4,h5,n1,n2,n3⟩:=h;refine⟨b1,b2,b3,dv,e,h1,h2,h3,h4,fun b o n c hn he ht=> ?_,fun x=>n1 (hT _ h1.lt x),fun x=>n2 (hT _ h2.lt x),fun x=>n3 (hT _ h3.lt x)⟩;obtain⟨A',c',hv,-,-⟩:=h4.1.form;have ZY:=he;rw[hv] at ZY;cases ZY
  obtain⟨b',o',c'',mQ,-,-,hr⟩:=h4.1.row hn;rw[hv] at mQ;cases mQ
  exact h5 b o _ c hn he (hT b hr.1 ht)
theorem cB.one {w:Wo} {S:Nat→Prop} {d:Nat} {v:Va} (h:cB w S d v s):v.oneCell' =true:=by
 cases s with
 |fl=>have e:v=_:=h;rw[e];rfl
 |wr i data=>
  obtain⟨b1,b2,b3,dv,e,-⟩:=h;rw[e];rfl
theorem nF (w:Wo) (S:Nat→Prop) (d:Nat) (i:Nat) (dv:Va) (data:List Int) (hd:Bs w w.heap.size dv data) (ha:Ap S dv) (hS:∀x,S x→x<w.heap.size):
  Calls prog 45 #[.pointer (some ⟨d,0,none⟩),.int .i64 i,dv] w fun e w' =>∃v,e= .returned (.agg #[v])∧cB w' S d v (.wr i data)∧Below w.heap.size w w' :=by
 obtain⟨A,c,rfl,jb,pk⟩:=hd.1.form;obtain⟨W3,cD⟩:=eX (((w.alloc (.cells #[.pointer (some ⟨d,0,none⟩)] 24)).alloc (.cells #[.int .i64 i] 3)).alloc (.cells #[.slice A data.length c] 87));obtain⟨W1,aW,X1,q1⟩:=nW w [.pointer (some ⟨d,0,none⟩)] 24;have s1:W1.heap.size=w.heap.size+1:=by rw[aW];simp
 rw[←aW] at cD;obtain⟨W2,cE,X2,q2⟩:=nW W1 [.int .i64 i] 3;have s2:W2.heap.size=w.heap.size+1+1:=by rw[cE];simp[s1]
 rw[←cE] at cD;have q3:=aF W2 (.cells #[.slice A data.length c] 87);have X3:=ar W2 [.slice A data.length c] 87;rw[←cD] at q3 X3;rw[s1] at X2;rw[s2] at X3;have s3:Af (W3.heap.size=w.heap.size+1+1+1):=by show _=_;rw[cD];simp[s2]
 have B3:=aa ((q1.trans (q2.mono q1.size)).trans (q3.mono (Qh q1.size q2.size)));have HS:Af (cB W3 S d (.func (.func 108) #[] #[.pointer (some ⟨w.heap.size,0,none⟩),.pointer (some ⟨w.heap.size+1,0,none⟩),.pointer (some ⟨w.heap.size+1+1,0,none⟩)]) (.wr i data)):=
  ⟨_,_,_,_,rfl,(X1.on q2).on q3,X2.on q3,X3,⟨((hd.1.below B3.o).more B3.o.size),hd.2⟩,ha,fun e=>by have:=hS _ e;omega,fun e=>by have:=hS _ e;omega,fun e=>by have:=hS _ e;omega⟩
 have mT:Af (((w.alloc (.cells #[.pointer (some ⟨d,0,none⟩)] 24)).alloc (.cells #[.int .i64 i] 3)).alloc (.cells #[.slice A data.length c] 87)=W3):=by show _=_;rw[cD,cE,aW]
 clear s1 s2 q1 q2 q3 X1 X2 X3 aW cE cD hd ha hS jb pk;go_enter func45,ntmps45;go_upto_region 1 with fail
 rw[mT.o,←s3.o];obtain⟨W4,j7,R4,sm⟩:=nW W3 [.nilFunc] 120;rw[←j7];have R:=aa R4;have Uo:=aa sm;have y0:=R.o.cell (j:=0) rfl;have y1:=R.o.free 0;have ZF:=fun (w:Wo) (a:Addr) (ys:Array Va)=>run_store_func (P:=prog) (w:=w) (a:=a) (m:= .plain) (.func 108) #[] ys
 simp only[stored] at ZF;clear R4 sm j7;go_wp2_with fail;have R5:=R.o.set 0 (.func (.func 108) #[] #[.pointer (some ⟨w.heap.size,0,none⟩),.pointer (some ⟨w.heap.size+1,0,none⟩),.pointer (some ⟨w.heap.size+1+1,0,none⟩)]);refine bodyPost_ret (lj rfl rfl (Lr R5)) rfl ?_;have qd:=Uo.o.setCell (p:=⟨W3.heap.size,0,none⟩) (Qg _) (.func (.func 108) #[] #[.pointer (some ⟨w.heap.size,0,none⟩),.pointer (some ⟨w.heap.size+1,0,none⟩),.pointer (some ⟨w.heap.size+1+1,0,none⟩)]);exact⟨_,rfl,HS.o.on qd,B3.o.trans (qd.mono B3.o.size)⟩
def Iz (S:Nat→Prop) (row:Option Nat):Nat→Prop:=fun x=>S x∨row=some x
def eB (w:Wo) (base:Nat) (S:Nat→Prop) (d:Nat) (v:Va) (l:List (Va×ri)):Prop:=
 w.ownsRow base 120 1 v l.length (l.map Prod.fst)∧(∀p∈l,cB w (Iz S v.ownBlock) d p.1 p.2)
theorem ab8:(prog.info? 120).map (fun i=>(i.zero,i.size,i.bytes))=some (some (.agg #[.nilFunc]),1,8):=by kernel_rfl
theorem Kw {w:Wo} {S:Nat→Prop} {d:Nat} {l:List (Va×ri)} (h:∀p∈l,cB w S d p.1 p.2):∀u∈l.map Prod.fst,u.oneCell' =true:=by
 intro u hu;obtain⟨p,hp,rfl⟩:=QU.1 hu;exact(h p hp).one
section
variable {w w' : Wo} {base d : Nat} {S : Nat → Prop} {v : Va} {l : List (Va × ri)}
theorem eB.on (h:eB w base S d v l) (hb:Below w.heap.size w w'):eB w' base S d v l:=⟨aS h.1 hb,fun p hp=>(h.2 p hp).on hb⟩
theorem Lb (w:Wo) (base:Nat) (S:Nat→Prop) (d:Nat):eB w base S d (.slice none 0 0) []:=⟨World.ownsRow_nil _ _ _ _,fun p hp=>by cases hp⟩
theorem eB.form (h:eB w base S d v l):∃A n c,v= .slice A n c:=by
 rcases h.1.2 with⟨rfl,_⟩|⟨g,cap,cur,rfl,_⟩<;>exact⟨_,_,_,rfl⟩
theorem eB.bu (h:eB w base S d v l):∃A c,v= .slice A l.length c:=by
 rcases h.1.2 with⟨rfl,h2⟩|⟨g,cap,cur,rfl,_⟩
 ·exact⟨none,0,by rw[h2]⟩
 ·exact⟨_,_,rfl⟩
theorem eB.more (h:eB w base S d v l) {v' :Va} (hm:∀p∈m,cB w (Iz S v.ownBlock) d p.1 p.2)
  (ho:w'.ownsRow base 120 1 v' (l.length+m.length) (l.map Prod.fst++m.map Prod.fst)) (hg:w.grownBy w' v.ownBlock) (hv:v'.ownBlock=v.ownBlock∨v'.ownBlock=some w.heap.size):eB w' base S d v' (l++m):=by
 refine⟨by rw[Qo,QL];exact ho,fun p hp=> ?_⟩;have Tx:cB w (Iz S v.ownBlock) d p.1 p.2:=by
  rcases Qz.1 hp with h1|h1
  ·exact h.2 p h1
  ·exact hm p h1
 have Wn:cB w (fun x=>Iz S v.ownBlock x∨v'.ownBlock=some x) d p.1 p.2:=Tx.set fun x hx hT=>by
  rcases hT with h1|h1
  ·exact h1
  ·rcases hv with h2|h2
   ·exact .inr (h2▸h1)
   ·rw[h2] at h1;have:=Qr h1;omega
 have hp4:=Wn.aL (T:=fun x=>v.ownBlock=some x) (aG.dH hg (fun x _ e=>e)) (fun x e=> .inl (.inr e));exact hp4.set fun x _ hT=>by
  rcases hT with h1|h1
  ·exact .inl (.inl h1)
  ·exact .inr h1
end
section
variable {ops : Array Oper} {w : Wo} {Q : Exit → Act → Wo → Prop} {a : Act} {rest : List Oper} {dst : Option Tmp} {os ox : Operand} {ty : TypeId} {pos : String} {after : Array Edge}
theorem wl_app_st {base d:Nat} {S:Nat→Prop} {v:Va} {l:List (Va×ri)} (bN:eB w base S d v l) {vx:Va} (hx:Sl w B 1 vx m.length (m.map Prod.fst)) (hm:∀p∈m,cB w (Iz S v.ownBlock) d p.1 p.2)
  (hb:l.length+m.length≤1000000) (ey:base≤w.heap.size) (hs:a.eval os=v) (AM:a.eval ox=vx)
  (hK:∀v' w',eB w' base S d v' (l++m)→w.grownBy w' v.ownBlock→wpList prog ops Q rest (a.put dst v') w'):
  wpList prog ops Q (⟨dst,.call {callee:= .builtin .append,args:= #[os,ox],argTypes:= #[122,122]},ty,pos,after,none⟩::rest) a w:=by
 refine wpList_plain rfl fun K hKK=> ?_
 obtain⟨v',w',hr,h2,h3,h4⟩:=cy (P:=prog) w base 122 ty 120 _ 1 8 underlying122 ab8 rfl (by decide) v l.length _ bN.1 vx m.length _ hx (Kw hm) (by unfold maxLen;omega) (by omega) ey
 unfold Oper.wp execOp;simp only[resolve,invoke,builtin,Sem.run_bind,Sem.run_pure,XH,List.map_toArray,Zs,List.map_nil,hs,AM,hr];exact hKK _ _ (hK v' w' (bN.more hm h2 h3 h4) h3)
end
end
section
open Go.RowKit
attribute [local go_sem] Oper.semAt_some
variable {l : List (Va × ri)} {w : Wo} {base d : Nat} {S : Nat → Prop} {v : Va}
def qq (t:aE) (ag:List Int) (i:Nat):ri:= .wr (ag.getD i 0).toNat (encI 5 (eI t i))
def sy (ag au:List Int) (i:Nat):ri:= .wr (au.getD i 0).toNat (encI 4 (bG ag i))
def tR (t:aE) (ag au:List Int) (a b:List Nat):List ri:=a.map (qq t ag)++b.map (sy ag au)
theorem DN (t:aE) (i:Nat):(eI t i).length≤61:=by unfold eI;simp;omega
theorem yk (l:List Int) (i:Nat):(bG l i).length≤61:=by unfold bG;simp;omega
theorem lY {k:Int} {l:List Int} (hk:aI k) (hl:l.length≤61):(encI k l).length=128∧∀x∈encI k l,aI x:=
 ⟨oq _ _ (by rw[yR];omega),lP hk (sY l hl)⟩
theorem dn.whole {g:Nat} {bs:List Int} (h:dn w g bs) (hl:bs.length=128) (hb:∀x∈bs,aI x):Bs w w.heap.size (.slice (some ⟨g,0,none⟩) 128 128) bs:=by
 have:=h.bs (o:=0) (n:=128) (c:=128) (by rw[hl];exact Qg _) (Qg _) (by unfold maxLen;decide) hb;rwa[Zl,Qj (by rw[hl];exact Qg _)] at this
theorem eB.OC (h:eB w base S d v l) (hd:∀x,S x→x<w.heap.size):∀x,Iz S v.ownBlock x→x<w.heap.size:=fun x hx=>by
 rcases hx with h1|h1
 ·exact hd x h1
 ·exact(Xr h.1 x h1).2
theorem Jy {W3 W4:Wo} {fv:Va} {s:ri} (ho:eB W3 base S d v l) (hs:cB W4 (Iz S v.ownBlock) d fv s) (hb:Below W3.heap.size W3 W4):
  eB (W4.alloc (.cells #[fv] 120)) base S d v l∧Sl (W4.alloc (.cells #[fv] 120)) (W4.heap.size+1) 1 (.slice (some ⟨W4.heap.size,0,none⟩) 1 1) [(fv,s)].length ([(fv,s)].map Prod.fst)∧(∀p∈[(fv,s)],cB (W4.alloc (.cells #[fv] 120)) (Iz S v.ownBlock) d p.1 p.2):=by
 have sq:=aF W4 (.cells #[fv] 120);refine⟨(ho.on hb).on sq,Fg W4 [fv] _ 1 rfl,fun p hp=> ?_⟩;rw[Qx.1 hp];exact hs.on sq
structure abt (w:Wo) (S:Nat→Prop) (d xb:Nat) (pv dv:Va) (L:List ri) (v:Va) (wr:Wo):Prop where
 own:∃l,eB wr w.heap.size S d v l∧l.map Prod.snd=L
 box:aq wr xb 36 [pv,dv]
 low:Below w.heap.size w wr
theorem KZ (w:Wo) (S:Nat→Prop) (d tb cb mb:Nat) (t:aE) (ht:bf w tb cb mb t) (hd:∀x,S x→x<w.heap.size) (pv dv av bv:Va) (ag au:List Int) (a b:List Nat)
  (hp:Ns w w.heap.size .i64 pv ag) (hdi:Ns w w.heap.size .i64 dv au) (ha:Ns w w.heap.size .i64 av (a.map fun i:Nat=>(i:Int))) (hb:Ns w w.heap.size .i64 bv (b.map fun i:Nat=>(i:Int)))
  (dh:ag.length≤100) (oR:au.length≤100) (EC:a.length≤100) (fg:b.length≤100) (hr:∀x∈ag++au,0≤x∧x≤65535)
  (hai:∀i∈a,i<ag.length∧61*i≤t.len) (hbi:∀i∈b,i<au.length∧61*i<ag.length):
  Calls prog 47 #[.pointer (some ⟨d,0,none⟩),.pointer (some ⟨tb,0,none⟩),.agg #[pv,dv],av,bv] w fun e w' =>∃v l,e= .returned v∧eB w' w.heap.size S d v l∧l.map Prod.snd=tR t ag au a b∧Below w.heap.size w w' :=by
 obtain⟨Ap,cp,rfl,-,-⟩:=hp.form;obtain⟨Ad,cd,rfl,-,-⟩:=hdi.form;obtain⟨Aa,ca,rfl,-,-⟩:=ha.form;obtain⟨Ab,cbb,rfl,-,-⟩:=hb.form;rw[Qq] at ha hb⊢;rw[Qq];obtain⟨na,Ez⟩:=eX a.length;obtain⟨nb,gZ⟩:=eX b.length;obtain⟨np,ei⟩:=eX ag.length;obtain⟨nd,im⟩:=eX au.length;obtain⟨W1,aW,X1,B1⟩:=nW w [.slice Ap np cp,.slice Ad nd cd] 36;have ST1:Af (abt w S d w.heap.size (.slice Ap np cp) (.slice Ad nd cd) [] (.slice none 0 0) W1):=⟨⟨[],Lb _ _ _ _,rfl⟩,X1,B1⟩;have gB:=aa aW.symm;have HT:=aa ht;have HP:=aa (show Ns w w.heap.size .i64 (.slice Ap np cp) ag by rw[ei];exact hp)
 have HDi:=aa (show Ns w w.heap.size .i64 (.slice Ad nd cd) au by rw[im];exact hdi)
 have HA:=aa (show Ns w w.heap.size .i64 (.slice Aa na ca) (a.map fun i:Nat=>(i:Int)) by rw[Ez];exact ha)
 have HB:=aa (show Ns w w.heap.size .i64 (.slice Ab nb cbb) (b.map fun i:Nat=>(i:Int)) by rw[gZ];exact hb)
 have Hn:=hI8 Ez gZ ei im (by omega:na≤100) (by omega:nb≤100) (by omega:np≤100) (by omega:nd≤100);have Hr:=aa hr;have Hai:=aa hai;have Hbi:=aa hbi;have Hd:=aa hd;have n1:(na:Int)≤100:=by omega
 have n2:(nb:Int)≤100:=by omega
 rw[←Ez,←gZ,←ei,←im];clear aW X1 B1 ht hp hdi ha hb Ez gZ ei im dh oR EC fg hr hai hbi hd;go_enter func47,ntmps47;go_upto_region 1 with fail
 rw[gB.o];clear gB;go_wp2_with fail
 go_loopw [22,11] (fun i v wr=>∃k:Nat,i= .int .i64 k∧Af (k≤na∧abt w S d w.heap.size (.slice Ap np cp) (.slice Ad nd cd) ((a.take k).map (qq t ag)) v wr)) (fun i _ _=>na - (intOf i).toNat)
 case atStart=>exact⟨0,rfl,Qp _,ST1.o⟩
 case round=>
  obtain⟨k,rfl,HR⟩:=hrel;obtain⟨l,hl⟩:=HR.o.2.own;obtain⟨A0,n0,c0,rfl⟩:=hl.1.form;have HL:=aa hl;clear hl;by_cases aJ:k<na
  ·obtain⟨ba,oa,ca',Wg,-,-,pq,hca⟩:=HA.o.cells (by rw[Qq];have:=Hn.o;omega)
   obtain rfl:Aa=some ⟨ba,oa,none⟩:=by injection Wg
   clear Wg;obtain⟨i,hi⟩:∃i,a[k]? =some i:=⟨_,Qf (by have:=Hn.o;omega)⟩
   have JL:=Hai.o i (Qi hi);have y0:wr.cell? ⟨ba,oa+k,none⟩=some (.int .i64 i):=by
    refine(HR.o.2.low.cell (p:=⟨ba,oa+k,none⟩) pq).trans ?_;rw[hca k (by rw[Qq];have:=Hn.o;omega),Qe,Qt,hi]
    rfl
   have y1:=HR.o.2.box.cell (j:=0) rfl;obtain⟨bp,op,cp',Tu,-,-,hbp,hcp⟩:=HP.o.cells (by omega);obtain rfl:Ap=some ⟨bp,op,none⟩:=by injection Tu
   clear Tu;obtain⟨x,hx⟩:∃x,ag[i]? =some x:=⟨_,Qf JL.1⟩;have wA:=Hr.o x (QB _ (Qi hx));obtain⟨x,rfl⟩:=Int.eq_ofNat_of_zero_le wA.1;have MB:ag.getD i 0=x:=by rw[Qe,hx];rfl
   have hf:qq t ag i= .wr x (encI 5 (eI t i)):=by unfold qq;rw[MB];rfl
   have y2:=(HR.o.2.low.cell (p:=⟨bp,op+i,none⟩) hbp).trans (by rw[hcp i JL.1,MB]);have i0:(0:Int)≤k:=by omega
   have i1:(k:Int)<na:=by omega
   have i2:(0:Int)≤i:=by omega
   have i3:(i:Int)<np:=by have:=Hn.o;omega
   have fp:wrap64 ((k:Int)+1)=(k:Int)+1:=by unfold wrap64;omega
   have eu:=aa fp;have bj:=aa aJ;have tH:Af ((a.take (k+1)).map (qq t ag)=(a.take k).map (qq t ag)++[.wr x (encI 5 (eI t i))]):=by
    show _=_;rw[aA _ _ _ hi,QL,←hf];rfl
   have HTw:=aa (HT.o.on (HR.o.2.low.mono (Qg _)));have HC:=aa (GQ wr tb cb mb t HTw.o i JL.2);have sr:=aa HR.o.2;have tk:Af ((eI t i).length≤61∧∀x∈eI t i,0≤x∧x<65536):=⟨DN t i,fun y hy=>by
    have:=HT.o.ok.range y (Q6 (Za hy));omega⟩
   have Hll:Af (l.length≤1000):=by
    have:=XF List.length HL.o.2;rw[Qq,Qq,Qu] at this;exact Qh (Xg this) (Qh (Nat.min_le_left _ _) (Qh HR.o.1 (Qh Hn.o.2.2.2.2.1 (by decide))))
   clear aJ JL hi hx wA MB hf hca hcp HR;go_upto_region 6 with(first
    |(go_at_call 113;go_must(refine HC.o.mono ?_);rintro e W2 ⟨cv,rfl,o2,b2⟩;have O2:=aa o2;have B2:=aa b2;have HE:=aa (lX W2 5 (.inr rfl) cv (eI t i) (aB.sl o2) tk.o.1 tk.o.2);clear o2 b2)
    |(go_at_call 73;go_must(refine HE.o.mono ?_);rintro e W3 ⟨g,hg,rfl,o3,b3⟩;have O3:=aa o3;have B3:=aa b3;have G3:=aa hg;clear o3 b3 hg))
   have py:=aa (sr.o.low.trans ((B2.o.trans (B3.o.mono B2.o.size)).mono sr.o.low.size));have NT:=aa (B2.o.trans (B3.o.mono B2.o.size));have OS3:=aa (HL.o.1.on NT.o);have uc:=Qh B2.o.size G3.o;have E8:=lY (k:=5) (l:=eI t i) ⟨by decide,by decide⟩ tk.o.1;have hS:=eB.OC HL.o.1 (fun x hx=>Qn (Hd.o x hx) sr.o.low.size);have JU:=aa (nF W3 (Iz S (Value.slice A0 n0 c0).ownBlock) d x (.slice (some ⟨g,0,none⟩) 128 128) (encI 5 (eI t i)) (O3.o.whole E8.1 E8.2) (jD fun e=>XI _ (Qn (hS g e) uc)) (fun x hx=>Qn (hS x hx) NT.o.size));have z1:=(NT.o.cell (p:=⟨w.heap.size,0,none⟩) sr.o.box.lt).trans y1;have z2:=(NT.o.cell (p:=⟨bp,op+i,none⟩) (Qn hbp sr.o.low.size)).trans y2;clear y0 y1 y2 HC HE E8 hS uc;go_wp2_with(first
    |(go_at_call 45;go_must(refine JU.o.mono ?_);rintro e W4 ⟨fv,rfl,s4,b4⟩;have S4:=aa s4;have B4:=aa b4;have K4:=aa (Jy OS3.o S4.o B4.o);clear s4 b4)
    |(at_builtin;(with_reducible refine wl_app_st (os:= .tmp 33) (ox:= .tmp 42) (base:=w.heap.size) (m:=[(fv,.wr x (encI 5 (eI t i)))]) K4.o.1 K4.o.2.1 K4.o.2.2 ?_ ?_ ?_ ?_ ?_);go_must((·have:=Hll.o;simp;omega);(·exact Qh py.o.size (Qh B4.o.size (by simp)));(·rfl);(·rfl);intro v5 W5 o5 g5;have O5:=aa o5;have G5:=aa g5;clear o5 g5)))
   go_roundw
   case rel=>
    have aU:Below w.heap.size w W5:=((py.o.trans (B4.o.mono py.o.size)).alloc (Qh py.o.size B4.o.size) _).grown G5.o (Qh py.o.size (Qh B4.o.size (by simp))) (fun j e=>(Xr OS3.o.1 j e).1);have WA:aq W5 w.heap.size 36 [.slice (some ⟨bp,op,none⟩) np cp,.slice Ad nd cd]:=by
     have q:=((sr.o.box.on NT.o).on B4.o).alloc (.cells #[fv] 120);exact q.grown G5.o (fun e=>aq.not_row q (by decide) K4.o.1.1 e.symm)
    refine⟨k+1,by first|rfl|(rw[eu.o];rfl),bj.o,⟨_,O5.o,?_⟩,WA,aU⟩
    rw[tH.o,QL,HL.o.2];rfl
   case measure=>first|exact al bj.o|(rw[eu.o];exact al bj.o)
  ·have i1:¬(k:Int)<na:=by omega
   have Hk:Af ((a.take k).map (qq t ag)=a.map (qq t ag)):=by
    show _=_;rw[Qj (by have:=Hn.o;omega)]
   have sr:=aa HR.o.2;rw[Hk.o] at sr HL;clear HR aJ Hk;go_wp2_with fail
   go_loopw [47,11] (fun i v wr=>∃k:Nat,i= .int .i64 k∧Af (k≤nb∧abt w S d w.heap.size (.slice Ap np cp) (.slice Ad nd cd) (a.map (qq t ag)++(b.take k).map (sy ag au)) v wr)) (fun i _ _=>nb - (intOf i).toNat)
   case atStart=>exact⟨0,rfl,Qp _,⟨l,HL.o.1,by rw[HL.o.2];simp⟩,sr.o.box,sr.o.low⟩
   case round=>
    clear HL sr
    rename_i wq
    obtain⟨k,rfl,HR⟩:=hrel;obtain⟨l,hl⟩:=HR.o.2.own;obtain⟨A0,n0,c0,rfl⟩:=hl.1.form;have HL:=aa hl;clear hl;by_cases aJ:k<nb
    ·obtain⟨ba,oa,ca',Wg,-,-,pq,hca⟩:=HB.o.cells (by rw[Qq];have:=Hn.o;omega)
     obtain rfl:Ab=some ⟨ba,oa,none⟩:=by injection Wg
     clear Wg;obtain⟨i,hi⟩:∃i,b[k]? =some i:=⟨_,Qf (by have:=Hn.o;omega)⟩
     have JL:=Hbi.o i (Qi hi);have y0:wr.cell? ⟨ba,oa+k,none⟩=some (.int .i64 i):=by
      refine(HR.o.2.low.cell (p:=⟨ba,oa+k,none⟩) pq).trans ?_;rw[hca k (by rw[Qq];have:=Hn.o;omega),Qe,Qt,hi]
      rfl
     obtain⟨y1,y1b⟩:=gh HR.o.2.box;obtain⟨bp,op,cp',Tu,-,-,hbp,hcp⟩:=HDi.o.cells (by omega);obtain rfl:Ad=some ⟨bp,op,none⟩:=by injection Tu
     clear Tu;obtain⟨x,hx⟩:∃x,au[i]? =some x:=⟨_,Qf JL.1⟩;have wA:=Hr.o x (QD _ (Qi hx));obtain⟨x,rfl⟩:=Int.eq_ofNat_of_zero_le wA.1;have MB:au.getD i 0=x:=by rw[Qe,hx];rfl
     have hf:sy ag au i= .wr x (encI 4 (bG ag i)):=by unfold sy;rw[MB];rfl
     have y2:=(HR.o.2.low.cell (p:=⟨bp,op+i,none⟩) hbp).trans (by rw[hcp i JL.1,MB]);have i0:(0:Int)≤k:=by omega
     have i1:(k:Int)<nb:=by omega
     have i2:(0:Int)≤i:=by omega
     have i3:(i:Int)<nd:=by have:=Hn.o;omega
     have fp:wrap64 ((k:Int)+1)=(k:Int)+1:=by unfold wrap64;omega
     have eu:=aa fp;have bj:=aa aJ;have tH:Af ((b.take (k+1)).map (sy ag au)=(b.take k).map (sy ag au)++[.wr x (encI 4 (bG ag i))]):=by
      show _=_;rw[aA _ _ _ hi,QL,←hf];rfl
     have HPw:=aa (Sl.more (Sl.below HP.o HR.o.2.low) HR.o.2.low.size);have HC:=aa (KY wr _ ag HPw.o (by have:=Hn.o;omega) i JL.2)
     have sr:=aa HR.o.2;have tk:=dK (yk ag i) (fun y hy=>Hr.o y (QB _ (Q6 (Za hy))):∀x∈bG ag i,0≤x∧x≤65535);have Hll:Af (l.length≤1000):=by
      have:=XF List.length HL.o.2;rw[Qq,Qo,Qq,Qq,Qu] at this;have h1:a.length≤100:=by rw[←Hn.o.1];exact Hn.o.2.2.2.2.1
      have h2:b.length≤100:=by rw[←Hn.o.2.1];exact Hn.o.2.2.2.2.2.1
      exact Qh (Xg this) (Qh (Nat.add_le_add h1 (Qh (Nat.min_le_right _ _) h2)) (by decide))
     clear aJ JL hi hx wA MB hf hca hcp HR;go_upto_region 12 with(first
      |(go_at_call 114;go_must(refine HC.o.mono ?_);rintro e W2 ⟨⟨cv,rfl,o2⟩,rfl⟩;have HN:=aa (yo _ cv (bG ag i) o2 (Qh tk.o.1 (by decide)) tk.o.2);clear o2)
      |(go_at_call 53;go_must(refine HN.o.mono ?_);rintro e W2 ⟨nv,rfl,o2,b2⟩;have O2:=aa o2;have B2:=aa b2;have HE:=aa (lX W2 4 (.inl rfl) nv (bG ag i) (aB.sl o2) tk.o.1 (fun y hy=>by have:=tk.o.2 y hy;omega));clear o2 b2)
      |(go_at_call 73;go_must(refine HE.o.mono ?_);rintro e W3 ⟨g,hg,rfl,o3,b3⟩;have O3:=aa o3;have B3:=aa b3;have G3:=aa hg;clear o3 b3 hg))
     have py:=aa (sr.o.low.trans ((B2.o.trans (B3.o.mono B2.o.size)).mono sr.o.low.size));have NT:=aa (B2.o.trans (B3.o.mono B2.o.size));have OS3:=aa (HL.o.1.on NT.o);have uc:=Qh B2.o.size G3.o;have E8:=lY (k:=4) (l:=bG ag i) ⟨by decide,by decide⟩ tk.o.1;have hS:=eB.OC HL.o.1 (fun x hx=>Qn (Hd.o x hx) sr.o.low.size);have JU:=aa (nF W3 (Iz S (Value.slice A0 n0 c0).ownBlock) d x (.slice (some ⟨g,0,none⟩) 128 128) (encI 4 (bG ag i)) (O3.o.whole E8.1 E8.2) (jD fun e=>XI _ (Qn (hS g e) uc)) (fun x hx=>Qn (hS x hx) NT.o.size));have z1:=(NT.o.cell (p:=⟨w.heap.size,1,none⟩) sr.o.box.lt).trans y1b;have z2:=(NT.o.cell (p:=⟨bp,op+i,none⟩) (Qn hbp sr.o.low.size)).trans y2;clear y0 y1 y1b y2 HC HE HN E8 hS uc;go_wp2_with(first
      |(go_at_call 45;go_must(refine JU.o.mono ?_);rintro e W4 ⟨fv,rfl,s4,b4⟩;have S4:=aa s4;have B4:=aa b4;have K4:=aa (Jy OS3.o S4.o B4.o);clear s4 b4)
      |(at_builtin;(with_reducible refine wl_app_st (os:= .tmp 60) (ox:= .tmp 69) (base:=w.heap.size) (m:=[(fv,.wr x (encI 4 (bG ag i)))]) K4.o.1 K4.o.2.1 K4.o.2.2 ?_ ?_ ?_ ?_ ?_);go_must((·have:=Hll.o;simp;omega);(·exact Qh py.o.size (Qh B4.o.size (by simp)));(·rfl);(·rfl);intro v5 W5 o5 g5;have O5:=aa o5;have G5:=aa g5;clear o5 g5)))
     go_roundw
     case rel=>
      have aU:Below w.heap.size w W5:=((py.o.trans (B4.o.mono py.o.size)).alloc (Qh py.o.size B4.o.size) _).grown G5.o (Qh py.o.size (Qh B4.o.size (by simp))) (fun j e=>(Xr OS3.o.1 j e).1);have WA:aq W5 w.heap.size 36 [.slice Ap np cp,.slice (some ⟨bp,op,none⟩) nd cd]:=by
       have q:=((sr.o.box.on NT.o).on B4.o).alloc (.cells #[fv] 120);exact q.grown G5.o (fun e=>aq.not_row q (by decide) K4.o.1.1 e.symm)
      refine⟨k+1,by first|rfl|(rw[eu.o];rfl),bj.o,⟨_,O5.o,?_⟩,WA,aU⟩
      rw[tH.o,←QY,QL,HL.o.2];rfl
     case measure=>first|exact al bj.o|(rw[eu.o];exact al bj.o)
    ·have i1:¬(k:Int)<nb:=by omega
     have Hk:Af ((b.take k).map (sy ag au)=b.map (sy ag au)):=by
      show _=_;rw[Qj (by have:=Hn.o;omega)]
     have sr:=aa HR.o.2.low;rw[Hk.o] at HL;clear HR aJ Hk;go_wp2_with fail;go_ret;exact⟨_,rfl,l,HL.o.1,HL.o.2,sr.o⟩
end
end Go.Proofs.YthgdhacopamklaaGreat

/- What HashNone asks, part 30 of 41: parts of the walks and laws, each true as it stands. -/
import Derived.Test.YthgdhacopamklaaGreatTBC
set_option maxHeartbeats 16000000
set_option maxRecDepth 100000
set_option linter.unusedVariables false
set_option linter.unusedSimpArgs false
namespace Go.Proofs.YthgdhacopamklaaGreat
open Go.Proofs.Tryz
section
open Go.RowKit
attribute [local go_sem] Oper.semAt_some
variable {ao cs gone : List ak} {k : Nat} {c : ak}
structure qo (c:ak):Prop where
 kp:ru c
 d8:c.depth≤8
 f256:c.ax<256
 ne:c.ah≠[]
def rF (cs:List ak) (c:ak):Bool:=dz c&&decide (Bf cs c.ax=some c)
theorem yE (h:gone[k]? =some c) (hb:rF cs c=false):kW cs gone ao=false:=by
 have:gone.all (fun c=>dz c&&decide (Bf cs c.ax=some c))=false:=by rw[Xf];intro h1;have h2:=XT.1 h1 c (Qi h);unfold rF at hb;rw[hb] at h2;cases h2
 unfold kW;rw[this];rfl
theorem LO (h:ao[k]? =some c) (hb:dz c=false):kW cs gone ao=false:=by
 have:ao.all dz=false:=by rw[Xf];intro h1;have h2:=XT.1 h1 c (Qi h);rw[hb] at h2;cases h2
 unfold kW;rw[this];simp
theorem Df {α:Type} {p:α→Bool} {l:List α} {x:α} (h:(l.take k).all p=true) (hx:l[k]? =some x) (hp:p x=true):(l.take (k+1)).all p=true:=by
 rw[aA l k x hx,List.all_append,h];simpa using hp
theorem MU.slot {s:aX} {dep:Nat} {ae:List (Nat×Int)} {at_:List Int} (h:MU s dep ae at_ cs) {n:Nat} (hn:n<256):
  ∃(j i:Nat) (sg:Nat×Int) (c:ak),ae[j]? =some sg∧cs[j]? =some c∧i<sg.1∧n/2^(8 - dep)=aC ae j+i∧Bf cs n=some c:=by
 have hd:=h.dir.oH.d8;have hq:n/2^(8 - dep)<(expand ae).length:=by rw[h.dir.oH.sum];refine(Nat.div_lt_iff_lt_mul (Nat.two_pow_pos _)).2 ?_;rw[←Nat.pow_add,show dep+(8 - dep)=8 by omega];exact hn
 obtain⟨j,sg,i,hj,hi,he⟩:=lo ae _ hq;obtain⟨c,hc⟩:=h.at_seg hj;obtain⟨-,-,-,h4,e,h5,h6,h7⟩:=h.ch j sg c hj hc;obtain⟨e',g1,g2,g3⟩:=h.dir.oH.two j sg hj;refine⟨j,i,sg,c,hj,hc,hi,he,h.aaP.find (Qi hc) ?_⟩;rw[h4,h7];exact CF h5 hd (by rw[←h6];exact g3) (by rw[←h6];exact hi) he
section
variable {P : Program} {w : Wo} {Q : Exit → Act → Wo → Prop} {a : Act} {dst : Option Tmp} {x : Operand} {t ty : TypeId} {pos : String} {after : Array Edge} {K : Act → Wo → Prop}
theorem kg (p v:Va) (hx:a.eval x=p) (h:(Instr.loadAt t p).run P w= .ok v w) (hk:K (a.put dst v) w):Oper.wp P ⟨dst,.load t x,ty,pos,after,none⟩ a w K Q:=by
 unfold Oper.wp;rw[←hx] at h;simp[execOp,h,Result.andThen];exact hk
end
theorem Pm:∀(zs:List Int) (a:Int),1<zs.foldl max a↔1<a∨∃x∈zs,1<x
 |[],a=>by simp
 |z::r,a=>by
  rw[List.foldl_cons,Pm r (max a z)];constructor
  ·rintro(h|⟨x,hx,h⟩)
   ·by_cases h1:1<a
    ·exact Or.inl h1
    ·exact Or.inr ⟨z,Qm ..,by omega⟩
   ·exact Or.inr ⟨x,Qs _ hx,h⟩
  ·rintro(h|⟨x,hx,h⟩)
   ·exact Or.inl (by omega)
   ·rcases QA.1 hx with rfl|hx
    ·exact Or.inl (by omega)
    ·exact Or.inr ⟨x,hx,h⟩
theorem Ru {l:List Nat} (hl:l≠[]):decide (1<Lib.maxOf (l.map fun k:Nat=>(k:Int)))= !(l.all fun k=>decide (k≤1)):=by
 rw[XD,XS,Bool.not_eq_true',List.all_eq_false];unfold Lib.maxOf;rw[Pm];cases l with
 |nil=>exact absurd rfl hl
 |cons a r=>
  constructor
  ·rintro(h|⟨x,hx,h⟩)
   ·exact⟨a,Qm ..,by have h:(1:Int)<(a:Int):=h;simp;omega⟩
   ·obtain⟨y,hy,rfl⟩:=QU.1 hx;exact⟨y,hy,by simp;omega⟩
  ·rintro⟨x,hx,h⟩;exact Or.inr ⟨(x:Int),QU.2 ⟨x,hx,rfl⟩,by simp at h;omega⟩
theorem ly {w:Wo} {g g' :Nat} {t:TypeId} {cs:List Va} (h:aq w g t cs) (bT:g≠g') (c:Array Va):aq (w.setRow g' c) g t cs:=by
 unfold aq at h⊢;unfold World.setRow;simp only[Array.getElem?_modify,Xd (Xm bT),h]
theorem Fw (W:Wo) (l1 l2:List Va) (h1:l1.length=256) (h2:l2.length=256) (o1:∀u∈l1,u.oneCell' =true) (o2:∀u∈l2,u.oneCell' =true):
  ∃W5 W6,(Instr.storeAt 247 (.pointer (some ⟨W.heap.size,0,none⟩)) (.agg l1.toArray)).run prog ((W.alloc (.cells Tryz.zeroCells247 247)).alloc (.cells Tryz.zeroCells247 247))= .ok () W5∧(Instr.storeAt 247 (.pointer (some ⟨W.heap.size+1,0,none⟩)) (.agg l2.toArray)).run prog W5= .ok () W6∧
   aq W6 W.heap.size 247 l1∧aq W6 (W.heap.size+1) 247 l2∧Below W.heap.size W W6:=by
 obtain⟨Z,hZ⟩:∃Z,Z=Tryz.zeroCells247:=⟨_,rfl⟩;have hZ0:Z=(List.replicate 256 (Value.int .i64 0)).toArray:=by rw[hZ];kernel_rfl
 rw[←hZ];obtain⟨W3,cD⟩:∃y,y=W.alloc (.cells Z 247):=⟨_,rfl⟩;have X3:aq W3 W.heap.size 247 (List.replicate 256 (Value.int .i64 0)):=by rw[cD,hZ0];exact ar W _ _
 have b3:Below W.heap.size W W3:=by rw[cD];exact aF _ _
 have s3:W3.heap.size=W.heap.size+1:=by rw[cD];simp
 rw[←cD];obtain⟨W4,j7⟩:∃y,y=W3.alloc (.cells Z 247):=⟨_,rfl⟩;have X4:aq W4 W3.heap.size 247 (List.replicate 256 (Value.int .i64 0)):=by rw[j7,hZ0];exact ar W3 _ _
 have b4:Below W3.heap.size W3 W4:=by rw[j7];exact aF _ _
 rw[←j7];rw[s3] at X4;have Y4:=X3.on b4;have WK:=b3.trans (b4.mono b3.size);have r1:=jo (P:=prog) (new:=l1) Y4 (by rw[h1];exact uI) (by rw[h1];simp) o1
 have Y5:=lZ Y4 l1;have X5:=ly X4 (show W.heap.size+1≠W.heap.size by omega) l1.toArray;have b5:=below_setRow WK (Qg _) l1.toArray;have r2:=jo (P:=prog) (new:=l2) X5 (by rw[h2];exact uI) (by rw[h2];simp) o2
 exact⟨_,_,r1,r2,ly Y5 (show W.heap.size≠W.heap.size+1 by omega) l2.toArray,lZ X5 l2,below_setRow b5 (Q0 _) _⟩
theorem LP (w:Wo) (I:bF) (s:aX) (h:cR w I s) (dep:Nat) (ae:List (Nat×Int)) (at_:List Int) (cs:List ak) (hk:MU s dep ae at_ cs) (dv:Va) (ue:Ns w w.heap.size .u16 dv (expand ae)) (S:Nat→Prop) (gv cv:Va) (gone ao:List ak) (hg:mI w S gv gone) (hc:mI w S cv ao) (AU:gone.length≤20) (oJ:ao.length≤10000) (JM:∀c∈gone,qo c) (AW:∀c∈ao,qo c):
  Calls prog 65 #[.pointer (some ⟨I.b,0,none⟩),.agg #[.int .u8 dep,dv],gv,cv] w fun r w' =>r= .returned (.int .i64 (if kW cs gone ao then 0 else 2))∧Below w.heap.size w w' :=by
 obtain⟨Ag,cg,rfl⟩:=hg.form;obtain⟨Ac,cc,rfl⟩:=hc.form;obtain⟨Ad,cd,rfl,-,-⟩:=ue.form;obtain⟨G,hG⟩:=eX gone.length;obtain⟨C,hC⟩:=eX ao.length;obtain⟨nd,im⟩:=eX ((expand ae).length);obtain⟨EV,hEV⟩:∃e:Int,e=if kW cs gone ao then 0 else 2:=⟨_,rfl⟩
 have J1:Ns w w.heap.size .u16 (.slice Ad nd cd) (expand ae):=by rw[im];exact ue
 rw[←hG,←hC,←hEV,←im];have HG:=aa hg;have HC:=aa hc;have HB:=iJ h hk J1;have HN:=hI7 hG hC (by omega:G≤20) (by omega:C≤10000) hEV JM AW;obtain⟨W1,aW,X1,b1⟩:=nW w [.int .u8 dep,.slice Ad nd cd] 133;obtain⟨db,iU⟩:=eX w.heap.size;rw[←iU] at X1;have tl:=iJ X1 b1 (by rw[iU];exact Qg _:w.heap.size≤db);have gB:=dK aW.symm iU.symm;obtain⟨E,hE⟩:=eX (8 - dep);have HE:=aa hE;have e2:min E 64=E:=Zh (by omega);have e3:(0:Int)≤E:=Xh E;have qc:=hk.dir.oH.d8;have e4:IntKind.i64.wrap (dep:Int)=dep:=by simp only[XN];omega
 have e5:IntKind.i64.wrap (8 - (dep:Int))=E:=by simp only[XN];omega
 have e6:wrap64 (8 - (dep:Int))=E:=by unfold wrap64;omega
 clear h hk ue J1 hg hc hG hC im hEV AU oJ JM AW aW X1 b1 iU hE qc;go_enter func65,ntmps65;go_upto_region 1 with fail
 rw[gB.o.1,gB.o.2];go_wp2_with fail;go_loopw [19] (fun iv wr=>∃k:Nat,iv= .int .i64 k∧Af (k≤G∧(gone.take k).all (rF cs)=true∧aq wr db 133 [.int .u8 dep,.slice Ad nd cd]∧Below w.heap.size w wr)) (fun iv _=>G - (intOf iv).toNat)
 case atStart=>exact⟨0,rfl,Qp _,rfl,tl.o.1,tl.o.2.1⟩
 case round=>
  obtain⟨k,rfl,HR⟩:=hrel;by_cases hk:k<G
  ·obtain⟨c,jV⟩:∃c,gone[k]? =some c:=⟨_,Qf (by rw[←HN.o.1];exact hk)⟩;obtain⟨b,o,rr,A1,A2,m1,c1,m2,c2,hv,bO,z0,z1,z2,z3,kG⟩:=HG.o.lG jV;obtain rfl:Ag=some ⟨b,o,none⟩:=by injection hv
   have jZ:=HN.o.2.2.2.2.2.1 c (Qi jV);have aU:=HR.o.2.2.2;have y0:=(aU.cell (p:=⟨b,o+k*4,none⟩) bO).trans z0;have y1:=(aU.cell (p:=⟨b,o+k*4+1,none⟩) bO).trans z1;have y2:=(aU.cell (p:=⟨b,o+k*4+2,none⟩) bO).trans z2;have y3:=(aU.cell (p:=⟨b,o+k*4+3,none⟩) bO).trans z3;obtain⟨fr,eo⟩:=eX c.ax;obtain⟨dp,eK⟩:=eX c.depth;rw[←eo] at y0;rw[←eK] at y1;obtain⟨W3,cD,X3,b3⟩:=nW wr [.int .i64 fr,.int .i64 dp,.slice A1 m1 c1,.slice A2 m2 c2] 50;obtain⟨gx,pZ⟩:=eX wr.heap.size;rw[←pZ] at X3;have ES:=aU.trans (b3.mono aU.size);have xH:jw W3 S (.agg #[.int .i64 fr,.int .i64 dp,.slice A1 m1 c1,.slice A2 m2 c2]) c:=by rw[eo,eK];exact kG.on ES
   obtain⟨R,hR⟩:=eX (dz c);have mn:=pJ W3 c _ xH.chn jZ.d8 jZ.f256 jZ.ne jZ.kp.len (by rw[←jZ.kp.len];exact jZ.kp.y7);rw[←hR] at mn;replace mn:=aa mn;obtain⟨x0,x1,x2,x3⟩:=mm X3;have mT:=dK cD.symm pZ.symm;have H3:=Ba X3 (HR.o.2.2.1.on b3) ES xH (by rw[pZ];exact aU.size:w.heap.size≤gx);have HX:=Nv jV hk jZ hR eo HR.o.2.1;obtain⟨u1,u2,u3⟩:=bR hk (Qh HN.o.2.2.1 (show 20≤100000 by decide)) (by decide);have Hu:=aa u1;clear jV hv bO z0 z1 z2 z3 kG jZ aU eo eK cD X3 b3 pZ ES xH hR HR hk u1;go_upto_region 4 with fail
   rw[mT.o.1,mT.o.2];clear y0 y1 y2 y3;cases R
   ·have HT:Af (EV=2):=by show _=_;rw[HN.o.2.2.2.2.1,yE HX.o.1 (by unfold rF;rw[←HX.o.2.2.2.1];rfl)];rfl
    go_wp2_with(go_at_call 125;go_must(refine mn.o.mono ?_);rintro e W4 ⟨rfl,b4⟩;have B4:=aa b4;clear b4)
    all_goals(try rw[Qv])
    all_goals go_ret
    all_goals exact⟨by rw[HT.o];rfl,H3.o.2.2.1.trans (B4.o.mono H3.o.2.2.1.size)⟩
   ·go_upto_region 6 with(go_at_call 125;go_must(refine mn.o.mono ?_);rintro e W4 ⟨rfl,b4⟩;have B4:=aa b4;clear b4)
    clear x0 x1 x2 x3;obtain⟨j,i,sg,cj,hj,Z0,hi,hq,kJ⟩:=HB.o.2.1.slot HX.o.2.2.1.f256;obtain⟨q,hqd⟩:=eX (c.ax/2^(8 - dep));have q1:((fr:Int)/2^E)=(q:Int):=by rw[show((2:Int)^E)=((2^E:Nat):Int) from(Int.natCast_pow 2 E).symm,←Int.natCast_ediv,hqd,HX.o.2.2.2.2.1,HE.o]
    have l4:=H3.o.2.2.1.trans (B4.o.mono H3.o.2.2.1.size);have xC:=below_drewN (Xj W4.heap.size W4) 1;obtain⟨Wd,dJ⟩:=eX W4.drew;have ld:Below w.heap.size w Wd:=by rw[dJ];exact l4.drew
    have hWB:Below W3.heap.size W3 Wd:=by rw[dJ];exact B4.o.drew
    have d0:Wd.cell? ⟨db,0,none⟩=some (.int .u8 dep):=(H3.o.2.1.on hWB).cell rfl;have d1:Wd.cell? ⟨db,1,none⟩=some (.slice Ad nd cd):=(H3.o.2.1.on hWB).cell rfl;have x0:Wd.cell? ⟨gx,0,none⟩=some (.int .i64 fr):=(H3.o.1.on hWB).cell rfl;have Ep:Af (∀W:Wo,Below Wd.heap.size Wd W→Calls prog 56 #[.pointer (some ⟨I.b,0,none⟩),.agg #[.int .u8 dep,.slice Ad nd cd],.int .i64 q] W fun e W' =>∃bv sv ps,e= .returned (.tuple #[.agg #[.int .i64 cj.ax,.int .i64 cj.depth,bv,sv],.int .i64 0])∧aB W' W.heap.size 3 .i64 bv cj.blocks∧gj W' W.heap.size sv ps∧ps.map Prod.fst=cj.ah∧Below W.heap.size W W'):=fun W hW=>by have lw:=ld.trans (hW.mono ld.size);have h1:=nR W I s (HB.o.1.on lw) dep ae at_ cs HB.o.2.1 (.slice Ad nd cd) (Sl.more (Sl.below HB.o.2.2 lw) lw.size) j i sg cj hj Z0 hi;rw[←hq,←hqd] at h1;exact h1
    have HJ:=kH kJ ld hWB (Qi Z0);have AG:=aa dJ.symm;clear hj Z0 hi hq kJ hqd l4 xC dJ ld hWB;go_cut [11,12] from 26 to 38 (fun v11 v12 W=>∃(g:Nat) (m:tL),m.c=cj∧v11= .pointer (some ⟨g,0,none⟩)∧v12= .int .i64 0∧Af (aq W g 50 [.int .i64 cj.ax,.int .i64 cj.depth,m.bv,m.sv]∧rl W Wd.heap.size m∧Below Wd.heap.size Wd W))
    case first=>
     refine bL (fun j=>[15].contains j) (fun W=>Below Wd.heap.size Wd W) (by kernel_rfl) ?_;rw[AG.o];have L:=Xj Wd.heap.size Wd;refine tK 0 27 (.pointer (some ⟨I.b,0,none⟩)) rfl rfl rfl (by kernel_rfl) (fun _ _ _ h=>h) (fun W hW=>by go_simp) L ?_
     try simp only[Act.put,Qb,Qc,Qd]
     refine tK 1 28 (.agg #[.int .u8 dep,.slice Ad nd cd]) rfl rfl rfl (by kernel_rfl) (fun _ _ _ h=>h) (fun W hW=>by have h0_:=(hW.cell (XX d0)).trans d0;have h1_:=(hW.cell (XX d1)).trans d1;go_simp) L ?_
     try simp only[Act.put,Qb,Qc,Qd]
     refine tK 2 29 (.pointer (some ⟨gx,0,none⟩)) rfl rfl rfl (by kernel_rfl) (fun _ _ _ h=>h) (fun W hW=>by go_simp) L ?_
     try simp only[Act.put,Qb,Qc,Qd]
     refine tK 3 30 (.int .i64 fr) rfl rfl rfl (by kernel_rfl) (fun _ _ _ h=>h) (fun W hW=>by have h0_:=(hW.cell (XX x0)).trans x0;go_simp) L ?_
     try simp only[Act.put,Qb,Qc,Qd]
     refine tK 4 31 (.pointer (some ⟨db,0,none⟩)) rfl rfl rfl (by kernel_rfl) (fun _ _ _ h=>h) (fun W hW=>by go_simp) L ?_
     try simp only[Act.put,Qb,Qc,Qd]
     refine tK 5 32 (.int .u8 dep) rfl rfl rfl (by kernel_rfl) (fun _ _ _ h=>h) (fun W hW=>by have h0_:=(hW.cell (XX d0)).trans d0;go_simp) L ?_
     try simp only[Act.put,Qb,Qc,Qd]
     refine tK 6 33 (.int .i64 dep) rfl rfl rfl (by kernel_rfl) (fun _ _ _ h=>h) (fun W hW=>by go_simp) L ?_
     try simp only[Act.put,Qb,Qc,Qd]
     refine tK 7 34 (.int .i64 E) rfl rfl rfl (by kernel_rfl) (fun _ _ _ h=>h) (fun W hW=>by go_simp) L ?_
     try simp only[Act.put,Qb,Qc,Qd]
     refine tK 8 35 (.int .i64 q) rfl rfl rfl (by kernel_rfl) (fun _ _ _ h=>h) (fun W hW=>by go_simp) L ?_
     try simp only[Act.put,Qb,Qc,Qd]
     refine ma (rs:=[9,13]) (by kernel_rfl) (by simp) ?_;refine cT.cons rfl (fun K hK=> ?_) (cT.cons rfl (fun K hK=> ?_) cT.nil)
     ·skip
      go_simp;go_at_call 56;refine Calls.mono (Ep.o Wd L) ?_;rintro e V9 ⟨bv9,sv9,Eu,rfl,o9,p9,q9,b9⟩;obtain⟨Ab,nb,cb,rfl⟩:=o9.bu;obtain⟨As,ns,Bd,rfl⟩:=p9.form;have O9:rl V9 Wd.heap.size ⟨cj,.slice Ab nb cb,.slice As ns Bd,Eu⟩:=rl.low (m:=⟨cj,.slice Ab nb cb,.slice As ns Bd,Eu⟩) ⟨o9,p9,q9⟩ L.size;clear o9 p9;have L:=L.trans (b9.mono L.size);go_simp;refine hK.out _ _ (fun _=>L) ?_;clear hK K
      try simp only[Act.put,Qb,Qc,Qd]
      refine tK 10 26 (.tuple #[.agg #[.int .i64 cj.ax,.int .i64 cj.depth,.slice Ab nb cb,.slice As ns Bd],.int .i64 0]) rfl rfl rfl (by kernel_rfl) (fun _ _ _ h=>h) (fun W hW=>by go_simp) L ?_
      try simp only[Act.put,Qb,Qc,Qd]
      refine tK 11 37 (.agg #[.int .i64 cj.ax,.int .i64 cj.depth,.slice Ab nb cb,.slice As ns Bd]) rfl rfl rfl (by kernel_rfl) (fun _ _ _ h=>h) (fun W hW=>by go_simp) L ?_
      try simp only[Act.put,Qb,Qc,Qd]
      refine tK 12 38 (.int .i64 0) rfl rfl rfl (by kernel_rfl) (fun _ _ _ h=>h) (fun W hW=>by go_simp) L ?_
      try simp only[Act.put,Qb,Qc,Qd]
      refine ju 13 rfl (by kernel_rfl) fun K hK=> ?_
      obtain⟨V13,Ob,TW,mO⟩:=nW V9 [.int .i64 0,.int .i64 0,.slice none 0 0,.slice none 0 0] 50;obtain⟨g13,zl⟩:=eX V9.heap.size;rw[←zl] at TW;have G13:Wd.heap.size≤g13:=by rw[zl];exact L.size
      have L:=L.trans (mO.mono L.size);go_simp;rw[←Ob,←zl];clear Ob zl;refine hK.out _ _ (fun _=>L) ?_;clear hK K
      try simp only[Act.put,Qb,Qc,Qd]
      refine ju 14 rfl (by kernel_rfl) fun K hK=> ?_
      have TV:aq V13 g13 50 [.int .i64 0,.int .i64 0,.slice none 0 0,.slice none 0 0]:=by first|exact TW|exact TW.on b9
      have TZ:rl V13 Wd.heap.size ⟨cj,.slice Ab nb cb,.slice As ns Bd,Eu⟩:=by first|exact O9|exact O9.on mO
      obtain⟨z0,z1,z2,z3⟩:=mm TV;obtain⟨f0,f1,f2,f3⟩:=WI TV;go_simp;have X15:=oW TV (.int .i64 cj.ax) (.int .i64 cj.depth) (.slice Ab nb cb) (.slice As ns Bd);have TY:=lO TV TZ.b TZ.s L G13 (.int .i64 cj.ax) (.int .i64 cj.depth) (.slice Ab nb cb) (.slice As ns Bd);have L15:=TY.2.2;obtain⟨V15,Oa⟩:=eX ((((V13.setCell ⟨g13,0,none⟩ (.int .i64 cj.ax)).setCell ⟨g13,1,none⟩ (.int .i64 cj.depth)).setCell ⟨g13,2,none⟩ (.slice Ab nb cb)).setCell ⟨g13,3,none⟩ (.slice As ns Bd));rw[←Oa] at X15 TY L15⊢;clear Oa z0 z1 z2 z3 f0 f1 f2 f3;have L:=L15;refine hK.out _ _ (fun _=>L) ?_;clear hK K
      try simp only[Act.put,Qb,Qc,Qd]
      refine ju 15 rfl (by kernel_rfl) fun K hK=> ?_
      go_simp;refine hK.out _ _ (fun h=>absurd h (by decide)) ?_;clear hK K
      try simp only[Act.put,Qb,Qc,Qd]
      refine bD (by kernel_rfl) ?_ _;go_wp2_with fail;go_meet;exact⟨g13,⟨cj,.slice Ab nb cb,.slice As ns Bd,Eu⟩,rfl,rfl,rfl,X15,⟨TY.1,TY.2.1,TZ.p⟩,L15⟩
     ·skip
      obtain⟨V13,Ob,TW,mO⟩:=nW Wd [.int .i64 0,.int .i64 0,.slice none 0 0,.slice none 0 0] 50;obtain⟨g13,zl⟩:=eX Wd.heap.size;rw[←zl] at TW;have G13:Wd.heap.size≤g13:=by rw[zl];exact L.size
      have L:=L.trans (mO.mono L.size);go_simp;rw[←Ob,←zl];clear Ob zl;refine hK.out _ _ (fun _=>L) ?_;clear hK K
      try simp only[Act.put,Qb,Qc,Qd]
      refine ju 9 rfl (by kernel_rfl) fun K hK=> ?_
      go_simp;go_at_call 56;refine Calls.mono (Ep.o V13 L) ?_;rintro e V9 ⟨bv9,sv9,Eu,rfl,o9,p9,q9,b9⟩;obtain⟨Ab,nb,cb,rfl⟩:=o9.bu;obtain⟨As,ns,Bd,rfl⟩:=p9.form;have O9:rl V9 Wd.heap.size ⟨cj,.slice Ab nb cb,.slice As ns Bd,Eu⟩:=rl.low (m:=⟨cj,.slice Ab nb cb,.slice As ns Bd,Eu⟩) ⟨o9,p9,q9⟩ L.size;clear o9 p9;have L:=L.trans (b9.mono L.size);go_simp;refine hK.out _ _ (fun _=>L) ?_;clear hK K
      try simp only[Act.put,Qb,Qc,Qd]
      refine tK 10 26 (.tuple #[.agg #[.int .i64 cj.ax,.int .i64 cj.depth,.slice Ab nb cb,.slice As ns Bd],.int .i64 0]) rfl rfl rfl (by kernel_rfl) (fun _ _ _ h=>h) (fun W hW=>by go_simp) L ?_
      try simp only[Act.put,Qb,Qc,Qd]
      refine tK 11 37 (.agg #[.int .i64 cj.ax,.int .i64 cj.depth,.slice Ab nb cb,.slice As ns Bd]) rfl rfl rfl (by kernel_rfl) (fun _ _ _ h=>h) (fun W hW=>by go_simp) L ?_
      try simp only[Act.put,Qb,Qc,Qd]
      refine tK 12 38 (.int .i64 0) rfl rfl rfl (by kernel_rfl) (fun _ _ _ h=>h) (fun W hW=>by go_simp) L ?_
      try simp only[Act.put,Qb,Qc,Qd]
      refine ju 14 rfl (by kernel_rfl) fun K hK=> ?_
      have TV:aq V9 g13 50 [.int .i64 0,.int .i64 0,.slice none 0 0,.slice none 0 0]:=by first|exact TW|exact TW.on b9
      have TZ:rl V9 Wd.heap.size ⟨cj,.slice Ab nb cb,.slice As ns Bd,Eu⟩:=by first|exact O9|exact O9.on mO
      obtain⟨z0,z1,z2,z3⟩:=mm TV;obtain⟨f0,f1,f2,f3⟩:=WI TV;go_simp;have X15:=oW TV (.int .i64 cj.ax) (.int .i64 cj.depth) (.slice Ab nb cb) (.slice As ns Bd);have TY:=lO TV TZ.b TZ.s L G13 (.int .i64 cj.ax) (.int .i64 cj.depth) (.slice Ab nb cb) (.slice As ns Bd);have L15:=TY.2.2;obtain⟨V15,Oa⟩:=eX ((((V9.setCell ⟨g13,0,none⟩ (.int .i64 cj.ax)).setCell ⟨g13,1,none⟩ (.int .i64 cj.depth)).setCell ⟨g13,2,none⟩ (.slice Ab nb cb)).setCell ⟨g13,3,none⟩ (.slice As ns Bd));rw[←Oa] at X15 TY L15⊢;clear Oa z0 z1 z2 z3 f0 f1 f2 f3;have L:=L15;refine hK.out _ _ (fun _=>L) ?_;clear hK K
      try simp only[Act.put,Qb,Qc,Qd]
      refine ju 15 rfl (by kernel_rfl) fun K hK=> ?_
      go_simp;refine hK.out _ _ (fun h=>absurd h (by decide)) ?_;clear hK K
      try simp only[Act.put,Qb,Qc,Qd]
      refine bD (by kernel_rfl) ?_ _;go_wp2_with fail;go_meet;exact⟨g13,⟨cj,.slice Ab nb cb,.slice As ns Bd,Eu⟩,rfl,rfl,rfl,X15,⟨TY.1,TY.2.1,TZ.p⟩,L15⟩
    case rest=>
     obtain⟨g,m,hm,rfl,rfl,HG9⟩:=hcut;obtain⟨mc,mb,ms,mp⟩:=m;obtain rfl:mc=cj:=hm;have hO:=HG9.o.2.1;obtain⟨Ab,nb,cbb,rfl⟩:=hO.b.bu;obtain⟨As,ns,css,rfl⟩:=hO.s.form;have lwc:Below W3.heap.size W3 wc:=HJ.o.2.2.1.trans (HG9.o.2.2.mono HJ.o.2.2.1.size);have oJ:mc.blocks.length≤4096:=Qh (fL cs mc HJ.o.2.2.2) HB.o.2.1.many;have kG:=HB.o.2.1;obtain⟨R2,SU⟩:=eX (decide (mc=c));have Wq:mc.ah.length=mc.blocks.length:=by obtain⟨jj,hjj⟩:=List.getElem?_of_mem HJ.o.2.2.2;have wI:=(Ql.1 hjj).1;obtain⟨h1,-⟩:=kG.ch jj _ mc (Qf (by rw[←kG.len];exact wI)) hjj;exact h1.len.symm
     have HSm:=KD wc mc c _ _ hO.chn (H3.o.2.2.2.1.on lwc).chn (Qh oJ (by decide)) (Qh HX.o.2.2.1.kp.y7 (by decide)) (by rw[Wq];exact Qh oJ (by decide));rw[←SU] at HSm;replace HSm:=aa HSm;obtain⟨g0,g1,g2,g3⟩:=mm HG9.o.1;obtain⟨z0,z1,z2,z3⟩:=mm (H3.o.1.on lwc);have HL:=aa lwc;have fF:=aa SU;clear hO lwc oJ kG SU Wq d0 d1 x0;cases R2
     ·have HT:Af (EV=2):=by
       show _=_;rw[HN.o.2.2.2.2.1,yE HX.o.1 (by unfold rF;rw[HJ.o.1];have h1:¬mc=c:=of_decide_eq_false fF.o.symm;simp[h1])]
       rfl
      go_wp2_with(go_at_call 142;go_must(refine HSm.o.mono ?_);rintro e W8 ⟨rfl,b8⟩;have B8:=aa b8;clear b8)
      all_goals(try rw[Qv])
      all_goals go_ret
      all_goals exact⟨by rw[HT.o];rfl,(H3.o.2.2.1.trans (HL.o.mono H3.o.2.2.1.size)).trans (B8.o.mono (H3.o.2.2.1.trans (HL.o.mono H3.o.2.2.1.size)).size)⟩
     ·go_wp2_with(go_at_call 142;go_must(refine HSm.o.mono ?_);rintro e W8 ⟨rfl,b8⟩;have B8:=aa b8;clear b8);refine⟨⟨k+1,by first|rfl|(rw[Hu.o];rfl),HX.o.2.1,Df HX.o.2.2.2.2.2 HX.o.1 (by unfold rF;have h1:mc=c:=XQ fF.o.symm;rw[HJ.o.1,←HX.o.2.2.2.1,h1];simp),(H3.o.2.1.on HL.o).on B8.o,(H3.o.2.2.1.trans (HL.o.mono H3.o.2.2.1.size)).trans (B8.o.mono (H3.o.2.2.1.trans (HL.o.mono H3.o.2.2.1.size)).size)⟩,by first|exact al HX.o.2.1|(rw[Hu.o];exact al HX.o.2.1)⟩
  ·have Wu:k=G:=QE HR.o.1 (QC hk);have bm:=HR.o.2.1;rw[Wu,Qj (by rw[HN.o.1];exact Qg _)] at bm;have HA:Af (gone.all (rF cs)=true∧Below w.heap.size w wr):=⟨bm,HR.o.2.2.2⟩;subst Wu;clear HR hk bm tl gB;go_wp2_with fail;go_loopw [49] (fun iv wr=>∃k:Nat,iv= .int .i64 k∧Af (k≤C∧(ao.take k).all dz=true∧Below w.heap.size w wr)) (fun iv _=>C - (intOf iv).toNat)
   case atStart=>exact⟨0,rfl,Qp _,rfl,HA.o.2⟩
   case round=>
    obtain⟨k,rfl,HR⟩:=hrel;by_cases hk:k<C
    ·obtain⟨c,jV⟩:∃c,ao[k]? =some c:=⟨_,Qf (by rw[←HN.o.2.1];exact hk)⟩;obtain⟨b,o,rr,A1,A2,m1,c1,m2,c2,hv,bO,z0,z1,z2,z3,kG⟩:=HC.o.lG jV;obtain rfl:Ac=some ⟨b,o,none⟩:=by injection hv
     have jZ:=HN.o.2.2.2.2.2.2 c (Qi jV);have aU:=HR.o.2.2;have y0:=(aU.cell (p:=⟨b,o+k*4,none⟩) bO).trans z0;have y1:=(aU.cell (p:=⟨b,o+k*4+1,none⟩) bO).trans z1;have y2:=(aU.cell (p:=⟨b,o+k*4+2,none⟩) bO).trans z2;have y3:=(aU.cell (p:=⟨b,o+k*4+3,none⟩) bO).trans z3;obtain⟨fr,eo⟩:=eX c.ax;obtain⟨dp,eK⟩:=eX c.depth;rw[←eo] at y0;rw[←eK] at y1;obtain⟨W3,cD,X3,b3⟩:=nW wr [.int .i64 fr,.int .i64 dp,.slice A1 m1 c1,.slice A2 m2 c2] 50;obtain⟨gx,pZ⟩:=eX wr.heap.size;rw[←pZ] at X3;have ES:=aU.trans (b3.mono aU.size);have xH:jw W3 S (.agg #[.int .i64 fr,.int .i64 dp,.slice A1 m1 c1,.slice A2 m2 c2]) c:=by rw[eo,eK];exact kG.on ES
     obtain⟨R,hR⟩:=eX (dz c);have mn:=pJ W3 c _ xH.chn jZ.d8 jZ.f256 jZ.ne jZ.kp.len (by rw[←jZ.kp.len];exact jZ.kp.y7);rw[←hR] at mn;replace mn:=aa mn;obtain⟨x0,x1,x2,x3⟩:=mm X3;have mT:=dK cD.symm pZ.symm;have HX:=Ba jV hk hR HR.o.2.1 ES;obtain⟨u1,u2,u3⟩:=bR hk (Qh HN.o.2.2.2.1 (show 10000≤100000 by decide)) (by decide);have Hu:=aa u1;clear jV hv bO z0 z1 z2 z3 kG jZ aU eo eK cD X3 b3 pZ ES xH hR HR hk u1;go_upto_region 15 with fail
     rw[mT.o.1,mT.o.2];clear y0 y1 y2 y3;cases R
     ·have HT:Af (EV=2):=by show _=_;rw[HN.o.2.2.2.2.1,LO HX.o.1 HX.o.2.2.1.symm];rfl
      go_wp2_with(go_at_call 125;go_must(refine mn.o.mono ?_);rintro e W4 ⟨rfl,b4⟩;have B4:=aa b4;clear b4)
      all_goals(try rw[Qv])
      all_goals go_ret
      all_goals exact⟨by rw[HT.o];rfl,HX.o.2.2.2.2.trans (B4.o.mono HX.o.2.2.2.2.size)⟩
     ·go_wp2_with(go_at_call 125;go_must(refine mn.o.mono ?_);rintro e W4 ⟨rfl,b4⟩;have B4:=aa b4;clear b4);exact⟨⟨k+1,by first|rfl|(rw[Hu.o];rfl),HX.o.2.1,Df HX.o.2.2.2.1 HX.o.1 HX.o.2.2.1.symm,HX.o.2.2.2.2.trans (B4.o.mono HX.o.2.2.2.2.size)⟩,by first|exact al HX.o.2.1|(rw[Hu.o];exact al HX.o.2.1)⟩
    ·have SJ:k=C:=QE HR.o.1 (QC hk);have bm:=HR.o.2.1;rw[SJ,Qj (by rw[HN.o.2.1];exact Qg _)] at bm;have IF:Af (ao.all dz=true∧Below w.heap.size w wr):=⟨bm,HR.o.2.2⟩;subst SJ;clear HR hk bm;obtain⟨lg,hlg⟩:=eX ((dF gone).map fun k:Nat=>(k:Int));obtain⟨lc,ZQ⟩:=eX ((dF ao).map fun k:Nat=>(k:Int));have agu:(dF gone).map (fun k:Nat=>Value.int .i64 k)=lg.map (.int .i64):=by rw[hlg,List.map_map];rfl
     have agv:(dF ao).map (fun k:Nat=>Value.int .i64 k)=lc.map (.int .i64):=by rw[ZQ,List.map_map];rfl
     obtain⟨T1,rh⟩:=eX ((lg.map (Value.int .i64)).toArray);obtain⟨T2,tG⟩:=eX ((lc.map (Value.int .i64)).toArray);have abc:=sV wr S _ gone (HG.o.on IF.o.2) (Qh (by rw[←HN.o.1];exact HN.o.2.2.1) (show 20≤10000 by decide)) (fun c hc=>⟨(HN.o.2.2.2.2.2.1 c hc).f256,(HN.o.2.2.2.2.2.1 c hc).d8⟩);have abb:=fun (W:Wo) (hW:Below wr.heap.size wr W)=>sV W S _ ao (HC.o.on (IF.o.2.trans (hW.mono IF.o.2.size))) (by rw[←HN.o.2.1];exact HN.o.2.2.2.1) (fun c hc=>⟨(HN.o.2.2.2.2.2.2 c hc).f256,(HN.o.2.2.2.2.2.2 c hc).d8⟩)
     rw[agu,←rh,←HN.o.1] at abc;simp only[agv,←tG,←HN.o.2.1] at abb;have anU:=aa abc;have anT:=aa abb;have ME:lg.length=256:=by rw[hlg];simp[dF]
     have rf:lc.length=256:=by rw[ZQ];simp[dF]
     have oO:=Nv rh tG ME rf hlg ZQ;have an6:Af (∀W:Wo,∃W5 W6,(Instr.storeAt 247 (.pointer (some ⟨W.heap.size,0,none⟩)) (.agg T1)).run prog ((W.alloc (.cells Tryz.zeroCells247 247)).alloc (.cells Tryz.zeroCells247 247))= .ok () W5∧(Instr.storeAt 247 (.pointer (some ⟨W.heap.size+1,0,none⟩)) (.agg T2)).run prog W5= .ok () W6∧aq W6 W.heap.size 247 (lg.map (.int .i64))∧aq W6 (W.heap.size+1) 247 (lc.map (.int .i64))∧Below W.heap.size W W6):=fun W=>by rw[rh,tG];exact Fw W _ _ (by rw[Qq];exact ME) (by rw[Qq];exact rf) (dW _ _) (dW _ _)
     clear hlg ZQ agu agv rh tG abc abb ME rf;go_upto_region 18 with fail
     go_upto_region 19 with(first
      |(go_at_call 143;go_must(first
       |((with_reducible refine anU.o.mono ?_);rintro e W1 ⟨rfl,b1⟩;have B1:=aa b1;clear b1)
       |((with_reducible refine(anT.o W1 B1.o).mono ?_);rintro e W2 ⟨rfl,b2⟩;have B2:=aa (B1.o.trans (b2.mono B1.o.size));have HA6:=an6.o W2;clear b2;obtain⟨W5,W6,s1,s2,x1,x2,b6⟩:=HA6;have HS1:=aa s1;have j2:=aa s2;have HX6:Af (aq W6 W2.heap.size 247 (lg.map (.int .i64))∧aq W6 (W2.heap.size+1) 247 (lc.map (.int .i64))∧Below W2.heap.size W2 W6):=⟨x1,x2,b6⟩;clear s1 s2 x1 x2 b6)))
      |((with_reducible refine wl_store (.pointer (some ⟨W2.heap.size,0,none⟩)) (.agg T1) ?_ ?_ HS1.o ?_);go_must((·rfl);(·rfl);skip))
      |((with_reducible refine wl_store (.pointer (some ⟨W2.heap.size+1,0,none⟩)) (.agg T2) ?_ ?_ j2.o ?_);go_must((·rfl);(·rfl);skip)))
     have l6:Below w.heap.size w W6:=(IF.o.2.trans (B2.o.mono IF.o.2.size)).trans (HX6.o.2.2.mono (IF.o.2.trans (B2.o.mono IF.o.2.size)).size);have N7:=fN (P:=prog) HX6.o.1 underlying247 (by rw[Qq,oO.o.2.2.1];exact uI);have N6:=fN (P:=prog) HX6.o.2.1 underlying247 (by rw[Qq,oO.o.2.2.2.1];exact uI);rw[←oO.o.1] at N7;rw[←oO.o.2.1] at N6;obtain⟨D,hD⟩:=eX (decide (lg=lc));have hq:∀W,(binOp .neq 247 (.agg T1) (.agg T2)).run prog W= .ok (.bool (!D)) W:=fun W=>by have h1:=zP W 9998 (P:=prog) (k:= .i64) (e:=3) (n:=256) underlying247 (by kernel_rfl) (by kernel_rfl) underlying3 lg lc oO.o.2.2.1 oO.o.2.2.2.1;rw[←oO.o.1,←oO.o.2.1,←hD] at h1;rw[run_neq_struct];rw[show(10000:Nat)=9998+2 from rfl,h1];simp
     have Wv:prog.eqGuardType prog.depth 247=false:=by kernel_rfl
     obtain⟨M,hM⟩:=eX (Lib.maxOf lc);have kr:=HX6.o.2.1.sl (o:=0) (n:=256) (sz:=1) (c:=256) (by rw[Qq,oO.o.2.2.2.1];decide) (Qg _) (by unfold maxLen;decide);rw[Zl,Nat.mul_one,Qj (by rw[Qq,oO.o.2.2.2.1];decide)] at kr;have pT:Ns W6 W6.heap.size .i64 (.slice (some ⟨W2.heap.size+1,0,none⟩) 256 256) lc:=by unfold Ns;rw[oO.o.2.2.2.1];exact kr
     have HMx:=amV W6 _ lc _ pT (by rw[oO.o.2.2.2.1];decide) (by rw[oO.o.2.2.2.1];decide);rw[←hM] at HMx;replace HMx:=aa HMx;obtain⟨Kv,hKv⟩:=eX (mr gone ao);have HKp:=Lv W6 S _ _ gone ao (HG.o.on l6) (HC.o.on l6) (by rw[←HN.o.1];exact HN.o.2.2.1) (by rw[←HN.o.2.1];exact HN.o.2.2.2.1) (fun c hc=>(HN.o.2.2.2.2.2.1 c hc).kp) (fun c hc=>(HN.o.2.2.2.2.2.2 c hc).kp);rw[←hKv,←HN.o.1,←HN.o.2.1] at HKp;replace HKp:=aa HKp;have HF:Af (kW cs gone ao=(D&& !decide (1<M)&&Kv)):=by
      show _=_;have h1:gone.all (fun c=>dz c&&decide (Bf cs c.ax=some c))=true:=HA.o.1;have h2:decide (dF gone=dF ao)=D:=by rw[hD,oO.o.2.2.2.2.1,oO.o.2.2.2.2.2];refine decide_eq_decide.2 ⟨fun h=>by rw[h],fun h=> ?_⟩;exact(List.map_inj_right (fun a b h=>Int.ofNat.inj h)).1 h
      have h3:((dF ao).all fun k=>decide (k≤1))= !decide (1<M):=by rw[hM,oO.o.2.2.2.2.2,Ru (by unfold dF;simp)];simp
      unfold kW;rw[h1,IF.o.1,h2,h3,←hKv];simp
     have NO:=aa l6;have HEV:=aa HN.o.2.2.2.2.1;clear hD hM kr pT hKv l6;cases D
     ·have HT:Af (EV=2):=by show _=_;rw[HEV.o,HF.o];rfl
      go_wp2_with fail;refine kg (.pointer (some ⟨W2.heap.size,0,none⟩)) (.agg T1) ?_ N7 ?_
      ·rfl
      go_wp2_with fail;refine kg (.pointer (some ⟨W2.heap.size+1,0,none⟩)) (.agg T2) ?_ N6 ?_
      ·rfl
      go_wp2_with fail
      all_goals(try rw[Qv])
      all_goals go_ret
      all_goals exact⟨by rw[HT.o];rfl,NO.o⟩
     ·by_cases hM1:1<M
      ·have HT:Af (EV=2):=by show _=_;rw[HEV.o,HF.o];simp[hM1]
       go_wp2_with fail;refine kg (.pointer (some ⟨W2.heap.size,0,none⟩)) (.agg T1) ?_ N7 ?_
       ·rfl
       go_wp2_with fail;refine kg (.pointer (some ⟨W2.heap.size+1,0,none⟩)) (.agg T2) ?_ N6 ?_
       ·rfl
       go_wp2_with(first
        |(go_at_call 144;go_must(refine HMx.o.mono ?_);rintro e W7 ⟨rfl,rfl⟩)
        |(go_at_call 145;go_must(refine HKp.o.mono ?_);rintro e W8 ⟨rfl,b8⟩;have B8:=aa (NO.o.trans (b8.mono NO.o.size));clear b8))
       all_goals(try rw[Qv])
       all_goals go_ret
       all_goals exact⟨by rw[HT.o];rfl,NO.o⟩
      ·cases Kv
       ·have HT:Af (EV=2):=by show _=_;rw[HEV.o,HF.o];simp[hM1]
        go_wp2_with fail;refine kg (.pointer (some ⟨W2.heap.size,0,none⟩)) (.agg T1) ?_ N7 ?_
        ·rfl
        go_wp2_with fail;refine kg (.pointer (some ⟨W2.heap.size+1,0,none⟩)) (.agg T2) ?_ N6 ?_
        ·rfl
        go_wp2_with(first
         |(go_at_call 144;go_must(refine HMx.o.mono ?_);rintro e W7 ⟨rfl,rfl⟩)
         |(go_at_call 145;go_must(refine HKp.o.mono ?_);rintro e W8 ⟨rfl,b8⟩;have B8:=aa (NO.o.trans (b8.mono NO.o.size));clear b8))
        all_goals(try rw[Qv])
        all_goals go_ret
        all_goals exact⟨by rw[HT.o];rfl,B8.o⟩
       ·have HT:Af (EV=0):=by show _=_;rw[HEV.o,HF.o];simp[hM1]
        go_wp2_with fail;refine kg (.pointer (some ⟨W2.heap.size,0,none⟩)) (.agg T1) ?_ N7 ?_
        ·rfl
        go_wp2_with fail;refine kg (.pointer (some ⟨W2.heap.size+1,0,none⟩)) (.agg T2) ?_ N6 ?_
        ·rfl
        go_wp2_with(first
         |(go_at_call 144;go_must(refine HMx.o.mono ?_);rintro e W7 ⟨rfl,rfl⟩)
         |(go_at_call 145;go_must(refine HKp.o.mono ?_);rintro e W8 ⟨rfl,b8⟩;have B8:=aa (NO.o.trans (b8.mono NO.o.size));clear b8))
        all_goals(try rw[Qv])
        all_goals go_ret
        all_goals exact⟨by rw[HT.o];rfl,B8.o⟩
end
theorem LW (e:aD):(rq e).length=12:=by unfold rq;rw[Qo,de,de]
theorem Ib (s:ay):(mw s).length=6+12*s.es.length:=by
 unfold mw;rw[Qo,Qo,de,List.length_flatMap];have:(s.es.map fun a=>(rq a).length)=s.es.map fun _=>12:=Zj fun x _=>LW x
 rw[this];simp[List.map_const'];omega
theorem LX (s:ay) (hd:aI s.depth) (h9:s.es.length≤9):(encS s).length=128∧∀x∈encS s,aI x:=
 ⟨oq _ _ (by rw[Ib];omega),lP (by unfold aI;decide) (nU s hd h9)⟩
end Go.Proofs.YthgdhacopamklaaGreat

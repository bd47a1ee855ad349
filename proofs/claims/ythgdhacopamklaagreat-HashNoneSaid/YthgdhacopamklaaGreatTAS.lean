/- What HashNone asks, part 19 of 41: parts of the walks and laws, each true as it stands. -/
import Derived.Test.YthgdhacopamklaaGreatTAR
set_option maxHeartbeats 16000000
set_option maxRecDepth 100000
set_option linter.unusedVariables false
set_option linter.unusedSimpArgs false
namespace Go.Proofs.YthgdhacopamklaaGreat
open Go.Proofs.Tryz
section
open Go.RowKit
attribute [local go_sem] Oper.semAt_some
def gw (l:List aD):aD→Option Int:=fun e=>if e∈l then some 1 else none
theorem Lg (l:List aD) (e:aD):eM (gw l) e 1=gw (e::l):=by
 funext z
 unfold eM gw;by_cases h:z=e<;>simp[h]
theorem Pc {k:Nat} (h:k≤4096):wrap64 ((k:Int)+1)=(k:Int)+1∧k≤4096:=by
 refine⟨?_,h⟩;unfold wrap64;omega
structure UR (w:Wo) (c:ak) (xb mb rb:Nat) (bv sv:Va) (sc:List Va) (F:Option (List aD×Int)) (k:Nat) (es:List aD) (j:Nat) (bh:Int) (seen:List aD) (wr:Wo):Prop where
 le:j≤es.length
 rest:F=(iZ c.ax c.depth k (es.drop j) (seen,bh)).bind (iA c.ax c.depth (k+1) (c.ah.drop (k+1)))
 map:MG WN wr mb (gw seen) seen.length
 box:aq wr xb 50 [.int .i64 c.ax,.int .i64 c.depth,bv,sv]
 OA:aq wr rb 92 sc
 y7:seen.length≤9*k+j
 bhs: -1≤bh∧bh<256
 low:Below w.heap.size w wr
theorem tM {x y:Int} (h:wrap64 x=y):IntKind.i64.wrap x=y:=by
 unfold wrap64 at h;rw[XN];exact h
theorem Lh:gw []=fun _=>none:=by
 funext z
 simp[gw]
structure abq (w:Wo) (c:ak) (xb mb:Nat) (bv sv:Va) (ps:List (ay×Va)) (k:Nat) (bh:Int) (seen:List aD) (wr:Wo):Prop where
 le:k≤ps.length
 rest:iA c.ax c.depth 0 c.ah ([],-1)=iA c.ax c.depth k (c.ah.drop k) (seen,bh)
 map:MG WN wr mb (gw seen) seen.length
 box:aq wr xb 50 [.int .i64 c.ax,.int .i64 c.depth,bv,sv]
 y7:seen.length≤9*k
 bhs: -1≤bh∧bh<256
 low:Below w.heap.size w wr
set_option pp.deepTerms true in
set_option pp.maxSteps 100000 in
theorem Dm (w:Wo) (c:ak) (v:Va) (h:Uq w w.heap.size v c) (hd:c.depth≤8) (hf:c.ax<256) (hm:c.ax%2^(8 - c.depth)=0) (hn:c.ah≠[]) (hl:c.blocks.length=c.ah.length) (cC:c.ah.length≤4096):
  Calls prog 125 #[v] w fun e w' =>e= .returned (.bool (iA c.ax c.depth 0 c.ah ([],-1)).isSome)∧Below w.heap.size w w' :=by
 obtain⟨bv,sv,ps,rfl,hb,hs,fc⟩:=h.ex;obtain⟨Ab,cb,rfl,-,-⟩:=hb.form;obtain⟨As,cs,rfl,-,-⟩:=hs.sl.form;obtain⟨n,j5⟩:∃n,n=ps.length:=⟨_,rfl⟩;have oc:c.ah.length=n:=by rw[j5,←fc,Qq]
 have fg:c.blocks.length=n:=hl.trans oc;rw[oc] at cC;have jU:0<n:=by rw[←oc];exact List.length_pos_iff.2 hn
 rw[fg];rw[←j5];obtain⟨k1,k2,k3⟩:=CJ (ax:=c.ax) hd;rw[hm] at k2;have HC:Af (c.depth≤8∧c.ax<256∧n≤4096∧n=ps.length∧ps.map Prod.fst=c.ah∧0<n):=⟨hd,hf,cC,j5,fc,jU⟩;have HS:=aa hs;obtain⟨W0,aY⟩:∃y,y=w.alloc (.cells #[.int .i64 c.ax,.int .i64 c.depth,.slice Ab n cb,.slice As n cs] 50):=⟨_,rfl⟩;have X0:aq W0 w.heap.size 50 [.int .i64 c.ax,.int .i64 c.depth,.slice Ab n cb,.slice As n cs]:=by rw[aY];exact ar w [_,_,_,_] _
 have B0:Af (Below w.heap.size w W0):=by rw[aY];exact aF _ _
 have fD:=aa aY.symm;have x0:=X0.cell (j:=0) rfl;obtain⟨-,x1,x2,x3⟩:=mm X0;have X0:=aa X0;obtain⟨F,hF⟩:∃F,F=iA c.ax c.depth 0 c.ah ([],-1):=⟨_,rfl⟩;have HF:=aa hF;rw[←hF];obtain⟨ax,eo⟩:∃y,y=c.ax:=⟨_,rfl⟩;obtain⟨dep,eK⟩:∃y,y=c.depth:=⟨_,rfl⟩;have HE:Af (ax=c.ax∧dep=c.depth):=⟨eo,eK⟩;rw[←eo] at x0 k2 fD;rw[←eK] at x1 k1 k2 k3 fD;rw[←eo,←eK];rw[←eo] at hf;rw[←eK] at hd;obtain⟨E,hE⟩:∃y,y=8 - dep:=⟨_,rfl⟩;rw[←hE] at k1 k2 k3;obtain⟨M,hM⟩:∃y,y=2^E:=⟨_,rfl⟩;have WH:0<M:=by rw[hM];exact Nat.pow_pos (by decide)
 rw[←hM] at k1 k2;have k8:IntKind.i64.wrap (8 - (dep:Int))=(E:Int):=tM k3;have k9:IntKind.i64.wrap ((2:Int)^E)=(M:Int):=tM k1;have Tp:min E 64=E:=Zh (by omega);have k4:¬M=0:=XO WH;have k5:¬(M:Int)=0:=by omega
 have k6:(0:Int)≤E:=Xh _;have k7:((M:Int)==0)=false:=Xc k5;rw[Int.natCast_zero] at k2;have xA:= @run_makeMap prog;have d1:¬(dep:Int)<0:=by omega
 have d2:¬8<dep:=by omega
 have d3:¬256≤ax:=by omega
 have d4:¬n=0:=by omega
 have d2i:¬(8:Int)<dep:=by omega
 have d3i:¬(256:Int)≤ax:=by omega
 have d5:¬(ax:Int)<0:=by omega
 have e1:((n:Int)==0)=false:=Xc (by omega);have e2:decide ((dep:Int)<0)=false:=Xe d1;have e3:decide ((8:Int)<dep)=false:=Xe d2i;have e4:decide ((ax:Int)<0)=false:=Xe d5;have e5:decide ((256:Int)≤ax)=false:=Xe d3i;clear hb hs fc j5 oc fg hn hl cC jU hd hf hm aY h hF eo eK hE hM WH;go_enter func125,ntmps125;go_upto_region 1 with fail
 rw[fD.o];go_wp2_with fail;go_quiet (fail);go_upto_region 4 with fail
 have M1:MG WN ((W0.drewN nq).alloc (.map #[] 0)) W0.heap.size (fun _=>none) 0:=MG.made (W0.drewN nq);have b1:Below W0.heap.size W0 ((W0.drewN nq).alloc (.map #[] 0)):=(below_drewN (Xj _ _) nq).alloc (Qg _) _;obtain⟨W1,aW⟩:∃y,y=(W0.drewN nq).alloc (.map #[] 0):=⟨_,rfl⟩;obtain⟨mb,tB⟩:∃y,y=W0.heap.size:=⟨_,rfl⟩;rw[←aW] at M1 b1⊢;rw[←tB] at M1⊢;have X1:=aa (X0.o.on b1);have y3:W1.cell? ⟨w.heap.size,3,none⟩=some (.slice As n cs):=X1.o.cell rfl;have rj:Af (abq w c w.heap.size mb (.slice Ab n cb) (.slice As n cs) ps 0 (-1) [] W1):=⟨Qp _,rfl,by rw[Lh];exact M1,X1.o,Qp _,by decide,B0.o.trans (b1.mono B0.o.size)⟩;have Hmw:Af (w.heap.size<mb):=by show _<_;rw[tB];exact X0.o.lt
 have n4:(n:Int)≤4096:=by have:=HC.o.2.2.1;omega
 clear aW tB b1 M1 x0 x1 x2 x3 k1 k2 k3 k4 k5 k6 k7 k8 k9 Tp d1 d2 d3 d4 d5 d2i d3i e1 e2 e3 e4 e5 xA fD;go_wp2_with fail;go_loopw [57,4] (fun iv bv wr=>∃(k:Nat) (bh:Int) (seen:List aD),iv= .int .i64 k∧bv= .int .i64 bh∧Af (abq w c w.heap.size mb (.slice Ab n cb) (.slice As n cs) ps k bh seen wr)) (fun iv _ _=>n - (intOf iv).toNat)
 case atStart=>exact⟨0,-1,[],rfl,rfl,rj.o⟩
 case round=>
  obtain⟨k,bh,seen,rfl,rfl,HR⟩:=hrel;by_cases hk:k<n
  ·obtain⟨p,hp⟩:∃p,ps[k]? =some p:=⟨_,Qf (by rw[←HC.o.2.2.2.1];exact hk)⟩;have hS:=HS.o.below HR.o.low;obtain⟨b,o,c',hv,hb,z0,z1,z2⟩:=hS.cells hp;obtain rfl:As=some ⟨b,o,none⟩:=by injection hv
   have eE:=hS.es p (Qi hp);obtain⟨Ae,ce,hU,-,-⟩:=eE.1.1.form;obtain⟨L,hL⟩:∃L,L=p.1.es.length:=⟨_,rfl⟩;rw[←hL] at hU;rw[hU] at z2;have Wi:c.ah.drop k=p.1::c.ah.drop (k+1):=tX (by rw[←HC.o.2.2.2.2.1,Qt,hp];rfl);have dR:=HR.o.rest;rw[Wi,lV] at dR;have HP:=aa eE;have Hps:Af (ps[k]? =some p):=hp;have Eo:Af (p.2= .slice Ae L ce∧L=p.1.es.length):=⟨hU,hL⟩;have HRe:=aa dR;have k0:(0:Int)≤k:=Xh k;have kn:(k:Int)<n:=Xi.2 hk;have Hk:Af (k<n∧k≤4096):=⟨hk,Qh (QX hk) HC.o.2.2.1⟩;obtain⟨d,hd⟩:∃d,d=p.1.depth:=⟨_,rfl⟩;obtain⟨nx,fu⟩:∃d,d=p.1.next:=⟨_,rfl⟩;have HDn:Af (d=p.1.depth∧nx=p.1.next):=⟨hd,fu⟩;rw[←hd] at z0;rw[←fu] at z1;clear hv hb hS eE hU hL Wi dR hp hd fu hk;go_upto_region 8 with fail
   have b3:=aF wr (.cells #[.int .u8 d,.int .u32 nx,.slice Ae L ce] 92);have Y3:=ar wr [.int .u8 d,.int .u32 nx,.slice Ae L ce] 92;have hle:=HR.o.low;have hM:=HR.o.map;have hX:=HR.o.box;have agK:=HR.o.y7;have abf:=HR.o.bhs;obtain⟨W3,cD⟩:∃z,z=wr.alloc (.cells #[.int .u8 d,.int .u32 nx,.slice Ae L ce] 92):=⟨_,rfl⟩;obtain⟨rb,ft⟩:∃z,z=wr.heap.size:=⟨_,rfl⟩;have wD:Af (w.heap.size<rb∧mb≠rb):=⟨by rw[ft];exact hX.lt,by rw[ft];exact XP hM.lt⟩;rw[←cD] at b3 Y3⊢;rw[←ft] at Y3⊢;have L3:=hle.trans (b3.mono hle.size);have hE3:Es W3 w.heap.size p.2 p.1.es:=HP.o.1.below (b3.mono hle.size);obtain⟨R,hR⟩:∃R,R=bC p.1:=⟨_,rfl⟩;have mn:Af (Calls prog 92 #[.agg #[.int .u8 d,.int .u32 nx,.slice Ae L ce]] W3 fun e w' =>e= .returned (.bool R)∧Below W3.heap.size W3 w'):=by have h1:=rO W3 p.1 p.2 (hE3.more L3.size) HP.o.2.1 HP.o.2.2.1;rw[←HDn.o.1,←HDn.o.2,Eo.o.1,←hR] at h1;exact h1
   have t0:=Y3.cell (j:=0) rfl;obtain⟨-,t1,t2⟩:=ra Y3;have M3:=aa (hM.on b3);have X3:=aa (hX.on b3);have Y3:=aa Y3;have L3:=aa L3;have E3:=aa hE3;have sr:Af (seen.length≤9*k∧ -1≤bh∧bh<256∧R=bC p.1):=⟨agK,abf.1,abf.2,hR⟩;clear HR b3 hle hM hX agK abf cD ft hE3 hR z0 z1 z2 y3;cases R
   ·have Um:Af (F=none):=by show _=_;rw[HF.o,HRe.o,Xo (Or.inl sr.o.2.2.2.symm)]
    go_wp2_with(go_at_call 92;go_must(refine mn.o.mono ?_);rintro e W4 ⟨rfl,b4⟩;have B4:=aa b4;have t4:=(Y3.o.on b4).cell (j:=2) rfl;clear b4)
    all_goals(try rw[Qv])
    all_goals go_ret
    all_goals exact⟨by rw[Um.o];rfl,L3.o.trans (B4.o.mono L3.o.size)⟩
   ·have Tv:¬(bC p.1=false):=by rw[←sr.o.2.2.2];decide
    by_cases eJ:0<k∧L=0
    ·have Um:Af (F=none):=by show _=_;rw[HF.o,HRe.o,Xo (Or.inr ⟨eJ.1,List.length_eq_zero_iff.1 (Eo.o.2.symm.trans eJ.2)⟩)]
     obtain⟨SK,rfl⟩:=eJ;have k1:(0:Int)<k:=Xi.2 SK;clear Tv;go_wp2_with(go_at_call 92;go_must(refine mn.o.mono ?_);rintro e W4 ⟨rfl,b4⟩;have B4:=aa b4;have t4:=(Y3.o.on b4).cell (j:=2) rfl;clear b4)
     all_goals(try rw[Qv])
     all_goals go_ret
     all_goals exact⟨by rw[Um.o];rfl,L3.o.trans (B4.o.mono L3.o.size)⟩
    ·have HFe:Af (F=(iZ c.ax c.depth k p.1.es (seen,bh)).bind (iA c.ax c.depth (k+1) (c.ah.drop (k+1)))):=by
      show _=_;rw[HF.o,HRe.o,Xd];rintro(h1|⟨h1,h2⟩)
      ·exact Tv h1
      ·exact eJ ⟨h1,by rw[Eo.o.2,h2];rfl⟩
     have ec:(decide ((0:Int)<k)&&((L:Int)==0))=false:=by
      rcases XG k with h|h
      ·subst h;rfl
      ·have:L≠0:=fun e=>eJ ⟨h,e⟩
       rw[Xc (show(L:Int)≠0 by omega),Bool.and_false]
     have hL0:0<k→¬L=0:=fun h e=>eJ ⟨h,e⟩
     have HLn:=aa hL0;clear Tv eJ ec hL0;go_cut [74] from 62 to 74 (fun v74 W=>v74= .bool false∧Af (Below W3.heap.size W3 W))
     case first=>
      rcases XG k with hz|hz
      ·subst hz;go_wp2_with(go_at_call 92;go_must(refine mn.o.mono ?_);rintro e W4 ⟨rfl,b4⟩;have B4:=aa b4;have t4:=(Y3.o.on b4).cell (j:=2) rfl;clear b4);go_meet
       exact⟨rfl,B4.o⟩
      ·have k1:(0:Int)<k:=Xi.2 hz;have l0:((L:Int)==0)=false:=Xc (by have:=HLn.o hz;omega);go_wp2_with(go_at_call 92;go_must(refine mn.o.mono ?_);rintro e W4 ⟨rfl,b4⟩;have B4:=aa b4;have t4:=(Y3.o.on b4).cell (j:=2) rfl;clear b4);go_meet
       exact⟨rfl,B4.o⟩
     case rest=>
      obtain⟨rfl,B4⟩:=hcut;have t4:=(Y3.o.on B4.o).cell (j:=2) rfl;have WR:Af (UR w c w.heap.size mb rb (.slice Ab n cb) (.slice (some ⟨b,o,none⟩) n cs) [.int .u8 d,.int .u32 nx,.slice Ae L ce] F k p.1.es 0 bh seen wc):=⟨Qp _,HFe.o,M3.o.on B4.o,X3.o.on B4.o,Y3.o.on B4.o,sr.o.1,⟨sr.o.2.1,sr.o.2.2.1⟩,L3.o.trans (B4.o.mono L3.o.size)⟩;have wN:Af (∀W,Below w.heap.size w W→Es W w.heap.size (.slice Ae L ce) p.1.es):=fun W hW=>by have h1:=(HS.o.es p (Qi Hps.o)).1.below hW;rw[Eo.o.1] at h1;exact h1
      have l9:(L:Int)≤9:=by have:=HP.o.2.2.2;rw[←Eo.o.2] at this;omega
      clear t0 t1 t2;go_wp2_with fail;go_loopw [78,4] (fun jv bv wr=>∃(j:Nat) (wK :Int) (eH :List aD),jv= .int .i64 j∧bv= .int .i64 wK∧Af (UR w c w.heap.size mb rb (.slice Ab n cb) (.slice (some ⟨b,o,none⟩) n cs) [.int .u8 d,.int .u32 nx,.slice Ae L ce] F k p.1.es j wK eH wr)) (fun jv _ _=>L - (intOf jv).toNat)
      case atStart=>exact⟨0,bh,seen,rfl,rfl,WR.o⟩
      case round=>
       obtain⟨j,wK,eH,rfl,rfl,HI⟩:=hrel;by_cases hj:j<L
       ·have Iw:=wN.o wr HI.o.low;have Ef:j<p.1.es.length:=by rw[←Eo.o.2];exact hj
        obtain⟨be,oe,ce',hU,-,-,mG,Wz⟩:=Iw.cells (QO (Qp _) Ef);obtain rfl:Ae=some ⟨be,oe,none⟩:=by injection hU
        obtain⟨q0,q1⟩:=Wz j Ef;obtain⟨x,hx⟩:∃x,x=p.1.es[j]:=⟨_,rfl⟩;rw[←hx] at q0 q1;have hxo:eR x:=by rw[hx];exact Iw.2 _ (QI _)
        have BL:p.1.es.drop j=x::p.1.es.drop (j+1):=by rw[hx];exact Zd Ef
        have dR:=HI.o.rest;rw[BL,pO] at dR;obtain⟨pr,gY⟩:∃y,y=x.print:=⟨_,rfl⟩;obtain⟨bk,ej⟩:∃y,y=x.block:=⟨_,rfl⟩;rw[←gY] at q0;rw[←ej] at q1;have Wl:bI pr:=by rw[gY];exact hxo.1
        obtain⟨N,hN⟩:∃N:Nat,pr/2^56=(N:Int):=⟨(pr/2^56).toNat,(Xp (gQ Wl).1).symm⟩;have sG:N<256:=by have:=(gQ Wl).2.1;rw[hN] at this;omega
        have ec:WN.qY x:=⟨ahu hxo.1,ahv hxo.2⟩;have HX:Af (pr=x.print∧bk=x.block∧pr/2^56=(N:Int)∧N<256∧j<p.1.es.length∧bI pr∧w.heap.size≤wr.heap.size∧WN.qY x):=⟨gY,ej,hN,sG,Ef,Wl,HI.o.low.size,ec⟩;have OX:=aa dR;have HIh:=aa HI.o;have HIm:=aa HI.o.map;have HIx:=aa HI.o.box;have HIs:=aa HI.o.OA;have HIl:=aa HI.o.low;have Hj:=aa hj;have j0:(0:Int)≤j:=Xh j;have jL:(j:Int)<L:=Xi.2 hj;clear Iw Ef hU mG Wz hx hxo BL dR gY ej Wl hN sG HI hj ec;go_upto_region 13 with fail
        have b5:=aF wr (.cells #[.int .u64 pr,.int .u32 bk] 68);have Y5:=ar wr [.int .u64 pr,.int .u32 bk] 68;obtain⟨W5,j6⟩:=eX (wr.alloc (.cells #[.int .u64 pr,.int .u32 bk] 68));obtain⟨eb,mR⟩:∃z,z=wr.heap.size:=⟨_,rfl⟩;rw[←j6] at b5 Y5⊢;rw[←mR] at Y5⊢;have v0:=Y5.cell (j:=0) rfl;have v1:=Y5.cell (j:=1) rfl;have M5:=aa (HIm.o.on b5);have X5:=aa (HIx.o.on b5);have S5:=aa (HIs.o.on b5);have L5:=aa (HIl.o.trans (b5.mono HIl.o.size));have Heb:Af (w.heap.size≤eb∧eb≠mb∧eb≠w.heap.size∧eb≠rb):=⟨by rw[mR];exact HX.o.2.2.2.2.2.2.1,by rw[mR];exact XO HIm.o.lt,by rw[mR];exact XO HIx.o.lt,by rw[mR];exact XO HIs.o.lt⟩;have HBg:=aa (lr W5 pr HX.o.2.2.2.2.2.1);rw[HX.o.2.2.1] at HBg;have Y5:=aa Y5;clear q0 q1 j6 mR b5;go_upto_region 14 with(go_at_call 141;go_must(refine HBg.o.mono ?_);rintro e W2 ⟨rfl,rfl⟩)
        have M6:MG WN W5.drew mb (gw eH) eH.length:=M5.o.aQ rfl;obtain⟨st,W6,iq,hg6,⟨f1,s1,M1,Nk⟩,cO⟩:=MG.entry af7 M6 (by have h1:=HIh.o.y7;have h2:=Hk.o.2;have h3:=HP.o.2.2.2;have h4:=HX.o.2.2.2.2.1;omega) HX.o.2.2.2.2.2.2.2;obtain⟨n1,j5⟩:∃n1:Int,n1=((gw eH x).getD 0):=⟨_,rfl⟩;have hl5:(Instr.lookup 79 (.map (some mb)) (.agg #[.int .u64 pr,.int .u32 bk]) false).run prog W5.drew= .ok (.int .i64 n1) W5.drew:=by have h1:=M6.at HX.o.2.2.2.2.2.2.2;rw[j5,HX.o.1,HX.o.2.1];exact h1
        have ZR:(Instr.lookup 79 (.map (some mb)) (.agg #[.int .u64 pr,.int .u32 bk]) false).run prog W6= .ok (.int .i64 n1) W6:=by have h1:=M1.at HX.o.2.2.2.2.2.2.2;rw[Nk] at h1;rw[j5,HX.o.1,HX.o.2.1];exact h1
        have YA :(Instr.mapEntry 79 (.map (some mb)) (.agg #[.int .u64 pr,.int .u32 bk])).run prog W5.drew= .ok (.tuple #[.int .i64 n1,goInt st]) W6:=by rw[j5,HX.o.1,HX.o.2.1];exact iq
        have hn:n1=0∨n1=1:=by rw[j5];unfold gw;split<;>simp
        have Tt:IntKind.i64.wrap (n1+1)=n1+1:=by rcases hn with h|h<;>rw[h]<;>rfl
        obtain⟨W7,sC,M7,ti⟩:=cO W6 (n1+1) rfl;have Hn1:=aa j5;have Hnz:=aa hn;clear j5 hn;have Pr :(Instr.entryStore 79 (.map (some mb)) (.int .i64 (st:Int)) (.int .i64 (n1+1))).run prog W6= .ok () W7:=sC;have bT:eb≠mb:=Heb.o.2.1;have Y6:=(Y5.o.on (below_drewN (Xj _ W5) 1)).grown hg6 (fun e=>bT (Qr e));have Y7:=Y6.grown ti (fun e=>bT (Qr e));have c60:=Y6.cell (j:=0) rfl;have c61:=Y6.cell (j:=1) rfl;have c70:=Y7.cell (j:=0) rfl;have c71:=Y7.cell (j:=1) rfl;have M7:=aa M7;have X7:=aa (((X5.o.on (below_drewN (Xj _ W5) 1)).grown hg6 (fun e=>XP Hmw.o (Qr e))).grown ti (fun e=>XP Hmw.o (Qr e)));have S7:=aa (((S5.o.on (below_drewN (Xj _ W5) 1)).grown hg6 (fun e=>wD.o.2 (Qr e).symm)).grown ti (fun e=>wD.o.2 (Qr e).symm));have L7:=aa (((below_drewN L5.o 1).grown hg6 (below_drewN L5.o 1).size (fun j e=>by cases(Qr e);exact QX Hmw.o)).grown ti (Qh (below_drewN L5.o 1).size hg6.size) (fun j e=>by cases(Qr e);exact QX Hmw.o));have Y7:=aa Y7;clear M6 iq cO M1 Nk sC Y6 M5 X5 S5 L5 bT hg6 ti;go_cut [88] from 85 to 90 (fun v88 W=>v88= .int .i64 (n1+1)∧Af (MG WN W mb (eM (gw eH) x (n1+1)) (if(gw eH x).isSome then eH.length else eH.length+1)∧aq W eb 68 [.int .u64 pr,.int .u32 bk]∧aq W w.heap.size 50 [.int .i64 c.ax,.int .i64 c.depth,.slice Ab n cb,.slice (some ⟨b,o,none⟩) n cs]∧aq W rb 92 [.int .u8 d,.int .u32 nx,.slice (some ⟨be,oe,none⟩) L ce]∧Below w.heap.size w W))
        case first=>
         refine wp_region_held_drew (S:=fun W=>W.cell? ⟨eb,0,none⟩=some (.int .u64 pr)∧W.cell? ⟨eb,1,none⟩=some (.int .u32 bk)) (by kernel_rfl) ⟨v0,v1⟩ (fun hS=> ?_);refine wpAnyH_take (i:=0) (v:= .map (some mb)) rfl (by kernel_rfl) (by kernel_rfl) (by kernel_rfl) (fun _ _ _ h=>h) (Or.inl ⟨by rfl,fun W hW=>by go_simp⟩) hS ?_
         try simp only[Act.put]
         refine wpAnyH_take (i:=1) (v:= .agg #[.int .u64 pr,.int .u32 bk]) rfl (by kernel_rfl) (by kernel_rfl) (by kernel_rfl) (fun _ _ _ h=>h) (Or.inl ⟨by rfl,fun W hW=>lq (.pointer (some ⟨eb,0,none⟩)) _ rfl (RA hW.1 hW.2)⟩) hS ?_
         try simp only[Act.put]
         refine wpAnyH_ready (rs:=[2,4]) (by kernel_rfl) (by simp) ?_;refine AllReadyH.cons rfl (fun K hK=> ?_) (AllReadyH.cons rfl (fun K hK=> ?_) AllReadyH.nil)
         ·go_simp;refine hK.out _ _ hS (fun _=> ?_);clear hK K
          try simp only[Act.put]
          refine wpAnyH_take (i:=3) (v:= .int .i64 (n1+1)) rfl (by kernel_rfl) (by kernel_rfl) (by kernel_rfl) (fun _ _ _ h=>h) (Or.inl ⟨by rfl,fun W hW=>by go_simp⟩) hS ?_
          try simp only[Act.put]
          refine wpAnyH_ready (rs:=[4]) (by kernel_rfl) (by simp) ?_;refine AllReadyH.cons rfl (fun K hK=> ?_) AllReadyH.nil;go_simp;refine hK.out _ _ ⟨c60,c61⟩ (fun hS6=> ?_);clear hK K
          try simp only[Act.put]
          refine wpAnyH_take (i:=5) (v:=goInt st) rfl (by kernel_rfl) (by kernel_rfl) (by kernel_rfl) (fun _ _ _ h=>h) (Or.inl ⟨by rfl,fun W hW=>by go_simp⟩) hS6 ?_
          try simp only[Act.put]
          refine wpAnyH_ready (rs:=[6]) (by kernel_rfl) (by simp) ?_;refine AllReadyH.cons rfl (fun K hK=> ?_) AllReadyH.nil;go_simp;refine hK.out _ _ ⟨c70,c71⟩ (fun _=> ?_);clear hK K
          try simp only[Act.put]
          refine wpAnyH_done (by kernel_rfl) ?_ _;go_wp2_with fail;go_meet;exact⟨rfl,M7.o,Y7.o,X7.o,S7.o,L7.o⟩
         ·go_simp;refine hK.out _ _ ⟨c60,c61⟩ (fun hS6=> ?_);clear hK K
          try simp only[Act.put]
          refine wpAnyH_take (i:=5) (v:=goInt st) rfl (by kernel_rfl) (by kernel_rfl) (by kernel_rfl) (fun _ _ _ h=>h) (Or.inl ⟨by rfl,fun W hW=>by go_simp⟩) hS6 ?_
          try simp only[Act.put]
          refine wpAnyH_ready (rs:=[2]) (by kernel_rfl) (by simp) ?_;refine AllReadyH.cons rfl (fun K hK=> ?_) AllReadyH.nil;go_simp;refine hK.out _ _ hS6 (fun _=> ?_);clear hK K
          try simp only[Act.put]
          refine wpAnyH_take (i:=3) (v:= .int .i64 (n1+1)) rfl (by kernel_rfl) (by kernel_rfl) (by kernel_rfl) (fun _ _ _ h=>h) (Or.inl ⟨by rfl,fun W hW=>by go_simp⟩) hS6 ?_
          try simp only[Act.put]
          refine wpAnyH_ready (rs:=[6]) (by kernel_rfl) (by simp) ?_;refine AllReadyH.cons rfl (fun K hK=> ?_) AllReadyH.nil;go_simp;refine hK.out _ _ ⟨c70,c71⟩ (fun _=> ?_);clear hK K
          try simp only[Act.put]
          refine wpAnyH_done (by kernel_rfl) ?_ _;go_wp2_with fail;go_meet;exact⟨rfl,M7.o,Y7.o,X7.o,S7.o,L7.o⟩
        case rest=>
         obtain⟨rfl,Un⟩:=hcut;have hpN:x.print/2^56=(N:Int):=by rw[←HX.o.1];exact HX.o.2.2.1
         have hpT:(x.print/2^56).toNat=N:=by rw[hpN];exact Xt N
         have e0:=Un.o.2.1.cell (j:=0) rfl;have e1:=Un.o.2.1.cell (j:=1) rfl;have SG:=Un.o.1.at HX.o.2.2.2.2.2.2.2;rw[show(eM (gw eH) x (n1+1)) x=some (n1+1) by unfold eM;rw[Xo rfl]] at SG;have SG:(Instr.lookup 79 (.map (some mb)) (.agg #[.int .u64 pr,.int .u32 bk]) false).run prog wc= .ok (.int .i64 (n1+1)) wc:=by rw[HX.o.1,HX.o.2.1];exact SG
         have L8:=aa Un.o.2.2.2.2;by_cases hm:x∈eH
         ·have h1:n1=1:=by rw[Hn1.o];unfold gw;rw[Xo hm];rfl
          have Um:Af (F=none):=by show _=_;rw[OX.o];unfold sx;rw[Xo (Or.inl hm)];rfl
          rw[h1] at SG;clear Tt YA Pr hl5 ZR c70 c71 c60 c61 v0 v1 hpN hpT hm h1;go_wp2_with fail
          all_goals(try rw[Qv])
          all_goals go_ret
          all_goals exact⟨by rw[Um.o];rfl,L8.o⟩
         ·have h1:n1=0:=by rw[Hn1.o];unfold gw;rw[Xd hm];rfl
          subst h1;have TN:MG WN wc mb (gw (x::eH)) (eH.length+1):=by have h2:=Un.o.1;rw[show(0:Int)+1=1 from rfl,Lg] at h2;rw[show(gw eH x).isSome=false by unfold gw;rw[Xd hm];rfl] at h2;exact h2
          have HM8:=aa TN;obtain⟨B,hB⟩:∃B,B=bY c.ax c.depth N:=⟨_,rfl⟩;have XY:Af (Calls prog 140 #[.agg #[.int .i64 c.ax,.int .i64 c.depth,.slice Ab n cb,.slice (some ⟨b,o,none⟩) n cs],.int .i64 N] wc fun e w' =>e= .returned (.bool B)∧Below wc.heap.size wc w'):=by rw[hB];exact tV wc c.ax c.depth N HC.o.2.1 HC.o.1 HX.o.2.2.2.1 _ _
          have a0:=Un.o.2.2.1.cell (j:=0) rfl;obtain⟨-,a1,a2,a3⟩:=mm Un.o.2.2.1;obtain⟨bad,eJ⟩:∃bad:Bool,bad=(!B||(decide (0<k)&&decide (0≤wK)&&decide (wK≠N))):=⟨_,rfl⟩;have ahm:Af (bad=true↔(bY c.ax c.depth N=false∨(0<k∧0≤wK∧wK≠N))):=by show _↔_;rw[eJ,hB];simp only[Bool.or_eq_true,Bool.not_eq_true',XR,decide_eq_true_eq,and_assoc]
          have hbh:=aa HIh.o.bhs;have SG:(Instr.lookup 79 (.map (some mb)) (.agg #[.int .u64 pr,.int .u32 bk]) false).run prog wc= .ok (.int .i64 1) wc:=SG;have Hm:=aa hm;have HpN:=aa hpN;have HpT:=aa hpT;clear Tt YA Pr hl5 ZR c70 c71 c60 c61 v0 v1 hpN hpT hm TN hB;go_upto_region 15 with fail
          go_cut [113] from 91 to 113 (fun amM W=>amM= .bool bad∧Af (Below wc.heap.size wc W))
          case first=>
           cases B
           ·go_wp2_with(go_at_call 140;go_must(refine XY.o.mono ?_);rintro e W9 ⟨rfl,b9⟩;have B9:=aa b9;clear b9);go_meet
            exact⟨by rw[eJ];rfl,B9.o⟩
           ·rcases XG k with hz|hz
            ·subst hz;go_wp2_with(go_at_call 140;go_must(refine XY.o.mono ?_);rintro e W9 ⟨rfl,b9⟩;have B9:=aa b9;clear b9);go_meet
             exact⟨by rw[eJ];rfl,B9.o⟩
            ·have k1:(0:Int)<k:=Xi.2 hz;have Ee:decide (0<k)=true:=Xa hz;by_cases jr:0≤wK
             ·by_cases hbN:wK =N
              ·have bO:bad=false:=by rw[eJ,hbN];simp
               clear eJ Ee hz;subst hbN;go_wp2_with(go_at_call 140;go_must(refine XY.o.mono ?_);rintro e W9 ⟨rfl,b9⟩;have B9:=aa b9;clear b9);go_meet
               exact⟨by rw[bO],B9.o⟩
              ·have bO:bad=true:=by rw[eJ];simp[jr,hbN,hz]
               have mG:(wK ==(N:Int))=false:=Xc hbN;have WA:(wK !=(N:Int))=true:=by rw[bne,mG];rfl
               clear eJ Ee hz hbN;go_wp2_with(go_at_call 140;go_must(refine XY.o.mono ?_);rintro e W9 ⟨rfl,b9⟩;have B9:=aa b9;clear b9);go_meet
               exact⟨by rw[bO],B9.o⟩
             ·have bO:bad=false:=by rw[eJ];simp[jr]
              clear eJ Ee hz;go_wp2_with(go_at_call 140;go_must(refine XY.o.mono ?_);rintro e W9 ⟨rfl,b9⟩;have B9:=aa b9;clear b9);go_meet
              exact⟨by rw[bO],B9.o⟩
          case rest=>
           obtain⟨rfl,B9⟩:=hcut;have L9:=aa (L8.o.trans (B9.o.mono L8.o.size));clear SG e0 e1 a0 a1 a2 a3 eJ;cases bad
           ·have gZ:¬(bY c.ax c.depth N=false∨(0<k∧0≤wK∧wK≠N)):=fun h=>by have:=ahm.o.2 h;cases this
            have cO:sx c.ax c.depth k (eH,wK) x=some (x::eH,if 0<k then(N:Int) else wK):=by
             unfold sx;rw[HpT.o,HpN.o,Xd];rintro(h|h)
             ·exact Hm.o h
             ·exact gZ h
            have TO:F=(iZ c.ax c.depth k (p.1.es.drop (j+1)) (x::eH,if 0<k then(N:Int) else wK)).bind (iA c.ax c.depth (k+1) (c.ah.drop (k+1))):=by rw[OX.o,cO];rfl
            have hN8:UR w c w.heap.size mb rb (.slice Ab n cb) (.slice (some ⟨b,o,none⟩) n cs) [.int .u8 d,.int .u32 nx,.slice (some ⟨be,oe,none⟩) L ce] F k p.1.es (j+1) (if 0<k then(N:Int) else wK) (x::eH) wc:=
             ⟨HX.o.2.2.2.2.1,TO,HM8.o.on B9.o,Un.o.2.2.1.on B9.o,Un.o.2.2.2.1.on B9.o,by have h1:=HIh.o.y7;rw[QF];omega,by split;(have h2:=HX.o.2.2.2.1;omega);exact hbh.o,L9.o⟩
            have HN8:=aa hN8;have El:Af (wrap64 ((j:Int)+1)=(j:Int)+1):=(Pc (k:=j) (by omega)).1;clear gZ cO TO hN8;rcases XG k with hz|hz
            ·subst hz;go_wp2_with fail;exact⟨⟨j+1,wK,x::eH,by first|rfl|(rw[El.o];rfl),rfl,HN8.o⟩,by first|exact al Hj.o|(rw[El.o];exact al Hj.o)⟩
            ·have k1:(0:Int)<k:=Xi.2 hz;have HN9:Af (UR w c w.heap.size mb rb (.slice Ab n cb) (.slice (some ⟨b,o,none⟩) n cs) [.int .u8 d,.int .u32 nx,.slice (some ⟨be,oe,none⟩) L ce] F k p.1.es (j+1) (N:Int) (x::eH) wc):=by have h1:=HN8.o;rw[Xo hz] at h1;exact h1
             go_wp2_with fail;exact⟨⟨j+1,N,x::eH,by first|rfl|(rw[El.o];rfl),rfl,HN9.o⟩,by first|exact al Hj.o|(rw[El.o];exact al Hj.o)⟩
           ·have Um:Af (F=none):=by show _=_;have h1:=ahm.o.1 rfl;rw[OX.o];unfold sx;rw[HpT.o,HpN.o,Xo (Or.inr h1)];rfl
            go_wp2_with fail
            all_goals(try rw[Qv])
            all_goals go_ret
            all_goals exact⟨by rw[Um.o];rfl,L9.o⟩
       ·have TC:j=L:=QE (by rw[Eo.o.2];exact HI.o.le) (QC hj);have dR:=HI.o.rest;rw[Zu (by rw[←Eo.o.2,TC];exact Qg _)] at dR;have Ps:iA c.ax c.depth 0 c.ah ([],-1)=iA c.ax c.depth (k+1) (c.ah.drop (k+1)) (eH,wK):=by rw[←HF.o,dR];rfl
        have HN:Af (abq w c w.heap.size mb (.slice Ab n cb) (.slice (some ⟨b,o,none⟩) n cs) ps (k+1) wK eH wr):=⟨by rw[←HC.o.2.2.2.1];exact Hk.o.1,Ps,HI.o.map,HI.o.box,by have h1:=HI.o.y7;have h2:=HP.o.2.2.2;rw[←Eo.o.2,←TC] at h2;omega,HI.o.bhs,HI.o.low⟩;obtain⟨nZ,am5⟩:=Pc Hk.o.2;have El:=aa nZ;have bj:Af (k<n):=Hk.o.1;subst TC;clear HI hj dR Ps am5;go_wp2_with fail;exact⟨⟨k+1,wK,eH,by first|rfl|(rw[El.o];rfl),rfl,HN.o⟩,by first|exact al bj.o|(rw[El.o];exact al bj.o)⟩
  ·have cH:k=n:=QE (by rw[HC.o.2.2.2.1];exact HR.o.le) (QC hk);have hF:F=some (seen,bh):=by rw[HF.o,HR.o.rest,Zu (by rw[←HC.o.2.2.2.2.1,Qq,←HC.o.2.2.2.1,cH];exact Qg _)];rfl
   have Ya:=aa hF;have HL:=aa HR.o.low;subst cH;clear HR hk hF;go_wp2_with fail
   try rw[Qv]
   go_ret;exact⟨by rw[Ya.o];rfl,HL.o⟩
theorem FR (w:Wo) (c:ak) (v:Va) (h:Uq w w.heap.size v c) (hd:c.depth≤8) (hf:c.ax<256) (hm:c.ax%2^(8 - c.depth)≠0) (hn:c.ah≠[]) (hl:c.blocks.length=c.ah.length):
  Calls prog 125 #[v] w fun e w' =>e= .returned (.bool false)∧Below w.heap.size w w' :=by
 obtain⟨bv,sv,ps,rfl,hb,hs,fc⟩:=h.ex;obtain⟨Ab,cb,rfl,-,-⟩:=hb.form;obtain⟨As,cs,rfl,-,-⟩:=hs.sl.form;obtain⟨n,j5⟩:=eX ps.length;have oc:c.ah.length=n:=by rw[j5,←fc,Qq]
 have fg:=hl.trans oc;have jU:0<n:=by rw[←oc];exact List.length_pos_iff.2 hn
 rw[fg];rw[←j5];obtain⟨k1,k2,k3⟩:=CJ (ax:=c.ax) hd;obtain⟨W0,aY,X0,-⟩:=nW w [.int .i64 c.ax,.int .i64 c.depth,.slice Ab n cb,.slice As n cs] 50;have B0:Af (Below w.heap.size w W0):=by rw[aY];exact aF _ _
 have fD:=aa aY.symm;obtain⟨x0,x1,x2,x3⟩:=mm X0;obtain⟨ax,eo⟩:=eX c.ax;obtain⟨dep,eK⟩:=eX c.depth;rw[←eo] at x0 k2 fD hf hm;rw[←eK] at x1 k1 k2 k3 fD hd hm;rw[←eo,←eK];obtain⟨E,hE⟩:=eX (8 - dep);rw[←hE] at k1 k2 k3 hm;obtain⟨M,hM⟩:=eX (2^E);have WH:0<M:=by rw[hM];exact Nat.pow_pos (by decide)
 rw[←hM] at k1 k2 hm;obtain⟨R,hR⟩:∃R,R=ax%M:=⟨_,rfl⟩;rw[←hR] at k2 hm;have hRi:((R:Int)==0)=false:=Xc (by omega);have hRn:((R:Int)!=0)=true:=by rw[bne,hRi];rfl
 have k8:IntKind.i64.wrap (8 - (dep:Int))=(E:Int):=tM k3;have k9:IntKind.i64.wrap ((2:Int)^E)=(M:Int):=tM k1;have Tp:min E 64=E:=Zh (by omega);have k5:¬(M:Int)=0:=by omega
 have k6:(0:Int)≤E:=Xh _;have k7:((M:Int)==0)=false:=Xc k5;have e1:((n:Int)==0)=false:=Xc (by omega);have e2:decide ((dep:Int)<0)=false:=Xe (by omega);have e3:decide ((8:Int)<dep)=false:=Xe (by omega);have e4:decide ((ax:Int)<0)=false:=Xe (by omega);have e5:decide ((256:Int)≤ax)=false:=Xe (by omega);clear hb hs fc j5 oc fg hn hl jU hd hf hm aY h eo eK hE hM WH hR X0;go_enter func125,ntmps125;go_upto_region 1 with fail
 rw[fD.o];go_wp2_with fail;go_quiet (fail);go_wp2_with fail
 all_goals(try rw[Qv])
 all_goals go_ret
 all_goals exact⟨rfl,below_drewN B0.o _⟩
theorem pJ (w:Wo) (c:ak) (v:Va) (h:Uq w w.heap.size v c) (hd:c.depth≤8) (hf:c.ax<256) (hn:c.ah≠[]) (hl:c.blocks.length=c.ah.length) (cC:c.ah.length≤4096):
  Calls prog 125 #[v] w fun e w' =>e= .returned (.bool (dz c))∧Below w.heap.size w w' :=by
 by_cases hm:c.ax%2^(8 - c.depth)=0
 ·have h1:=Dm w c v h hd hf hm hn hl cC;have h2:dz c=(iA c.ax c.depth 0 c.ah ([],-1)).isSome:=by unfold dz;simp[hd,hf,hm,hn,hl]
  rw[h2];exact h1
 ·have h1:=FR w c v h hd hf hm hn hl;have h2:dz c=false:=by unfold dz;simp[hm]
  rw[h2];exact h1
end
section
open Go.RowKit
attribute [local go_sem] Oper.semAt_some
variable {base : Nat} {v v' : Va} {ps : List (ay × Va)}
structure gj (w:Wo) (base:Nat) (v:Va) (ps:List (ay×Va)):Prop where
 row:w.ownsRow base 92 3 v ps.length (ps.flatMap fV)
 es:∀p∈ps,cV w base p.2 p.1.es∧pC p.1∧∀x∈p.1.es,eR x
theorem cV.form {w:Wo} {es:List aD} (h:cV w base v es):∃A c,v= .slice A es.length c:=by
 rcases h.2 with⟨rfl,h0⟩|⟨g,cap,cur,rfl,_⟩
 ·rw[h0];exact⟨_,_,rfl⟩
 ·exact⟨_,_,rfl⟩
theorem FG {w:Wo} {p:ay×Va} (h:cV w base p.2 p.1.es):∀u∈fV p,u.oneCell' =true:=by
 obtain⟨A,c,hv⟩:=h.form;intro u hu;simp[fV] at hu;rcases hu with rfl|rfl|rfl
 ·rfl
 ·rfl
 ·rw[hv];rfl
theorem gj.on {w w' :Wo} (h:gj w base v ps) (hb:Below w.heap.size w w'):gj w' base v ps:=
 ⟨aS h.row hb,fun p hp=>⟨aS (h.es p hp).1 hb,(h.es p hp).2⟩⟩
theorem gj.Wa {w:Wo} (h:gj w base v ps):mP w w.heap.size v ps:=
 ⟨Sl.bU h.row,fun p hp=>⟨⟨Sl.bU (h.es p hp).1,(h.es p hp).2.2⟩,(h.es p hp).2.1⟩⟩
theorem gj.form {w:Wo} (h:gj w base v ps):∃A n c,v= .slice A n c:=by
 rcases h.row.2 with⟨rfl,_⟩|⟨g,cap,cur,rfl,_⟩<;>exact⟨_,_,_,rfl⟩
theorem gj.kept {w w' :Wo} {b' e' s' n' :Nat} {VY :List Va} (h:gj w base v ps) (k:w.ownsRow b' e' s' v' n' VY) (h1:92≠e') (h2:68≠e') (hg:w.grownBy w' v'.ownBlock):gj w' base v ps:=
 ⟨World.ownsRow.kept h.row hg (iT h.row k h1),fun p hp=>⟨World.ownsRow.kept (h.es p hp).1 hg (iT (h.es p hp).1 k h2),(h.es p hp).2⟩⟩
theorem Rg (w:Wo) (base:Nat):gj w base (.slice none 0 0) []:=⟨World.ownsRow_nil _ _ _ _,fun p hp=>by cases hp⟩
theorem OH:(prog.info? 92).map (fun i=>(i.zero,i.size,i.bytes))=some (some (.agg #[.int .u8 0,.int .u32 0,.slice none 0 0]),3,32):=by kernel_rfl
theorem PU (w:Wo) (base:Nat) (v:Va) (ps:List (ay×Va)) (h:gj w base v ps) (g:Nat) (p:ay×Va) (hx:aq w g 92 (fV p)) (hp:cV w base p.2 p.1.es∧pC p.1∧∀x∈p.1.es,eR x) (hl:ps.length≤10000) (hb:base≤w.heap.size) (ty:TypeId):
  ∃v' w',(Builtin.append_ #[48,48] ty #[v,.slice (some ⟨g,0,none⟩) 1 1]).run prog w= .ok v' w'∧gj w' base v' (ps++[p])∧w.grownBy w' v.ownBlock∧(v'.ownBlock=v.ownBlock∨v'.ownBlock=some w.heap.size):=by
 obtain⟨v',w',h1,h2,h3,h4⟩:=cy (P:=prog) w base 48 ty 92 _ 3 32 underlying48 OH rfl (by decide) v ps.length _ h.row (B:=w.heap.size) (.slice (some ⟨g,0,none⟩) 1 1) 1 (fV p)
  (hx.sl (o:=0) (n:=1) (sz:=3) (c:=1) (by simp[fV]) (Qg _) (by unfold maxLen;decide)) (FG hp.1) (by unfold maxLen;omega) (by omega) hb
 refine⟨v',w',h1,⟨?_,fun q hq=> ?_⟩,h3,h4⟩
 ·rw[Qo,QP];simpa using h2
 ·rcases Qz.1 hq with hq|hq
  ·exact⟨World.ownsRow.kept (h.es q hq).1 h3 (iT (h.es q hq).1 h.row (by decide)),(h.es q hq).2⟩
  ·rw[Qx] at hq;subst hq;exact⟨World.ownsRow.kept hp.1 h3 (iT hp.1 h.row (by decide)),hp.2⟩
theorem PW {k:IntKind} (K:NK k) (w:Wo) (base:Nat) (v:Va) (xs:List Int) (h:aB w base K.et k v xs) (g:Nat) (x:Int) (hx:aq w g K.et [.int k x]) (hl:xs.length≤100000) (hb:base≤w.heap.size) (ty:TypeId):
  ∃v' w',(Builtin.append_ #[K.st,K.st] ty #[v,.slice (some ⟨g,0,none⟩) 1 1]).run prog w= .ok v' w'∧aB w' base K.et k v' (xs++[x])∧w.grownBy w' v.ownBlock:=by
 obtain⟨v',w',h1,h2,h3,-⟩:=cy (P:=prog) w base K.st ty K.et (.int k 0) 1 K.bytes K.ht K.hi rfl (by decide) v xs.length _ h (B:=w.heap.size) (.slice (some ⟨g,0,none⟩) 1 1) 1 [.int k x]
  (hx.sl (o:=0) (n:=1) (sz:=1) (c:=1) (by simp) (Qg _) (by unfold maxLen;decide)) (fun u hu=>by rw[Qx] at hu;rw[hu];rfl) (by unfold maxLen;omega) (by have:=K.hb;exact Qh (Nat.mul_le_mul (show xs.length+1≤1000000 by omega) this) (by decide)) hb
 refine⟨v',w',h1,?_,h3⟩;unfold aB;rw[Qo,QL];exact h2
section
variable {P : Program} {w w' : Wo} {dst : Option Tmp} {ty t : TypeId} {pos : String} {after : Array Edge}
theorem ea {f:Operand→Va} {os ox:Operand} {vx:Va} (hs:f os=v) (hx:f ox=vx) (h:(Builtin.append_ #[t,t] ty #[v,vx]).run P w= .ok v' w'):
  (execOp f ⟨dst,.call {callee:= .builtin .append,args:= #[os,ox],argTypes:= #[t,t]},ty,pos,after,none⟩).run P w= .ok (.value v') w' :=by
 rw[←hs,←hx] at h;simp[execOp,resolve,invoke,builtin,h,Result.andThen]
end
end
section
open Go.RowKit
attribute [local go_sem] Oper.semAt_some
variable {n : Nat}
structure JA (s:aX) (c:ak):Prop where
 len:c.blocks.length=c.ah.length
 ne:c.ah≠[]
 pg:∀k,k<c.blocks.length→∃(b:Nat) (sh:ay),c.blocks[k]? =some (b:Int)∧0<b∧b<s.t.len∧c.ah[k]? =some sh∧mJ (s.read b)=some sh∧sh.next=c.blocks.getD (k+1) 0
 nd:c.blocks.Nodup
theorem GP {p:List Int} {s:ay} (h:mJ p=some s):bC s=true∧s.es.length≤9:=by
 have h1:bC s=true:=by
  unfold mJ at h;split at h
  ·cases h
  ·dsimp only at h;split at h
   ·split at h
    ·rename_i AQ
     rw[Qr h] at AQ;exact AQ.1
    ·cases h
   ·cases h
 refine⟨h1,?_⟩;unfold bC at h1;simp only[XR,decide_eq_true_eq] at h1;exact h1.1.1.1.2
theorem Sa (w:Wo) (v:Va) (p:List Int) (h:Bs w w.heap.size v p) (s:ay) (hd:mJ p=some s):Calls prog 33 #[v] w fun e w' =>∃v',e= .returned (.tuple #[.agg #[.int .u8 s.depth,.int .u32 s.next,v'],.int .i64 0])∧cV w' w.heap.size v' s.es∧(∀x∈s.es,eR x)∧aI s.depth∧bX s.next∧Below w.heap.size w w' :=
 (Sb w v p h).mono fun e w' ⟨hb,h1⟩=>by
  rcases h1 with⟨h2,-⟩|⟨s',v',h2,h3,h4,h5,h6,h7⟩
  ·rw[hd] at h2;cases h2
  ·rw[hd] at h2;cases h2;exact⟨v',h3,h4,h5,h6,h7,hb⟩
theorem eY {w:Wo} {b:Nat} {x0 x1 x2 x3:Va} (h:aq w b 50 [x0,x1,x2,x3]):(loadVar 50 ⟨b,0,none⟩).run prog w= .ok (.agg #[x0,x1,x2,x3]) w:=by
 have hl:=run_loadCells_list (P:=prog) w ⟨b,0,none⟩ [x0,x1,x2,x3] (fun j v hj=>by rw[dP,QR];exact h.cell hj);simp only[QF,Xq,QR,Nat.reduceAdd] at hl;have h2:(isAgg 50).run prog w= .ok true w:=by kernel_rfl
 have h3:(sizeOf 50).run prog w= .ok 4 w:=by kernel_rfl
 simp[loadVar,hl,h2,h3,Result.andThen]
def OG (w:Wo) (a:Addr):Nat:=match w.cell? a with|some (.slice _ n _)=>n|_=>0
theorem CE {w:Wo} {a:Addr} {A:Option Addr} {c:Nat} (h:w.cell? a=some (.slice A n c)):OG w a=n:=by unfold OG;rw[h]
structure EN (w W:Wo) (cb sb rb:Nat) (c4 s3:List Va) (bv:Va) (xs:List Int) (sv:Va) (ps:List (ay×Va)) (p:ay×Va):Prop where
 c:aq W cb 50 c4
 s:aq W sb 92 s3
 r:aq W rb 50 [.int .i64 0,.int .i64 0,.slice none 0 0,.slice none 0 0]
 bo:aB W w.heap.size 3 .i64 bv xs
 so:gj W w.heap.size sv ps
 po:cV W w.heap.size p.2 p.1.es
 ns:sv.ownBlock≠some sb
 low:Below w.heap.size w W
section
variable {w W : Wo} {cb sb rb : Nat} {c4 s3 : List Va} {bv : Va} {xs : List Int} {sv : Va} {ps : List (ay × Va)} {p : ay × Va}
theorem EN.on {W' :Wo} (h:EN w W cb sb rb c4 s3 bv xs sv ps p) (hb:Below W.heap.size W W'):EN w W' cb sb rb c4 s3 bv xs sv ps p:=
 ⟨h.c.on hb,h.s.on hb,h.r.on hb,aB.on h.bo hb,h.so.on hb,aS h.po hb,h.ns,h.low.trans (hb.mono h.low.size)⟩
theorem EN.anF (h:EN w W cb sb rb c4 s3 bv xs sv ps p) (hl:xs.length≤10000) (g:Nat) (x:Int) (hx:aq W g 3 [.int .i64 x]) (ty:TypeId):
  ∃v' W',(Builtin.append_ #[34,34] ty #[bv,.slice (some ⟨g,0,none⟩) 1 1]).run prog W= .ok v' W'∧EN w W' cb sb rb c4 s3 v' (xs++[x]) sv ps p∧W.grownBy W' bv.ownBlock:=by
 obtain⟨v',W',h1,h2,h3⟩:=PW NKi W w.heap.size bv xs h.bo g x hx (by omega) h.low.size ty;refine⟨v',W',h1,⟨h.c.grown h3 (fun e=>aq.not_row h.c (by decide) h.bo e.symm),h.s.grown h3 (fun e=>aq.not_row h.s (by decide) h.bo e.symm),h.r.grown h3 (fun e=>aq.not_row h.r (by decide) h.bo e.symm),h2,h.so.kept h.bo (by decide) (by decide) h3,World.ownsRow.kept h.po h3 (iT h.po h.bo (by decide)),h.ns,h.low.grown h3 h.low.size (fun j e=>(Xr h.bo j e).1)⟩,h3⟩
theorem EN.anE (h:EN w W cb sb rb c4 s3 bv xs sv ps p) (hl:ps.length≤10000) (hp:pC p.1∧∀x∈p.1.es,eR x) (g:Nat) (hx:aq W g 92 (fV p)) (ty:TypeId):
  ∃v' W',(Builtin.append_ #[48,48] ty #[sv,.slice (some ⟨g,0,none⟩) 1 1]).run prog W= .ok v' W'∧EN w W' cb sb rb c4 s3 bv xs v' (ps++[p]) p∧W.grownBy W' sv.ownBlock:=by
 obtain⟨v',W',h1,h2,h3,h4⟩:=PU W w.heap.size sv ps h.so g p hx ⟨h.po,hp⟩ hl h.low.size ty;refine⟨v',W',h1,⟨h.c.grown h3 (fun e=> ?_),h.s.grown h3 (fun e=> ?_),h.r.grown h3 (fun e=> ?_),World.ownsRow.kept h.bo h3 (iT h.bo h.so.row (by decide)),h2,World.ownsRow.kept h.po h3 (iT h.po h.so.row (by decide)),?_,h.low.grown h3 h.low.size (fun j e=>(Xr h.so.row j e).1)⟩,h3⟩
 ·exact aq.not_row h.c (by decide) h.so.row e.symm
 ·exact h.ns e.symm
 ·exact aq.not_row h.r (by decide) h.so.row e.symm
 ·rcases h4 with h4|h4
  ·rw[h4];exact h.ns
  ·rw[h4];intro e;have:=Qr e;have:=h.s.lt;omega
theorem ie {w:Wo} {base sz:Nat} {e T:TypeId} {v:Va} {xs:List Va} {nb:Nat} {cs:List Va} (h:w.ownsRow base e sz v n xs) (hb:aq w nb T cs) (JG:T≠e) (j:Nat) (u:Va):(w.setCell ⟨nb,j,none⟩ u).ownsRow base e sz v n xs:=
 World.ownsRow.kept h (row:=some nb) ⟨rfl,rfl,rfl,by simp,fun i _ bT=>Xl _ _ _ _ (fun e=>bT (by rw[e]))⟩ (.inr (aq.not_row hb JG h))
theorem EN.set (h:EN w W cb sb rb c4 s3 bv xs sv ps p) (h1:sb≠cb) (h2:rb≠cb) (h3:w.heap.size≤cb) (j:Nat) (u:Va):EN w (W.setCell ⟨cb,j,none⟩ u) cb sb rb (c4.set j u) s3 bv xs sv ps p:=
 ⟨h.c.set j u,h.s.az (p:=⟨cb,j,none⟩) h1 u,h.r.az (p:=⟨cb,j,none⟩) h2 u,aB.aT (T:=50) h.bo h.c (by decide) j u,⟨ie h.so.row h.c (by decide) j u,fun q hq=>⟨ie (h.so.es q hq).1 h.c (by decide) j u,(h.so.es q hq).2⟩⟩,ie h.po h.c (by decide) j u,h.ns,h.low.setCell (p:=⟨cb,j,none⟩) h3 u⟩
end
end
end Go.Proofs.YthgdhacopamklaaGreat

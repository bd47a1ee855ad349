/- What HashNone asks, part 20 of 41: parts of the walks and laws, each true as it stands. -/
import Derived.Test.YthgdhacopamklaaGreatTAS
set_option maxHeartbeats 16000000
set_option maxRecDepth 100000
set_option linter.unusedVariables false
set_option linter.unusedSimpArgs false
namespace Go.Proofs.YthgdhacopamklaaGreat
open Go.Proofs.Tryz
section
open Go.RowKit
attribute [local go_sem] Oper.semAt_some
variable {w : Wo} {base g : Nat} {x0 x1 x2 x3 : Va} {ps : List (ay × Va)}
structure abI (w:Wo) (c:ak) (cb rb:Nat) (k:Nat) (wr:Wo):Prop where
 le:k≤c.blocks.length
 mem:∃Ab ug As cs ps,aq wr cb 50 [.int .i64 c.ax,.int .i64 c.depth,.slice Ab k ug,.slice As k cs]∧aB wr w.heap.size 3 .i64 (.slice Ab k ug) (c.blocks.take k)∧gj wr w.heap.size (.slice As k cs) ps∧ps.map Prod.fst=c.ah.take k
 res:aq wr rb 50 [.int .i64 0,.int .i64 0,.slice none 0 0,.slice none 0 0]
 low:Below w.heap.size w wr
theorem Pt {x E ax dep:Nat} (hd:dep≤8) (hE:E=8 - dep) (hx:ax=x*2^E) (hf:ax<256):IntKind.i64.wrap (8 - (dep:Int))=(E:Int)∧min E 64=E∧(0:Int)≤E∧IntKind.i64.wrap ((x:Int)*2^E)=(ax:Int)∧IntKind.i64.wrap (dep:Int)=dep:=by
 have h1:((x:Int)*2^E)=(ax:Int):=by rw[hx];simp
 rw[h1];simp only[XN];omega
theorem qR {b:Int} (h:0≤b∧b<4096):IntKind.i64.wrap b=b:=by
 simp only[XN];omega
theorem w5 {l:List Int} (h:l.Nodup) {k:Nat} {x:Int} (hk:l[k]? =some x):(l.take k).contains x=false:=by
 rw[Xf];intro hc;have hm:x∈l.take k:=by simpa using hc
 obtain⟨i,hi,he⟩:=List.getElem_of_mem hm;rw[Qu] at hi;obtain⟨bQ,hke⟩:=Ql.1 hk;rw[List.getElem_take] at he;exact List.pairwise_iff_getElem.1 h i k (by omega) bQ (by omega) (he.trans hke.symm)
theorem oW {e:TypeId} (h:aq w g e [x0,x1,x2,x3]) (y0 y1 y2 y3:Va):aq ((((w.setCell ⟨g,0,none⟩ y0).setCell ⟨g,1,none⟩ y1).setCell ⟨g,2,none⟩ y2).setCell ⟨g,3,none⟩ y3) g e [y0,y1,y2,y3]:=(((h.set 0 y0).set 1 y1).set 2 y2).set 3 y3
theorem gj.aT {v:Va} {T:TypeId} {nb:Nat} {cs:List Va} (h:gj w base v ps) (hb:aq w nb T cs) (h1:T≠92) (h2:T≠68) (j:Nat) (u:Va):gj (w.setCell ⟨nb,j,none⟩ u) base v ps:=
 ⟨ie h.row hb h1 j u,fun q hq=>⟨ie (h.es q hq).1 hb h2 j u,(h.es q hq).2⟩⟩
theorem lO {w0:Wo} {bv sv:Va} {xs:List Int} (h:aq w g 50 [x0,x1,x2,x3]) (hb:aB w base 3 .i64 bv xs) (hs:gj w base sv ps) (hl:Below w0.heap.size w0 w) (hg:w0.heap.size≤g) (y0 y1 y2 y3:Va):
  aB ((((w.setCell ⟨g,0,none⟩ y0).setCell ⟨g,1,none⟩ y1).setCell ⟨g,2,none⟩ y2).setCell ⟨g,3,none⟩ y3) base 3 .i64 bv xs∧gj ((((w.setCell ⟨g,0,none⟩ y0).setCell ⟨g,1,none⟩ y1).setCell ⟨g,2,none⟩ y2).setCell ⟨g,3,none⟩ y3) base sv ps∧Below w0.heap.size w0 ((((w.setCell ⟨g,0,none⟩ y0).setCell ⟨g,1,none⟩ y1).setCell ⟨g,2,none⟩ y2).setCell ⟨g,3,none⟩ y3):=by
 have h1:=h.set 0 y0;have h2:=h1.set 1 y1;have h3:=h2.set 2 y2;refine⟨aB.aT (aB.aT (aB.aT (aB.aT hb h (by decide) 0 y0) h1 (by decide) 1 y1) h2 (by decide) 2 y2) h3 (by decide) 3 y3,(((hs.aT h (by decide) (by decide) 0 y0).aT h1 (by decide) (by decide) 1 y1).aT h2 (by decide) (by decide) 2 y2).aT h3 (by decide) (by decide) 3 y3,?_⟩;exact(((hl.setCell (p:=⟨g,0,none⟩) hg y0).setCell (p:=⟨g,1,none⟩) hg y1).setCell (p:=⟨g,2,none⟩) hg y2).setCell (p:=⟨g,3,none⟩) hg y3
theorem GZ (w:Wo) (I:bF) (s:aX) (h:cR w I s) (dep:Nat) (ae:List (Nat×Int)) (rn:eQ dep ae) (dv:Va) (ue:Ns w w.heap.size .u16 dv (expand ae)) (j i e:Nat) (sg:Nat×Int) (lA:ae[j]? =some sg) (hi:i<sg.1) (he:sg.1=2^e)
  (c:ak) (hc:JA s c) (SP:c.ax=aC ae j*2^(8 - dep)) (hcd:c.depth=dep - e) (pV:c.blocks.getD 0 0=sg.2) (hr:dz c=true) (cC:c.ah.length≤4096):
  Calls prog 56 #[.pointer (some ⟨I.b,0,none⟩),.agg #[.int .u8 dep,dv],.int .i64 (aC ae j+i:Nat)] w fun e' w' =>∃bv sv ps,e' = .returned (.tuple #[.agg #[.int .i64 c.ax,.int .i64 c.depth,bv,sv],.int .i64 0])∧aB w' w.heap.size 3 .i64 bv c.blocks∧gj w' w.heap.size sv ps∧ps.map Prod.fst=c.ah∧Below w.heap.size w w' :=by
 obtain⟨A,cc,rfl,-,-⟩:=ue.form;obtain⟨n,hn⟩:=eX ((expand ae).length);obtain⟨x,hx⟩:=eX (aC ae j);obtain⟨q,hq⟩:=eX (x+i);have hle:=fH ae (j+1);rw[bH ae j sg lA,←hx,←hn] at hle;have xG:n≤256:=by rw[hn];exact rn.len
 have Nc:q<n:=by omega
 have hHc:=(by
  have SE :=hr;unfold dz at SE;simp only[XR,decide_eq_true_eq] at SE;exact SE :_)
 obtain⟨⟨⟨⟨⟨-,-⟩,qc⟩,sE⟩,-⟩,-⟩:=hHc;obtain⟨b,o,c',mQ,-,-,hb,aH⟩:=ue.cells (by omega);rw[←hn] at mQ aH ue⊢;obtain rfl:A=some ⟨b,o,none⟩:=by injection mQ
 have iO:w.cell? ⟨b,o+q,none⟩=some (.int .u16 sg.2):=by
  have h3:=eh ae j sg lA i hi;rw[←hx,←hq] at h3;rw[aH q Nc,Qe,h3];rfl
 obtain⟨W0,aY,-,B0⟩:=nW w [.int .u8 dep,.slice (some ⟨b,o,none⟩) n cc] 133;have X0:aq W0 w.heap.size 133 (uD dep (.slice (some ⟨b,o,none⟩) n cc)):=by rw[aY];exact ar w [_,_] _
 have fD:=aa aY.symm;obtain⟨E,hE⟩:=eX (8 - dep);obtain⟨k1,k2,k3,k4,k5⟩:=Pt rn.d8 hE (by rw[SP,←hx,hE]) sE;obtain⟨W1,aW,R1,B1⟩:=nW W0 [.int .i64 0,.int .i64 0,.slice none 0 0,.slice none 0 0] 50;have gB:=aa aW.symm;have fI:=B0.trans (B1.mono B0.size);have X1:=X0.on B1;have lz:W0.heap.size=w.heap.size+1:=by rw[aY];simp
 obtain⟨rb,ft⟩:=eX (w.heap.size+1);rw[lz,←ft] at R1;have wD:=aa ft.symm;have Hwr:Af (w.heap.size≤rb):=by show _≤_;rw[ft];exact Q0 _
 have uo:=nT W1 dep ae rn (.slice (some ⟨b,o,none⟩) n cc) (Sl.more (Sl.below ue fI) fI.size) j i e sg lA hi he;rw[←hx,←hq,←hcd] at uo;have uo:=aa uo;obtain⟨f,hf⟩:=eX c.ax;obtain⟨d,hd⟩:=eX c.depth;rw[←hf] at k4;rw[←hd] at uo;have wL:=dK hf hd;obtain⟨x0,x1⟩:=gh X1;have X1:=aa X1;have R1:=aa R1;have fI:=aa fI;have zu:=aa iO;have Hb:=aa hb;have iu:Af (q<n∧n≤256∧dep≤8∧0<sg.2∧sg.2<4096):=⟨Nc,xG,rn.d8,rn.Ej sg (Qi lA)⟩;have HC:=aa hc;have Uh:=aa pV;have Hr:=aa hr;have OW:=aa cC;have H:=aa h;rw[←hx,←hq,←hf,←hd];have q0:=Xh q;have qn:=Xi.2 Nc;have hsw:=qR ⟨Int.le_of_lt iu.o.2.2.2.1,iu.o.2.2.2.2⟩;clear ue hn hx hq hle xG Nc hr qc sE mQ aH hb iO aY X0 B0 hE SP aW B1 ft hf hd hc hcd pV cC h rn lA hi he lz;go_enter func56,ntmps56;go_upto_region 1 with fail
 rw[fD.o,gB.o,wD.o];go_upto_region 2 with(go_at_call 123;go_must(refine uo.o.mono ?_);rintro e W2 ⟨rfl,b2⟩;have B2:=aa b2;have X2:=aa (X1.o.on b2);have R2:=aa (R1.o.on b2);clear b2)
 obtain⟨y0,y1⟩:=gh X2.o;clear x0 x1 uo;go_upto_region 3 with fail
 obtain⟨W3,cD,C3,b3⟩:=nW W2 [.int .i64 f,.int .i64 d,.slice none 0 0,.slice none 0 0] 50;obtain⟨cb,iI⟩:=eX W2.heap.size;rw[←cD];rw[←iI] at C3⊢;have X3:=X2.o.on b3;have z1:=X3.cell (j:=1) rfl;have R3:=aa (R2.o.on b3);have L2:=fI.o.trans (B2.o.mono fI.o.size);have L3:=aa (L2.trans (b3.mono L2.size));have hq3:=(L3.o.cell (p:=⟨b,o+q,none⟩) Hb.o).trans zu.o;have ahb:Af (rb≠cb):=by show _≠_;rw[iI];exact XP R2.o.lt
 have Hcb:Af (w.heap.size≤cb∧cb≠rb):=⟨by rw[iI];exact L2.size,by rw[iI];exact XO R2.o.lt⟩
 have rj:Af (abI w c cb rb 0 W3):=⟨Qp _,⟨none,0,none,0,[],by rw[←wL.o.1,←wL.o.2];exact C3,cQ _ _ _ _,Rg _ _,rfl⟩,R3.o,L3.o⟩
 obtain⟨N,hN⟩:=eX c.blocks.length;have HN:=aa hN;clear cD iI X3 L2 C3 b3 y0 y1 hN;go_wp2_with fail;clear z1 hq3 hsw qn q0 k1 k2 k3 k4 k5 X1 R1 R3 R2 X2 B2 fI wD fD gB
 go_loopw [11] (fun av wr=>∃k:Nat,av= .int .i64 (c.blocks.getD k 0)∧Af (abI w c cb rb k wr)) (fun _ wr=>N - OG wr ⟨cb,2,none⟩)
 case atStart=>exact⟨0,by rw[Uh.o],rj.o⟩
 case round=>
  obtain⟨k,rfl,HS⟩:=hrel;obtain⟨Ab,ug,As,cs,ps,mC,mB,mS,mp⟩:=HS.o.mem;obtain⟨-,-,c2,c3⟩:=mm mC;have NS:=aa mC;have HBo:=aa mB;have um:=aa mS;have Hmp:=aa mp;have HL:=aa HS.o.low;have WU:=aa HS.o.res;have Hk:=aa HS.o.le;by_cases hk:k<N
  ·obtain⟨bk,sh,p1,p2,p3,p4,p5,p6⟩:=HC.o.pg k (by rw[←HN.o];exact hk)
   have pj:c.blocks.getD k 0=(bk:Int):=by rw[Qe,p1];rfl
   rw[pj];have mG:((bk:Int)==0)=false:=Xc (by omega);have WB:((bk:Int)!=0)=true:=by rw[bne,mG];rfl
   have EJ:=aa (yl wr I s (H.o.on HL.o) bk p3);have IA:=Nv p1 p2 p3 p4 p5 p6;have NJ:=aa hk;clear HS mC mB mS mp p1 p2 p3 p4 p5 p6 pj hk;go_upto_region 8 with(go_at_call 120;go_must(refine EJ.o.mono ?_);rintro e W4 ⟨pv,rfl,p4,-,b4⟩;have B4:=aa b4;have HDe:=aa (Sa W4 pv _ p4 sh IA.o.2.2.2.2.1);clear p4 b4)
   clear c2 c3;obtain⟨ds,TG⟩:=eX sh.depth;obtain⟨ns,pT⟩:=eX sh.next;obtain⟨ne,bT⟩:=eX sh.es.length;rw[←TG,←pT] at HDe;have Hsh:=iJ TG pT bT;clear TG pT bT;go_upto_region 9 with(go_at_call 33;go_must(refine HDe.o.mono ?_);rintro e W5 ⟨v5,rfl,o5,eo5,Sy,iu5,b5⟩;obtain⟨A5,c5,rfl⟩:=cV.form o5;have O5:=aa o5;have B5:=aa b5;have E5:Af ((∀x∈sh.es,eR x)∧aI ds∧bX ns):=⟨eo5,Sy,iu5⟩;clear o5 b5 eo5 Sy iu5)
   rw[←Hsh.o.2.2] at O5⊢;obtain⟨W6,jc,S6,b6⟩:=nW W5 [.int .u8 ds,.int .u32 ns,.slice A5 ne c5] 92;obtain⟨sb,jq⟩:=eX W5.heap.size;rw[←jc];rw[←jq] at S6⊢;have Yl:=B4.o.trans (B5.o.mono B4.o.size);have B46:=Yl.trans (b6.mono Yl.size);have hl4:=Qh HL.o.size B4.o.size;have P6:EN w W6 cb sb rb [.int .i64 f,.int .i64 d,.slice Ab k ug,.slice As k cs] [.int .u8 ds,.int .u32 ns,.slice A5 ne c5] (.slice Ab k ug) (c.blocks.take k) (.slice As k cs) ps (sh,.slice A5 ne c5):=by
    have h1:=NS.o;rw[←wL.o.1,←wL.o.2] at h1;exact⟨h1.on B46,S6,WU.o.on B46,aB.on HBo.o B46,um.o.on B46,fB (aS O5.o b6) hl4,fun e=>by
     have h2:=(Xr um.o.row sb e).2;have h3:=Yl.size;omega,HL.o.trans (B46.mono HL.o.size)⟩
   have HP6:=aa P6;have hct:=oF W6 (.slice Ab k ug) (c.blocks.take k) W6.heap.size P6.bo.ns (by rw[Qu];have h1:=OW.o;have h2:=HC.o.len;omega) bk
   rw[w5 HC.o.nd IA.o.1] at hct;have HCt:=aa hct;have c2:=P6.c.cell (j:=2) rfl;have Hsb:Af (sb≠cb∧sb≠rb):=⟨by rw[jq];exact XO (Qn NS.o.lt Yl.size),by rw[jq];exact XO (Qn WU.o.lt Yl.size)⟩
   have HSh:Af (fV (sh,.slice A5 ne c5)=[.int .u8 ds,.int .u32 ns,.slice A5 ne c5]∧pC sh):=⟨by rw[Hsh.o.1,Hsh.o.2.1];rfl,by rw[←Hsh.o.1];exact E5.o.2.1,by rw[←Hsh.o.2.1];exact E5.o.2.2,(GP IA.o.2.2.2.2.1).2⟩
   clear P6 hct jc jq b6 S6 Yl B46 hl4 HDe EJ;go_upto_region 11 with(go_at_call 124;go_must(refine HCt.o.mono ?_);rintro e W7 ⟨rfl,rfl⟩)
   have wN:=aa E5.o.1;have bQ:Af (k≤4096∧(c.blocks.take k).length≤10000∧ps.length≤10000):=by
    have h1:=OW.o;have h2:=HC.o.len;have h3:=Hk.o;have h4:=XF List.length Hmp.o;rw[Qq,Qu] at h4;exact⟨by omega,by rw[Qu];omega,by omega⟩
   clear c2;go_cut [65] from 61 to 72 (fun v65 W=>Af (∃vb vs,EN w W cb sb rb [.int .i64 f,.int .i64 d,vb,vs] [.int .u8 ds,.int .u32 ns,.slice A5 ne c5] vb (c.blocks.take k++[(bk:Int)]) vs (ps++[(sh,.slice A5 ne c5)]) (sh,.slice A5 ne c5)))
   case first=>
    refine bL (fun j=>[11,12,13].contains j) (fun W=>aq W cb 50 [.int .i64 f,.int .i64 d,.slice Ab k ug,.slice As k cs]∧aq W sb 92 [.int .u8 ds,.int .u32 ns,.slice A5 ne c5]) (by kernel_rfl) ?_;have HP7:=aa (HP6.o.on (W' :=W6.drew) (below_drewN (Xj _ _) 1));obtain⟨Wd,dJ⟩:=eX W6.drew;rw[←dJ] at HP7⊢;clear dJ;have hS:aq Wd cb 50 [.int .i64 f,.int .i64 d,.slice Ab k ug,.slice As k cs]∧aq Wd sb 92 [.int .u8 ds,.int .u32 ns,.slice A5 ne c5]:=⟨HP7.o.c,HP7.o.s⟩;refine tK 0 61 (.pointer (some ⟨cb,2,none⟩)) rfl rfl rfl (by kernel_rfl) (fun _ _ _ h=>h) (fun W hW=>by go_simp) hS ?_
    try simp only[Act.put,Qb,Qc,Qd]
    refine tK 1 62 (.slice Ab k ug) rfl rfl rfl (by kernel_rfl) (fun _ _ _ h=>h) (fun W hW=>by have hx:=hW.1.cell (j:=2) rfl;go_simp) hS ?_
    try simp only[Act.put,Qb,Qc,Qd]
    refine tK 2 63 (.int .i64 bk) rfl rfl rfl (by kernel_rfl) (fun _ _ _ h=>h) (fun W hW=>by go_simp) hS ?_
    try simp only[Act.put,Qb,Qc,Qd]
    refine tK 5 66 (.pointer (some ⟨cb,3,none⟩)) rfl rfl rfl (by kernel_rfl) (fun _ _ _ h=>h) (fun W hW=>by go_simp) hS ?_
    try simp only[Act.put,Qb,Qc,Qd]
    refine tK 6 67 (.slice As k cs) rfl rfl rfl (by kernel_rfl) (fun _ _ _ h=>h) (fun W hW=>by have hx:=hW.1.cell (j:=3) rfl;go_simp) hS ?_
    try simp only[Act.put,Qb,Qc,Qd]
    refine tK 7 68 (.agg #[.int .u8 ds,.int .u32 ns,.slice A5 ne c5]) rfl rfl rfl (by kernel_rfl) (fun _ _ _ h=>h) (fun W hW=>by have hx:=hW.2.cell (j:=0) rfl;have hy:=hW.2.cell (j:=1) rfl;have hz:=hW.2.cell (j:=2) rfl;go_simp) hS ?_
    try simp only[Act.put,Qb,Qc,Qd]
    refine gR [3,4,10] [8,9] (fun a0 i j a W=>∃MY MA My MX Mz vb bl vs pl,a=((((a0.put (some 64) MY).put (some 65) MA).put (some 71) My).put (some 69) MX).put (some 70) Mz∧EN w W cb sb rb [.int .i64 f,.int .i64 d,.slice Ab k ug,.slice As k cs] [.int .u8 ds,.int .u32 ns,.slice A5 ne c5] vb bl vs pl (sh,.slice A5 ne c5)∧
     Ap1 3 [.int .i64 bk] W MY MA vb (.slice Ab k ug) (bl=c.blocks.take k) (bl=c.blocks.take k++[(bk:Int)]) i∧(3≤i→My= .pointer (some ⟨cb,2,none⟩))∧Ap1 92 [.int .u8 ds,.int .u32 ns,.slice A5 ne c5] W MX Mz vs (.slice As k cs) (pl=ps) (pl=ps++[(sh,.slice A5 ne c5)]) j) 3 rfl (by kernel_rfl) ⟨_,_,_,_,_,_,_,_,_,amO (by rfl),HP7.o,⟨rfl,rfl⟩,fun h=>absurd h (by decide),⟨rfl,rfl⟩⟩ ⟨?_,?_,?_,trivial⟩ ⟨?_,?_,trivial⟩ ?_
    ·rintro j a W ⟨MY,MA,My,MX,Mz,vb,bl,vs,pl,rfl,P,⟨rfl,rfl⟩,-,HB⟩
     refine bJ rfl (fun K hK=> ?_);obtain⟨V,hV,X,b⟩:=nW W [.int .i64 bk] 3;simp only[Act.put,Qb,Qc,Qd];go_simp;rw[←hV];exact hK.out _ _ ⟨fun _=>⟨(P.on b).c,(P.on b).s⟩,_,MA,My,MX,Mz,_,_,vs,pl,rfl,P.on b,⟨rfl,rfl,_,rfl,X⟩,fun h=>absurd h (by decide),HB.mp fun g X=>X.on b⟩
    ·rintro j a W ⟨MY,MA,My,MX,Mz,vb,bl,vs,pl,rfl,P,⟨rfl,rfl,g,rfl,X⟩,-,HB⟩
     refine bJ rfl (fun K hK=> ?_);obtain⟨v,V,r,P2,g2⟩:=P.anF bQ.o.2.1 _ _ X 34;obtain⟨A2,m2,e2,rfl⟩:=P2.bo.bu;simp only[Act.put,Qb,Qc,Qd];refine gM (some 65) rfl (by rfl) (ea rfl rfl r) ?_;exact hK.out _ _ ⟨fun _=>⟨P2.c,P2.s⟩,_,_,My,MX,Mz,_,_,vs,pl,rfl,P2,⟨rfl,rfl,_,_,_,rfl⟩,fun h=>absurd h (by decide),HB.mp fun g X=>X.grown g2 (fun e=>aq.not_row X (by decide) P.bo e.symm)⟩
    ·rintro j a W ⟨MY,MA,My,MX,Mz,vb,bl,vs,pl,rfl,P,HA,-,HB⟩
     refine bJ rfl (fun K hK=> ?_);simp only[Act.put,Qb,Qc,Qd];go_simp;exact hK.out _ _ ⟨fun _=>⟨P.c,P.s⟩,MY,MA,_,MX,Mz,vb,bl,vs,pl,rfl,P,HA,fun _=>rfl,HB⟩
    ·rintro i a W ⟨MY,MA,My,MX,Mz,vb,bl,vs,pl,rfl,P,HA,H71,⟨rfl,rfl⟩⟩
     refine bJ rfl (fun K hK=> ?_);obtain⟨V,hV,X,b⟩:=nW W [.int .u8 ds,.int .u32 ns,.slice A5 ne c5] 92;simp only[Act.put,Qb,Qc,Qd];go_simp;rw[←hV];exact hK.out _ _ ⟨fun _=>⟨(P.on b).c,(P.on b).s⟩,MY,MA,My,_,Mz,vb,bl,_,_,rfl,P.on b,HA.mp fun g X=>X.on b,H71,⟨rfl,rfl,_,rfl,X⟩⟩
    ·rintro i a W ⟨MY,MA,My,MX,Mz,vb,bl,vs,pl,rfl,P,HA,H71,⟨rfl,rfl,g,rfl,X⟩⟩
     refine bJ rfl (fun K hK=> ?_);obtain⟨v,V,r,P2,g2⟩:=P.anE bQ.o.2.2 ⟨HSh.o.2,wN.o⟩ (_) (by rw[HSh.o.1];exact X) 48
     obtain⟨A4,m4,e4,rfl⟩:=P2.so.form;simp only[Act.put,Qb,Qc,Qd];refine gM (some 70) rfl (by rfl) (ea rfl rfl r) ?_;exact hK.out _ _ ⟨fun _=>⟨P2.c,P2.s⟩,MY,MA,My,_,_,vb,bl,_,_,rfl,P2,HA.mp fun g X=>X.grown g2 (fun e=>aq.not_row X (by decide) P.so.row e.symm),H71,⟨rfl,rfl,_,_,_,rfl⟩⟩
    ·rintro a W ⟨MY,MA,My,MX,Mz,vb,bl,vs,pl,rfl,P,⟨rfl,rfl,A2,m2,e2,rfl⟩,H71,⟨rfl,rfl,A4,m4,e4,rfl⟩⟩
     obtain rfl:=H71 (by decide);simp only[Act.put,Qb,Qc,Qd];have z2:=P.c.cell (j:=2) rfl;have f2:=P.c.free 2;have P5:=P.set Hsb.o.1 ahb.o Hcb.o.1 2 (.slice A2 m2 e2);have z3:=P5.c.cell (j:=3) rfl;have f3:=P5.c.free 3;have P6:=aa (P5.set Hsb.o.1 ahb.o Hcb.o.1 3 (.slice A4 m4 e4));clear P P5;refine ju 11 rfl (by kernel_rfl) fun K hK=> ?_
     go_simp;refine hK.out _ _ (fun h=>absurd h (by decide)) ?_;clear hK K
     try simp only[Act.put,Qb,Qc,Qd]
     refine ju 12 rfl (by kernel_rfl) fun K hK=> ?_
     go_simp;refine hK.out _ _ (fun h=>absurd h (by decide)) ?_;clear hK K
     try simp only[Act.put,Qb,Qc,Qd]
     refine ju 13 rfl (by kernel_rfl) fun K hK=> ?_
     go_simp;refine hK.out _ _ (fun h=>absurd h (by decide)) ?_;clear hK K
     try simp only[Act.put,Qb,Qc,Qd]
     refine bD (by kernel_rfl) ?_ _;go_wp2_with fail;go_meet;exact⟨_,_,P6.o⟩
   case rest=>
    obtain⟨vb,vs,hP⟩:=hcut.o;obtain⟨A2,m2,e2,rfl⟩:=hP.bo.bu;obtain⟨A4,m4,e4,rfl⟩:=hP.so.form;have Nf:m2=k+1:=by
     obtain⟨A',c'',ee,-⟩:=hP.bo.ns.form;injection ee with _ ee
     rw[ee,Qo,Qu,ZA];have h1:=(Ql.1 IA.o.1).1;omega
    have fc:ps.length=k:=by
     have h4:=XF List.length Hmp.o;rw[Qq,Qu] at h4;have h1:=(Ql.1 IA.o.2.2.2.1).1;omega
    have hm4:m4=k+1:=by
     obtain⟨A',c'',ee,-⟩:=(Sl.bU hP.so.row:Sl _ _ _ _ _ _).form;injection ee with _ ee
     rw[ee,Qo,ZA,fc]
    subst Nf hm4;have hST:abI w c cb rb (k+1) wc:=⟨(Ql.1 IA.o.1).1,⟨A2,e2,A4,e4,ps++[(sh,.slice A5 ne c5)],by rw[←wL.o.1,←wL.o.2];exact hP.c,by rw[aA c.blocks k _ IA.o.1];exact hP.bo,hP.so,by rw[QL,Hmp.o,aA c.ah k _ IA.o.2.2.2.1];rfl⟩,hP.r,hP.low⟩
    have HST:=aa hST;have s1:=hP.s.cell (j:=1) rfl;have hnw:IntKind.i64.wrap ns=ns:=by
     have h1:=HSh.o.2.2.1;rw[←Hsh.o.2.1] at h1;unfold bX at h1;simp only[XN];omega
    have MT:Af (ns=c.blocks.getD (k+1) 0):=by show _=_;rw[Hsh.o.2.1];exact IA.o.2.2.2.2.2
    have Hl1:=aa (CE (hP.c.cell (j:=2) rfl));have Hl0:=aa (CE (NS.o.cell (j:=2) rfl));clear hST hP fc;go_wp2_with fail;exact⟨⟨k+1,by rw[MT.o],HST.o⟩,by rw[Hl1.o,Hl0.o];have:=NJ.o;omega⟩
  ·have hkN:=QE (by rw[HN.o];exact HS.o.le) (QC hk)
   have pj:c.blocks.getD k 0=0:=by
    rw[Qe,QQ (by rw[hkN,HN.o];exact Qg _)];rfl
   rw[pj];have hB:aB wr w.heap.size 3 .i64 (.slice Ab k ug) c.blocks:=by
    have h1:=mB;rw[Qj (by rw[hkN,HN.o];exact Qg _)] at h1
    exact h1
   have fc:ps.map Prod.fst=c.ah:=by
    rw[mp,Qj (by rw[hkN,HN.o,HC.o.len];exact Qg _)]
   have hkc:=hkN.trans HN.o;have dh:ps.length=k:=by rw[←Qq (f:=Prod.fst),fc,←HC.o.len,hkc]
   have hCn:Uq wr wr.heap.size (.agg #[.int .i64 c.ax,.int .i64 c.depth,.slice Ab k ug,.slice As k cs]) c:=⟨_,_,ps,rfl,hB.ns,mS.Wa,fc⟩;obtain⟨qc,sE⟩:c.depth≤8∧c.ax<256:=by
    have SE :=Hr.o;unfold dz at SE;simp only[XR,decide_eq_true_eq] at SE;exact⟨SE.1.1.1.2,SE.1.1.2⟩
   have hRi:=pJ wr c _ hCn qc sE HC.o.ne HC.o.len OW.o;rw[Hr.o,←wL.o.1,←wL.o.2] at hRi;have HRi:=aa hRi;have HB:=aa hB;have j2:=aa mS;have Hps:=aa fc;rw[←wL.o.1,←wL.o.2] at NS;obtain⟨c0,c1⟩:=gh NS.o;clear HS hk mC mB mS mp hkN pj hB fc hkc dh hCn qc sE hRi;go_upto_region 15 with(go_at_call 125;go_must(refine HRi.o.mono ?_);rintro e W7 ⟨rfl,b7⟩;have B7:=aa b7;clear b7)
   have C7:=aa (NS.o.on B7.o);have R7:=aa (WU.o.on B7.o);obtain⟨d0,d1,d2,d3⟩:=mm C7.o;obtain⟨r0,r1,r2,r3⟩:=mm R7.o;obtain⟨f0,f1,f2,f3⟩:=WI R7.o;have HB7:=aa (aB.on HB.o B7.o);have HS7:=aa (j2.o.on B7.o);have HL7:=aa (HL.o.trans (B7.o.mono HL.o.size));clear c0 c1 c2 c3;go_wp2_with fail;refine bodyPost_ret (cG rfl rfl (eY (oW R7.o _ _ _ _))) rfl ?_;have k7:=lO R7.o HB7.o HS7.o HL7.o (by show _≤rb;exact Hwr.o) (.int .i64 f) (.int .i64 d) (.slice Ab k ug) (.slice As k cs)
   exact⟨_,_,ps,rfl,k7.1,k7.2.1,Hps.o,k7.2.2⟩
end
def bz (e:aD):Nat:=(e.print/2^56).toNat
def Ov (e:aD):Prop:=0≤e.print
theorem Mn {e:aD} (h:Ov e):e.print/2^56=(bz e:Int):=by
 unfold bz;exact(Xp (Int.ediv_nonneg h (by decide))).symm
theorem Gz (ax dep:Nat):∀(es:List aD) (seen:List aD) (bh:Int),
  iZ ax dep 0 es (seen,bh)=if es.Nodup∧(∀e∈es,e∉seen∧bY ax dep (bz e)=true) then some (es.reverse++seen,bh) else none:=by
 intro es;induction es with
 |nil=>intro seen bh;simp[iZ]
 |cons e r ih=>
  intro seen bh;rw[pO];unfold sx;by_cases h1:e∈seen
  ·rw[Xo (Or.inl h1),Xd (fun h=>(h.2 e (Qm ..)).1 h1)];rfl
  ·by_cases h2:bY ax dep (e.print/2^56).toNat=false
   ·rw[Xo (Or.inr (Or.inl h2)),Xd (fun h=>by have h3:=(h.2 e (Qm ..)).2;unfold bz at h3;rw[h2] at h3;cases h3)];rfl
   ·rw[Xd (by rintro(h|h|h);exact h1 h;exact h2 h;exact absurd h.1 (XI 0)),Xd (XI 0)];show iZ ax dep 0 r (e::seen,bh)=_;rw[ih];have h2' :bY ax dep (bz e)=true:=by simpa[bz] using h2
    by_cases h:r.Nodup∧∀x∈r,x∉e::seen∧bY ax dep (bz x)=true
    ·rw[Xo h,Xo]
     ·simp
     ·refine⟨List.nodup_cons.2 ⟨fun he=>(h.2 e he).1 (Qm ..),h.1⟩,fun x hx=> ?_⟩;rcases QA.1 hx with rfl|hx
      ·exact⟨h1,h2'⟩
      ·exact⟨fun hs=>(h.2 x hx).1 (Qs _ hs),(h.2 x hx).2⟩
    ·rw[Xd h,Xd];rintro⟨g1,g2⟩;refine h ⟨(List.nodup_cons.1 g1).2,fun x hx=>⟨fun hs=> ?_,(g2 x (Qs _ hx)).2⟩⟩;rcases QA.1 hs with rfl|hs
     ·exact(List.nodup_cons.1 g1).1 hx
     ·exact(g2 x (Qs _ hx)).1 hs
theorem GC (ax dep i:Nat) (hi:0<i):∀(es:List aD) (seen:List aD) (bh:Int),(∀e∈es,Ov e)→
  iZ ax dep i es (seen,bh)=if es.Nodup∧(∀e∈es,e∉seen∧bY ax dep (bz e)=true∧(0≤bh→bh=bz e))∧(∀e∈es,∀e'∈es,bz e=bz e') then some (es.reverse++seen,match es with|[]=>bh|e::_=>(bz e:Int)) else none:=by
 intro es;induction es with
 |nil=>intro seen bh _;simp[iZ]
 |cons e r ih=>
  intro seen bh hu;have he:=Mn (hu e (Qm ..));rw[pO];unfold sx;by_cases h1:e∈seen
  ·rw[Xo (Or.inl h1),Xd (fun h=>(h.2.1 e (Qm ..)).1 h1)];rfl
  ·by_cases h2:bY ax dep (e.print/2^56).toNat=false
   ·rw[Xo (Or.inr (Or.inl h2)),Xd (fun h=>by have h3:=(h.2.1 e (Qm ..)).2.1;unfold bz at h3;rw[h2] at h3;cases h3)];rfl
   ·by_cases h3:0≤bh∧bh≠e.print/2^56
    ·rw[Xo (Or.inr (Or.inr ⟨hi,h3⟩)),Xd (fun h=>h3.2 (by rw[he];exact(h.2.1 e (Qm ..)).2.2 h3.1))];rfl
    ·rw[Xd (by rintro(h|h|h);exact h1 h;exact h2 h;exact h3 h.2),Xo hi];show iZ ax dep i r (e::seen,e.print/2^56)=_;rw[ih _ _ (fun x hx=>hu x (Qs _ hx)),he];have h2' :bY ax dep (bz e)=true:=by simpa[bz] using h2
     have h3' :0≤bh→bh=bz e:=fun h0=>by
      by_cases h4:bh=e.print/2^56
      ·rw[←he];exact h4
      ·exact absurd ⟨h0,h4⟩ h3
     by_cases h:r.Nodup∧(∀x∈r,x∉e::seen∧bY ax dep (bz x)=true∧(0≤(bz e:Int)→(bz e:Int)=bz x))∧(∀x∈r,∀x'∈r,bz x=bz x')
     ·rw[Xo h,Xo]
      ·cases r with
       |nil=>simp
       |cons y r=>
        have h5:=(h.2.1 y (Qm ..)).2.2 (Xh _);simp[←h5]
      ·have h6:∀x∈r,bz e=bz x:=fun x hx=>Int.natCast_inj.1 ((h.2.1 x hx).2.2 (Xh _))
       refine⟨List.nodup_cons.2 ⟨fun hm=>(h.2.1 e hm).1 (Qm ..),h.1⟩,fun x hx=> ?_,fun x hx x' We => ?_⟩
       ·rcases QA.1 hx with rfl|hx
        ·exact⟨h1,h2',h3'⟩
        ·exact⟨fun hs=>(h.2.1 x hx).1 (Qs _ hs),(h.2.1 x hx).2.1,fun h0=>(h3' h0).trans (by rw[h6 x hx])⟩
       ·rcases QA.1 hx with e1|hx<;>rcases QA.1 We with e2|We
        ·rw[e1,e2]
        ·rw[e1];exact h6 x' We
        ·rw[e2];exact(h6 x hx).symm
        ·exact h.2.2 x hx x' We
     ·rw[Xd h,Xd];rintro⟨g1,g2,g3⟩;refine h ⟨(List.nodup_cons.1 g1).2,fun x hx=>⟨fun hs=> ?_,(g2 x (Qs _ hx)).2.1,fun _=> ?_⟩,fun x hx x' We =>g3 x (Qs _ hx) x' (Qs _ We)⟩
      ·rcases QA.1 hs with rfl|hs
       ·exact(List.nodup_cons.1 g1).1 hx
       ·exact(g2 x (Qs _ hx)).1 hs
      ·rw[g3 e (Qm ..) x (Qs _ hx)]
def jH (ax dep:Nat) (seen:List aD) (bh:Int) (L:List aD):Prop:=
 L.Nodup∧(∀e∈L,e∉seen∧bY ax dep (bz e)=true∧(0≤bh→bh=bz e))∧(∀e∈L,∀e'∈L,bz e=bz e')
def abm (bh:Int):List aD→Int
 |[]=>bh
 |e::_=>(bz e:Int)
theorem w7 (ax dep:Nat) (seen:List aD) (bh:Int) (A B:List aD):jH ax dep seen bh (A++B)↔jH ax dep seen bh A∧jH ax dep (A.reverse++seen) (abm bh A) B:=by
 unfold jH;constructor
 ·rintro⟨h1,h2,h3⟩;obtain⟨n1,n2,n3⟩:=List.nodup_append.1 h1;refine⟨⟨n1,fun e he=>h2 e (QB _ he),fun e he e' ud =>h3 e (QB _ he) e' (QB _ ud)⟩,n2,fun e he=> ?_,fun e he e' ud =>h3 e (QD _ he) e' (QD _ ud)⟩;have h4:=h2 e (QD _ he);refine⟨fun hm=> ?_,h4.2.1,fun h0=> ?_⟩
  ·rcases Qz.1 hm with hm|hm
   ·exact n3 e (List.mem_reverse.1 hm) e he rfl
   ·exact h4.1 hm
  ·cases A with
   |nil=>exact h4.2.2 h0
   |cons a A=>exact XF Nat.cast (h3 a (QB _ (Qm ..)) e (QD _ he))
 ·rintro⟨⟨n1,h2,h3⟩,n2,g2,g3⟩;have hc:∀a∈A,∀b∈B,bz a=bz b:=by
   intro a ha b hb;cases A with
   |nil=>cases ha
   |cons x A=>
    have:=(g2 b hb).2.2 (by show(0:Int)≤(bz x:Int);exact Xh _);rw[h3 a ha x (Qm ..)];exact Int.natCast_inj.1 this
  refine⟨List.nodup_append.2 ⟨n1,n2,fun a ha b hb e=> ?_⟩,fun e he=> ?_,fun e he e' ud => ?_⟩
  ·subst e;exact(g2 a hb).1 (QB _ (List.mem_reverse.2 ha))
  ·rcases Qz.1 he with he|he
   ·exact h2 e he
   ·have h5:=g2 e he;have he0:=he;refine⟨fun hm=>h5.1 (QD _ hm),h5.2.1,fun h0=> ?_⟩;cases A with
    |nil=>exact h5.2.2 h0
    |cons a A=>exact((h2 a (Qm ..)).2.2 h0).trans (XF Nat.cast (hc a (Qm ..) e he0))
  ·rcases Qz.1 he with he|he<;>rcases Qz.1 ud with ud |ud
   ·exact h3 e he e' ud
   ·exact hc e he e' ud
   ·exact(hc e' ud e he).symm
   ·exact g3 e he e' ud
theorem GA (ax dep i:Nat) (hi:0<i) (es seen:List aD) (bh:Int) (hu:∀e∈es,Ov e):
  (jH ax dep seen bh es→iZ ax dep i es (seen,bh)=some (es.reverse++seen,abm bh es))∧(¬jH ax dep seen bh es→iZ ax dep i es (seen,bh)=none):=by
 have h:=GC ax dep i hi es seen bh hu;constructor
 ·intro h1;unfold jH at h1;rw[h,Xo h1];cases es<;>rfl
 ·intro h1;unfold jH at h1;rw[h,Xd h1]
theorem Gy (ax dep:Nat):∀(ss:List ay) (i:Nat) (_:0<i) (seen:List aD) (bh:Int),(∀s∈ss,∀e∈s.es,Ov e)→
  ((iA ax dep i ss (seen,bh)).isSome=true↔(∀s∈ss,bC s=true∧s.es≠[])∧jH ax dep seen bh (ss.flatMap (·.es))):=by
 intro ss;induction ss with
 |nil=>
  intro i hi seen bh _;simp[iA,jH]
 |cons s r ih=>
  intro i hi seen bh hu;have hs:=GA ax dep i hi s.es seen bh (hu s (Qm ..));rw[lV,QH,w7];by_cases h1:bC s=false∨(0<i∧s.es=[])
  ·rw[Xo h1];constructor
   ·intro h;cases h
   ·rintro⟨h2,-⟩;have h3:=h2 s (Qm ..);rcases h1 with h1|h1
    ·rw[h3.1] at h1;cases h1
    ·exact absurd h1.2 h3.2
  ·rw[Xd h1];have h2:bC s=true∧s.es≠[]:=⟨by
    cases h:bC s with
    |true=>rfl
    |false=>exact absurd (Or.inl h) h1,fun h=>h1 (Or.inr ⟨hi,h⟩)⟩
   by_cases h3:jH ax dep seen bh s.es
   ·rw[hs.1 h3];show(iA ax dep (i+1) r (s.es.reverse++seen,abm bh s.es)).isSome=true↔_;rw[ih (i+1) (Nat.succ_pos i) _ _ (fun x hx=>hu x (Qs _ hx))];constructor
    ·rintro⟨g1,g2⟩;refine⟨fun x hx=> ?_,h3,g2⟩;rcases QA.1 hx with rfl|hx
     ·exact h2
     ·exact g1 x hx
    ·rintro⟨g1,-,g2⟩;exact⟨fun x hx=>g1 x (Qs _ hx),g2⟩
   ·rw[hs.2 h3];constructor
    ·intro h;cases h
    ·rintro⟨-,h,-⟩;exact absurd h h3
def ak.all (c:ak):List aD:=c.ah.flatMap (·.es)
structure zR (c:ak):Prop where
 ne:c.ah≠[]
 len:c.blocks.length=c.ah.length
 d8:c.depth≤8
 f256:c.ax<256
 mod:c.ax%2^(8 - c.depth)=0
 right:∀s∈c.ah,bC s=true
 full:∀s∈c.ah.tail,s.es≠[]
 once:c.all.Nodup
 its:∀e∈c.all,bY c.ax c.depth (bz e)=true
 one:∀e∈c.ah.tail.flatMap (·.es),∀e'∈c.ah.tail.flatMap (·.es),bz e=bz e'
theorem FT (c:ak) (hu:∀s∈c.ah,∀e∈s.es,Ov e):dz c=true↔zR c:=by
 unfold dz;simp only[XR,decide_eq_true_eq];obtain⟨ax,dep,blocks,ah⟩:=c;cases ah with
 |nil=>
  constructor
  ·rintro⟨⟨⟨⟨⟨h,-⟩,-⟩,-⟩,-⟩,-⟩;exact absurd rfl h
  ·intro h;exact absurd rfl h.ne
 |cons s r=>
  dsimp only at hu⊢;have hz:=Gz ax dep s.es [] (-1);have ht:∀i,0<i→_:=fun i hi=>Gy ax dep r i hi (s.es.reverse++[]) (-1) (fun x hx=>hu x (Qs _ hx))
  constructor
  ·rintro⟨⟨⟨⟨⟨h1,h2⟩,h3⟩,h4⟩,h5⟩,h6⟩;rw[lV] at h6;by_cases h7:bC s=false∨(0<0∧s.es=[])
   ·rw[Xo h7] at h6;cases h6
   ·rw[Xd h7,hz] at h6;by_cases h8:s.es.Nodup∧∀e∈s.es,e∉([]:List aD)∧bY ax dep (bz e)=true
    ·rw[Xo h8] at h6;obtain⟨g1,g2,g3,g4⟩:=(ht 1 (by decide)).1 h6;refine⟨h1,h2,h3,h4,h5,fun x hx=> ?_,fun x hx=>(g1 x hx).2,?_,fun e he=> ?_,g4⟩
     ·rcases QA.1 hx with rfl|hx
      ·cases h:bC x with
       |true=>rfl
       |false=>exact absurd (Or.inl h) h7
      ·exact(g1 x hx).1
     ·show((s::r).flatMap (·.es)).Nodup;rw[QH];refine List.nodup_append.2 ⟨h8.1,g2,fun a ha b hb e=>(g3 b hb).1 ?_⟩;subst e;exact QB _ (List.mem_reverse.2 ha)
     ·have ud :e∈(s::r).flatMap (·.es):=he;rw[QH] at ud;rcases Qz.1 ud with ud |ud
      ·exact(h8.2 e ud).2
      ·exact(g3 e ud).2.1
    ·rw[Xd h8] at h6;cases h6
  ·intro h;have bm:((s::r).flatMap (·.es)).Nodup:=h.once;have rp:∀e∈(s::r).flatMap (·.es),bY ax dep (bz e)=true:=h.its;rw[QH] at bm rp;obtain⟨n1,n2,n3⟩:=List.nodup_append.1 bm;refine⟨⟨⟨⟨⟨h.ne,h.len⟩,h.d8⟩,h.f256⟩,h.mod⟩,?_⟩;rw[lV,Xd (by rintro(h7|h7);rw[h.right s (Qm ..)] at h7;cases h7;exact absurd h7.1 (XI 0)),hz,Xo ⟨n1,fun e he=>⟨QV,rp e (QB _ he)⟩⟩];refine(ht 1 (by decide)).2 ⟨fun x hx=>⟨h.right x (Qs _ hx),h.full x hx⟩,n2,fun e he=>⟨fun hm=> ?_,rp e (QD _ he),fun h0=>absurd h0 (by decide)⟩,h.one⟩;rcases Qz.1 hm with hm|hm
   ·exact n3 e (List.mem_reverse.1 hm) e he rfl
   ·cases hm
section
variable {a b : aD} {dep ax : Nat}
def bZ (ax dep:Nat) (l:List aD) (blocks:List Int) (ah:List ay):ak:=
 if l=[]∧blocks≠[] then⟨ax,dep,blocks,ah⟩ else⟨ax,dep,0::blocks,⟨dep,blocks.headD 0,l⟩::ah⟩
def ak.first (c:ak):List aD:=(c.ah.headD ⟨0,0,[]⟩).es
def cI (half ax:Nat) (e:aD):Bool:=bz e&&&half==ax&&&half
def fR (c:ak) (half ax:Nat):ak:=
 if c.ah.tail.any (fun s=>s.es.any fun e=> !cI half ax e) then bZ ax (c.depth+1) (c.first.filter (cI half ax)) [] []
 else bZ ax (c.depth+1) (c.first.filter (cI half ax)) c.blocks.tail c.ah.tail
def dj (c:ak):Nat:=2^(7 - c.depth)
def dQ (c:ak):ak:=fR c (dj c) c.ax
def dd (c:ak):ak:=fR c (dj c) (c.ax+dj c)
def tr (l:List aD) (e:aD):Nat:=(l.takeWhile fun a=>decide (fO a e<0)).length
def qi (l:List aD) (e:aD):List aD:=l.take (tr l e)++e::l.drop (tr l e)
def rH (c:ak) (e:aD):Bool:=c.all.all fun a=>bz a==bz e
def cP:Nat→ak→aD→List ak
 |0,_,_=>[]
 |k+1,c,e=>
  if c.first.length<9 then[bZ c.ax c.depth (qi c.first e) c.blocks.tail c.ah.tail]
  else if rH c e then[bZ c.ax c.depth [e] c.blocks c.ah]
  else if bY (dQ c).ax (dQ c).depth (bz e) then cP k (dQ c) e++[dd c] else dQ c::cP k (dd c) e
theorem Vp:fO a b<0↔a.print<b.print∨(a.print=b.print∧a.block<b.block):=by
 unfold fO mK;by_cases h1:a.print<b.print
 ·simp[h1]
 ·by_cases h2:b.print<a.print
  ·simp[h1,h2];omega
  ·have h3:a.print=b.print:=by omega
   by_cases h4:a.block<b.block
   ·simp[h3,h4]
   ·by_cases h5:b.block<a.block<;>simp[h3,h4,h5]
theorem pM {c:aD} (h1:fO a b<0) (h2:fO b c<0):fO a c<0:=by
 rw[Vp] at*;omega
theorem nP:∀l:List aD,dV l=true↔l.Pairwise (fun a b=>fO a b<0)
 |[]=>by simp[dV]
 |[a]=>by simp[dV]
 |a::b::r=>by
  rw[dV,XR,decide_eq_true_eq,nP (b::r),List.pairwise_cons (a:=a)];constructor
  ·rintro⟨h1,h2⟩
   refine⟨fun x hx=> ?_,h2⟩;rcases QA.1 hx with rfl|hx
   ·exact h1
   ·exact pM h1 ((List.pairwise_cons.1 h2).1 x hx)
  ·rintro⟨h1,h2⟩
   exact⟨h1 b (Qm ..),h2⟩
theorem VB (l:List aD) (e:aD):tr l e≤l.length:=(List.takeWhile_sublist _).length_le
theorem Lz (a:aD) (r:List aD) (e:aD):qi (a::r) e=if fO a e<0 then a::qi r e else e::a::r:=by
 unfold qi tr;by_cases h:fO a e<0
 ·rw[List.takeWhile_cons_of_pos (by simpa using h),Xo h];rfl
 ·rw[List.takeWhile_cons_of_neg (by simpa using h),Xd h];rfl
theorem RH (e:aD):qi [] e=[e]:=rfl
theorem rV:∀(l:List aD) (e:aD),(qi l e).Perm (e::l)
 |[],e=>by rw[RH]
 |a::r,e=>by
  rw[Lz];split
  ·exact((rV r e).cons a).trans (List.Perm.swap _ _ _)
  ·exact List.Perm.refl _
theorem RJ (l:List aD) (e:aD):(qi l e).length=l.length+1:=by
 rw[(rV l e).length_eq];rfl
theorem lE {n:Nat}:bY ax dep n=true↔n/2^(8 - dep)=ax/2^(8 - dep):=by
 unfold bY;rw[beq_iff_eq,←Nat.shiftRight_eq_div_pow,←Nat.shiftRight_eq_div_pow,←Nat.shiftRight_eq_div_pow,Nat.shiftRight_xor_distrib];refine⟨fun h=>Nat.eq_of_testBit_eq fun i=> ?_,fun h=>by rw[h];exact Nat.xor_self _⟩;have h1:=XF (fun z=>Nat.testBit z i) h;simp only[Nat.testBit_xor,Nat.zero_testBit] at h1;simpa using h1
theorem Mw {l:List aD} (hu:∀e∈l,bI e.print) (hd:dep≤8) (h:∀e∈l,bY ax dep (bz e)=true):kC l dep=true:=by
 unfold kC;cases l with
 |nil=>rfl
 |cons a r=>
  dsimp only;rw[Bool.or_eq_true,beq_iff_eq,beq_iff_eq];refine Or.inr ?_;have hl:(a::r).getLastD a∈a::r:=by
   rw[List.getLastD_cons];rcases List.eq_nil_or_concat r with rfl|⟨q,x,rfl⟩
   ·exact Qm ..
   ·simp
  have h1:=lE.1 (h a (Qm ..));have h2:=lE.1 (h _ hl);have hb:∀e∈a::r,e.print.toNat/2^(64 - dep)=bz e/2^(8 - dep):=fun e he=>by
   have h0:=(hu e he).1;unfold bz;obtain⟨n,hn⟩:∃n:Nat,e.print=n:=⟨e.print.toNat,(Xp h0).symm⟩;rw[hn,Xt,show(2:Int)^56=((2^56:Nat):Int) by decide,←Int.natCast_ediv,Xt,Nat.div_div_eq_div_mul,←Nat.pow_add];congr 2
   omega
  rw[show(64 - (dep:Int)).toNat=64 - dep by omega,←Nat.shiftRight_eq_div_pow,Nat.shiftRight_xor_distrib,Nat.shiftRight_eq_div_pow,Nat.shiftRight_eq_div_pow,hb a (Qm ..),hb _ hl,h1,h2,Nat.xor_self]
end
section
variable {e : aD} {dep ax : Nat} {c : ak} {l : List aD} {blocks : List Int}
structure tw (e:aD):Prop where
 u:bI e.print
 b0:e.block≠0
 b1:e.block<4096
theorem CB {α:Type} {p:α→Bool} {l:List α} {a:α} (h:a∈l.filter p):a∈l:=(List.mem_filter.1 h).1
theorem all_cons (c:ak) (s:ay) (r:List ay) (h:c.ah=s::r):c.all=s.es++r.flatMap (·.es)∧c.first=s.es:=by
 unfold ak.all ak.first;rw[h];exact⟨QH,rfl⟩
theorem lu (ax dep:Nat) (l:List aD) (blocks:List Int) (ah:List ay):(bZ ax dep l blocks ah).all=l++ah.flatMap (·.es):=by
 unfold bZ;split
 ·rename_i h
  rw[h.1];rfl
 ·rfl
theorem se (ax dep:Nat) (l:List aD) (blocks:List Int) (ah:List ay):(bZ ax dep l blocks ah).ax=ax∧(bZ ax dep l blocks ah).depth=dep:=by
 unfold bZ;split<;>exact⟨rfl,rfl⟩
theorem Dg (ax dep:Nat) (l:List aD) (blocks:List Int) (ah:List ay) (hd:dep≤8) (hf:ax<256) (hm:ax%2^(8 - dep)=0) (hl:l.length≤9) (hr:dV l=true) (hg:∀e∈l,tw e)
  (fg:blocks.length=ah.length) (hb:blocks.headD 0<4096) (hs:∀s∈ah,bC s=true∧s.es≠[]) (N1:∀e∈ah.flatMap (·.es),∀e'∈ah.flatMap (·.es),bz e=bz e')
  (bm:(l++ah.flatMap (·.es)).Nodup) (rp:∀e∈l++ah.flatMap (·.es),bY ax dep (bz e)=true):zR (bZ ax dep l blocks ah):=by
 have ha:=lu ax dep l blocks ah;have tD :=se ax dep l blocks ah;obtain⟨c,hc⟩:=eX (bZ ax dep l blocks ah);rw[←hc] at ha tD⊢;have key:c.ah≠[]∧c.blocks.length=c.ah.length∧(∀s∈c.ah,bC s=true)∧∀s∈c.ah.tail,s∈ah:=by
  rw[hc];unfold bZ;split
  ·rename_i h
   refine⟨fun h2=>h.2 (List.length_eq_zero_iff.1 ?_),fg,fun s h2=>(hs s h2).1,fun s h2=>List.mem_of_mem_tail h2⟩;have h2' :ah=[]:=h2;rw[fg,h2'];rfl
  ·refine⟨List.cons_ne_nil _ _,by simp[fg],fun s h2=> ?_,fun s h2=>h2⟩
   rcases QA.1 h2 with rfl|h2
   ·unfold bC
    have h3:=Mw (fun e he=>(hg e he).u) hd (fun e he=>rp e (QB _ he));simp only[XR,decide_eq_true_eq,XT];exact⟨⟨⟨⟨⟨by omega,hb⟩,hl⟩,fun e he=>⟨(hg e he).b0,(hg e he).b1⟩⟩,hr⟩,h3⟩
   ·exact(hs s h2).1
 refine⟨key.1,key.2.1,by rw[tD.2];exact hd,by rw[tD.1];exact hf,by rw[tD.1,tD.2];exact hm,key.2.2.1,fun s h=>(hs s (key.2.2.2 s h)).2,by rw[ha];exact bm,fun e he=>by rw[tD.1,tD.2];rw[ha] at he;exact rp e he,fun e he e' ud => ?_⟩
 obtain⟨s,h1,h2⟩:=QT.1 he;obtain⟨s',h3,h4⟩:=QT.1 ud;exact N1 e (QT.2 ⟨s,key.2.2.2 s h1,h2⟩) e' (QT.2 ⟨s',key.2.2.2 s' h3,h4⟩)
theorem Jz (n k:Nat):n&&&2^k=(n/2^k%2)*2^k:=by
 have h:n/2^k%2=0∨n/2^k%2=1:=by omega
 refine Nat.eq_of_testBit_eq fun i=> ?_
 rw[Nat.testBit_and,Nat.testBit_two_pow];have ht:n.testBit k=decide (n/2^k%2=1):=Nat.testBit_eq_decide_div_mod_eq;by_cases hi:k=i
 ·subst hi;rw[ht];rcases h with h|h<;>rw[h]<;>simp
 ·rcases h with h|h<;>rw[h]<;>simp[hi]
theorem Rs {k:Nat}:cI (2^k) ax e=true↔bz e/2^k%2=ax/2^k%2:=by
 unfold cI;rw[beq_iff_eq,Jz,Jz];exact Nat.mul_left_inj (XO (Nat.pow_pos (by decide)))
theorem qO (hd:dep<8) (hf:ax<256) (hm:ax%2^(8 - dep)=0):2^(8 - dep)=2^(7 - dep)*2∧ax%2^(7 - dep)=0∧(ax+2^(7 - dep))%2^(7 - dep)=0∧ax+2^(7 - dep)<256∧
  ax/2^(7 - dep)%2=0∧(ax+2^(7 - dep))/2^(7 - dep)=ax/2^(7 - dep)+1:=by
 have h1:2^(8 - dep)=2^(7 - dep)*2:=by rw[←Nat.pow_succ];congr 1;omega
 have hp:0<2^(7 - dep):=Nat.pow_pos (by decide);have J4:2^(7 - dep)*2*2^dep=256:=by rw[←h1,←Nat.pow_add,show 8 - dep+dep=8 by omega]
 rw[h1] at hm;obtain⟨q,hq⟩:=Nat.dvd_of_mod_eq_zero hm;generalize 2^(7 - dep)=p at*;have h2:ax=p*(2*q):=by rw[hq,Nat.mul_assoc]
 have aJ:q<2^dep:=by
  have:p*2*q<p*2*2^dep:=by rw[←hq,J4];exact hf
  exact Nat.lt_of_mul_lt_mul_left this
 refine⟨h1,by rw[h2];exact Nat.mul_mod_right _ _,by rw[h2,Nat.add_mod_right];exact Nat.mul_mod_right _ _,?_,?_,?_⟩
 ·have:p*2*(q+1)≤p*2*2^dep:=Nat.mul_le_mul_left _ aJ;rw[J4,Nat.mul_succ,←hq] at this;omega
 ·rw[h2,Nat.mul_div_cancel_left _ hp];omega
 ·exact Nat.add_div_right _ hp
theorem Ce {n:Nat} (hd:dep<8) (hf:ax<256) (hm:ax%2^(8 - dep)=0) (h:bY ax dep n=true):
  (bY ax (dep+1) n=true↔n/2^(7 - dep)%2=0)∧(bY (ax+2^(7 - dep)) (dep+1) n=true↔n/2^(7 - dep)%2=1):=by
 obtain⟨h1,h2,h3,h4,h5,h6⟩:=qO hd hf hm;rw[lE] at h;rw[lE,lE,show 8 - (dep+1)=7 - dep by omega,h6];rw[h1,←Nat.div_div_eq_div_mul,←Nat.div_div_eq_div_mul] at h;generalize n/2^(7 - dep)=x at*;generalize ax/2^(7 - dep)=y at*;omega
structure ur (c:ak):Prop where
 ok:zR c
 ent:∀e∈c.all,tw e
 Ej:∀x∈c.blocks,0≤x∧x<4096
theorem ur.cons (h:ur c):∃s r b br,c.ah=s::r∧c.blocks=b::br∧br.length=r.length∧c.all=s.es++r.flatMap (·.es)∧c.first=s.es:=by
 have h1:=h.ok.ne;have h2:=h.ok.len;cases hs:c.ah with
 |nil=>exact absurd hs h1
 |cons s r=>
  rw[hs] at h2;cases hb:c.blocks with
  |nil=>rw[hb] at h2;cases h2
  |cons b br=>
   rw[hb] at h2;have h3:=all_cons c s r hs;exact⟨s,r,b,br,rfl,rfl,by simpa using h2,h3.1,h3.2⟩
theorem fZ {s:ay} (h:bC s=true):s.es.length≤9∧dV s.es=true∧s.next<4096:=by
 unfold bC at h;simp only[XR,decide_eq_true_eq] at h;exact⟨h.1.1.1.2,h.1.2,h.1.1.1.1.2⟩
theorem yV {ah:List ay} (h:∀x∈blocks,0≤x∧x<4096):∀x∈(bZ ax dep l blocks ah).blocks,0≤x∧x<4096:=by
 unfold bZ;split
 ·exact h
 ·intro x hx;rcases QA.1 hx with rfl|hx
  ·decide
  ·exact h x hx
theorem RL (h:∀x∈blocks,0≤x∧x<4096):blocks.headD 0<4096:=by
 cases blocks with
 |nil=>decide
 |cons b r=>exact(h b (Qm ..)).2
theorem zX (p:aD→Bool) (h:dV l=true):dV (l.filter p)=true:=by
 rw[nP] at*;exact h.filter p
theorem CA (h:ur c) (hd:c.depth<8) (hf:ax=c.ax∨ax=c.ax+dj c):∀e∈c.all,(cI (dj c) ax e=true↔bY ax (c.depth+1) (bz e)=true):=by
 intro e he;obtain⟨h1,h2⟩:=Ce hd h.ok.f256 h.ok.mod (h.ok.its e he);obtain⟨g1,g2,g3,g4,g5,g6⟩:=qO hd h.ok.f256 h.ok.mod;unfold dj at*;rw[Rs];rcases hf with rfl|rfl
 ·rw[h1,g5]
 ·rw[h2,g6];omega
theorem zE (c:ak) (half ax:Nat) (s:ay) (r:List ay) (b:Int) (br:List Int) (hs:c.ah=s::r) (hb:c.blocks=b::br):
  ((r.any fun s=>s.es.any fun e=> !cI half ax e)=true→fR c half ax=bZ ax (c.depth+1) (s.es.filter (cI half ax)) [] [])∧
  (¬(r.any fun s=>s.es.any fun e=> !cI half ax e)=true→fR c half ax=bZ ax (c.depth+1) (s.es.filter (cI half ax)) br r):=by
 obtain⟨f,d,bl,sh⟩:=c;dsimp only at hs hb;subst hs hb;exact⟨fun h=>Xo h,fun h=>Xd h⟩
theorem uX (h:ur c) (hd:c.depth<8) (hf:ax=c.ax∨ax=c.ax+dj c):(fR c (dj c) ax).all=c.all.filter (cI (dj c) ax)∧(fR c (dj c) ax).ax=ax∧(fR c (dj c) ax).depth=c.depth+1:=by
 obtain⟨s,r,b,br,hs,hb,hl,ha,Bq⟩:=h.cons;have N1:=h.ok.one;have hm:=CA h hd hf;rw[ha];rw[ha] at hm;rw[hs] at N1;have MC:=zE c (dj c) ax s r b br hs hb;rw[List.filter_append];simp only[List.tail_cons] at N1;by_cases uC:(r.any fun s=>s.es.any fun e=> !cI (dj c) ax e)=true
 ·rw[MC.1 uC];refine⟨?_,se ..⟩;rw[lu];congr 1
  obtain⟨t,ht,h2⟩:=Xb.1 uC;obtain⟨a,ha',h3⟩:=Xb.1 h2;have UG:=QT.2 ⟨t,ht,ha'⟩;symm
  refine List.filter_eq_nil_iff.2 fun e he h4=> ?_
  have h5:cI (dj c) ax a=true:=by have e1:=N1 e he a UG;unfold cI at h4⊢;rw[←e1];exact h4
  rw[h5] at h3;cases h3
 ·rw[MC.2 uC];refine⟨?_,se ..⟩;rw[lu];congr 1
  symm
  refine List.filter_eq_self.2 fun e he=> ?_
  obtain⟨t,ht,h2⟩:=QT.1 he;cases h3:cI (dj c) ax e with
  |true=>rfl
  |false=>exact absurd (Xb.2 ⟨t,ht,Xb.2 ⟨e,h2,by rw[h3];rfl⟩⟩) uC
theorem Jb (h:ur c) (hd:c.depth<8) (hf:ax=c.ax∨ax=c.ax+dj c):ur (fR c (dj c) ax):=by
 obtain⟨s,r,b,br,hs,hb,hl,ha,Bq⟩:=h.cons;have bm:=uX h hd hf;have hm:=CA h hd hf;obtain⟨g1,g2,g3,g4,g5,g6⟩:=qO hd h.ok.f256 h.ok.mod;have sE:ax<256:=by
  rcases hf with rfl|rfl
  ·exact h.ok.f256
  ·exact g4
 have ago:ax%2^(8 - (c.depth+1))=0:=by
  rw[show 8 - (c.depth+1)=7 - c.depth by omega];rcases hf with rfl|rfl
  ·exact g2
  ·exact g3
 have UL:∀e∈(fR c (dj c) ax).all,tw e:=fun e he=>h.ent e (CB (bm.1▸he))
 have bO:∀x∈br,0≤x∧x<4096:=fun x hx=>h.Ej x (by rw[hb];exact Qs _ hx)
 have AQ:=fZ (h.ok.right s (by rw[hs];exact Qm ..));have ar3:=bm.1;have rp:∀e∈(fR c (dj c) ax).all,bY ax (c.depth+1) (bz e)=true:=fun e he=>by rw[bm.1] at he;obtain⟨h1,h2⟩:=List.mem_filter.1 he;exact(hm e h1).1 h2
 have im:(fR c (dj c) ax).all.Nodup:=by rw[bm.1];exact h.ok.once.filter _
 have Ir:(c.first.filter (cI (dj c) ax)).length≤9:=Qh (List.length_filter_le _ _) (by rw[Bq];exact AQ.1);have eo:dV (c.first.filter (cI (dj c) ax))=true:=zX _ (by rw[Bq];exact AQ.2.1);have hfg:∀e∈c.first.filter (cI (dj c) ax),tw e:=fun e he=>h.ent e (by rw[ha];exact QB _ (by rw[←Bq];exact CB he))
 have MC:=zE c (dj c) ax s r b br hs hb;rw[Bq] at Ir eo hfg;by_cases uC:(r.any fun s=>s.es.any fun e=> !cI (dj c) ax e)=true
 ·rw[MC.1 uC] at UL rp im⊢;rw[lu] at rp im;exact⟨Dg _ _ _ _ _ hd sE ago Ir eo hfg rfl (by decide) (fun s hs=>by cases hs) (fun e he=>by cases he) im rp,UL,yV (fun x hx=>by cases hx)⟩
 ·rw[MC.2 uC] at UL rp im⊢;rw[lu] at rp im;exact⟨Dg _ _ _ _ _ hd sE ago Ir eo hfg hl (RL bO) (fun t ht=>⟨h.ok.right t (by rw[hs];exact Qs _ ht),h.ok.full t (by rw[hs];exact ht)⟩) (by have:=h.ok.one;rw[hs] at this;exact this) im rp,UL,yV bO⟩
theorem xu (h:ur c) (hd:8≤c.depth) (hi:bY c.ax c.depth (bz e)=true):rH c e=true:=by
 have h8:=QE h.ok.d8 hd;unfold rH;rw[XT];intro a ha;have h1:=lE.1 (h.ok.its a ha);have h2:=lE.1 hi;rw[h8] at h1 h2;simp at h1 h2;rw[beq_iff_eq,h1,h2]
end
end Go.Proofs.YthgdhacopamklaaGreat

/- What HashNone asks, part 29 of 41: parts of the walks and laws, each true as it stands. -/
import Derived.Test.YthgdhacopamklaaGreatTBB
set_option maxHeartbeats 16000000
set_option maxRecDepth 100000
set_option linter.unusedVariables false
set_option linter.unusedSimpArgs false
namespace Go.Proofs.YthgdhacopamklaaGreat
open Go.Proofs.Tryz
section
open Go.RowKit
attribute [local go_sem] Oper.semAt_some
variable {c : ak} {i j : Nat} {s : ay} {m : Int → Option ay} {p : Int × ay}
def iK (c:ak):List (Int×ay):=c.blocks.zip c.ah
def stL (L:List (Int×ay)):Int→Option ay:=L.foldl (fun m p=>eM m p.1 p.2) (fun _=>none)
theorem PH (L:List (Int×ay)) (p:Int×ay):stL (L++[p])=eM (stL L) p.1 p.2:=by unfold stL;rw[List.foldl_append];rfl
theorem Ca {b:Int} (hb:c.blocks[j]? =some b) (hs:c.ah[j]? =some s):(iK c)[j]? =some (b,s):=by
 unfold iK;rw[List.getElem?_zip_eq_some];exact⟨hb,hs⟩
theorem BZ (h:c.blocks.length=c.ah.length):(iK c).length=c.blocks.length:=by unfold iK;simp[h]
theorem pN (c:ak):∀(l:List (Int×ay)) (i:Nat),foldI (bV c) i l none=none
 |[],_=>rfl
 |_::r,i=>pN c r (i+1)
theorem js (c:ak) (l:List (Int×ay)) (i:Nat) (st:Option (Int→Option ay)) (h:foldI (bV c) 0 (l.take i) st=none):foldI (bV c) 0 l st=none:=by
 conv=>lhs;rw[←XW i l]
 rw[mg,h,pN]
theorem sQ:∀(l:List ak),l.foldl IK none=none
 |[]=>rfl
 |c::r=>by
  rw[List.foldl_cons];have:IK none c=none:=pN c _ 0;rw[this,sQ r]
theorem Gk (gone ao:List ak) (k:Nat) (c:ak) (h:ao[k]? =some c):mu gone (ao.take (k+1))=IK (mu gone (ao.take k)) c:=by
 unfold mu;rw[aA ao k c h,List.foldl_append];rfl
theorem gV (gone ao:List ak) (k:Nat) (h:mu gone (ao.take k)=none):mu gone ao=none:=by
 unfold mu at h⊢
 conv=>lhs;rw[←XW k ao]
 rw[List.foldl_append,h,sQ]
theorem qU (h0:¬p.1=0) (h:m p.1=none):bV c (some m) i p=none:=by
 unfold bV;simp only[Xd h0,h]
theorem km (h0:¬p.1=0) (h:m p.1=some s) (hn:¬(s=p.2∧s.next=c.blocks.getD (i+1) 0)):bV c (some m) i p=none:=by
 unfold bV;simp only[Xd h0,h,Xd hn]
theorem vK (h0:¬p.1=0) (h:m p.1=some s) (hn:s=p.2∧s.next=c.blocks.getD (i+1) 0):bV c (some m) i p=some (mX m p.1):=by
 unfold bV;simp only[Xd h0,h,Xo hn]
theorem LH {l:List Int} (h:l.length≤i):l.getD i 0=0:=by rw[Qe,QQ h];rfl
structure ru (c:ak):Prop where
 len:c.blocks.length=c.ah.length
 y7:c.blocks.length≤4096
 pos:∀x∈c.blocks,0≤x∧x<4096
structure Kp1 (w:Wo) (mb:Nat) (L:List (Int×ay)) (q:Nat) (wr:Wo):Prop where
 ex:∃f sz,MG Ub wr mb f sz∧MQ w.heap.size wr f (stL L)∧sz≤q
 low:Below w.heap.size w wr
 wG:w.heap.size≤mb
structure WO (w:Wo) (mb:Nat) (st:Option (Int→Option ay)) (wr:Wo):Prop where
 ex:∃f sz m,MG Ub wr mb f sz∧MQ w.heap.size wr f m∧st=some m
 low:Below w.heap.size w wr
 wG:w.heap.size≤mb
theorem ahI {x:Prop} [Decidable x] {sz q:Nat} (h:sz≤q):(if x then sz else sz+1)≤q+1:=by split<;>omega
theorem Fo {w:Wo} {S:Nat→Prop} {A1 A2:Option Addr} {m1 c1 m2 c2:Nat} (h:jw w S (.agg #[.int .i64 c.ax,.int .i64 c.depth,.slice A1 m1 c1,.slice A2 m2 c2]) c) (hl:c.blocks.length=c.ah.length) (hj:j<c.blocks.length):
  m1=c.blocks.length∧m2=c.blocks.length∧∃(b1 o1 b2 o2:Nat) (sh:ay) (Ae:Option Addr) (ne ce:Nat),A1=some ⟨b1,o1,none⟩∧A2=some ⟨b2,o2,none⟩∧b1<w.heap.size∧b2<w.heap.size∧c.ah[j]? =some sh∧(∀i,i<c.blocks.length→w.cell? ⟨b1,o1+i,none⟩=some (.int .i64 (c.blocks.getD i 0)))∧
   w.cell? ⟨b2,o2+j*3,none⟩=some (.int .u8 sh.depth)∧w.cell? ⟨b2,o2+j*3+1,none⟩=some (.int .u32 sh.next)∧w.cell? ⟨b2,o2+j*3+2,none⟩=some (.slice Ae ne ce)∧Es w w.heap.size (.slice Ae ne ce) sh.es∧pC sh:=by
 obtain⟨bv,sv,ps,he,g1,-,g2,fc⟩:=h.ex;obtain⟨rfl,rfl⟩: .slice A1 m1 c1=bv∧ .slice A2 m2 c2=sv:=by simpa using he
 have dh:ps.length=c.blocks.length:=by rw[hl,←fc,Qq]
 obtain⟨b1,o1,cc1,e1,-,-,l1,q1⟩:=g1.cells (by omega);obtain⟨p,hp⟩:∃p,ps[j]? =some p:=⟨_,Qf (by omega)⟩;obtain⟨b2,o2,cc2,e2,l2,q2,q3,q4⟩:=g2.s.cells hp;have eE:=g2.s.es p (Qi hp);obtain⟨Ae,ce,hU,-,-⟩:=eE.1.1.form;rw[hU] at q4 eE
 cases e1
 cases e2
 refine⟨rfl,dh,b1,o1,b2,o2,p.1,Ae,_,ce,rfl,rfl,l1,l2,?_,q1,q2,q3,q4,eE.1,eE.2⟩;rw[←fc,Qt,hp];rfl
theorem Lv (w:Wo) (S:Nat→Prop) (gv cv:Va) (gone ao:List ak) (hg:mI w S gv gone) (hc:mI w S cv ao) (AU:gone.length≤20) (oJ:ao.length≤10000) (JM:∀c∈gone,ru c) (AW:∀c∈ao,ru c):
  Calls prog 145 #[gv,cv] w fun r w' =>r= .returned (.bool (mr gone ao))∧Below w.heap.size w w' :=by
 obtain⟨Ag,cg,rfl⟩:=hg.form;obtain⟨Ac,cc,rfl⟩:=hc.form;obtain⟨G,hG⟩:∃n,n=gone.length:=⟨_,rfl⟩;obtain⟨C,hC⟩:∃n,n=ao.length:=⟨_,rfl⟩;obtain⟨T,hT⟩:∃T,T=mr gone ao:=⟨_,rfl⟩;rw[←hG,←hC,←hT];have HG:=aa hg;have HC:=aa hc;have HN:Af (G=gone.length∧C=ao.length∧G≤20∧C≤10000∧T=mr gone ao∧(∀c∈gone,ru c)∧∀c∈ao,ru c):=⟨hG,hC,by omega,by omega,hT,JM,AW⟩;have xA:= @run_makeMap prog;clear hg hc hG hC hT AU oJ JM AW;go_enter func145,ntmps145;go_upto_region 2 with fail
 obtain⟨W1,aW⟩:∃y,y=w.alloc (.map #[] 0):=⟨_,rfl⟩;obtain⟨mb,tB⟩:∃y,y=w.heap.size:=⟨_,rfl⟩;have M1:MG Ub W1 mb (fun _=>none) 0:=by rw[aW,tB];exact MG.made w
 have b1:Below w.heap.size w W1:=by rw[aW];exact aF _ _
 rw[←aW,←tB];have K0:Af (Kp1 w mb [] 0 W1):=⟨⟨_,0,M1,fun x=>Or.inl ⟨rfl,rfl⟩,Qg _⟩,b1,by rw[tB];exact Qg _⟩;clear aW tB M1 b1 xA;go_wp2_with fail;go_loopw [20] (fun iv wr=>∃k:Nat,iv= .int .i64 k∧Af (k≤G∧Kp1 w mb ((gone.take k).flatMap iK) (4096*k) wr)) (fun iv _=>G - (intOf iv).toNat)
 case atStart=>exact⟨0,rfl,Qp _,K0.o⟩
 case round=>
  obtain⟨k,rfl,HR⟩:=hrel;by_cases hk:k<G
  ·obtain⟨c,jV⟩:∃c,gone[k]? =some c:=⟨_,Qf (by rw[←HN.o.1];exact hk)⟩;obtain⟨b,o,rr,A1,A2,m1,c1,m2,c2,hv,bO,z0,z1,z2,z3,kG⟩:=HG.o.lG jV;obtain rfl:Ag=some ⟨b,o,none⟩:=by injection hv
   have tg:=HN.o.2.2.2.2.2.1 c (Qi jV);have aU:=HR.o.2.low;have y0:=(aU.cell (p:=⟨b,o+k*4,none⟩) bO).trans z0;have y1:=(aU.cell (p:=⟨b,o+k*4+1,none⟩) bO).trans z1;have y2:=(aU.cell (p:=⟨b,o+k*4+2,none⟩) bO).trans z2;have y3:=(aU.cell (p:=⟨b,o+k*4+3,none⟩) bO).trans z3;obtain⟨fr,eo⟩:∃y,y=c.ax:=⟨_,rfl⟩;obtain⟨dp,eK⟩:∃y,y=c.depth:=⟨_,rfl⟩;rw[←eo] at y0;rw[←eK] at y1;have Az:m1=c.blocks.length:=by
    obtain⟨bv,sv,ps,he,g1,-,-,-⟩:=kG.ex;obtain⟨rfl,rfl⟩: .slice A1 m1 c1=bv∧ .slice A2 m2 c2=sv:=by simpa using he
    obtain⟨A,cx,hv,-,-⟩:=g1.form;injection hv
   obtain⟨W3,cD⟩:∃z,z=wr.alloc (.cells #[.int .i64 fr,.int .i64 dp,.slice A1 m1 c1,.slice A2 m2 c2] 50):=⟨_,rfl⟩;have X3:aq W3 wr.heap.size 50 [.int .i64 fr,.int .i64 dp,.slice A1 m1 c1,.slice A2 m2 c2]:=by rw[cD];exact ar wr [_,_,_,_] _
   have b3:Below wr.heap.size wr W3:=by rw[cD];exact aF _ _
   obtain⟨cb,iI⟩:∃z,z=wr.heap.size:=⟨_,rfl⟩;rw[←iI] at X3;have x2:=X3.cell (j:=2) rfl;obtain⟨f,sz,hM,Nq,cz⟩:=HR.o.2.ex;have K3:Af (Kp1 w mb ((gone.take k).flatMap iK++(iK c).take 0) (4096*k+0) W3∧aq W3 cb 50 [.int .i64 fr,.int .i64 dp,.slice A1 m1 c1,.slice A2 m2 c2]∧cb≠mb):=⟨⟨⟨f,sz,hM.on b3,by rw[Zq,Zi];exact Nq.below (b3.mono aU.size),cz⟩,aU.trans (b3.mono aU.size),HR.o.2.wG⟩,X3,by rw[iI];exact XO hM.lt⟩;have HW:Af (wr.alloc (.cells #[.int .i64 fr,.int .i64 dp,.slice A1 m1 c1,.slice A2 m2 c2] 50)=W3∧wr.heap.size=cb):=⟨cD.symm,iI.symm⟩;have HX:Af (gone[k]? =some c∧k<G∧ru c∧m1=c.blocks.length∧w.heap.size≤cb):=⟨jV,hk,tg,Az,by rw[iI];exact aU.size⟩;have Ep:=aa kG;obtain⟨u1,u2,u3⟩:=bR hk (Qh HN.o.2.2.1 (show 20≤100000 by decide)) (by decide);have Hu:=aa u1;clear jV hv bO z0 z1 z2 z3 kG tg aU eo eK Az cD X3 b3 iI hM Nq cz HR hk u1;go_upto_region 5 with fail
   rw[HW.o.1,HW.o.2];clear y0 y1 y2 y3;go_wp2_with fail;clear x2;go_loopw [27] (fun jv wr=>∃j:Nat,jv= .int .i64 j∧Af (j≤m1∧Kp1 w mb ((gone.take k).flatMap iK++(iK c).take j) (4096*k+j) wr∧aq wr cb 50 [.int .i64 fr,.int .i64 dp,.slice A1 m1 c1,.slice A2 m2 c2])) (fun jv _=>m1 - (intOf jv).toNat)
   case atStart=>exact⟨0,rfl,Qp _,K3.o.1,K3.o.2.1⟩
   case round=>
    obtain⟨j,rfl,HI⟩:=hrel;by_cases hj:j<m1
    ·have SM:j<c.blocks.length:=by rw[←HX.o.2.2.2.1];exact hj
     have aU:=HI.o.2.1.low;obtain⟨e1,e2,b1,o1,b2,o2,sh,Ae,ne,ce,rfl,rfl,l1,l2,ta,q1,q2,q3,q4,q5,q6⟩:=Fo Ep.o HX.o.2.2.1.len SM;obtain⟨x,hx⟩:∃x,x=c.blocks.getD j 0:=⟨_,rfl⟩;have oP:c.blocks[j]? =some x:=by rw[hx,Qe,Qf SM];rfl
     have y1:=(aU.cell (p:=⟨b1,o1+j,none⟩) l1).trans (q1 j SM);rw[←hx] at y1;replace q2:=(aU.cell (p:=⟨b2,o2+j*3,none⟩) l2).trans q2;replace q3:=(aU.cell (p:=⟨b2,o2+j*3+1,none⟩) l2).trans q3;replace q4:=(aU.cell (p:=⟨b2,o2+j*3+2,none⟩) l2).trans q4;have wA:=HX.o.2.2.1.pos x (Qi oP);obtain⟨d,hd⟩:∃y,y=sh.depth:=⟨_,rfl⟩;obtain⟨nx,fu⟩:∃y,y=sh.next:=⟨_,rfl⟩;rw[←hd] at q2;rw[←fu] at q3;have c3:wr.cell? ⟨cb,3,none⟩=some (.slice (some ⟨b2,o2,none⟩) m2 c2):=HI.o.2.2.cell rfl;have e3:m2=m1:=e2.trans e1.symm;have i0:(0:Int)≤j:=Xh j;have i1:(j:Int)<m1:=by omega
     have i2:(j:Int)<m2:=by omega
     obtain⟨f,sz,hM,Nq,cz⟩:=HI.o.2.1.ex;have AP:sz≤100000:=by have h1:=HX.o.2.2.1.y7;have h2:=HN.o.2.2.1;have h3:=HX.o.2.1;omega
     obtain⟨W8,Yz,TN,TD⟩:=hM.store AP (show Ub.qY x from mo (by omega)) ⟨d,nx,Ae,ne,ce⟩;have iq:(Instr.mapUpdate 314 (.map (some mb)) (.int .i64 x) (.agg #[.int .u8 d,.int .u32 nx,.slice Ae ne ce])).run prog wr= .ok () W8:=Yz;have HS8:Af (Kp1 w mb ((gone.take k).flatMap iK++(iK c).take (j+1)) (4096*k+(j+1)) W8∧aq W8 cb 50 [.int .i64 fr,.int .i64 dp,.slice (some ⟨b1,o1,none⟩) m1 c1,.slice (some ⟨b2,o2,none⟩) m2 c2]):=by
      have hold:=HI.o.2.1.wG;have b8:Below w.heap.size wr W8:=(Xj w.heap.size wr).grown TD aU.size (fun g e=>by rw[←Qr e];exact hold);refine⟨⟨⟨_,_,TN,?_,?_⟩,aU.trans b8,hold⟩,HI.o.2.2.grown TD (fun e=>K3.o.2.2 (Qr e))⟩
      ·rw[aA _ j _ (Ca oP ta),←QY,PH];exact(Nq.below b8).put x ⟨d,nx,Ae,ne,ce⟩ sh hd fu ((q5.below aU).below b8) q6
      ·have:=ahI (x:=(f x).isSome=true) cz;rw[XB] at this;exact this
     have HJ:Af (c.blocks[j]? =some x∧c.ah[j]? =some sh∧sz≤4096*k+j∧sz≤100000∧Ub.qY x∧d=sh.depth∧nx=sh.next∧j<m1):=⟨oP,ta,cz,AP,mo (by omega),hd,fu,hj⟩;have qg:=aa HI.o;obtain⟨u4,u5,u6⟩:=bR hj (show m1≤4096 by rw[HX.o.2.2.2.1];exact HX.o.2.2.1.y7) (by decide);have Hu4:=aa u4;clear e1 e2 l1 l2 ta q1 q5 q6 hx oP wA hd fu e3 hM Nq cz AP HI hj SM u4 aU Yz TN TD;go_wp2_with fail;exact⟨⟨j+1,by first|rfl|(rw[Hu4.o];rfl),HJ.o.2.2.2.2.2.2.2,HS8.o.1,HS8.o.2⟩,by first|exact al HJ.o.2.2.2.2.2.2.2|(rw[Hu4.o];exact al HJ.o.2.2.2.2.2.2.2)⟩
    ·have JK:j=m1:=QE HI.o.1 (QC hj);have HE:Af (Kp1 w mb ((gone.take (k+1)).flatMap iK) (4096*(k+1)) wr):=by
      have h1:=HI.o.2.1;rw[JK,Qj (l:=iK c) (by rw[BZ HX.o.2.2.1.len,HX.o.2.2.2.1];exact Qg _)] at h1;obtain⟨f,sz,g1,g2,g3⟩:=h1.ex;refine⟨⟨f,sz,g1,?_,?_⟩,h1.low,h1.wG⟩
      ·rw[aA gone k c HX.o.1,QP,List.flatMap_singleton];exact g2
      ·have:=HX.o.2.2.1.y7;have:=HX.o.2.2.2.1;omega
     subst JK;clear HI hj;go_wp2_with fail;exact⟨⟨k+1,by first|rfl|(rw[Hu.o];rfl),HX.o.2.1,HE.o⟩,by first|exact al HX.o.2.1|(rw[Hu.o];exact al HX.o.2.1)⟩
  ·have Wu:k=G:=QE HR.o.1 (QC hk);have hK:=HR.o.2;rw[Wu,Qj (by rw[HN.o.1];exact Qg _)] at hK;have HK:=aa hK;subst Wu;clear HR hk hK K0;go_wp2_with fail;have L0:Af (WO w mb (mu gone (ao.take 0)) wr):=by obtain⟨f,sz,g1,g2,-⟩:=HK.o.ex;exact⟨⟨f,sz,_,g1,g2,rfl⟩,HK.o.low,HK.o.wG⟩
   clear HK HG;go_loopw [43] (fun iv wr=>∃k:Nat,iv= .int .i64 k∧Af (k≤C∧WO w mb (mu gone (ao.take k)) wr)) (fun iv _=>C - (intOf iv).toNat)
   case atStart=>exact⟨0,rfl,Qp _,L0.o⟩
   case round=>
    obtain⟨k,rfl,HR⟩:=hrel;by_cases hk:k<C
    ·obtain⟨c,jV⟩:∃c,ao[k]? =some c:=⟨_,Qf (by rw[←HN.o.2.1];exact hk)⟩;obtain⟨b,o,rr,A1,A2,m1,c1,m2,c2,hv,bO,z0,z1,z2,z3,kG⟩:=HC.o.lG jV;obtain rfl:Ac=some ⟨b,o,none⟩:=by injection hv
     have tg:=HN.o.2.2.2.2.2.2 c (Qi jV);have aU:=HR.o.2.low;have y0:=(aU.cell (p:=⟨b,o+k*4,none⟩) bO).trans z0;have y1:=(aU.cell (p:=⟨b,o+k*4+1,none⟩) bO).trans z1;have y2:=(aU.cell (p:=⟨b,o+k*4+2,none⟩) bO).trans z2;have y3:=(aU.cell (p:=⟨b,o+k*4+3,none⟩) bO).trans z3;obtain⟨fr,eo⟩:∃y,y=c.ax:=⟨_,rfl⟩;obtain⟨dp,eK⟩:∃y,y=c.depth:=⟨_,rfl⟩;rw[←eo] at y0;rw[←eK] at y1;have Az:m1=c.blocks.length:=by
      obtain⟨bv,sv,ps,he,g1,-,-,-⟩:=kG.ex;obtain⟨rfl,rfl⟩: .slice A1 m1 c1=bv∧ .slice A2 m2 c2=sv:=by simpa using he
      obtain⟨A,cx,hv,-,-⟩:=g1.form;injection hv
     obtain⟨W3,cD⟩:∃z,z=wr.alloc (.cells #[.int .i64 fr,.int .i64 dp,.slice A1 m1 c1,.slice A2 m2 c2] 50):=⟨_,rfl⟩;have X3:aq W3 wr.heap.size 50 [.int .i64 fr,.int .i64 dp,.slice A1 m1 c1,.slice A2 m2 c2]:=by rw[cD];exact ar wr [_,_,_,_] _
     have b3:Below wr.heap.size wr W3:=by rw[cD];exact aF _ _
     obtain⟨cb,iI⟩:∃z,z=wr.heap.size:=⟨_,rfl⟩;rw[←iI] at X3;have x2:=X3.cell (j:=2) rfl;obtain⟨f,sz,m0,hM,Nq,xB⟩:=HR.o.2.ex;have K3:Af (WO w mb (foldI (bV c) 0 ((iK c).take 0) (some m0)) W3∧aq W3 cb 50 [.int .i64 fr,.int .i64 dp,.slice A1 m1 c1,.slice A2 m2 c2]∧cb≠mb):=⟨⟨⟨f,sz,m0,hM.on b3,Nq.below (b3.mono aU.size),rfl⟩,aU.trans (b3.mono aU.size),HR.o.2.wG⟩,X3,by rw[iI];exact XO hM.lt⟩;have HW:Af (wr.alloc (.cells #[.int .i64 fr,.int .i64 dp,.slice A1 m1 c1,.slice A2 m2 c2] 50)=W3∧wr.heap.size=cb):=⟨cD.symm,iI.symm⟩;have HX:Af (ao[k]? =some c∧k<C∧ru c∧m1=c.blocks.length∧w.heap.size≤cb∧mu gone (ao.take k)=some m0):=⟨jV,hk,tg,Az,by rw[iI];exact aU.size,xB⟩;have Ep:=aa kG;obtain⟨u1,u2,u3⟩:=bR hk (Qh HN.o.2.2.2.1 (show 10000≤100000 by decide)) (by decide);have Hu:=aa u1;have HQ:Af (∀st,foldI (bV c) 0 (iK c) (some m0)=st→mu gone (ao.take (k+1))=st):=fun st cO=>by rw[Gk gone ao k c HX.o.1,HX.o.2.2.2.2.2];exact cO
     clear jV hv bO z0 z1 z2 z3 kG tg aU eo eK Az cD X3 b3 iI hM Nq xB HR hk u1;go_upto_region 14 with fail
     rw[HW.o.1,HW.o.2];clear y0 y1 y2 y3;go_wp2_with fail;clear x2;go_loopw [50] (fun jv wr=>∃j:Nat,jv= .int .i64 j∧Af (j≤m1∧WO w mb (foldI (bV c) 0 ((iK c).take j) (some m0)) wr∧aq wr cb 50 [.int .i64 fr,.int .i64 dp,.slice A1 m1 c1,.slice A2 m2 c2])) (fun jv _=>m1 - (intOf jv).toNat)
     case atStart=>exact⟨0,rfl,Qp _,K3.o.1,K3.o.2.1⟩
     case round=>
      obtain⟨j,rfl,HI⟩:=hrel;by_cases hj:j<m1
      ·have SM:j<c.blocks.length:=by rw[←HX.o.2.2.2.1];exact hj
       have aU:=HI.o.2.1.low;obtain⟨e1,e2,b1,o1,b2,o2,sh,Ae,ne,ce,rfl,rfl,l1,l2,ta,q1,q2,q3,q4,q5,q6⟩:=Fo Ep.o HX.o.2.2.1.len SM;obtain⟨x,hx⟩:∃x,x=c.blocks.getD j 0:=⟨_,rfl⟩;have oP:c.blocks[j]? =some x:=by rw[hx,Qe,Qf SM];rfl
       have y1:=(aU.cell (p:=⟨b1,o1+j,none⟩) l1).trans (q1 j SM);rw[←hx] at y1;have wA:=HX.o.2.2.1.pos x (Qi oP);have UT:Af (∀m',foldI (bV c) 0 ((iK c).take j) (some m0)=some m'→foldI (bV c) 0 ((iK c).take (j+1)) (some m0)=bV c (some m') j (x,sh)):=fun m' hm' =>by rw[lW _ _ _ _ (Ca oP ta),hm']
       have i0:(0:Int)≤j:=Xh j;have i1:(j:Int)<m1:=by omega
       obtain⟨u4,u5,u6⟩:=bR hj (show m1≤4096 by rw[HX.o.2.2.2.1];exact HX.o.2.2.1.y7) (by decide);have Hu4:=aa u4;by_cases gd:x=0
       ·have HE:Af (WO w mb (foldI (bV c) 0 ((iK c).take (j+1)) (some m0)) wr∧aq wr cb 50 [.int .i64 fr,.int .i64 dp,.slice (some ⟨b1,o1,none⟩) m1 c1,.slice (some ⟨b2,o2,none⟩) m2 c2]∧j<m1):=by obtain⟨f,sz,m',g1,g2,g3⟩:=HI.o.2.1.ex;refine⟨⟨⟨f,sz,m',g1,g2,?_⟩,aU,HI.o.2.1.wG⟩,HI.o.2.2,hj⟩;rw[UT.o m' g3];unfold bV;simp[gd]
        rw[gd] at y1;clear SM aU e1 e2 l1 l2 ta q1 q2 q3 q4 q5 q6 hx oP wA HI hj u4 UT;go_wp2_with fail;exact⟨⟨j+1,by first|rfl|(rw[Hu4.o];rfl),HE.o.2.2,HE.o.1,HE.o.2.1⟩,by first|exact al HE.o.2.2|(rw[Hu4.o];exact al HE.o.2.2)⟩
       ·obtain⟨f,sz,m',hM,Nq,hfo⟩:=HI.o.2.1.ex;have hl8:=hM.look (x:=x) (mo (by omega));obtain⟨yv,hyv⟩:∃y,y=(f x).getD Ub.zero:=⟨_,rfl⟩;obtain⟨tb,pS⟩:∃t,t=(f x).isSome:=⟨_,rfl⟩;rw[←hyv,←pS] at hl8;obtain⟨yd,yx,ya,yn,yc⟩:=yv;have hl:(Instr.lookup 314 (.map (some mb)) (.int .i64 x) true).run prog wr= .ok (.tuple #[.agg #[.int .u8 yd,.int .u32 yx,.slice ya yn yc],.bool tb]) wr:=hl8;obtain⟨d,hd⟩:∃y,y=sh.depth:=⟨_,rfl⟩;obtain⟨nx,fu⟩:∃y,y=sh.next:=⟨_,rfl⟩;rw[←hd] at q2;rw[←fu] at q3;obtain⟨W5,j6⟩:∃y,y=wr.alloc (.cells #[.int .u8 yd,.int .u32 yx,.slice ya yn yc] 92):=⟨_,rfl⟩;have X5:aq W5 wr.heap.size 92 [.int .u8 yd,.int .u32 yx,.slice ya yn yc]:=by rw[j6];exact ar wr [_,_,_] _
        have b5:Below wr.heap.size wr W5:=by rw[j6];exact aF _ _
        obtain⟨sb,jq⟩:∃y,y=wr.heap.size:=⟨_,rfl⟩;rw[←jq] at X5;have ER:=aU.trans (b5.mono aU.size);have zb:Af (wr.alloc (.cells #[.int .u8 yd,.int .u32 yx,.slice ya yn yc] 92)=W5∧wr.heap.size=sb):=⟨j6.symm,jq.symm⟩;obtain⟨nv,Tz⟩:∃y,y=c.blocks.getD (j+1) 0:=⟨_,rfl⟩;have e3:m2=m1:=e2.trans e1.symm;have C5:=HI.o.2.2.on b5;have c52:W5.cell? ⟨cb,2,none⟩=some (.slice (some ⟨b1,o1,none⟩) m1 c1):=C5.cell rfl;have kL:Af (MG Ub W5 mb f sz∧MQ w.heap.size W5 f m'∧Below w.heap.size w W5∧aq W5 cb 50 [.int .i64 fr,.int .i64 dp,.slice (some ⟨b1,o1,none⟩) m1 c1,.slice (some ⟨b2,o2,none⟩) m2 c2]∧w.heap.size≤mb∧sb≠mb∧cb≠mb):=⟨hM.on b5,Nq.below (b5.mono aU.size),ER,C5,HI.o.2.1.wG,by rw[jq];exact XO hM.lt,K3.o.2.2⟩;have HJ:Af (j<m1∧foldI (bV c) 0 ((iK c).take (j+1)) (some m0)=bV c (some m') j (x,sh)∧nv=c.blocks.getD (j+1) 0∧d=sh.depth∧nx=sh.next∧pC sh∧(⟨yd,yx,ya,yn,yc⟩:MR)=(f x).getD Ub.zero∧tb=(f x).isSome∧Ub.qY x):=⟨hj,UT.o m' hfo,Tz,hd,fu,q6,hyv,pS,mo (by omega)⟩;have X5' :=X5;have wN:Af (Es W5 w.heap.size (.slice Ae ne ce) sh.es∧b2<w.heap.size∧m2=m1∧W5.cell? ⟨b2,o2+j*3,none⟩=some (.int .u8 d)∧W5.cell? ⟨b2,o2+j*3+1,none⟩=some (.int .u32 nx)∧W5.cell? ⟨b2,o2+j*3+2,none⟩=some (.slice Ae ne ce)):=⟨q5.below ER,l2,e3,(ER.cell (p:=⟨b2,o2+j*3,none⟩) l2).trans q2,(ER.cell (p:=⟨b2,o2+j*3+1,none⟩) l2).trans q3,(ER.cell (p:=⟨b2,o2+j*3+2,none⟩) l2).trans q4⟩;have nx0:j+1<m1→W5.cell? ⟨b1,o1+(j+1),none⟩=some (.int .i64 nv):=fun h=>by rw[Tz];exact(ER.cell (p:=⟨b1,o1+(j+1),none⟩) l1).trans (q1 (j+1) (by rw[←HX.o.2.2.2.1];exact h))
        have nx1:¬j+1<m1→nv=0:=fun h=>Tz.trans (LH (HX.o.2.2.2.1▸QC h))
        have HNx:Af ((j+1<m1→W5.cell? ⟨b1,o1+(j+1),none⟩=some (.int .i64 nv))∧(¬j+1<m1→nv=0)):=⟨nx0,nx1⟩;have w4:wrap64 ((j:Int)+1)=(j:Int)+1:=u4;clear SM aU e1 e2 l1 l2 ta q1 q2 q3 q4 q5 q6 hx oP wA HI hj u4 UT hM Nq hfo hl8 hyv pS hd fu j6 X5 b5 jq ER Tz e3 C5 nx0 nx1;go_upto_region 19 with fail
        rw[zb.o.1,zb.o.2];clear hl y1;have s0:=X5'.cell (j:=0) rfl;obtain⟨-,s1,s2⟩:=ra X5';have r0:=cell_regrown s0;have r1:=cell_regrown s1;have r2:=cell_regrown s2;have r3:=cell_regrown (kL.o.2.2.2.1.cell (j:=3) rfl);have r4:=cell_regrown wN.o.2.2.2.1;have r5:=cell_regrown wN.o.2.2.2.2.1;have r6:=cell_regrown wN.o.2.2.2.2.2;have jm2:(j:Int)<m2:=by rw[wN.o.2.2.1];exact i1
        clear s0 s1 s2;by_cases tC:j+1<m1
        ·have z5:=HNx.o.1 tC;have z6:(j:Int)+1<m1:=by omega
         have z7:(0:Int)≤(j:Int)+1:=by omega
         clear tC;go_upto_region 22 with fail
         clear z5 z6 z7 c52;rcases kL.o.2.1 x with⟨hf,hm⟩|⟨y,s,hf,hm,Zo,JD,eE,ec⟩
         ·have pS:tb=false:=by rw[HJ.o.2.2.2.2.2.2.2.1,hf];rfl
          subst pS;have HT:Af (T=false):=by show _=_;rw[HN.o.2.2.2.2.1];unfold mr;rw[gV gone ao (k+1) (HQ.o none (js c _ (j+1) _ (HJ.o.2.1.trans (qU gd hm))))];rfl
          clear hm hf;refine wp_region_quiet_below (by kernel_rfl) (by kernel_rfl) ?_
          repeat(go_big_quiet_step (fail))
          refine wpQuiet_nil ?_;intro _ s9;obtain⟨⟨dq,mj⟩,iM⟩:=s9;subst iM;have b6:=below_regrown W5 dq mj;generalize Sort.grow (redrawn W5 dq) mj=W6 at*;have B6:=aa b6;clear b6;go_wp2_with fail
          all_goals(try rw[Qv])
          all_goals go_ret
          all_goals exact⟨by rw[HT.o];rfl,kL.o.2.2.1.trans (B6.o.mono kL.o.2.2.1.size)⟩
         ·have pS:tb=true:=by rw[HJ.o.2.2.2.2.2.2.2.1,hf];rfl
          subst pS;have hye:(⟨yd,yx,ya,yn,yc⟩:MR)=y:=by rw[HJ.o.2.2.2.2.2.2.1,hf];rfl
          subst hye;obtain⟨R,hR⟩:∃R,R=decide (s=sh):=⟨_,rfl⟩;have HS:Af (∀W,Below W5.heap.size W5 W→Calls prog 223 #[.agg #[.int .u8 yd,.int .u32 yx,.slice ya yn yc],.agg #[.int .u8 d,.int .u32 nx,.slice Ae ne ce]] W fun r w' =>r= .returned (.bool R)∧Below W.heap.size W w'):=fun W hW=>by have hlw:=kL.o.2.2.1.trans (hW.mono kL.o.2.2.1.size);have h1:=rI W s sh (.slice ya yn yc) (.slice Ae ne ce) ((eE.below (hW.mono kL.o.2.2.1.size)).more hlw.size) ((wN.o.1.below (hW.mono kL.o.2.2.1.size)).more hlw.size) (Qh ec.2.2 (by decide));rw[←hR,←HJ.o.2.2.2.1,←HJ.o.2.2.2.2.1,←Zo,←JD] at h1;exact h1
          have cA:∀dr os,Calls prog 223 #[.agg #[.int .u8 yd,.int .u32 yx,.slice ya yn yc],.agg #[.int .u8 d,.int .u32 nx,.slice Ae ne ce]] (Sort.grow (redrawn W5 dr) os) fun e DW =>e= .returned (.bool R)∧∃p:Regrown,DW =Sort.grow (redrawn W5 p.d) p.os:=fun dr os=>Calls.regrown_of (HS.o _ (below_regrown W5 dr os))
          have JF:IntKind.i64.wrap yx=yx:=by have e:yx=s.next:=JD;have:=ec.2.1;rw[←e] at this;unfold bX at this;simp only[XN];omega
          have AF:Af (m' x=some s∧R=decide (s=sh)∧yx=s.next):=⟨hm,hR,JD⟩;clear hm hf hR eE ec Zo JD;cases R
          ·have bT:¬s=sh:=of_decide_eq_false AF.o.2.1.symm;have HT:Af (T=false):=by show _=_;rw[HN.o.2.2.2.2.1];unfold mr;rw[gV gone ao (k+1) (HQ.o none (js c _ (j+1) _ (HJ.o.2.1.trans (km gd AF.o.1 (fun h=>bT h.1)))))];rfl
           clear bT;refine wp_region_quiet_below (by kernel_rfl) (by kernel_rfl) ?_
           repeat(go_big_quiet_step (first|with_reducible exact cA _ _))
           refine wpQuiet_nil ?_;intro _ s9;obtain⟨⟨dq,mj⟩,iM⟩:=s9;subst iM;have b6:=below_regrown W5 dq mj;generalize Sort.grow (redrawn W5 dq) mj=W6 at*;have B6:=aa b6;clear b6;go_wp2_with fail
           all_goals(try rw[Qv])
           all_goals go_ret
           all_goals exact⟨by rw[HT.o];rfl,kL.o.2.2.1.trans (B6.o.mono kL.o.2.2.1.size)⟩
          ·by_cases fu:yx=nv
           ·have qe:Af (foldI (bV c) 0 ((iK c).take (j+1)) (some m0)=some (mX m' x)):=HJ.o.2.1.trans (vK gd AF.o.1 ⟨XQ AF.o.2.1.symm,by rw[←AF.o.2.2,fu];exact HJ.o.2.2.1⟩);subst fu;refine wp_region_quiet_below (by kernel_rfl) (by kernel_rfl) ?_
            repeat(go_big_quiet_step (first|with_reducible exact cA _ _))
            refine wpQuiet_nil ?_;intro _ s9;obtain⟨⟨dq,mj⟩,iM⟩:=s9;subst iM;have b6:=below_regrown W5 dq mj;generalize Sort.grow (redrawn W5 dq) mj=W6 at*;have B6:=aa b6;clear b6;have hM6:=kL.o.1.on B6.o;obtain⟨W7,sC,hM7,ti⟩:=hM6.drop HJ.o.2.2.2.2.2.2.2.2 (0:TypeId);have iq:(Builtin.delete_ #[314,3] 0 #[.map (some mb),.int .i64 x]).run prog W6= .ok (.tuple #[]) W7:=sC;have l6:=kL.o.2.2.1.trans (B6.o.mono kL.o.2.2.1.size);have b7:Below w.heap.size W6 W7:=(Xj w.heap.size W6).grown ti l6.size (fun g e=>by rw[←Qr e];exact kL.o.2.2.2.2.1);have HF:Af (WO w mb (foldI (bV c) 0 ((iK c).take (j+1)) (some m0)) W7∧aq W7 cb 50 [.int .i64 fr,.int .i64 dp,.slice (some ⟨b1,o1,none⟩) m1 c1,.slice (some ⟨b2,o2,none⟩) m2 c2]):=by refine⟨⟨⟨_,_,_,hM7,((kL.o.2.1.below (B6.o.mono kL.o.2.2.1.size)).below b7).cut x,qe.o⟩,l6.trans b7,kL.o.2.2.2.2.1⟩,(kL.o.2.2.2.1.on B6.o).grown ti (fun e=>kL.o.2.2.2.2.2.2 (Qr e))⟩
            clear cA hM6 sC hM7 ti l6 b7;go_wp2_with fail;exact⟨⟨j+1,by first|rfl|(rw[w4];rfl),HJ.o.1,HF.o.1,HF.o.2⟩,by first|exact al HJ.o.1|(rw[w4];exact al HJ.o.1)⟩
           ·have N2:¬s.next=c.blocks.getD (j+1) 0:=fun h=>fu (by rw[AF.o.2.2,h];exact HJ.o.2.2.1.symm)
            have HT:Af (T=false):=by show _=_;rw[HN.o.2.2.2.2.1];unfold mr;rw[gV gone ao (k+1) (HQ.o none (js c _ (j+1) _ (HJ.o.2.1.trans (km gd AF.o.1 (fun h=>N2 h.2)))))];rfl
            clear N2;refine wp_region_quiet_below (by kernel_rfl) (by kernel_rfl) ?_
            repeat(go_big_quiet_step (first|with_reducible exact cA _ _))
            refine wpQuiet_nil ?_;intro _ s9;obtain⟨⟨dq,mj⟩,iM⟩:=s9;subst iM;have b6:=below_regrown W5 dq mj;generalize Sort.grow (redrawn W5 dq) mj=W6 at*;have B6:=aa b6;clear b6;go_wp2_with fail
            all_goals(try rw[Qv])
            all_goals go_ret
            all_goals exact⟨by rw[HT.o];rfl,kL.o.2.2.1.trans (B6.o.mono kL.o.2.2.1.size)⟩
        ·have z5:=HNx.o.2 tC;have z6:¬(j:Int)+1<m1:=by omega
         clear tC;subst z5;go_upto_region 22 with fail
         clear z6 c52;rcases kL.o.2.1 x with⟨hf,hm⟩|⟨y,s,hf,hm,Zo,JD,eE,ec⟩
         ·have pS:tb=false:=by rw[HJ.o.2.2.2.2.2.2.2.1,hf];rfl
          subst pS;have HT:Af (T=false):=by show _=_;rw[HN.o.2.2.2.2.1];unfold mr;rw[gV gone ao (k+1) (HQ.o none (js c _ (j+1) _ (HJ.o.2.1.trans (qU gd hm))))];rfl
          clear hm hf;refine wp_region_quiet_below (by kernel_rfl) (by kernel_rfl) ?_
          repeat(go_big_quiet_step (fail))
          refine wpQuiet_nil ?_;intro _ s9;obtain⟨⟨dq,mj⟩,iM⟩:=s9;subst iM;have b6:=below_regrown W5 dq mj;generalize Sort.grow (redrawn W5 dq) mj=W6 at*;have B6:=aa b6;clear b6;go_wp2_with fail
          all_goals(try rw[Qv])
          all_goals go_ret
          all_goals exact⟨by rw[HT.o];rfl,kL.o.2.2.1.trans (B6.o.mono kL.o.2.2.1.size)⟩
         ·have pS:tb=true:=by rw[HJ.o.2.2.2.2.2.2.2.1,hf];rfl
          subst pS;have hye:(⟨yd,yx,ya,yn,yc⟩:MR)=y:=by rw[HJ.o.2.2.2.2.2.2.1,hf];rfl
          subst hye;obtain⟨R,hR⟩:∃R,R=decide (s=sh):=⟨_,rfl⟩;have HS:Af (∀W,Below W5.heap.size W5 W→Calls prog 223 #[.agg #[.int .u8 yd,.int .u32 yx,.slice ya yn yc],.agg #[.int .u8 d,.int .u32 nx,.slice Ae ne ce]] W fun r w' =>r= .returned (.bool R)∧Below W.heap.size W w'):=fun W hW=>by have hlw:=kL.o.2.2.1.trans (hW.mono kL.o.2.2.1.size);have h1:=rI W s sh (.slice ya yn yc) (.slice Ae ne ce) ((eE.below (hW.mono kL.o.2.2.1.size)).more hlw.size) ((wN.o.1.below (hW.mono kL.o.2.2.1.size)).more hlw.size) (Qh ec.2.2 (by decide));rw[←hR,←HJ.o.2.2.2.1,←HJ.o.2.2.2.2.1,←Zo,←JD] at h1;exact h1
          have cA:∀dr os,Calls prog 223 #[.agg #[.int .u8 yd,.int .u32 yx,.slice ya yn yc],.agg #[.int .u8 d,.int .u32 nx,.slice Ae ne ce]] (Sort.grow (redrawn W5 dr) os) fun e DW =>e= .returned (.bool R)∧∃p:Regrown,DW =Sort.grow (redrawn W5 p.d) p.os:=fun dr os=>Calls.regrown_of (HS.o _ (below_regrown W5 dr os))
          have JF:IntKind.i64.wrap yx=yx:=by have e:yx=s.next:=JD;have:=ec.2.1;rw[←e] at this;unfold bX at this;simp only[XN];omega
          have AF:Af (m' x=some s∧R=decide (s=sh)∧yx=s.next):=⟨hm,hR,JD⟩;clear hm hf hR eE ec Zo JD;cases R
          ·have bT:¬s=sh:=of_decide_eq_false AF.o.2.1.symm;have HT:Af (T=false):=by show _=_;rw[HN.o.2.2.2.2.1];unfold mr;rw[gV gone ao (k+1) (HQ.o none (js c _ (j+1) _ (HJ.o.2.1.trans (km gd AF.o.1 (fun h=>bT h.1)))))];rfl
           clear bT;refine wp_region_quiet_below (by kernel_rfl) (by kernel_rfl) ?_
           repeat(go_big_quiet_step (first|with_reducible exact cA _ _))
           refine wpQuiet_nil ?_;intro _ s9;obtain⟨⟨dq,mj⟩,iM⟩:=s9;subst iM;have b6:=below_regrown W5 dq mj;generalize Sort.grow (redrawn W5 dq) mj=W6 at*;have B6:=aa b6;clear b6;go_wp2_with fail
           all_goals(try rw[Qv])
           all_goals go_ret
           all_goals exact⟨by rw[HT.o];rfl,kL.o.2.2.1.trans (B6.o.mono kL.o.2.2.1.size)⟩
          ·by_cases fu:yx=0
           ·have qe:Af (foldI (bV c) 0 ((iK c).take (j+1)) (some m0)=some (mX m' x)):=HJ.o.2.1.trans (vK gd AF.o.1 ⟨XQ AF.o.2.1.symm,by rw[←AF.o.2.2,fu];exact HJ.o.2.2.1⟩);subst fu;refine wp_region_quiet_below (by kernel_rfl) (by kernel_rfl) ?_
            repeat(go_big_quiet_step (first|with_reducible exact cA _ _))
            refine wpQuiet_nil ?_;intro _ s9;obtain⟨⟨dq,mj⟩,iM⟩:=s9;subst iM;have b6:=below_regrown W5 dq mj;generalize Sort.grow (redrawn W5 dq) mj=W6 at*;have B6:=aa b6;clear b6;have hM6:=kL.o.1.on B6.o;obtain⟨W7,sC,hM7,ti⟩:=hM6.drop HJ.o.2.2.2.2.2.2.2.2 (0:TypeId);have iq:(Builtin.delete_ #[314,3] 0 #[.map (some mb),.int .i64 x]).run prog W6= .ok (.tuple #[]) W7:=sC;have l6:=kL.o.2.2.1.trans (B6.o.mono kL.o.2.2.1.size);have b7:Below w.heap.size W6 W7:=(Xj w.heap.size W6).grown ti l6.size (fun g e=>by rw[←Qr e];exact kL.o.2.2.2.2.1);have HF:Af (WO w mb (foldI (bV c) 0 ((iK c).take (j+1)) (some m0)) W7∧aq W7 cb 50 [.int .i64 fr,.int .i64 dp,.slice (some ⟨b1,o1,none⟩) m1 c1,.slice (some ⟨b2,o2,none⟩) m2 c2]):=by refine⟨⟨⟨_,_,_,hM7,((kL.o.2.1.below (B6.o.mono kL.o.2.2.1.size)).below b7).cut x,qe.o⟩,l6.trans b7,kL.o.2.2.2.2.1⟩,(kL.o.2.2.2.1.on B6.o).grown ti (fun e=>kL.o.2.2.2.2.2.2 (Qr e))⟩
            clear cA hM6 sC hM7 ti l6 b7;go_wp2_with fail;exact⟨⟨j+1,by first|rfl|(rw[w4];rfl),HJ.o.1,HF.o.1,HF.o.2⟩,by first|exact al HJ.o.1|(rw[w4];exact al HJ.o.1)⟩
           ·have N2:¬s.next=c.blocks.getD (j+1) 0:=fun h=>fu (by rw[AF.o.2.2,h];exact HJ.o.2.2.1.symm)
            have HT:Af (T=false):=by show _=_;rw[HN.o.2.2.2.2.1];unfold mr;rw[gV gone ao (k+1) (HQ.o none (js c _ (j+1) _ (HJ.o.2.1.trans (km gd AF.o.1 (fun h=>N2 h.2)))))];rfl
            clear N2;refine wp_region_quiet_below (by kernel_rfl) (by kernel_rfl) ?_
            repeat(go_big_quiet_step (first|with_reducible exact cA _ _))
            refine wpQuiet_nil ?_;intro _ s9;obtain⟨⟨dq,mj⟩,iM⟩:=s9;subst iM;have b6:=below_regrown W5 dq mj;generalize Sort.grow (redrawn W5 dq) mj=W6 at*;have B6:=aa b6;clear b6;go_wp2_with fail
            all_goals(try rw[Qv])
            all_goals go_ret
            all_goals exact⟨by rw[HT.o];rfl,kL.o.2.2.1.trans (B6.o.mono kL.o.2.2.1.size)⟩
      ·have JK:j=m1:=QE HI.o.1 (QC hj);have HE:Af (WO w mb (mu gone (ao.take (k+1))) wr):=by have h1:=HI.o.2.1;rw[JK,Qj (l:=iK c) (by rw[BZ HX.o.2.2.1.len,HX.o.2.2.2.1];exact Qg _)] at h1;obtain⟨f,sz,m',g1,g2,g3⟩:=h1.ex;exact⟨⟨f,sz,m',g1,g2,HQ.o _ g3⟩,h1.low,h1.wG⟩
       subst JK;clear HI hj;go_wp2_with fail;exact⟨⟨k+1,by first|rfl|(rw[Hu.o];rfl),HX.o.2.1,HE.o⟩,by first|exact al HX.o.2.1|(rw[Hu.o];exact al HX.o.2.1)⟩
    ·have SJ:k=C:=QE HR.o.1 (QC hk);have hK:=HR.o.2;rw[SJ,Qj (by rw[HN.o.2.1];exact Qg _)] at hK;have HT:Af (T=true):=by show _=_;rw[HN.o.2.2.2.2.1];unfold mr;obtain⟨f,sz,m,-,-,g3⟩:=hK.ex;rw[g3];rfl
     have HL:=aa hK.low;subst SJ;clear HR hk hK L0;go_wp2_with fail
     try rw[Qv]
     go_ret;exact⟨by rw[HT.o];rfl,HL.o⟩
end
section
variable {dep : Nat}
def qk:Nat→Nat→List ak→Prop
 |x,y,[]=>x=y
 |x,y,c::r=>c.ax=x∧c.depth≤8∧x%2^(8 - c.depth)=0∧qk (x+2^(8 - c.depth)) y r
theorem qk.le:∀{l:List ak} {x y:Nat},qk x y l→x≤y
 |[],_,_,h=>Xg h
 |_::_,_,_,h=>Qh (XM _ _) (qk.le h.2.2.2)
theorem Jn {ax n:Nat} (hm:ax%2^(8 - dep)=0):bY ax dep n=true↔ax≤n∧n<ax+2^(8 - dep):=by
 rw[lE];have hp:0<2^(8 - dep):=Nat.two_pow_pos _;generalize 2^(8 - dep)=P at*;obtain⟨q,rfl⟩:=Nat.dvd_of_mod_eq_zero hm;rw[Nat.mul_div_cancel_left _ hp];have h1:=Nat.div_add_mod n P;have h2:=Nat.mod_lt n hp;constructor
 ·intro h;rw[h] at h1;omega
 ·rintro⟨h3,h4⟩;have h5:=(Nat.le_div_iff_mul_le hp).2 (by rw[Nat.mul_comm];exact h3);have h6:n/P<q+1:=(Nat.div_lt_iff_lt_mul hp).2 (by rw[Nat.mul_comm,Nat.mul_add,Nat.mul_one];exact h4);omega
theorem qk.mem:∀{l:List ak} {x y:Nat} {c:ak},qk x y l→c∈l→x≤c.ax∧c.ax+2^(8 - c.depth)≤y∧c.depth≤8∧c.ax%2^(8 - c.depth)=0
 |[],_,_,_,_,h=>by cases h
 |a::r,x,y,c,h,hc=>by
  obtain⟨rfl,h2,h3,h4⟩:=h;rcases QA.1 hc with rfl|hc
  ·exact⟨Qg _,qk.le h4,h2,h3⟩
  ·obtain⟨g1,g2,g3,g4⟩:=qk.mem h4 hc
   exact⟨Qh (XM _ _) g1,g2,g3,g4⟩
theorem qk.find:∀{l:List ak} {x y:Nat} {c:ak} {n:Nat},qk x y l→c∈l→bY c.ax c.depth n=true→Bf l n=some c
 |[],_,_,_,_,_,h,_=>by cases h
 |a::r,x,y,c,n,h,hc,hn=>by
  obtain⟨rfl,h2,h3,h4⟩:=h;unfold Bf;rw[List.find?_cons];rcases QA.1 hc with rfl|hc
  ·rw[hn]
  ·obtain⟨g1,g2,g3,g4⟩:=qk.mem h4 hc
   have h5:=(Jn g4).1 hn;have h6:bY a.ax a.depth n=false:=by
    rw[Xf];intro h7;have:=(Jn h3).1 h7;omega
   rw[h6];exact qk.find h4 hc hn
theorem MU.aaP {s:aX} {ae:List (Nat×Int)} {at_:List Int} {cs:List ak} (h:MU s dep ae at_ cs):qk 0 256 cs:=by
 have key:∀m j,j+m=cs.length→qk (aC ae j*2^(8 - dep)) 256 (cs.drop j):=by
  intro m;induction m with
  |zero=>
   intro j hj;rw[Zu (by omega)];show _=_;rw[nM ae j (by rw[←h.len];omega),h.dir.oH.sum,←Nat.pow_add,show dep+(8 - dep)=8 by have:=h.dir.oH.d8;omega]
  |succ m ih=>
   intro j hj;have wI:j<cs.length:=by omega
   have hc:=Qf wI;have lA:ae[j]? =some (ae[j]'(by rw[←h.len];exact wI)):=Qf _;obtain⟨h1,h2,h3,h4,e,h5,h6,h7⟩:=h.ch j _ _ lA hc;obtain⟨e',g1,g2,g3⟩:=h.dir.oH.two j _ lA;have qc:=h.dir.oH.d8;rw[Zd wI];have hp:2^(8 - cs[j].depth)=2^(8 - dep)*2^e:=by rw[h7,←Nat.pow_add,show 8 - (dep - e)=8 - dep+e by omega]
   refine⟨h4,by rw[h7];omega,?_,?_⟩
   ·rw[hp];rw[h6] at g3;rw[Nat.mul_comm (aC ae j),Nat.mul_mod_mul_left,g3,Nat.mul_zero]
   ·have i:=ih (j+1) (by omega);rw[bH ae j _ lA,h6,Nat.add_mul] at i;rw[hp,Nat.mul_comm (2^(8 - dep)) (2^e)];exact i
 have:=key cs.length 0 (by omega);rw[qS,Xz] at this;exact this
end
end Go.Proofs.YthgdhacopamklaaGreat

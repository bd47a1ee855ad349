/- What HashNone asks, part 37 of 41: parts of the walks and laws, each true as it stands. -/
import Derived.Test.YthgdhacopamklaaGreatTBJ
set_option maxHeartbeats 16000000
set_option maxRecDepth 100000
set_option linter.unusedVariables false
set_option linter.unusedSimpArgs false
namespace Go.Proofs.YthgdhacopamklaaGreat
open Go.Proofs.Tryz
section
open Go.RowKit
attribute [local go_sem] Oper.semAt_some
variable {ae : List (Nat × Int)} {dep j : Nat} {sj : Nat × Int}
structure U0 (w:Wo) (ae:List (Nat×Int)) (cs:List ak) (db mb n k:Nat) (dc:List Va) (ov:Va) (jd:Nat) (wr:Wo):Prop where
 le:k≤n
 jl:jd≤ae.length
 jk:∀j,j<ae.length→(j<jd↔aC ae j<k)
 wo:∃ms,jA wr w.heap.size ov ms∧ms.map (·.c)=cs.take jd
 map:MG Uc wr mb (kb ((cs.take jd).flatMap (·.blocks))) ((cs.take jd).flatMap (·.blocks)).length
 box:aq wr db 133 dc
 low:Below w.heap.size w wr
structure abK (w:Wo) (cs:List ak) (db mb cb:Nat) (dc c4:List Va) (ov:Va) (jd:Nat) (m:tL) (q:Nat) (wr:Wo):Prop where
 le:q≤m.c.blocks.length
 wo:∃ms,jA wr w.heap.size ov ms∧ms.map (·.c)=cs.take jd
 map:MG Uc wr mb (kb ((cs.take jd).flatMap (·.blocks)++m.c.blocks.take q)) (((cs.take jd).flatMap (·.blocks)).length+q)
 box:aq wr db 133 dc
 chb:aq wr cb 50 c4
 own:rl wr w.heap.size m
 low:Below w.heap.size w wr
theorem vu {j' :Nat} (hj:ae[j]? =some sj) (aJ:j<j'):aC ae j+sj.1≤aC ae j' :=by
 rw[←bH ae j sj hj];exact me ae aJ
theorem acy (h:eQ dep ae) {i k jd:Nat} (hj:ae[j]? =some sj) (hi:i<sj.1) (hk:k=aC ae j+i) (hc:∀j',j' <ae.length→(j' <jd↔aC ae j' <k)) (hl:jd≤ae.length):
  (i=0→jd=j∧(∀j',j' <ae.length→(j' <jd+1↔aC ae j' <k+1)))∧(0<i→∀j',j' <ae.length→(j' <jd↔aC ae j' <k+1)):=by
 have wI:=(Ql.1 hj).1;have key:∀j',j' <ae.length→(j' <j→aC ae j' <aC ae j)∧(j<j'→aC ae j+sj.1≤aC ae j'):=fun j' Eg =>by refine⟨fun aJ=> ?_,fun aJ=>vu hj aJ⟩;obtain⟨s',hs'⟩:∃s',ae[j']? =some s' :=⟨_,Qf Eg⟩;have:=vu hs' aJ;have:=h.pos hs';omega
 constructor
 ·intro h0;subst h0;have Nh:jd=j:=by
   rcases Nat.lt_trichotomy jd j with h1|h1|h1
   ·have h2:=(hc jd (by omega));have h3:=(key jd (by omega)).1 h1;omega
   ·exact h1
   ·have h2:=hc j wI;omega
  refine⟨Nh,fun j' Eg => ?_⟩;have h3:=key j' Eg;rcases Nat.lt_trichotomy j' j with h1|h1|h1
  ·have:=h3.1 h1;omega
  ·subst h1;omega
  ·have:=h3.2 h1;omega
 ·intro h0 j' Eg;have h3:=key j' Eg;have h4:=hc j' Eg;rcases Nat.lt_trichotomy j' j with h1|h1|h1
  ·have:=h3.1 h1;omega
  ·subst h1;omega
  ·have:=h3.2 h1;omega
theorem Vf (h:eQ dep ae):ae.length≤256:=by
 have key:∀k,k≤ae.length→k≤aC ae k:=by
  intro k;induction k with
  |zero=>intro _;exact Qp _
  |succ k ih=>
   intro hk;obtain⟨sg,Ay⟩:∃sg,ae[k]? =some sg:=⟨_,Qf hk⟩;rw[bH ae k sg Ay];have:=ih (QX hk);have:=h.pos Ay;omega
 exact Qh (key _ (Qg _)) (Qh (fH ae _) h.len)
theorem Ss (w:Wo) (I:bF) (s:aX) (h:cR w I s) (dep:Nat) (ae:List (Nat×Int)) (at_:List Int) (cs:List ak) (hk:MU s dep ae at_ cs):
  Calls prog 13 #[.pointer (some ⟨I.b,0,none⟩)] w fun e w' =>∃v ms,e= .returned (.tuple #[v,.int .i64 0])∧jA w' w.heap.size v ms∧ms.map (·.c)=cs∧Below w.heap.size w w' :=by
 have Td:=aa (oz w I s h dep ae at_ hk.dir);have HK:=aa hk;have H:=aa h;obtain⟨n,hn⟩:=eX ((expand ae).length);have Hn:=dK hn (by rw[hn];exact hk.dir.oH.len:n≤256);clear h hk hn;go_enter func13,ntmps13;go_upto_region 2 with(go_at_call 55;go_must(refine Td.o.mono ?_);rintro e W2 ⟨dv,av,rfl,d2,a2,b2⟩;obtain⟨Ad,cd,rfl,-,-⟩:=d2.ns.form;obtain⟨Aa,na,ca,rfl⟩:=a2.bu;have D2:=aa d2;have B2:=aa b2;clear d2 a2 b2)
 rw[←Hn.o.1] at D2⊢;obtain⟨W3,cD,X3,b3⟩:=nW W2 [.int .u8 dep,.slice Ad n cd] 133;obtain⟨db,iU⟩:=eX W2.heap.size;rw[←cD];rw[←iU] at X3⊢;have Em:=aa X3;have B23:=aa b3;have xA:= @run_makeMap prog;clear cD b3 X3 Td;go_upto_region 6 with fail
 have M4:MG Uc (W3.alloc (.map #[] 0)) W3.heap.size (fun _=>none) 0:=MG.made W3;have b4:Below W3.heap.size W3 (W3.alloc (.map #[] 0)):=(Xj _ _).alloc (Qg _) _;obtain⟨W4,j7⟩:=eX (W3.alloc (.map #[] 0));obtain⟨mb,tB⟩:=eX W3.heap.size;rw[←j7] at M4 b4⊢;rw[←tB] at M4⊢;have X4:=Em.o.on b4;have x1:=X4.cell (j:=1) rfl;have L4:=B23.o.trans (b4.mono B23.o.size);have Hdb:Af (W2.heap.size≤db∧W2.heap.size≤mb∧db≠mb):=⟨by rw[iU];exact Qg _,by rw[tB];exact B23.o.size,by rw[tB];exact XP Em.o.lt⟩;have rj:Af (U0 W2 ae cs db mb n 0 [.int .u8 dep,.slice Ad n cd] (.slice none 0 0) 0 W4):=⟨Qp _,Qp _,fun j _=>by omega,⟨[],Rl _ _,rfl⟩,by rw[Zq,List.flatMap_nil,Lf];exact M4,X4,L4⟩;have n256:(n:Int)≤256:=by have:=Hn.o.2;omega
 have D2n:=aa D2.o.ns;clear j7 tB iU M4 b4 X4 L4 xA;go_wp2_with fail;clear x1;go_loopw [27,7] (fun iv xv wr=>∃(k jd:Nat) (Ao:Option Addr) (no co:Nat),iv= .int .i64 k∧xv= .slice Ao no co∧Af (U0 W2 ae cs db mb n k [.int .u8 dep,.slice Ad n cd] (.slice Ao no co) jd wr)) (fun iv _ _=>n - (intOf iv).toNat)
 case atStart=>exact⟨0,0,none,0,0,rfl,rfl,rj.o⟩
 case round=>
  obtain⟨k,jd,Ao,no,co,rfl,rfl,HS⟩:=hrel;by_cases cH:k<n
  ·obtain⟨j,sj,i,hj,hi,AA⟩:=lo ae k (by rw[←Hn.o.1];exact cH);obtain⟨q1,q2⟩:=acy HK.o.dir.oH hj hi AA HS.o.jk HS.o.jl;obtain⟨b,o,c',mQ,-,-,hb,aH⟩:=D2.o.ns.cells (by rw[←Hn.o.1];omega);rw[←Hn.o.1] at mQ aH;obtain rfl:Ad=some ⟨b,o,none⟩:=by injection mQ
   have Ww:wr.cell? ⟨b,o+k,none⟩=some (.int .u16 sj.2):=by have h3:=eh ae j sj hj i hi;rw[←AA] at h3;rw[HS.o.low.cell (p:=⟨b,o+k,none⟩) hb,aH k cH,Qe,h3];rfl
   have OJ:∀g,k=g+1→∃y,wr.cell? ⟨b,o+g,none⟩=some (.int .u16 y)∧(sj.2==y)=decide (0<i):=fun g hg=>by
    rw[HS.o.low.cell (p:=⟨b,o+g,none⟩) hb,aH g (by omega),Qe];rcases XG i with h0|h0
    ·rcases HK.o.dir.oH.ahead hj with h1|⟨y,h1,h2⟩
     ·omega
     ·rw[show aC ae j - 1=g by omega] at h1;rw[h1];exact⟨y,rfl,by rw[Xe (by omega)];exact Xc (Xm h2)⟩
    ·have h3:=eh ae j sj hj (i - 1) (by omega);rw[show aC ae j+(i - 1)=g by omega] at h3;rw[h3];exact⟨sj.2,rfl,by rw[Xa h0];exact beq_self_eq_true _⟩
   obtain⟨d0,d1⟩:=gh HS.o.box;have Hj:=kH hj hi AA cH;have Hq:=dK q1 q2;have um:=aa HS.o;have Hb:=aa hb;have k0:=Xh k;have kn:=Xi.2 cH;obtain⟨same,BG⟩:∃same:Bool,same=decide (0<i):=⟨_,rfl⟩;have OU:=aa BG;rw[←BG] at OJ;have ahR:=aa OJ;clear q1 q2 hj hi mQ aH hb HS BG OJ cH AA;go_upto_region 9 with fail
   go_cut [45] from 30 to 45 (fun v45 W=>v45= .bool same∧Af (Below wr.heap.size wr W))
   case first=>
    cases k with
    |zero=>
     have lz:same=false:=by rw[OU.o];have:=Hj.o.2.2.1;exact Xe (by omega)
     rw[show((0:Nat):Int)=(0:Int) from rfl];go_quiet (fail);go_wp2_with fail;go_meet;exact⟨by rw[lz],below_drewN (Xj _ _) _⟩
    |succ g=>
     obtain⟨y,y1,y2⟩:=ahR.o g rfl;have g1:(0:Int)<((g+1:Nat):Int):=by omega
     have g2:IntKind.i64.wrap (((g+1:Nat):Int) - 1)=(g:Int):=by simp only[XN];omega
     have g3:=Xh g;have g4:(g:Int)<n:=by omega
     go_quiet (fail)
     go_wp2_with fail;go_meet;exact⟨by first|rfl|rw[y2],below_drewN (Xj _ _) _⟩
   case rest=>
    obtain⟨rfl,B9⟩:=hcut;obtain⟨dd0,dd1⟩:=gh (um.o.box.on B9.o);have hwk:IntKind.i64.wrap ((k:Int)+1)=(k:Int)+1:=by simp only[XN];omega
    have Hwk:Af (wrap64 ((k:Int)+1)=(k:Int)+1):=by show wrap64 _=_;unfold wrap64;omega
    clear d0 d1;cases same
    ·have ml:i=0:=by have h1:=OU.o;have h2:=of_decide_eq_false h1.symm;omega
     obtain⟨Nh,N8⟩:=Hq.o.1 ml;obtain⟨c,hc⟩:=HK.o.at_seg Hj.o.1;have hCh:=nR wc I s (H.o.on (B2.o.trans ((um.o.low.trans (B9.o.mono um.o.low.size)).mono B2.o.size))) dep ae at_ cs HK.o (.slice (some ⟨b,o,none⟩) n cd) (by have h1:=D2.o.ns;have h2:=um.o.low.trans (B9.o.mono um.o.low.size);exact Sl.more (Sl.below h1 h2) h2.size) j i sj c Hj.o.1 hc Hj.o.2.1
     rw[←Hj.o.2.2.1] at hCh;have Ep:=aa hCh;have HCt:=aa N8;have Hc:=dK (by rw[Nh];exact hc:cs[jd]? =some c) Nh;clear ml Nh N8 hc hCh;go_upto_region 11 with(go_at_call 56;go_must(refine Ep.o.mono ?_);rintro e uh ⟨bv,sv,ps,rfl,bo,so,pse,wC⟩;obtain⟨Ab,fQ,rfl,-,-⟩:=bo.ns.form;obtain⟨As,ns,gq,rfl⟩:=so.form;have BO:=aa bo;have SO:=aa so;have PS:=aa pse;have oU:=aa wC;clear bo so pse wC)
     obtain⟨f,hf⟩:=eX c.ax;obtain⟨d,hd⟩:=eX c.depth;obtain⟨nb,gZ⟩:=eX c.blocks.length;have wL:=iJ hf hd gZ;rw[←hf,←hd,←gZ];rw[←gZ] at BO;clear hf hd gZ;obtain⟨MP,agX,C11,Ek⟩:=nW uh [.int .i64 f,.int .i64 d,.slice Ab nb fQ,.slice As ns gq] 50;obtain⟨cb,iI⟩:=eX uh.heap.size;rw[←agX];rw[←iI] at C11⊢;have bW:=B9.o.trans ((oU.o.trans (Ek.mono oU.o.size)).mono B9.o.size);have hO:rl MP W2.heap.size ⟨c,.slice Ab nb fQ,.slice As ns gq,ps⟩:=⟨(aB.on BO.o Ek).low (Qh um.o.low.size B9.o.size),(SO.o.on Ek).low (Qh um.o.low.size B9.o.size),PS.o⟩;have HOo:=aa hO;obtain⟨ms,JI,AR⟩:=um.o.wo;have WR:Af (abK W2 cs db mb cb [.int .u8 dep,.slice (some ⟨b,o,none⟩) n cd] [.int .i64 f,.int .i64 d,.slice Ab nb fQ,.slice As ns gq] (.slice Ao no co) jd ⟨c,.slice Ab nb fQ,.slice As ns gq,ps⟩ 0 MP):=
      ⟨Qp _,⟨ms,JI.on bW,AR⟩,by rw[Zq,Zi];exact um.o.map.on bW,um.o.box.on bW,C11,hO,um.o.low.trans (bW.mono um.o.low.size)⟩
     have Hcb:Af (W2.heap.size≤cb∧cb≠mb):=⟨by rw[iI];exact Qh um.o.low.size (Qh B9.o.size oU.o.size),by rw[iI];exact XO (Qn um.o.map.lt (Qh B9.o.size oU.o.size))⟩;have c2:=C11.cell (j:=2) rfl;clear agX iI Ek C11 bW hO JI AR dd0 dd1;go_wp2_with fail;have Hmn:Af (∀q,q≤nb→((cs.take jd).flatMap (·.blocks)).length+q≤100000):=fun q hq=>by
      have h1:=HK.o.many;have h2:(cs.take jd).flatMap (·.blocks)++c.blocks=(cs.take (jd+1)).flatMap (·.blocks):=by rw[aA cs jd c Hc.o.1,QP,List.flatMap_singleton]
      have h3:=XF List.length h2;have h4:((cs.take (jd+1)).flatMap (·.blocks)).length≤(cs.flatMap (·.blocks)).length:=by
       conv=>rhs;rw[←XW (jd+1) cs,QP,Qo]
       exact XM _ _
      rw[Qo,←wL.o.2.2] at h3;omega
     have nb0:(nb:Int)≤5000:=by have h1:=wL.o.2.2;have h2:=HK.o.many;have h3:=fL cs c (Qi Hc.o.1);omega
     clear c2;go_loopw [59] (fun iv wr=>∃q:Nat,iv= .int .i64 q∧Af (abK W2 cs db mb cb [.int .u8 dep,.slice (some ⟨b,o,none⟩) n cd] [.int .i64 f,.int .i64 d,.slice Ab nb fQ,.slice As ns gq] (.slice Ao no co) jd ⟨c,.slice Ab nb fQ,.slice As ns gq,ps⟩ q wr)) (fun iv _=>nb - (intOf iv).toNat)
     case atStart=>exact⟨0,rfl,WR.o⟩
     case round=>
      obtain⟨q,rfl,HI⟩:=hrel;by_cases Nc:q<nb
      ·obtain⟨bb,ob,cc',hbv,-,-,bO,AX⟩:=HI.o.own.b.ns.cells (by show 0<c.blocks.length;rw[←wL.o.2.2];omega);have agR :=hbv;obtain rfl:Ab=some ⟨bb,ob,none⟩:=by injection agR
       have ZM:q<c.blocks.length:=by rw[←wL.o.2.2];exact Nc
       obtain⟨bk,ej⟩:∃bk:Int,c.blocks[q]? =some bk:=⟨_,Qf ZM⟩;have aH:=AX q ZM;rw[Qe,show(tL.mk c (.slice (some ⟨bb,ob,none⟩) nb fQ) (.slice As ns gq) ps).c.blocks[q]? =some bk from ej] at aH;have aH:=aH;have N3:bk∉(cs.take jd).flatMap (·.blocks)++c.blocks.take q:=by
        have h2:(cs.take jd).flatMap (·.blocks)++c.blocks=(cs.take (jd+1)).flatMap (·.blocks):=by rw[aA cs jd c Hc.o.1,QP,List.flatMap_singleton]
        have h3:((cs.take (jd+1)).flatMap (·.blocks)).Nodup:=by have h4:=HK.o.nd;rw[←XW (jd+1) cs,QP] at h4;exact(List.nodup_append.1 h4).1
        rw[←h2,←XW q c.blocks,←QY] at h3;intro hm;exact(List.nodup_append.1 h3).2.2 bk hm bk (by rw[tX ej];exact Qm ..) rfl
       obtain⟨bn,-,h5,-,h7,-⟩:=(HK.o.ch j sj c Hj.o.1 (by rw[←Hc.o.2];exact Hc.o.1)).1.pg q ZM;have WB:=Qr (ej.symm.trans h5);have hn5:=(H.o.n0).2;have mY:Af ((Lit.int .i64 bk).wf=true):=mo (by omega);have hl0:(Instr.lookup 136 (.map (some mb)) (.int .i64 bk) false).run prog wr= .ok (.int .i64 0) wr:=by have h8:=HI.o.map.at (x:=bk) mY.o;rw[show kb _ bk=none by unfold kb;rw[Xd N3]] at h8;exact h8
       have HM:=aa HI.o.map;have qg:=aa HI.o;have IA:=iJ ej Nc (by unfold kb;rw[Xd N3]:kb ((cs.take jd).flatMap (·.blocks)++c.blocks.take q) bk=none);have q0:=Xh q;have qn:=Xi.2 Nc;have Hwq:Af (wrap64 ((q:Int)+1)=(q:Int)+1):=by show wrap64 _=_;unfold wrap64;omega
       have Hq1:=aa (Hmn.o q (QX Nc));clear hbv agR bO AX ZM ej N3 h5 h7 WB hn5 HI Nc;go_upto_region 17 with((refine wl_put Uc (f:=kb ((cs.take jd).flatMap (·.blocks)++c.blocks.take q)) (s:=((cs.take jd).flatMap (·.blocks)).length+q) rfl HM.o Hq1.o bk 1 mY.o rfl rfl rfl ?_);intro Bg agq agI;have ahk:=aa agq;have Oo:=aa agI;clear agq agI)
       have agp:MG Uc Bg mb (kb ((cs.take jd).flatMap (·.blocks)++c.blocks.take (q+1))) (((cs.take jd).flatMap (·.blocks)).length+(q+1)):=by have h1:=ahk.o;rw[IA.o.2.2,Le,QY,←aA c.blocks q bk IA.o.1] at h1;exact h1
       have ME:(Instr.lookup 136 (.map (some mb)) (.int .i64 bk) false).run prog Bg= .ok (.int .i64 1) Bg:=by have h8:=ahk.o.at (x:=bk) mY.o;rw[show eM (kb ((cs.take jd).flatMap (·.blocks)++c.blocks.take q)) bk 1 bk=some 1 by unfold eM;rw[Xo rfl]] at h8;exact h8
       have hIN:abK W2 cs db mb cb [.int .u8 dep,.slice (some ⟨b,o,none⟩) n cd] [.int .i64 f,.int .i64 d,.slice (some ⟨bb,ob,none⟩) nb fQ,.slice As ns gq] (.slice Ao no co) jd ⟨c,.slice (some ⟨bb,ob,none⟩) nb fQ,.slice As ns gq,ps⟩ (q+1) Bg:=by obtain⟨ms,JI,AR⟩:=qg.o.wo;exact⟨by show q+1≤c.blocks.length;rw[←wL.o.2.2];exact IA.o.2.1,⟨ms,JI.map HM.o Oo.o,AR⟩,agp,qg.o.box.grown Oo.o (fun e=>Hdb.o.2.2 (Qr e)),qg.o.chb.grown Oo.o (fun e=>Hcb.o.2 (Qr e)),qg.o.own.map HM.o Oo.o,qg.o.low.grown Oo.o qg.o.low.size (fun j e=>by cases(Qr e);exact Hdb.o.2.1)⟩
       have HIN:=aa hIN;have Hqn:=aa IA.o.2.1;clear agp hIN hl0 aH;go_wp2_with fail;exact⟨⟨q+1,by first|rfl|(rw[Hwq.o];rfl),HIN.o⟩,by first|exact al Hqn.o|(rw[Hwq.o];exact al Hqn.o)⟩
      ·have Wk:=QE (by rw[wL.o.2.2];exact HI.o.le) (QC Nc);obtain⟨ms,JI,AR⟩:=HI.o.wo;have qg:=aa HI.o;have Wq:ms.length=jd:=by have h1:=XF List.length AR;rw[Qq,Qu,Zh (QX (Ql.1 Hc.o.1).1)] at h1;exact h1
       have Nh:jd≤10000:=by have h1:=(Ql.1 Hc.o.1).1;have h2:=HK.o.len;have h3:=Vf HK.o.dir.oH;omega
       obtain⟨e0,e1,e2,e3⟩:=mm HI.o.chb;have mO:=aF wr (.cells #[.int .i64 f,.int .i64 d,.slice Ab nb fQ,.slice As ns gq] 50);have C13:=ar wr [.int .i64 f,.int .i64 d,.slice Ab nb fQ,.slice As ns gq] 50;have kG:wX ⟨c,.slice Ab nb fQ,.slice As ns gq,ps⟩=[.int .i64 f,.int .i64 d,.slice Ab nb fQ,.slice As ns gq]:=by rw[wL.o.1,wL.o.2.1];rfl
       have pt:=PX (wr.alloc (.cells #[.int .i64 f,.int .i64 d,.slice Ab nb fQ,.slice As ns gq] 50)) W2.heap.size (.slice Ao no co) ms (JI.on mO) wr.heap.size ⟨c,.slice Ab nb fQ,.slice As ns gq,ps⟩ (by rw[kG];exact C13) (HI.o.own.on mO) (by rw[Wq];exact Nh) (Qh HI.o.low.size mO.size) 45;have Up:=aa pt;have an3:Af (∀v' w',(jA w' W2.heap.size v' (ms++[⟨c,.slice Ab nb fQ,.slice As ns gq,ps⟩])∧(wr.alloc (.cells #[.int .i64 f,.int .i64 d,.slice Ab nb fQ,.slice As ns gq] 50)).grownBy w' (Value.slice Ao no co).ownBlock∧(v'.ownBlock=(Value.slice Ao no co).ownBlock∨v'.ownBlock=some (wr.alloc (.cells #[.int .i64 f,.int .i64 d,.slice Ab nb fQ,.slice As ns gq] 50)).heap.size))→U0 W2 ae cs db mb n (k+1) [.int .u8 dep,.slice (some ⟨b,o,none⟩) n cd] v' (jd+1) w'):=fun v' w' ⟨r1,r2,r3⟩=>by
        have ZO:=JI.on mO;refine⟨Hj.o.2.2.2,?_,HCt.o,⟨_,r1,by rw[QL,AR,aA cs jd c Hc.o.1];rfl⟩,?_,?_,?_⟩
        ·have h1:=(Ql.1 Hc.o.1).1;rw[HK.o.len] at h1;exact h1
        ·have h1:=qg.o.map;have h2:(cs.take jd).flatMap (·.blocks)++c.blocks=(cs.take (jd+1)).flatMap (·.blocks):=by rw[aA cs jd c Hc.o.1,QP,List.flatMap_singleton]
         have h3:(cs.take jd).flatMap (·.blocks)++c.blocks.take q=(cs.take (jd+1)).flatMap (·.blocks):=by have h5:c.blocks.take q=c.blocks:=Qj (by rw[Wk,wL.o.2.2];exact Qg _);rw[h5,h2]
         have h4:((cs.take jd).flatMap (·.blocks)).length+q=((cs.take (jd+1)).flatMap (·.blocks)).length:=by rw[←h2,Qo,Wk,wL.o.2.2]
         rw[show(tL.mk c (.slice Ab nb fQ) (.slice As ns gq) ps).c.blocks=c.blocks from rfl,h3,h4] at h1;exact(h1.on mO).kept r2 (fun e=>kj (h1.on mO) ZO.row e.symm)
        ·exact(qg.o.box.on mO).grown r2 (fun e=>aq.not_row (qg.o.box.on mO) (by decide) ZO.row e.symm)
        ·exact(qg.o.low.trans (mO.mono qg.o.low.size)).grown r2 (Qh qg.o.low.size mO.size) (fun j e=>(Xr ZO.row j e).1)
       have NJ:=aa Hj.o.2.2.2;clear HI Wk Wq Nh mO C13 kG pt JI AR;subst_eqs;go_wp2_with(at_builtin;(with_reducible refine wl_append_run (os:= .tmp 72) (ox:= .tmp 74) (v:= .slice Ao no co) (vx:= .slice (some ⟨wr.heap.size,0,none⟩) 1 1) Up.o ?_ ?_ ?_);go_must((·rfl);(·rfl);intro v14 W14 h14;obtain⟨A14,n14,c14,rfl⟩:=h14.1.form;have an4:=aa (an3.o _ _ h14);clear h14));exact⟨⟨k+1,jd+1,A14,n14,c14,by first|rfl|(rw[Hwk.o];rfl),rfl,an4.o⟩,by first|exact al NJ.o|(rw[Hwk.o];exact al NJ.o)⟩
    ·have ml:=XQ OU.o.symm;have N8:=Hq.o.2 ml;have hST:U0 W2 ae cs db mb n (k+1) [.int .u8 dep,.slice (some ⟨b,o,none⟩) n cd] (.slice Ao no co) jd wc:=by obtain⟨ms,JI,AR⟩:=um.o.wo;exact⟨Hj.o.2.2.2,um.o.jl,N8,⟨ms,JI.on B9.o,AR⟩,um.o.map.on B9.o,um.o.box.on B9.o,um.o.low.trans (B9.o.mono um.o.low.size)⟩
     have HST:=aa hST;have NJ:=aa Hj.o.2.2.2;clear ml N8 hST;go_wp2_with fail;exact⟨⟨k+1,jd,Ao,no,co,by first|rfl|(rw[Hwk.o];rfl),rfl,HST.o⟩,by first|exact al NJ.o|(rw[Hwk.o];exact al NJ.o)⟩
  ·have hke:=QE HS.o.le (QC cH);obtain⟨ms,JI,AR⟩:=HS.o.wo;have Nh:jd=ae.length:=by
    rcases Nat.lt_or_ge jd ae.length with h1|h1
    ·exfalso;have h2:=HS.o.jk jd h1;obtain⟨sg,Ay⟩:∃sg,ae[jd]? =some sg:=⟨_,Qf h1⟩;have h3:=fH ae (jd+1);have h4:=HK.o.dir.oH.pos Ay;rw[bH ae jd sg Ay,←Hn.o.1] at h3;have h5:aC ae jd<k:=by rw[hke];exact Qn (Nat.lt_add_of_pos_right h4) h3
     exact XI _ (h2.2 h5)
    ·exact QE HS.o.jl h1
   have hms:ms.map (·.c)=cs:=by rw[AR,Nh,←HK.o.len,XU]
   have HO:=aa (show jA wr W2.heap.size (.slice Ao no co) ms from JI);have HMs:=aa hms;have HL:=aa HS.o.low;subst hke;clear HS cH JI AR Nh hms;go_wp2_with fail
   try rw[Qv]
   go_ret2;exact⟨_,ms,rfl,⟨fB HO.o.row B2.o.size,fun m hm=>(HO.o.all m hm).low B2.o.size⟩,HMs.o,B2.o.trans (HL.o.mono B2.o.size)⟩
end
section
open Go.RowKit
attribute [local go_sem] Oper.semAt_some
variable {W w : Wo} {base j k : Nat} {v : Va} {ms : List tL} {I : bF} {x : Bool × Nat} {sh : List (Nat × Nat × List (List aD))}
theorem jA.cells (h:jA w base v ms) {m:tL} (hj:ms[j]? =some m):
  ∃b o c,v= .slice (some ⟨b,o,none⟩) ms.length c∧b<w.heap.size∧w.cell? ⟨b,o+j*4,none⟩=some (.int .i64 m.c.ax)∧w.cell? ⟨b,o+j*4+1,none⟩=some (.int .i64 m.c.depth)∧w.cell? ⟨b,o+j*4+3,none⟩=some m.sv:=by
 have hs:=Sl.bU h.row;have wI:=(Ql.1 hj).1;obtain⟨b,o,c,e,-,-,hr⟩:=hs.row (QO (Qp _) wI);have key:∀(l:List tL) (j:Nat) (m:tL) (i:Nat),l[j]? =some m→i<4→(l.flatMap wX)[j*4+i]? =(wX m)[i]? :=by
  intro l;induction l with
  |nil=>intro j m i h;simp at h
  |cons a r ih=>
   intro j m i h hi;rw[QH];have hl:(wX a).length=4:=rfl;cases j with
   |zero=>
    have h:a=m:=by simpa using h
    rw[h,Xz,QR,QN (by rw[←h,hl];exact hi)]
   |succ j=>
    rw[QM (by rw[hl];omega),hl,show(j+1)*4+i - 4=j*4+i by omega];exact ih j m i (by simpa using h) hi
 have g0:=hr.2 (j*4+0) _ (key ms j m 0 hj (by decide));have g1:=hr.2 (j*4+1) _ (key ms j m 1 hj (by decide));have g3:=hr.2 (j*4+3) _ (key ms j m 3 hj (by decide));exact⟨b,o,c,e,hr.1,g0,by rw[←XB] at g1;exact g1,by rw[←XB] at g3;exact g3⟩
def uu (I:bF) (x:Bool×Nat) (W:Wo):Prop:=x.2<11∧cR W I (wF x.1 x.2)
def Im (x:Bool×Nat):List (Nat×Nat×List (List aD)):=shX x.1 x.2
theorem uu.on {W' :Wo} (h:uu I x W) (hb:Below W.heap.size W W'):uu I x W' :=⟨h.1,h.2.on hb⟩
theorem here:∀(x:Bool) (k:Nat),k<11→BV x k (wF x k)∧(k<10→BR (wF x k) (MN x k))
 |false=>ant
 |true=>ans
theorem zx (x:Bool) (hk:k<10):bI (MN x k).print∧bX (MN x k).block:=by
 cases x
 ·show bI (MO k).print∧bX (MO k).block;unfold MO bI bX;dsimp only;omega
 ·show bI (TR k).print∧bX (TR k).block;unfold TR bI bX;dsimp only;omega
theorem Px (x:Bool) (hk:k<10) (h:uu I (x,k) W):
  Calls prog 16 #[.pointer (some ⟨I.b,0,none⟩),.int .u64 (MN x k).print,.int .u32 (MN x k).block] W fun r w' =>r= .returned (.int .i64 0)∧uu I (x,k+1) w'∧aG (BS I) W w' :=by
 obtain⟨g1,g2⟩:=here x k h.1;have ha:=vm W I _ h.2 _ _ _ _ g1.1.ck (MN x k) (zx x hk).1 (zx x hk).2 (g2 hk).1.ok;rw[←VW] at ha;exact ha.mono fun r w' ⟨r1,r2,r3⟩=>⟨by rw[r1,(g2 hk).2],⟨Nat.succ_lt_succ hk,r2⟩,r3⟩
theorem VT (hk:k<10) (h:uu I (false,k) W):
  Calls prog 16 #[.pointer (some ⟨I.b,0,none⟩),.int .u64 ((k:Int)*1152921504606846976),.int .u32 5] W fun r w' =>r= .returned (.int .i64 0)∧uu I (false,k+1) w'∧aG (BS I) W w' :=Px false hk h
theorem VS (hk:k<10) (h:uu I (true,k) W):
  Calls prog 16 #[.pointer (some ⟨I.b,0,none⟩),.int .u64 7,.int .u32 ((k:Int)+1)] W fun r w' =>r= .returned (.int .i64 0)∧uu I (true,k+1) w'∧aG (BS I) W w' :=Px true hk h
theorem Sr (hk:k<10) (h:uu I (false,k+1) W):
  Calls prog 16 #[.pointer (some ⟨I.b,0,none⟩),.int .u64 ((k:Int)*1152921504606846976),.int .u32 5] W fun r w' =>r= .returned (.int .i64 0)∧uu I (false,k+1) w'∧aG (BS I) W w' :=by
 obtain⟨g1,-⟩:=here false (k+1) h.1;obtain⟨o1,o2⟩:=zx false hk;have hm:=g1.2.2.2.2;rw[Nat.add_sub_cancel] at hm;unfold zA at hm;have e1:zq (wF false (k+1)) (Fa (wF false (k+1))) (wS (wF false (k+1))) (atX (wF false (k+1))) (TT (wF false (k+1))) (MN false k)=(0,wF false (k+1)):=by
  unfold zq;rw[Xd (by rw[g1.2.1];show ¬((5:Int)=0∨((200:Nat):Int)≤5);decide)];split
  ·rfl
  ·rename_i c hc
   rw[hc] at hm;rw[Xo (hm (by omega))]
 have ha:=vm W I _ h.2 _ _ _ _ g1.1.ck (MN false k) o1 o2 fun c hc bT _=>by rw[hc] at hm;exact absurd (hm (by omega)) bT
 rw[e1] at ha;exact ha.mono fun r w' ⟨r1,r2,r3⟩=>⟨r1,⟨h.1,r2⟩,r3⟩
theorem Pv (h:uu I x W) (p b:Int) (hu:bI p) (hb:bX b) (h0:b=0∨200≤b):
  Calls prog 16 #[.pointer (some ⟨I.b,0,none⟩),.int .u64 p,.int .u32 b] W fun r w' =>r= .returned (.int .i64 2)∧uu I x w'∧aG (BS I) W w' :=by
 obtain⟨g1,-⟩:=here x.1 x.2 h.1;have eJ:b=0∨((wF x.1 x.2).t.len:Int)≤b:=by rw[g1.2.1];exact h0
 have ha:=vm W I _ h.2 _ _ _ _ g1.1.ck ⟨p,b⟩ hu hb fun c _ _ hn=>absurd eJ hn
 unfold zq at ha;rw[Xo eJ] at ha;exact ha.mono fun r w' ⟨r1,r2,r3⟩=>⟨r1,⟨h.1,r2⟩,r3⟩
theorem VQ (h:uu I x W):
  Calls prog 18 #[.pointer (some ⟨I.b,0,none⟩)] W fun r w' =>r= .returned (.int .i64 180)∧Below W.heap.size W w' :=
 Dz W I _ h.2 (here x.1 x.2 h.1).1.1.ck.live (here x.1 x.2 h.1).1.2.2.2.1
theorem at_shape (cs:List ak) (n:Nat):(Bf cs n).map Pb=(iS cs).find? fun t=>bY t.1 t.2.1 n:=by
 unfold Bf iS;rw[List.find?_map];rfl
def Oe (sh:List (Nat×Nat×List (List aD))) (p:Int):Option (List Int):=(sh.find? fun t=>bY t.1 t.2.1 (p/2^56).toNat).map fun t=>gu p t.2.2.flatten
theorem vk (h:uu I x W) (p:Int) (hp:bI p) (xs ws:List Int) (hf:Oe (Im x) p=some xs) (hl:xs.length≤12) (v:Va) (hv:Ns W W.heap.size .u32 v ws) (hw:ws.Perm xs) (hs:ws.Pairwise (·≤·)):
  Calls prog 75 #[.pointer (some ⟨I.b,0,none⟩),.int .u64 p,v] W fun e w' =>e= .returned (.bool true)∧Below W.heap.size W w' :=by
 obtain⟨g1,-⟩:=here x.1 x.2 h.1;have h3:=at_shape (TT (wF x.1 x.2)) (p/2^56).toNat;rw[g1.2.2.1] at h3;unfold Oe Im at hf;rw[←h3] at hf;cases kJ:Bf (TT (wF x.1 x.2)) (p/2^56).toNat with
 |none=>rw[kJ] at hf;cases hf
 |some c=>
  rw[kJ] at hf;have hf:gu p c.all=xs:=Qr hf;exact Gv W I _ h.2 _ _ _ _ g1.1.ck p hp c kJ (by rw[hf];exact hl) v ws hv (by rw[hf];exact hw) hs
theorem anp:∀k,k<10→Oe (Im (false,k+1)) (MO k).print=some [5]:=by decide+kernel
theorem ano:Oe (Im (true,10)) 7=some [10,1,2,3,4,5,6,7,8,9]:=by decide+kernel
theorem ann:Oe (Im (true,10)) 8=some []:=by decide+kernel
theorem Pw (h:uu I x W):
  Calls prog 13 #[.pointer (some ⟨I.b,0,none⟩)] W fun r w' =>∃v ms,r= .returned (.tuple #[v,.int .i64 0])∧jA w' W.heap.size v ms∧iS (ms.map (·.c))=Im x∧Below W.heap.size W w' :=by
 obtain⟨g1,-⟩:=here x.1 x.2 h.1;have ha:=Ss W I _ h.2 _ _ _ _ g1.1.ck.ok;exact ha.mono fun r w' ⟨v,ms,r1,r2,r3,r4⟩=>⟨v,ms,r1,r2,by rw[r3];exact g1.2.2.1,r4⟩
theorem KC (h:iS (ms.map (·.c))=sh) {t:Nat×Nat×List (List aD)} (hj:sh[j]? =some t):∃m,ms[j]? =some m∧m.c.ax=t.1∧m.c.depth=t.2.1∧m.c.ah.map (·.es)=t.2.2:=by
 rw[←h] at hj;unfold iS at hj;rw[Qt,Qt] at hj;cases hm:ms[j]? with
 |none=>rw[hm] at hj;cases hj
 |some m=>
  rw[hm] at hj;have hj:=Qr hj;exact⟨m,rfl,by rw[←hj];rfl,by rw[←hj];rfl,by rw[←hj];rfl⟩
theorem KA (h:iS (ms.map (·.c))=sh):ms.length=sh.length:=by
 rw[←h];unfold iS;simp
theorem lU (h:jA w base v ms) (hs:iS (ms.map (·.c))=sh) {fr dp:Nat} {es:List aD} {r:List (List aD)} (hj:sh[j]? =some (fr,dp,es::r)):
  ∃b o c b2 o2 c2 Ae ce,v= .slice (some ⟨b,o,none⟩) sh.length c∧w.cell? ⟨b,o+j*4,none⟩=some (.int .i64 fr)∧w.cell? ⟨b,o+j*4+1,none⟩=some (.int .i64 dp)∧w.cell? ⟨b,o+j*4+3,none⟩=some (.slice (some ⟨b2,o2,none⟩) (r.length+1) c2)∧w.cell? ⟨b2,o2+2,none⟩=some (.slice Ae es.length ce):=by
 obtain⟨m,m1,m2,m3,m4⟩:=KC hs hj;obtain⟨b,o,c,e,-,g0,g1,g3⟩:=h.cells m1;have ho:=h.all m (Qi m1);have fc:(m.ps.map Prod.fst).map (·.es)=es::r:=by rw[ho.p];exact m4
 cases hp:m.ps with
 |nil=>rw[hp] at fc;cases fc
 |cons q ps=>
  rw[hp] at fc;have hq:q.1.es=es:=by simpa using XF List.head? fc
  have hl:m.ps.length=r.length+1:=by rw[hp];have:=XF List.length fc;simpa using this
  obtain⟨b2,o2,c2,e2,-,-,-,z2⟩:=ho.s.Wa.cells (k:=0) (p:=q) (by rw[hp];rfl);obtain⟨Ae,ce,e3⟩:=(ho.s.es q (by rw[hp];exact Qm ..)).1.form;rw[Xz,XC,e3,hq] at z2;rw[hl] at e2;rw[e2] at g3;rw[KA hs] at e;rw[m2] at g0;rw[m3] at g1;exact⟨b,o,c,b2,o2,c2,Ae,ce,e,g0,g1,g3,z2⟩
end
end Go.Proofs.YthgdhacopamklaaGreat

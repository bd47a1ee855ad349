/- What HashNone asks, part 7 of 41: parts of the walks and laws, each true as it stands. -/
import Derived.WalkMore
import Derived.Test.YthgdhacopamklaaGreatTAF
set_option maxHeartbeats 16000000
set_option maxRecDepth 100000
set_option linter.unusedVariables false
set_option linter.unusedSimpArgs false
namespace Go.Proofs.YthgdhacopamklaaGreat
open Go.Proofs.Tryz
section
open Go.RowKit
variable {k : Nat} {s : ay}
theorem oh {L:Nat} (h:k<L):L - (intOf (.int .i64 ((k:Int)+1))).toNat<L - (intOf (.int .i64 (k:Int))).toNat:=by simp[intOf];omega
theorem pI:∀l:List aD,dV l=true↔∀i (h:i+1<l.length),fO (l[i]'(by omega)) l[i+1]<0
 |[]=>by simp[dV]
 |[a]=>by simp[dV]
 |a::b::r=>by
  rw[dV,XR,XS,pI (b::r)];constructor
  ·rintro⟨h1,h2⟩ i hi
   cases i with
   |zero=>exact h1
   |succ i=>exact h2 i (by simpa using hi)
  ·intro h
   exact⟨h 0 (by simp),fun i hi=>h (i+1) (by simpa using hi)⟩
def qz (e:aD):Bool:=decide (e.block≠0)&&decide (e.block<4096)
theorem ow (s:ay):bC s=(decide (s.depth≤64)&&decide (s.next<4096)&&decide (s.es.length≤9)&&s.es.all qz&&dV s.es&&kC s.es s.depth):=rfl
theorem rP (hk:k<s.es.length) (h:qz s.es[k]=false∨∃j,∃hj:j+1=k,0≤fO (s.es[j]'(by omega)) s.es[k]):bC s=false:=by
 rw[ow,←Bool.not_eq_true];simp only[XR];rintro⟨⟨⟨-,h1⟩,h2⟩,-⟩;rcases h with h|⟨j,rfl,h⟩
 ·rw[XT] at h1;rw[h1 _ (QI hk)] at h;cases h
 ·rw[pI] at h2;have:=h2 j hk;omega
theorem FQ (hd:s.depth≤64) (hn:s.next<4096) (hl:s.es.length≤9) (hb:∀k (hk:k<s.es.length),qz s.es[k]=true∧(∀j (hj:j+1=k),fO (s.es[j]'(by omega)) s.es[k]<0)):bC s=kC s.es s.depth:=by
 rw[ow,Xa hd,Xa hn,Xa hl];have h1:s.es.all qz=true:=by rw[XT];intro x hx;obtain⟨k,hk,rfl⟩:=List.getElem_of_mem hx;exact(hb k hk).1
 have h2:=(pI _).2 fun i hi=>(hb (i+1) hi).2 i rfl
 rw[h1,h2];simp
theorem rO (w:Wo) (s:ay) (v:Va) (h:Es w w.heap.size v s.es) (hd:aI s.depth) (hn:bX s.next):
  Calls prog 92 #[.agg #[.int .u8 s.depth,.int .u32 s.next,v]] w fun e w' =>e= .returned (.bool (bC s))∧Below w.heap.size w w' :=by
 obtain⟨A,c,rfl,-,SF⟩:=h.1.form;obtain⟨L,hL⟩:=eX s.es.length;have HL:=aa hL;have H:=aa h;rw[←hL] at H⊢;obtain⟨d,JO⟩:=eX s.depth;obtain⟨nx,j5⟩:=eX s.next;have HD:=kH JO j5 (by rw[JO];exact hd:aI d) (by rw[j5];exact hn:bX nx);rw[←JO,←j5];obtain⟨W0,aY⟩:=eX (w.alloc (.cells #[.int .u8 d,.int .u32 nx,.slice A L c] 92));have R0:Af (aq W0 w.heap.size 92 [.int .u8 d,.int .u32 nx,.slice A L c]):=by show _=_;rw[aY];exact ar w _ _
 have B0:Af (Below w.heap.size w W0):=by rw[aY];exact aF _ _
 obtain⟨x0,x1,x2⟩:=ra R0.o;have SR:=aY.symm;clear h hL JO j5 hd hn aY SF;by_cases eJ:64<d∨4096≤nx∨9<L
 ·have hr:Af (bC s=false):=by show _=_;rw[ow,←Bool.not_eq_true];simp only[XR,XS];rintro⟨⟨⟨⟨⟨h1,h2⟩,h3⟩,-⟩,-⟩,-⟩;have:=HD.o;have:=HL.o;omega
  rw[hr.o];by_cases h1:64<d
  ·clear eJ;go_enter func92,ntmps92;go_wp2_with fail;go_ret;exact⟨rfl,B0.o⟩
  ·by_cases h2:4096≤nx
   ·clear eJ;go_enter func92,ntmps92;go_wp2_with fail;go_ret;exact⟨rfl,B0.o⟩
   ·have h3:(9:Int)<L:=by omega
    clear eJ;go_enter func92,ntmps92;go_wp2_with fail;go_ret;exact⟨rfl,B0.o⟩
 ·have h1:¬64<d:=by omega
  have h2:¬4096≤nx:=by omega
  have h3:¬(9:Int)<L:=by omega
  have HB:Af (d≤64∧nx<4096∧L≤9):=⟨by omega,by omega,by omega⟩;clear eJ;go_enter func92,ntmps92;go_wp2_with fail;clear h1 h2 h3 x0 x1 x2 SR;go_loopw [22] (fun i wr=>∃k:Nat,k≤L∧i= .int .i64 k∧Af (Below W0.heap.size W0 wr∧∀j (hj:j<s.es.length),j<k→qz s.es[j]=true∧(∀i (hi:i+1=j),fO (s.es[i]'(by omega)) s.es[j]<0))) (fun i _=>L - (intOf i).toNat)
  case atStart=>exact⟨0,Qp _,rfl,Xj _ _,fun j _ h=>absurd h (Nat.not_lt_zero j)⟩
  case round=>
   obtain⟨k,hk,rfl,hK⟩:=hrel;have B1:=aa hK.o.1;have HA:=aa hK.o.2;clear hK;have B2:=aa (B0.o.trans (B1.o.mono B0.o.size));have R1:=aa (R0.o.on B1.o);obtain⟨x0,-,x2⟩:=ra R1.o;by_cases aJ:k<L
   ·have bQ:k<s.es.length:=by have:=HL.o;omega
    have hkL:(k:Int)<L:=by omega
    have SK:(0:Int)≤k:=by omega
    obtain⟨b,o,c',hv,-,-,hb,iH⟩:=H.o.cells (by omega);injection hv with e1 e2 e3
    subst e1;subst e3;clear e2;obtain⟨ek,mF⟩:=eX (s.es[k]);obtain⟨ep,hep⟩:=eX (s.es[k - 1]'(by omega));have Hek:=aa mF;have Hep:=aa hep;have e0:=(B2.o.cell (p:=⟨b,o+k*2,none⟩) hb).trans (iH k bQ).1;have e1:=(B2.o.cell (p:=⟨b,o+k*2+1,none⟩) hb).trans (iH k bQ).2;have p0:=(B2.o.cell (p:=⟨b,o+(k - 1)*2,none⟩) hb).trans (iH (k - 1) (by omega)).1;have p1:=(B2.o.cell (p:=⟨b,o+(k - 1)*2+1,none⟩) hb).trans (iH (k - 1) (by omega)).2;rw[←mF] at e0 e1;rw[←hep] at p0 p1;have Hp:=iJ (Qn hb B2.o.size) p0 p1;have HO:=aa (fun W=>Lc W ep ek);have ej:Af (qz s.es[k]=(decide (ek.block≠0)&&decide (ek.block<4096))):=by show _=_;rw[←mF];rfl
    obtain⟨pp,pb⟩:=ep;obtain⟨qp,qb⟩:=ek;simp only at e0 e1 HO ej Hp;obtain⟨W3,cD,-,jW⟩:=nW wr [.int .u64 qp,.int .u32 qb] 68;have R3:Af (aq W3 wr.heap.size 68 [.int .u64 qp,.int .u32 qb]):=by show _=_;rw[cD];exact ar wr _ _
    have B3:=aa (B1.o.trans (jW.mono B1.o.size));have bj:=aa aJ;have Hkl:=aa bQ;clear iH mF hep p0 p1 aJ hk;go_upto_region 6 with fail
    rw[←cD];have z1:=cell_regrown (R3.o.cell (j:=0) rfl);have z2:=cell_regrown (R3.o.cell (j:=1) rfl);have z3:=cell_regrown ((R1.o.on jW).cell (j:=2) rfl);have z4:=cell_regrown ((jW.cell (p:=⟨b,o+(k - 1)*2,none⟩) Hp.o.1).trans Hp.o.2.1);have z5:=cell_regrown ((jW.cell (p:=⟨b,o+(k - 1)*2+1,none⟩) Hp.o.1).trans Hp.o.2.2);have z6:=trivial;obtain⟨od,hod⟩:=eX (fO ⟨pp,pb⟩ ⟨qp,qb⟩);rw[←hod] at HO;have Hod:=aa hod;have cA:∀dr os,Calls prog 175 #[.agg #[.int .u64 pp,.int .u32 pb],.agg #[.int .u64 qp,.int .u32 qb]] (Sort.grow (redrawn W3 dr) os) fun e DW =>e= .returned (.int .i64 od)∧∃p:Regrown,DW =Sort.grow (redrawn W3 p.d) p.os:=fun dr os=>Calls.regrown_of (HO.o _)
    clear e0 e1 x0 x2 hb cD jW hod;by_cases hq0:qb=0
    ·subst hq0;have hr:=aa (rP Hkl.o (.inl (by rw[ej.o];simp)));refine wp_region_quiet_below (by kernel_rfl) (by kernel_rfl) ?_
     repeat(go_big_quiet_step (first|with_reducible exact cA _ _))
     refine wpQuiet_nil ?_;intro _ s9;obtain⟨⟨dq,mj⟩,iM⟩:=s9;subst iM;clear cA z1 z2 z3 z4 z5 z6;have b4:=below_regrown W3 dq mj;generalize Sort.grow (redrawn W3 dq) mj=W4 at*;have B4:=aa (B3.o.trans (b4.mono B3.o.size));clear b4;go_wp2_with fail;go_ret;exact⟨by rw[hr.o];rfl,B0.o.trans (B4.o.mono B0.o.size)⟩
    ·have hqb:=Xc hq0;by_cases ZN:4096≤qb
     ·have hr:=aa (rP Hkl.o (.inl (by rw[ej.o];simp;omega)));refine wp_region_quiet_below (by kernel_rfl) (by kernel_rfl) ?_
      repeat(go_big_quiet_step (first|with_reducible exact cA _ _))
      refine wpQuiet_nil ?_;intro _ s9;obtain⟨⟨dq,mj⟩,iM⟩:=s9;subst iM;clear cA z1 z2 z3 z4 z5 z6;have b4:=below_regrown W3 dq mj;generalize Sort.grow (redrawn W3 dq) mj=W4 at*;have B4:=aa (B3.o.trans (b4.mono B3.o.size));clear b4;go_wp2_with fail;go_ret;exact⟨by rw[hr.o];rfl,B0.o.trans (B4.o.mono B0.o.size)⟩
     ·have hbo:Af (qz (s.es[k]'Hkl.o)=true):=by show _=_;rw[ej.o];simp;omega
      by_cases hkz:k=0
      ·subst hkz;have Bv:Af (∀j (hj:j<s.es.length),j<0+1→qz s.es[j]=true∧(∀i (hi:i+1=j),fO (s.es[i]'(by omega)) s.es[j]<0)):=fun j hj h1=>by
        obtain rfl:j=0:=by omega
        exact⟨hbo.o,fun i hi=>by omega⟩
       refine wp_region_quiet_below (by kernel_rfl) (by kernel_rfl) ?_
       repeat(go_big_quiet_step (first|with_reducible exact cA _ _))
       refine wpQuiet_nil ?_;intro _ s9;obtain⟨⟨dq,mj⟩,iM⟩:=s9;subst iM;clear cA z1 z2 z3 z4 z5 z6;have b4:=below_regrown W3 dq mj;generalize Sort.grow (redrawn W3 dq) mj=W4 at*;have B4:=aa (B3.o.trans (b4.mono B3.o.size));clear b4;go_wp2_with fail;go_roundw
       case rel=>exact⟨0+1,bj.o,by rfl,B4.o,Bv.o⟩
       case measure=>have:=bj.o;simp[intOf];omega
      ·have tg:0<k:=by omega
       have Ed:wrap64 ((k:Int) - 1)=((k - 1:Nat):Int):=by have:=HB.o;have:=bj.o;unfold wrap64;omega
       have hk1:((k - 1:Nat):Int)<L:=by omega
       have EX:wrap64 ((k:Int)+1)=(k:Int)+1:=by have:=HB.o;have:=bj.o;unfold wrap64;omega
       by_cases pj:0≤od
       ·have hr:=aa (rP Hkl.o (.inr ⟨k - 1,by omega,by rw[←Hep.o,←Hek.o,←Hod.o];exact pj⟩));refine wp_region_quiet_below (by kernel_rfl) (by kernel_rfl) ?_
        repeat(go_big_quiet_step (first|with_reducible exact cA _ _))
        refine wpQuiet_nil ?_;intro _ s9;obtain⟨⟨dq,mj⟩,iM⟩:=s9;subst iM;clear cA z1 z2 z3 z4 z5 z6;have b4:=below_regrown W3 dq mj;generalize Sort.grow (redrawn W3 dq) mj=W4 at*;have B4:=aa (B3.o.trans (b4.mono B3.o.size));clear b4;go_wp2_with fail;go_ret;exact⟨by rw[hr.o];rfl,B0.o.trans (B4.o.mono B0.o.size)⟩
       ·have Bv:Af (∀j (hj:j<s.es.length),j<k+1→qz s.es[j]=true∧(∀i (hi:i+1=j),fO (s.es[i]'(by omega)) s.es[j]<0)):=fun j hj h1=>by
         by_cases e:j=k
         ·subst e;refine⟨hbo.o,fun i hi=> ?_⟩;obtain rfl:i=j - 1:=by omega
          rw[←Hep.o,←Hek.o,←Hod.o];omega
         ·exact HA.o j hj (by omega)
        refine wp_region_quiet_below (by kernel_rfl) (by kernel_rfl) ?_
        repeat(go_big_quiet_step (first|with_reducible exact cA _ _))
        refine wpQuiet_nil ?_;intro _ s9;obtain⟨⟨dq,mj⟩,iM⟩:=s9;subst iM;clear cA z1 z2 z3 z4 z5 z6;have b4:=below_regrown W3 dq mj;generalize Sort.grow (redrawn W3 dq) mj=W4 at*;have B4:=aa (B3.o.trans (b4.mono B3.o.size));clear b4;go_wp2_with fail;go_roundw
        case rel=>exact⟨k+1,bj.o,by go_num,B4.o,Bv.o⟩
        case measure=>rw[EX];exact oh bj.o
   ·obtain rfl:k=L:=by omega
    have hE:=(H.o.below B2.o).more B2.o.size;have JX:=aa (Mv wr wr.heap.size _ s.es d hE (by have:=HB.o;have:=HD.o.2.2.1.1;omega));have hr:Af (bC s=kC s.es d):=by show _=_;rw[FQ (by rw[←HD.o.1];exact HB.o.1) (by rw[←HD.o.2.1];exact HB.o.2.1) (by rw[←HL.o];exact HB.o.2.2) (fun j hj=>HA.o j hj (by rw[HL.o];exact hj)),←HD.o.1]
    clear hE aJ hk;go_wp2_with(go_at_call 176;go_must(refine JX.o.mono ?_);rintro e W3 ⟨rfl,b3⟩;have B3:=aa b3;clear b3);go_ret;exact⟨by rw[hr.o];rfl,B2.o.trans (B3.o.mono B2.o.size)⟩
end
section
open Go.RowKit
variable {w w' : Wo} {P g : Nat}
structure sK (w:Wo) (P g L:Nat) (A:List Int) (m:Nat):Prop where
 pen:aq w P 180 (uy (.slice (some ⟨g,0,none⟩) L L) A.length)
 own:dn w g (A++List.replicate m 0)
 ne:P≠g
 len:L=A.length+m
 le:L≤10000
theorem sK.on {L:Nat} {A:List Int} {m:Nat} (h:sK w P g L A m) (hb:Below w.heap.size w w'):sK w' P g L A m:=⟨h.pen.on hb,h.own.on hb,h.ne,h.len,h.le⟩
theorem qF (w:Wo) (P g L:Nat) (A:List Int) (m s:Nat) (n:Int) (h:sK w P g L A m) (hs:1≤s∧s≤8) (hm:s≤m) (hn:0≤n∧n<256^s):
  Calls prog 156 #[.pointer (some ⟨P,0,none⟩),.int .i64 s,.int .u64 n] w fun e w' =>(∃v,e= .returned v)∧sK w' P g L (A++mH s n) (m - s)∧aG (fun x=>x=P∨x=g) w w' :=by
 obtain⟨h1,h2,h3,h4,h5⟩:=h;refine(Vl w P g L L A.length s _ n h1 h2 h3 (by simp;omega) hs (by omega) (by simp;omega) hn).mono ?_;rintro e w' ⟨he,hp,ho,hc,-⟩;rw[nE A m s n A.length rfl] at ho;exact⟨he,⟨by rw[Qo,de];exact hp,ho,h3,by rw[Qo,de];omega,h5⟩,hc⟩
theorem lk {w0:Wo} {B:Nat} (hb:Below B w0 w) (hB:B≤w.heap.size) (hP:B≤P) (hg:B≤g) (hc:aG (fun x=>x=P∨x=g) w w'):Below B w0 w' :=
 hb.trans (hc.below hB (fun x hx e=>by rcases e with e|e<;>omega))
def E0 (d L nx:Int):List Int:=(mH 1 d++mH 1 L)++mH 4 nx
theorem RM (d L nx:Int):(E0 d L nx).length=6:=by simp[E0,de]
theorem CQ (es:List aD):(es.flatMap rq).length=12*es.length:=by
 induction es with
 |nil=>rfl
 |cons p r ih=>rw[QH,Qo,ih,QF];simp[rq,de];omega
theorem Ml (s:ay):(mw s).length=6+12*s.es.length:=by
 unfold mw;rw[Qo,Qo,CQ,de];rfl
theorem nU (s:ay) (hd:aI s.depth) (hl:s.es.length≤9):∀x∈mw s,aI x:=by
 intro x hx;unfold mw at hx;rcases Qz.1 hx with hx|hx
 ·rcases Qz.1 hx with hx|hx
  ·simp only[QA,QV,or_false] at hx;rcases hx with rfl|rfl
   ·exact hd
   ·exact⟨by omega,by omega⟩
  ·exact eW _ _ x hx
 ·obtain⟨e,_,h⟩:=QT.1 hx;unfold rq at h;rcases Qz.1 h with h|h
  ·exact eW _ _ x h
  ·exact eW _ _ x h
theorem Sk (s:ay) (hd:aI s.depth) (hl:s.es.length≤9):E0 s.depth s.es.length s.next++s.es.flatMap rq=mw s:=by
 unfold E0 mw;rw[abo _ hd.1 hd.2,abo _ (by omega) (by omega)];rfl
def aoa (w:Wo) (s:ay) (e:Ending) (w' :Wo):Prop:=
 (bC s=true∧Made w (encS s) e w')∨(bC s=false∧e= .returned (.tuple #[.slice none 0 0,.int .i64 40])∧Below w.heap.size w w')
theorem CS (w:Wo) (s:ay) (v:Va) (h:Es w w.heap.size v s.es) (hd:aI s.depth) (hn:bX s.next):
  Calls prog 71 #[.agg #[.int .u8 s.depth,.int .u32 s.next,v]] w (aoa w s):=by
 obtain⟨A,c,rfl,-,SF⟩:=h.1.form;obtain⟨L,hL⟩:=eX s.es.length;have HL:=aa hL;have H:=aa h;rw[←hL] at H⊢;obtain⟨W0,aY⟩:=eX (w.alloc (.cells #[.int .u8 s.depth,.int .u32 s.next,.slice A L c] 92));have R0:Af (aq W0 w.heap.size 92 [.int .u8 s.depth,.int .u32 s.next,.slice A L c]):=by show _=_;rw[aY];exact ar w _ _
 have B0:Af (Below w.heap.size w W0):=by rw[aY];exact aF _ _
 have HR:=aa (rO W0 s (.slice A L c) ((H.o.below B0.o).more B0.o.size) hd hn);obtain⟨rb,ft⟩:=eX (bC s);have wD:=aa ft;rw[←ft] at HR;have HD:=dK hd hn;obtain⟨d,JO⟩:=eX s.depth;obtain⟨nx,j5⟩:=eX s.next;have HE:=dK JO j5;rw[←JO,←j5] at R0 HR aY⊢;have SR:=aY.symm;obtain⟨x0,x1,x2⟩:=ra R0.o;clear h hL ft JO j5 hd hn aY SF;cases rb with
 |false=>
  go_enter func71,ntmps71;go_wp2_with(go_at_call 92;go_must(refine HR.o.mono ?_);rintro e W1 ⟨rfl,b1⟩;have B1:=aa b1;clear b1);go_ret2;exact .inr ⟨wD.o.symm,rfl,B0.o.trans (B1.o.mono B0.o.size)⟩
 |true=>
  have hl9:L≤9:=by have h1:=wD.o.symm;rw[ow] at h1;simp only[XR,XS] at h1;have:=HL.o;omega
  have Hl9:=aa hl9;go_enter func71,ntmps71;go_upto_region 3 with(go_at_call 92;go_must(refine HR.o.mono ?_);rintro e W1 ⟨rfl,b1⟩;have B1:=aa b1;clear b1)
  clear x0 x1 x2 SR;obtain⟨g,hg⟩:=eX W1.heap.size;have HG:=aa hg;obtain⟨M,hM⟩:=eX (6+12*L);have HM:=aa hM;obtain⟨W2,cE⟩:=eX (W1.alloc (.cells (List.replicate M (Value.int .u8 0)).toArray 5));have yX:(Instr.makeSlice 87 (.int .i64 (M:Int)) (.int .i64 (M:Int))).run prog W1= .ok (.slice (some ⟨g,0,none⟩) M M) W2:=by have:=eV underlying87 rD (eC .u8 0) (by decide) M (by omega) W1;rw[cE,hg];exact this
  have sq:Below W1.heap.size W1 W2:=by rw[cE];exact aF _ _
  have O2:Af (dn W2 g (List.replicate M 0)):=by
   have h1:aq W2 g 5 (List.replicate M (.int .u8 0)):=by rw[cE,hg];exact ar _ _ _
   exact aq.JZ (bs:=List.replicate M 0) (by rw[List.map_replicate];exact h1)
  obtain⟨P,hP⟩:=eX W2.heap.size;obtain⟨W3,cD,-,jW⟩:=nW W2 [.slice (some ⟨g,0,none⟩) M M,.int .i64 0] 180;have K3:Af (sK W3 P g M [] M):=⟨by rw[cD,hP];exact ar W2 _ _,by have:=O2.o.on jW;simpa using this,by rw[hP];have:=O2.o.lt;omega,by simp,by omega⟩;have B3:=aa (sq.trans (jW.mono sq.size));have HP:Af (W1.heap.size≤P∧W1.heap.size≤g):=⟨by rw[hP];exact sq.size,by rw[hg];exact Qg _⟩;have R1:=aa (R0.o.on B1.o);have y2:=R1.o.cell (j:=2) rfl;have nZ:wrap64 (12*(L:Int))=12*(L:Int):=by unfold wrap64;omega
  have fp:wrap64 (6+12*(L:Int))=(M:Int):=by unfold wrap64;omega
  have mT:=aa cD.symm;have HPq:=aa hP.symm;clear hg hM cE sq jW hl9 cD hP;go_upto_region 5 with fail
  rw[mT.o,HPq.o];clear yX nZ fp y2;obtain⟨d0,d1⟩:=HD.o.1;obtain⟨n0,n1⟩:=HD.o.2;rw[←HE.o.1] at d0 d1;rw[←HE.o.2] at n0 n1;have WX:=aa (qF W3 P g M [] M 1 d K3.o (by decide) (by have:=HM.o;omega) ⟨d0,by simpa using d1⟩);have hwd:IntKind.u64.wrap d=d:=by simp[IntKind.wrap,IntKind.signed,IntKind.bits];omega
  have hwl:IntKind.u64.wrap (L:Int)=L:=by have:=Hl9.o;simp[IntKind.wrap,IntKind.signed,IntKind.bits];omega
  have Tt:IntKind.u64.wrap nx=nx:=by simp[IntKind.wrap,IntKind.signed,IntKind.bits];omega
  have R3:=aa (R1.o.on (B3.o));have x0:=R3.o.cell (j:=0) rfl;go_upto_region 6 with(go_at_call 156;go_must(refine WX.o.mono ?_);rintro e W4 ⟨⟨v4,rfl⟩,k4,c4⟩;have K4:=aa k4;have B4:=aa (lk B3.o B3.o.size HP.o.1 HP.o.2 c4);clear k4 c4)
  have HQ2:=aa (qF W4 P g M _ _ 1 L K4.o (by decide) (by have:=HM.o;omega) ⟨by omega,by have:=Hl9.o;simp;omega⟩);have R4:=aa (R1.o.on (B4.o));clear x0 WX;have x2:=R4.o.cell (j:=2) rfl;go_upto_region 7 with(go_at_call 156;go_must(refine HQ2.o.mono ?_);rintro e W5 ⟨⟨v5,rfl⟩,k5,c5⟩;have K5:=aa k5;have B5:=aa (lk B4.o B4.o.size HP.o.1 HP.o.2 c5);clear k5 c5)
  have HQ3:=aa (qF W5 P g M _ _ 4 nx K5.o (by decide) (by have:=HM.o;omega) ⟨n0,by simpa using n1⟩);have R5:=aa (R1.o.on (B5.o));clear x2 HQ2;have x1:=R5.o.cell (j:=1) rfl;go_upto_region 8 with(go_at_call 156;go_must(refine HQ3.o.mono ?_);rintro e W6 ⟨⟨v6,rfl⟩,k6,c6⟩;have K6:=aa k6;have B6:=aa (lk B5.o B5.o.size HP.o.1 HP.o.2 c6);clear k6 c6)
  have K7:Af (sK W6 P g M (E0 d L nx) (12*L)):=by have h1:=K6.o;rw[QZ] at h1;rw[show M - 1 - 1 - 4=12*L by have:=HM.o;omega] at h1;exact h1
  have R6:=aa (R1.o.on (B6.o));clear x1 HQ3 hwd hwl Tt K6 R5 R4 R3;have x2:=R6.o.cell (j:=2) rfl;go_wp2_with fail;clear x2;go_loopw [40] (fun i wr=>∃k:Nat,k≤L∧i= .int .i64 k∧Af (sK wr P g M (E0 d L nx++(s.es.take k).flatMap rq) (12*(L - k))∧Below W1.heap.size W1 wr)) (fun i _=>L - (intOf i).toNat)
  case atStart=>exact⟨0,Qp _,rfl,by simpa using K7.o,B6.o⟩
  case round=>
   obtain⟨k,hk,rfl,hK⟩:=hrel;have K8:=aa hK.o.1;have B8:=aa hK.o.2;clear hK K7 B6 B5 B4;by_cases aJ:k<L
   ·have bQ:k<s.es.length:=by have:=HL.o;omega
    have hkL:(k:Int)<L:=by omega
    have SK:(0:Int)≤k:=by omega
    have EX:wrap64 ((k:Int)+1)=(k:Int)+1:=by have:=Hl9.o;unfold wrap64;omega
    have B9:=aa (B0.o.trans (((B1.o.trans (B8.o.mono B1.o.size))).mono B0.o.size));obtain⟨b,o,c',hv,-,-,hb,iH⟩:=H.o.cells (by omega);injection hv with e1 e2 e3
    subst e1;subst e3;clear e2;obtain⟨ek,mF⟩:=eX (s.es[k]);have e0:=(B9.o.cell (p:=⟨b,o+k*2,none⟩) hb).trans (iH k bQ).1;have e1:=(B9.o.cell (p:=⟨b,o+k*2+1,none⟩) hb).trans (iH k bQ).2;have tH:Af ((s.es.take (k+1)).flatMap rq=(s.es.take k).flatMap rq++rq ek):=by show _=_;rw[XJ bQ,QP,mF];simp
    have ec:eR ek:=by rw[mF];exact H.o.2 _ (QI bQ)
    rw[←mF] at e0 e1;obtain⟨qp,qb⟩:=ek;simp only at e0 e1;obtain⟨⟨q0,q1⟩,⟨q2,q3⟩⟩:=ec;simp only at q0 q1 q2 q3;obtain⟨W9,ED,-,hb9⟩:=nW wr [.int .u64 qp,.int .u32 qb] 68;have R9:Af (aq W9 wr.heap.size 68 [.int .u64 qp,.int .u32 qb]):=by show _=_;rw[ED];exact ar wr _ _
    have K9:=aa (K8.o.on hb9);have oU:=aa (B8.o.trans (hb9.mono B8.o.size));have HW9:=aa ED.symm;have Hwr:=dK K8.o.pen.lt K8.o.own.lt;have hwb:IntKind.u64.wrap qb=qb:=by simp[IntKind.wrap,IntKind.signed,IntKind.bits];omega
    have WX:=aa (qF W9 P g M _ _ 8 qp K9.o (by decide) (by omega) ⟨q0,by simpa using q1⟩);have Hq:=dK q2 (by simpa using q3:qb<256^4);have bj:=aa aJ;clear iH mF aJ hk ED hb9 hb q0 q1 q2 q3;go_upto_region 11 with fail
    rw[HW9.o];have y0:=R9.o.cell (j:=0) rfl;clear e0 e1;go_upto_region 12 with(go_at_call 156;go_must(refine WX.o.mono ?_);rintro e uh ⟨⟨v10,rfl⟩,Tp,EE⟩;have WQ:=aa Tp;have R10:=aa (R9.o.aL EE (by have:=Hwr.o;omega));have Th:=aa (lk oU.o oU.o.size HP.o.1 HP.o.2 EE);clear Tp EE)
    clear y0 WX;have y1:=R10.o.cell (j:=1) rfl;have HQ2:=aa (qF uh P g M _ _ 4 qb WQ.o (by decide) (by have:=bj.o;omega) Hq.o);go_wp2_with(go_at_call 156;go_must(refine HQ2.o.mono ?_);rintro e Bg ⟨⟨v12,rfl⟩,k12,NB⟩;have K12:=aa k12;have Ur:=aa (lk Th.o Th.o.size HP.o.1 HP.o.2 NB);clear k12 NB);go_roundw
    case rel=>refine⟨k+1,bj.o,by go_num,?_,Ur.o⟩;have h1:=K12.o;rw[show 12*(L - k) - 8 - 4=12*(L - (k+1)) by omega,QY,QY] at h1;rw[tH.o];exact h1
    case measure=>rw[EX];exact oh bj.o
   ·obtain rfl:k=L:=by omega
    have h1:=K8.o.own.bs (o:=0) (n:=M) (c:=M) (by rw[Qo,Qo,RM,CQ,QK,Qu];have:=HM.o;have:=HL.o;omega) (Qg _) (by have:=HM.o;have:=Hl9.o;unfold maxLen;omega);have mG:E0 d k nx++(s.es.take k).flatMap rq++List.replicate (12*(k - k)) 0=mw s:=by rw[XE,Nat.mul_zero,List.replicate_zero,Zi,HL.o,XU,HE.o.1,HE.o.2];exact Sk s HD.o.1 (by have:=HL.o;have:=Hl9.o;omega)
    rw[mG] at h1;have h2:=h1 (nU s HD.o.1 (by have:=HL.o;have:=Hl9.o;omega));have fg:(mw s).length=M:=by rw[Ml];have:=HM.o;have:=HL.o;omega
    rw[Zl,Qj (by omega)] at h2;have HS:=aa (uY wr 3 _ (mw s) ⟨by decide,by decide⟩ h2 (by have:=HM.o;have:=Hl9.o;omega));have y0:=K8.o.pen.cell (j:=0) rfl;have Hr1:=aa (B0.o.trans (((B1.o.trans (B8.o.mono B1.o.size))).mono B0.o.size));clear h1 h2 mG fg aJ hk;go_wp2_with(go_at_call 107;go_must(refine HS.o.mono ?_);rintro e W9 ⟨rfl,o9,b9⟩;have O9:=aa o9;have B9:=aa b9;clear o9 b9);go_ret2;exact .inl ⟨wD.o.symm,wr.heap.size,Hr1.o.size,rfl,O9.o,Hr1.o.trans (B9.o.mono Hr1.o.size)⟩
end
section
open Go.RowKit
variable {w : Wo} {g : Nat} {e t : TypeId} {x0 x1 x2 : Va}
theorem aq.not_row {cs:List Va} (h:aq w g t cs) (JG:t≠e) {base sz n:Nat} {v:Va} {xs:List Va} (hr:w.ownsRow base e sz v n xs):v.ownBlock≠some g:=by
 intro he;rcases hr.2 with⟨rfl,_⟩|⟨g',cap,cur,rfl,_,hb,_⟩
 ·cases he
 ·have e1:=Qr he;subst e1;have h0:=h;rw[h0] at hb;have:=Qr hb;simp at this;exact JG this.2
theorem IL:(prog.info? 68).map (fun i=>(i.zero,i.size,i.bytes))=some (some (.agg #[.int .u64 0,.int .u32 0]),2,16):=by kernel_rfl
theorem gU {b:Nat} (h:aq w b 92 [x0,x1,x2]):(loadVar 92 ⟨b,0,none⟩).run prog w= .ok (.agg #[x0,x1,x2]) w:=by
 obtain⟨h0,h1,h2⟩:=ra h;simp[go_sem,h0,h1,h2]
theorem cG {P:Program} {fn:Func} {p:Tmp} {u:Tmp} {a:Addr} {tmps:Array Va} {x:Va} (h:fn.results= #[.cell p t,.tmp u]) (hp:tmps.getD p undef= .pointer (some a)) (hl:(loadVar t a).run P w= .ok x w):
  (results fn tmps).run P w= .ok (.tuple #[x,tmps.getD u undef]) w:=by
 simp only[results,h];simp only[Array.getD_eq_getD_getElem?] at hp;simp[Result.andThen,hp,hl,asAddr]
theorem aq.JY (h:aq w g e [x0,x1,x2]) (y0 y1 y2:Va):aq (((w.setCell ⟨g,0,none⟩ y0).setCell ⟨g,1,none⟩ y1).setCell ⟨g,2,none⟩ y2) g e [y0,y1,y2]:=((h.set 0 y0).set 1 y1).set 2 y2
def shV (d n:Int) (v:Va):Va:= .agg #[.int .u8 d,.int .u32 n,v]
def cV (w:Wo) (base:Nat) (v:Va) (es:List aD):Prop:=w.ownsRow base 68 2 v es.length (es.flatMap dC)
def ShR (w:Wo) (p:List Int) (e:Ending) (w' :Wo):Prop:=
 Below w.heap.size w w'∧((mJ p=none∧e= .returned (.tuple #[shV 0 0 (.slice none 0 0),.int .i64 40]))∨∃s v,mJ p=some s∧e= .returned (.tuple #[shV s.depth s.next v,.int .i64 0])∧cV w' w.heap.size v s.es∧(∀x∈s.es,eR x)∧aI s.depth∧bX s.next)
theorem iG {B:Nat} {w0:Wo} {y0 y1 y2:Va} (h:Below B w0 w) (hg:B≤g):Below B w0 (((w.setCell ⟨g,0,none⟩ y0).setCell ⟨g,1,none⟩ y1).setCell ⟨g,2,none⟩ y2):=((h.setCell hg _).setCell hg _).setCell hg _
theorem CW (w:Wo) (v:Va) (p:List Int) (h:Bs w w.heap.size v p) (eJ:dy p=none∨∃k' body,dy p=some (k',body)∧k'≠3):
  Calls prog 33 #[v] w (ShR w p):=by
 have hd:Af (mJ p=none):=by
  show _=_;unfold mJ;rcases eJ with h1|⟨k',body,h1,h2⟩
  ·rw[h1]
  ·rw[h1];simp only;rw[Xd (fun h=>h2 h.1)]
 obtain⟨A,c,rfl,-,-⟩:=h.1.form;obtain⟨W0,aY⟩:=eX (w.alloc (.cells #[.int .u8 0,.int .u32 0,.slice none 0 0] 92));have R0:Af (aq W0 w.heap.size 92 [.int .u8 0,.int .u32 0,.slice none 0 0]):=by show _=_;rw[aY];exact ar w _ _
 have B0:Af (Below w.heap.size w W0):=by rw[aY];exact aF _ _
 have jr:Bs W0 W0.heap.size (.slice A p.length c) p:=⟨(h.1.below B0.o).more B0.o.size,h.2⟩;have hO:=qM W0 _ p jr;obtain⟨m,hm⟩:=eX p.length;rw[←hm] at hO⊢;have HW:=aa aY.symm;have oN:Af (∀W2,Below W0.heap.size W0 W2→ShR w p (.returned (.tuple #[shV 0 0 (.slice none 0 0),.int .i64 40])) (((W2.setCell ⟨w.heap.size,0,none⟩ (.int .u8 0)).setCell ⟨w.heap.size,1,none⟩ (.int .u32 0)).setCell ⟨w.heap.size,2,none⟩ (.slice none 0 0))):=fun W2 h2=>⟨iG (B0.o.trans (h2.mono B0.o.size)) (Qg _),.inl ⟨hd.o,rfl⟩⟩
 rcases eJ with h1|⟨k',body,h1,h2⟩
 ·have HO:Af (Calls prog 90 #[.slice A m c] W0 fun e w' =>e= .returned (.tuple #[.int .u8 0,.slice none 0 0,.int .i64 10])∧Below W0.heap.size W0 w'):=by
   refine Calls.mono hO ?_;rintro e w' ⟨b1,⟨-,rfl⟩|⟨_,_,_,h3,_⟩⟩
   ·exact⟨rfl,b1⟩
   ·rw[h1] at h3;cases h3
  clear h aY hm hO h1 jr hd;go_enter func33,ntmps33;go_upto_region 1 with fail
  rw[HW.o];go_upto_region 2 with(go_at_call 90;go_must(refine HO.o.mono ?_);rintro e W1 ⟨rfl,b1⟩;have B1:=aa b1;clear b1)
  have S1:=aa (R0.o.on B1.o);obtain⟨y0,y1,y2⟩:=ra S1.o;have f1:=S1.o.free;go_wp2_with fail;refine bodyPost_ret (cG rfl rfl (gU (S1.o.JY (.int .u8 0) (.int .u32 0) (.slice none 0 0)))) rfl ?_;exact oN.o _ B1.o
 ·have HO:=aa (nH jr h1);rw[←hm] at HO;have cH:(k' !=3)=true:=by rw[bne,Xc h2];rfl
  clear h aY hm hO h1 jr hd h2;go_enter func33,ntmps33;go_upto_region 1 with fail
  rw[HW.o];go_upto_region 2 with(go_at_call 90;go_must(refine HO.o.mono ?_);rintro e W1 ⟨A1,c1,rfl,o1,s1,b1⟩;have B1:=aa b1;clear o1 s1 b1)
  have S1:=aa (R0.o.on B1.o);obtain⟨y0,y1,y2⟩:=ra S1.o;have f1:=S1.o.free;go_wp2_with fail;refine bodyPost_ret (cG rfl rfl (gU (S1.o.JY (.int .u8 0) (.int .u32 0) (.slice none 0 0)))) rfl ?_;exact oN.o _ B1.o
theorem Pj (w:Wo) (x:Int):Calls prog 94 #[.int .u8 x] w fun e w' =>e= .returned (.bool (x !=0))∧w=w' :=by
 go_enter func94,ntmps94;go_wp2_with fail;go_ret;exact⟨rfl,rfl⟩
theorem LB (w:Wo) (B:Nat) (v:Va) (bs:List Int) (hb:Bs w B v bs) (h0:0<bs.length) (hl:bs.length≤100000):
  Calls prog 177 #[v,.func (.func 94) #[] #[]] w fun e w' =>(∃r:Int,e= .returned (.int .i64 r)∧decide (0≤r)= !(bs.all (·==0)))∧w=w' :=by
 obtain⟨b,o,c,rfl,hc,hm,EW,iH⟩:=hb.ns.cells h0;obtain⟨L,hL⟩:=eX bs.length;have HL:=aa hL;have Hc:Af (∀j,j<L→w.cell? ⟨b,o+j,none⟩=some (.int .u8 (bs.getD j 0))):=fun j hj=>iH j (by omega)
 have Hl:Af (L≤100000):=by show L≤_;omega
 rw[←hL] at hc⊢;clear iH hL hb h0 hl EW;unfold maxLen at hm;go_enter func177,ntmps177;go_wp2_with fail;go_loopw [8] (fun i wr=>∃k:Nat,k≤L∧i= .int .i64 k∧wr=w∧Af (∀j,j<k→bs.getD j 0=0)) (fun i _=>L - (intOf i).toNat)
 case atStart=>exact⟨0,Qp _,rfl,rfl,fun j h=>absurd h (Nat.not_lt_zero j)⟩
 case round=>
  obtain⟨k,hk,rfl,rfl,HA⟩:=hrel;by_cases aJ:k<L
  ·have hkL:(k:Int)<L:=by omega
   have SK:(0:Int)≤k:=by omega
   have EX:wrap64 ((k:Int)+1)=(k:Int)+1:=by have:=Hl.o;unfold wrap64;omega
   have jb:=Hc.o k aJ;have bj:=aa aJ;have Hx:Af (bs.getD k 0∈bs):=by show _∈_;rw[Qe,Qf (by rw[←HL.o];exact aJ)];exact QI _
   obtain⟨x,hx⟩:=eX (bs.getD k 0);have HX:=aa hx;rw[←hx] at jb Hx;clear hx aJ hk;by_cases gd:x=0
   ·subst gd;go_wp2_with(go_at_call 94;go_must(refine(Pj _ _).mono ?_);rintro e w' ⟨rfl,rfl⟩);go_roundw
    case rel=>
     refine⟨k+1,bj.o,by go_num,by simp,fun j hj=> ?_⟩;by_cases e:j=k
     ·subst e;exact HX.o.symm
     ·exact HA.o j (by omega)
    case measure=>first|exact oh bj.o|(rw[EX];exact oh bj.o)
   ·have hb:(x !=0)=true:=by rw[bne,Xc gd];rfl
    go_wp2_with(go_at_call 94;go_must(refine(Pj _ _).mono ?_);rintro e w' ⟨rfl,rfl⟩);go_ret;refine⟨⟨_,rfl,?_⟩,rfl⟩;rw[Xa (by omega)];have:bs.all (·==0)=false:=by rw[←Bool.not_eq_true,XT];intro h;exact gd (by simpa using h _ Hx.o)
    rw[this];rfl
  ·obtain rfl:k=L:=by omega
   clear aJ hk;go_wp2_with fail;go_ret;refine⟨⟨_,rfl,?_⟩,rfl⟩;have:bs.all (·==0)=true:=by rw[XT];intro y hy;obtain⟨j,hj,rfl⟩:=List.getElem_of_mem hy;have:=HA.o j (by rw[HL.o];exact hj);rw[Qe,Qf hj] at this;simpa using this
   rw[this];rfl
theorem LD (w:Wo) (B:Nat) (v:Va) (bs:List Int) (hb:Bs w B v bs) (h0:0<bs.length) (hl:bs.length≤100000):
  Calls prog 93 #[v,.func (.func 94) #[] #[]] w fun e w' =>e= .returned (.bool (!(bs.all (·==0))))∧w=w' :=by
 have HI:=aa (LB w B v bs hb h0 hl);obtain⟨A,c,rfl,-,-⟩:=hb.1.form;clear hb h0 hl;go_enter func93,ntmps93;go_wp2_with(go_at_call 177;go_must(refine HI.o.mono ?_);rintro e w' ⟨⟨r,rfl,hr⟩,rfl⟩;have HR:=aa hr;clear hr);go_ret;exact⟨by rw[←HR.o];rfl,rfl⟩
end
section
open Go.RowKit
def iX (tb first next:Nat):List Va:=[.pointer (some ⟨tb,0,none⟩),.int .i64 first,.int .i64 next,.int .i64 0]
theorem yp (w:Wo) (pb tb first next:Nat) (h:aq w pb 189 (iX tb first next)):
  Calls prog 159 #[.pointer (some ⟨pb,0,none⟩)] w fun e w' =>e= .returned (.bool false)∧w=w' :=by
 have x0:=h.cell (j:=0) rfl;clear h;go_enter func159,ntmps159;go_wp2_with fail;go_ret;exact⟨rfl,rfl⟩
theorem Cw (w:Wo) (tb n first:Nat) (A:Option Addr) (c:Nat) (h:w.cell? ⟨tb,0,none⟩=some (.slice A n c)) (hn:0<n) (hf:first≤n):
  Calls prog 41 #[.pointer (some ⟨tb,0,none⟩),.int .i64 first] w fun e w' =>∃pb,e= .returned (.tuple #[.pointer (some ⟨pb,0,none⟩),.int .i64 0])∧w.heap.size≤pb∧aq w' pb 189 (iX tb first first)∧Below w.heap.size w w' :=by
 have HB:=aa (cn w tb n A c h);have h1:((n:Int)==0)=false:=Xc (by omega);have h2:¬(first:Int)<0:=by omega
 have h3:¬(n:Int)<first:=by omega
 clear h hn hf;go_enter func41,ntmps41;go_wp2_with(go_at_call 98;go_must(refine HB.o.mono ?_);rintro e W2 ⟨rfl,rfl⟩);go_ret2;exact⟨_,rfl,Qg _,ar w [_,_,_,_] _,aF _ _⟩
theorem sW (p:Nat→Bool) (k:Nat):(List.range (k+1)).countP p=(List.range k).countP p+if p k then 1 else 0:=by
 rw[List.range_succ,List.countP_append];simp[List.countP_cons]
theorem abQ (fr:Int) (p:Nat→Bool) (k:Nat) (h:p k=true):fr - ((List.range (k+1)).countP p:Nat)=fr - ((List.range k).countP p:Nat) - 1:=by
 rw[sW,h]
 push_cast
 simp only[if_true];omega
theorem abR (fr:Int) (p:Nat→Bool) (k:Nat) (h:p k=false):fr - ((List.range (k+1)).countP p:Nat)=fr - ((List.range k).countP p:Nat):=by
 rw[sW,h]
 push_cast
 simp
theorem xY (w:Wo) (pb tb cb mb first next:Nat) (t:aE) (hp:aq w pb 189 (iX tb first next)) (h:bf w tb cb mb t) (hf:first≤t.len):
  Calls prog 77 #[.pointer (some ⟨pb,0,none⟩)] w fun e w' =>e= .returned (.int .i64 (t.room first))∧w=w' :=by
 obtain⟨x0,x1⟩:=gh hp;have HN:=aa (yp w pb tb first next hp);have HF:=aa (LJ w tb cb mb t h);have HT:=aa (fun b=>yC w tb cb mb t h b);have Hfr:=aa h.ok.frees_le;have Hn:Af (first≤4096):=by have:=h.ok.n1;show first≤4096;omega
 clear hp h hf;go_enter func77,ntmps77;go_wp2_with(first|(go_at_call 159;go_must(refine HN.o.mono ?_);rintro e W2 ⟨rfl,rfl⟩)|(go_at_call 160;go_must(refine HF.o.mono ?_);rintro e W2 ⟨rfl,rfl⟩));clear HN HF;go_loop [16,3] (fun i n=>∃k:Nat,k≤first∧i= .int .i64 k∧n= .int .i64 (t.cY - ((List.range k).countP fun b=>t.free b))) (fun i _=>first - (intOf i).toNat)
 case atStart=>exact⟨0,Qp _,rfl,by simp⟩
 case round=>
  obtain⟨k,hk,rfl,rfl⟩:=hrel;by_cases aJ:k<first
  ·have h1:(k:Int)<first:=by omega
   have fp:wrap64 ((k:Int)+1)=(k:Int)+1:=by unfold wrap64;have:=Hn.o;omega
   have HTk:=aa (HT.o k);have hc:=mD (fun b=>t.free b) k;have hw:wrap64 (t.cY - ((List.range k).countP (fun b=>t.free b):Int) - 1)=t.cY - ((List.range k).countP (fun b=>t.free b):Int) - 1:=by unfold wrap64;have:=Hfr.o;have:=Hn.o;omega
   have bj:=aa aJ;have eu:=aa fp;obtain⟨q,hq⟩:∃q:Int,q=t.cY - ((List.range k).countP (fun b=>t.free b):Nat):=⟨_,rfl⟩;rw[←hq] at hw⊢;have Hq:=aa hq;clear hc aJ hk hq;cases wB:t.free k with
   |true=>
    have JR:=aa (abQ t.cY (fun b=>t.free b) k wB);rw[wB] at HTk;clear wB;go_wp2_with(go_at_call 161;go_must(refine HTk.o.mono ?_);rintro e W2 ⟨rfl,rfl⟩);go_round
    case rel=>exact⟨k+1,bj.o,by first|rfl|(rw[eu.o];rfl),by rw[JR.o,←Hq.o,hw]⟩
    case measure=>first|exact al bj.o|(rw[eu.o];exact al bj.o)
   |false=>
    have JR:=aa (abR t.cY (fun b=>t.free b) k wB);rw[wB] at HTk;clear wB;go_wp2_with(go_at_call 161;go_must(refine HTk.o.mono ?_);rintro e W2 ⟨rfl,rfl⟩);go_round
    case rel=>exact⟨k+1,bj.o,by first|rfl|(rw[eu.o];rfl),by rw[JR.o,←Hq.o]⟩
    case measure=>first|exact al bj.o|(rw[eu.o];exact al bj.o)
  ·obtain rfl:k=first:=by omega
   go_wp2_with fail;go_ret;exact⟨rfl,rfl⟩
theorem kh (w:Wo) (b j:Nat) (u:Va):aG (fun x=>x=b) w (w.setCell ⟨b,j,none⟩ u):=aG.setCell (S:=fun x=>x=b) (aG.refl _ w) (fun _=>rfl) u
theorem Ak (w:Wo) (b j:Nat) (u:Va):aG (fun x=>x=b) w (w.drew.setCell ⟨b,j,none⟩ u):=aG.setCell (S:=fun x=>x=b) (aG.refl _ w).drew (fun _=>rfl) u
theorem yG (p:Nat→Bool) (a n b m:Nat) {k:Nat} (h1:∀x,a≤x→x<a+n→p x=true→x=k∨k<x) (hk:p k=true) (si:a≤k∧k<a+n):
  (List.range' a n++List.range' b m).find? p=some k:=by
 rw[List.find?_append];have:(List.range' a n).find? p=some k:=by
  rw[List.find?_eq_some_iff_getElem];refine⟨hk,k - a,by rw[List.length_range'];omega,by rw[List.getElem_range'];omega,fun j hj=> ?_⟩;rw[List.getElem_range'];cases hp:p (a+1*j) with
  |false=>rfl
  |true=>have:=h1 (a+1*j) (by omega) (by omega) hp;omega
 rw[this];rfl
theorem pP (p:Nat→Bool) (a n b m:Nat) (h0:∀x,a≤x→x<a+n→p x=false):(List.range' a n++List.range' b m).find? p=(List.range' b m++List.range' 0 0).find? p:=by
 rw[List.find?_append];have:(List.range' a n).find? p=none:=by rw[List.find?_eq_none];intro x hx;obtain⟨h1,h2⟩:=List.mem_range'_1.1 hx;rw[h0 x h1 h2];simp
 rw[this];simp
theorem qK (w:Wo) (pb tb cb mb first next:Nat) (t:aE) (hp:aq w pb 189 (iX tb first next)) (h:bf w tb cb mb t) (hf:first≤next) (hn:next≤t.len):
  Calls prog 157 #[.pointer (some ⟨pb,0,none⟩)] w fun e w' =>e= .returned (.tuple #[.int .i64 (t.take first next).1,.int .i64 (t.take first next).2.1])∧bf w' tb cb mb (t.take first next).2.2.1∧aq w' pb 189 (iX tb first (t.take first next).2.2.2)∧aG (fun x=>x=pb∨TS tb cb mb x) w w' :=by
 obtain⟨x0,x1,x2⟩:=ra hp;have HN:=aa (yp w pb tb first next hp);have HB:=aa (fun W (hW:Below w.heap.size w W)=>cn W tb t.len _ _ (h.on hW).x0);have Yd:=aa (cn w tb t.len _ _ h.x0);have HBd:=aa (cn w.drew tb t.len _ _ h.x0);have HT:=aa (fun W (hW:Below w.heap.size w W) b=>yC W tb cb mb t (h.on hW) b);have H:=aa h;have Hp:=aa hp;have Hn:=iJ hf hn h.ok.n1;clear hp h hf hn;go_enter func157,ntmps157;go_wp2_with fail;go_step3;go_wp2_with(go_at_call 159;go_must(refine HN.o.mono ?_);rintro e W2 ⟨rfl,rfl⟩);go_step3
 go_wp2_with fail;clear HN;go_region_held3 (fun W=>W.cell? ⟨pb,0,none⟩=some (.pointer (some ⟨tb,0,none⟩))∧W.cell? ⟨pb,1,none⟩=some (.int .i64 first)∧W.cell? ⟨pb,2,none⟩=some (.int .i64 next)) (first|with_reducible exact⟨x0,x1,x2⟩|go_keep)
  (first
   |((go_at_call 98);(with_reducible refine Yd.o.mono ?_);rintro e W2 ⟨rfl,rfl⟩)
   |((go_at_call 98);(with_reducible refine HBd.o.mono ?_);rintro e W2 ⟨rfl,rfl⟩))
 clear Yd HBd;obtain⟨W4,j7⟩:=eX ((w.alloc (.cells #[.int .i64 next,.int .i64 t.len,.int .i64 first,.int .i64 next] 322)).drew);have B4:Af (Below w.heap.size w W4):=by rw[j7];exact(aF _ _).drew
 have R4:Af (aq W4 w.heap.size 322 [.int .i64 next,.int .i64 t.len,.int .i64 first,.int .i64 next]):=by show aq _ _ _ _;rw[j7];exact ar w _ _
 rw[←j7];clear j7 x0 x1 x2;go_upto_block 0 with fail
 go_cut [4] from 5 to 50 (fun v wx=>∃b:Int,v= .int .i64 b∧Af (((b= -1∧t.find first next=none)∨∃k:Nat,b=k∧k<t.len∧t.free k=true∧t.find first next=some k)∧Below w.heap.size w wx))
 case first=>
  go_wp2_with fail;go_loopg [31,4] 2 (fun g j v wr=>∃k:Nat,k+g=2∧j= .int .i64 k∧v= .int .i64 (-1)∧Af (aq wr w.heap.size 322 [.int .i64 next,.int .i64 t.len,.int .i64 first,.int .i64 next]∧Below w.heap.size w wr∧(1≤k→∀x,next≤x→x<t.len→t.free x=false)∧(2≤k→∀x,first≤x→x<next→t.free x=false)))
  case atStart=>exact⟨0,rfl,rfl,rfl,R4.o,B4.o,fun h=>absurd h (by decide),fun h=>absurd h (by decide)⟩
  case round=>
   obtain⟨k,hkg,rfl,rfl,HR⟩:=hrel;cases gk with
   |zero=>
    obtain rfl:k=2:=hkg;go_wp2_with fail;go_meet
    case rel=>refine⟨-1,rfl,.inl ⟨rfl,?_⟩,HR.o.2.1⟩;unfold aE.find;rw[pP _ _ _ _ _ (fun x h1 h2=>HR.o.2.2.1 (by decide) x h1 (by have:=Hn.o;omega)),pP _ _ _ _ _ (fun x h1 h2=>HR.o.2.2.2 (by decide) x h1 (by have:=Hn.o;omega))];rfl
   |succ g=>
    cases g with
    |zero=>
     obtain rfl:k=1:=by omega
     obtain⟨-,-,p0,p1⟩:=mm HR.o.1;go_upto_block 2 with fail
     obtain⟨W6,jc,-,Z4⟩:=nW wr [.int .i64 first,.int .i64 next] 322;obtain⟨gb,EA⟩:=eX wr.heap.size;have G6:Af (aq W6 gb 322 [.int .i64 first,.int .i64 next]):=by show aq _ _ _ _;rw[jc,EA];exact ar wr [_,_] _
     have B6:=aa (HR.o.2.1.trans (Z4.mono HR.o.2.1.size));have R6:=aa (HR.o.1.on Z4);rw[←jc,←EA];clear jc EA Z4 p0 p1;go_wp2_with fail;go_loopg [7,4] (next - first) (fun g b v wx=>∃x:Nat,x+g=next∧b= .int .i64 x∧v= .int .i64 (-1)∧Af (wx=W6∧first≤x∧∀y,first≤y→y<x→t.free y=false))
     case atStart=>exact⟨first,by have:=Hn.o;omega,rfl,rfl,rfl,Qg _,fun y h1 h2=>absurd h2 (XV.2 h1)⟩
     case round=>
      obtain⟨x,JE,rfl,rfl,HX⟩:=hrel;obtain⟨W7,Eh⟩:=eX wr;have jc:=HX.o.1;rw[←Eh] at jc⊢;subst jc;clear Eh;have p1:=G6.o.cell (j:=1) rfl;cases gk with
      |zero=>
       obtain rfl:x=next:=JE;go_wp2_with fail;go_roundg 0
       case measure=>decide
       case rel=>
        refine⟨1+1,by omega,by rfl,rfl,R6.o,B6.o,?_,?_⟩
        ·intro _;exact HR.o.2.2.1 (by decide)
        ·intro h2;exact fun y h1 h3=>HX.o.2.2 y h1 h3
      |succ g' =>
       have aJ:(x:Int)<next:=by omega
       have x0:=(B6.o.cell (p:=⟨pb,0,none⟩) Hp.o.lt).trans (Hp.o.cell (j:=0) rfl);have Ui:=aa (HT.o W7 B6.o x);have Ue:=aa JE;have fp:wrap64 ((x:Int)+1)=(x:Int)+1:=by unfold wrap64;have:=Hn.o;omega
       clear JE;cases wB:t.free x with
       |true=>
        have JR:=aa wB;rw[wB] at Ui;clear wB;go_wp2_with(go_at_call 161;go_must(refine Ui.o.mono ?_);rintro e W2 ⟨rfl,rfl⟩);go_meet
        case rel=>
         refine⟨x,rfl,.inr ⟨x,rfl,by have:=Hn.o;have:=Ue.o;omega,JR.o,?_⟩,B6.o⟩;unfold aE.find;rw[pP _ _ _ _ _ (fun y h1 h2=>HR.o.2.2.1 (by decide) y h1 (by have:=Hn.o;omega))];refine yG _ _ _ _ _ (fun y h1 h2 hp=> ?_) JR.o ⟨HX.o.2.1,by have:=Hn.o;have:=Ue.o;omega⟩;rcases Nat.lt_trichotomy y x with h|h|h
         ·rw[HX.o.2.2 y h1 h] at hp;cases hp
         ·exact .inl h
         ·exact .inr h
       |false=>
        have JR:=aa wB;rw[wB] at Ui;clear wB;go_wp2_with(go_at_call 161;go_must(refine Ui.o.mono ?_);rintro e W2 ⟨rfl,rfl⟩);go_roundg g'
        case measure=>exact XL _
        case rel=>
         refine⟨x+1,by have:=Ue.o;omega,by rw[fp];rfl,rfl,rfl,XK HX.o.2.1,fun y h1 h2=> ?_⟩;by_cases JD:y=x
         ·subst JD;exact JR.o
         ·exact HX.o.2.2 y h1 (by omega)
    |succ g=>
     obtain rfl:g=0:=by omega
     obtain rfl:k=0:=by omega
     obtain⟨p0,p1⟩:=gh HR.o.1;go_upto_block 2 with fail
     obtain⟨W6,jc,-,Z4⟩:=nW wr [.int .i64 next,.int .i64 t.len] 322;obtain⟨gb,EA⟩:=eX wr.heap.size;have G6:Af (aq W6 gb 322 [.int .i64 next,.int .i64 t.len]):=by show aq _ _ _ _;rw[jc,EA];exact ar wr [_,_] _
     have B6:=aa (HR.o.2.1.trans (Z4.mono HR.o.2.1.size));have R6:=aa (HR.o.1.on Z4);rw[←jc,←EA];clear jc EA Z4 p0 p1;go_wp2_with fail;go_loopg [7,4] (t.len - next) (fun g b v wx=>∃x:Nat,x+g=t.len∧b= .int .i64 x∧v= .int .i64 (-1)∧Af (wx=W6∧next≤x∧∀y,next≤y→y<x→t.free y=false))
     case atStart=>exact⟨next,by have:=Hn.o;omega,rfl,rfl,rfl,Qg _,fun y h1 h2=>absurd h2 (XV.2 h1)⟩
     case round=>
      obtain⟨x,JE,rfl,rfl,HX⟩:=hrel;obtain⟨W7,Eh⟩:=eX wr;have jc:=HX.o.1;rw[←Eh] at jc⊢;subst jc;clear Eh;have p1:=G6.o.cell (j:=1) rfl;cases gk with
      |zero=>
       obtain rfl:x=t.len:=JE;go_wp2_with fail;go_roundg 1
       case measure=>decide
       case rel=>
        refine⟨0+1,by omega,by rfl,rfl,R6.o,B6.o,?_,?_⟩
        ·intro _;exact fun y h1 h3=>HX.o.2.2 y h1 h3
        ·intro h2;exact absurd h2 (by decide)
      |succ g' =>
       have aJ:(x:Int)<t.len:=by omega
       have x0:=(B6.o.cell (p:=⟨pb,0,none⟩) Hp.o.lt).trans (Hp.o.cell (j:=0) rfl);have Ui:=aa (HT.o W7 B6.o x);have Ue:=aa JE;have fp:wrap64 ((x:Int)+1)=(x:Int)+1:=by unfold wrap64;have:=Hn.o;omega
       clear JE;cases wB:t.free x with
       |true=>
        have JR:=aa wB;rw[wB] at Ui;clear wB;go_wp2_with(go_at_call 161;go_must(refine Ui.o.mono ?_);rintro e W2 ⟨rfl,rfl⟩);go_meet
        case rel=>
         refine⟨x,rfl,.inr ⟨x,rfl,by have:=Hn.o;have:=Ue.o;omega,JR.o,?_⟩,B6.o⟩;unfold aE.find;refine yG _ _ _ _ _ (fun y h1 h2 hp=> ?_) JR.o ⟨HX.o.2.1,by have:=Hn.o;have:=Ue.o;omega⟩;rcases Nat.lt_trichotomy y x with h|h|h
         ·rw[HX.o.2.2 y h1 h] at hp;cases hp
         ·exact .inl h
         ·exact .inr h
       |false=>
        have JR:=aa wB;rw[wB] at Ui;clear wB;go_wp2_with(go_at_call 161;go_must(refine Ui.o.mono ?_);rintro e W2 ⟨rfl,rfl⟩);go_roundg g'
        case measure=>exact XL _
        case rel=>
         refine⟨x+1,by have:=Ue.o;omega,by rw[fp];rfl,rfl,rfl,XK HX.o.2.1,fun y h1 h2=> ?_⟩;by_cases JD:y=x
         ·subst JD;exact JR.o
         ·exact HX.o.2.2 y h1 (by omega)
 case rest=>
  obtain⟨b,rfl,HC⟩:=hcut;obtain⟨W,hW⟩:=eX wc;rw[←hW] at HC⊢;clear hW;have AL:=aa HC.o.2;obtain⟨h1,-⟩:=HC.o;clear HC;rcases h1 with⟨rfl,YC⟩|⟨k,rfl,hk,TE,Yx⟩
  ·have Hno:=aa YC;clear YC;go_wp2_with fail
   try rw[Qv]
   go_ret2;unfold aE.take;rw[Hno.o];exact⟨rfl,H.o.on AL.o,Hp.o.on AL.o,aG.aZ AL.o⟩
  ·have hup:t.up k=(0,t.set k (t.get k+1)):=by unfold aE.free at TE;simp at TE;unfold aE.up;rw[Xd (by omega),Xd (by omega)]
   have ZD:t.take first next=((k:Int),0,t.set k (t.get k+1),if k+1=t.len then first else k+1):=by unfold aE.take;rw[Yx]
   have HU:=aa (U2 W tb cb mb t (H.o.on AL.o) k);rw[hup] at HU;obtain⟨t',ht'⟩:=eX (t.set k (t.get k+1));rw[←ht'] at HU ZD;have Hln:Af (t'.len=t.len):=by show _=_;rw[ht',aE.tU]
   have tH:=aa ZD;have Hk:=dK hk H.o.ok.n1;have SK:¬(k:Int)<0:=by omega
   have x0:=(Hp.o.on AL.o).cell (j:=0) rfl;have fq:=iJ (Hp.o.ne H.o.own (by decide)) (Hp.o.ne H.o.counts (by decide)) (Hp.o.bS H.o.kept);have fp:wrap64 ((k:Int)+1)=(k:Int)+1:=by unfold wrap64;have:=Hk.o;omega
   clear hup ht' Yx ZD TE hk HT HB;go_upto_region 16 with(go_at_call 228;go_must(refine HU.o.mono ?_);rintro e W5 ⟨rfl,t5,c5⟩;have T5:=aa t5;have C5:=aa c5;clear t5 c5)
   have P5:=aa ((Hp.o.on AL.o).aL C5.o (by unfold TS;have:=fq.o;omega));obtain⟨x0,x1,x2⟩:=ra P5.o;have f2:=P5.o.free 2;have P6:=aa (P5.o.set 2 (.int .i64 ((k:Int)+1)));clear HU;go_wp2_with fail;obtain⟨W6,jc⟩:=eX (W5.setCell ⟨pb,2,none⟩ (.int .i64 ((k:Int)+1)));have C6:Af (aG (fun x=>x=pb) W5 W6):=by show aG _ _ _;rw[jc];exact kh _ _ _ _
   have T6:=aa (T5.o.aL C6.o (Xm fq.o.1) (Xm fq.o.2.1) (Xm fq.o.2.2));rw[←jc] at P6⊢;have ZR:=T6.o.x0;rw[Hln.o] at ZR;have HB6:=aa (cn W6 tb t.len _ _ ZR);have ahn:=aa (cn W6.drew tb t.len _ _ ZR);obtain⟨z0,z1,z2⟩:=ra P6.o;have zf:=P6.o.free 2;clear jc x0 x1 x2 f2 ZR;go_region_held3 (fun W=>W.cell? ⟨pb,0,none⟩=some (.pointer (some ⟨tb,0,none⟩))∧W.cell? ⟨pb,2,none⟩=some (.int .i64 ((k:Int)+1))) (first|with_reducible exact⟨z0,z2⟩|go_keep)
    (first
     |((go_at_call 98);(with_reducible refine HB6.o.mono ?_);rintro e W2 ⟨rfl,rfl⟩)
     |((go_at_call 98);(with_reducible refine ahn.o.mono ?_);rintro e W2 ⟨rfl,rfl⟩))
   clear HB6 ahn;have hC:Af (∀W,aG (fun x=>x=pb) W6 W→aG (fun x=>x=pb∨TS tb cb mb x) w W):=fun Wf hc=>(((aG.aZ AL.o).trans (C5.o.mono fun x _ h=> .inr h)).trans (C6.o.mono fun x _ h=> .inl h)).trans (hc.mono fun x _ h=> .inl h)
   by_cases cH:k+1=t.len
   ·have hq:(((k:Int)+1)==(t.len:Int))=true:=by rw[beq_iff_eq];omega
    have NJ:=aa cH;clear cH;go_wp2_with fail
    try rw[Qv]
    go_ret2;have c7:aG (fun x=>x=pb) W6 (W6.drew.setCell ⟨pb,2,none⟩ (.int .i64 first)):=Ak _ _ _ _;rw[tH.o,Xo NJ.o];exact⟨rfl,T6.o.aL c7 (Xm fq.o.1) (Xm fq.o.2.1) (Xm fq.o.2.2),aq.set (w:=W6.drew) P6.o 2 _,hC.o _ c7⟩
   ·have hq:=Xc (by omega);have NJ:=aa cH;clear cH;go_wp2_with fail
    try rw[Qv]
    go_ret2;have c7:aG (fun x=>x=pb) W6 W6.drew:=(aG.refl _ W6).drew;rw[tH.o,Xd NJ.o];exact⟨rfl,T6.o.aL c7 (Xm fq.o.1) (Xm fq.o.2.1) (Xm fq.o.2.2),P6.o,hC.o _ c7⟩
end
end Go.Proofs.YthgdhacopamklaaGreat

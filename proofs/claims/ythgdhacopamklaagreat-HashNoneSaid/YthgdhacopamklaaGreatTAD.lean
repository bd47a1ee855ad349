/- What HashNone asks, part 4 of 41: parts of the walks and laws, each true as it stands. -/
import Derived.Test.YthgdhacopamklaaGreatTAC
set_option maxHeartbeats 16000000
set_option maxRecDepth 100000
set_option linter.unusedVariables false
set_option linter.unusedSimpArgs false
namespace Go.Proofs.YthgdhacopamklaaGreat
open Go.Proofs.Tryz
section
open Go.RowKit Go.Shelf
attribute [local go_sem] Oper.semAt_some
variable {e : TypeId} {k : Nat} {xs : List Va} {W : Wo}
theorem fB {w:Wo} {b b' :Nat} {size:Nat} {v:Va} (h:w.ownsRow b e size v k xs) (hb:b'≤b):w.ownsRow b' e size v k xs:=by
 obtain⟨h1,h2⟩:=h;refine⟨h1,?_⟩;rcases h2 with h2|⟨g,cap,cur,a,b,c⟩
 ·exact .inl h2
 ·exact .inr ⟨g,cap,cur,a,by omega,c⟩
theorem DF {W' :Wo} (h:Below W.heap.size W W'):KeepsOthers W W' :=KeepsOthers.of_grownBy (ga h none) (by simp)
theorem fM {n:Nat} (W:Wo) (l:Nat) (o:Obj) (hl:n≤l):Below n W (W.putObj l o):=⟨rfl,rfl,rfl,by rw[World.putObj_size];exact Qg _,fun k hk=>World.putObj_heap_other (by omega)⟩
theorem Dd {w1:Wo} {n0 B Bx:Nat} {t:TypeId} {u v' :Va} {m:Nat} {ys:List Va} {tmp:Obj} (JG:t≠e) (hb:Boxed W B t u) (bN:W.ownsRow n0 e 1 u k xs) (ng :w1.ownsRow n0 e 1 v' m ys)
  (hg:(W.alloc tmp).grownBy w1 u.ownBlock) (jU:n0≤W.heap.size) (hB:n0≤B) (hx:Bx≠B) (hxl:Bx<W.heap.size) (hxu:u.ownBlock≠some Bx):
  Boxed w1 B t u∧Boxed (w1.setCell ⟨B,0,none⟩ v') B t v'∧(w1.setCell ⟨B,0,none⟩ v').ownsRow n0 e 1 v' m ys∧KeepsOthers W (w1.setCell ⟨B,0,none⟩ v')∧fo n0 Bx W (w1.setCell ⟨B,0,none⟩ v')∧Below n0 W (w1.setCell ⟨B,0,none⟩ v'):=by
 obtain⟨a1,a2,a3,a4,a5⟩:=Boxed.appended (n₀:=n0) hb JG bN jU hB ng hg;refine⟨a1,a2,ng.kept (grownBy_setCell' w1 B v') (.inr (a1.not_row JG ng).symm),a4,⟨a4.size,fun j hj=> ?_⟩,a5⟩;rcases hj with hj|rfl
 ·exact a5.block j hj
 ·rw[Xl _ _ _ _ hx]
  exact(hg.block _ (by simp;omega) hxu.symm).trans (Below.heap_alloc W tmp _ hxl)
theorem Ro (body:List Int):(kx body).map Prod.snd=mq body:=by simp[kx,mq]
theorem CI:(prog.info? 61).map (fun i=>(i.zero,i.size,i.bytes))=some (some (.int .u16 0),1,2):=by kernel_rfl
theorem acj (w:Wo) (k:Int) (hk:k=4∨k=5) (v:Va) (p:List Int) (h:Bs w w.heap.size v p) (body:List Int) (h1:dy p=some (k,body)) (Ny:body.headD 0≤61) (hz:((mq body).drop (body.headD 0).toNat).all (·==0)=true):
  Calls prog 88 #[.int .u8 k,v] w fun e w' =>∃u,e= .returned (.tuple #[u,.int .i64 0])∧aB w' w.heap.size 61 .u16 u ((mq body).take (body.headD 0).toNat)∧Below w.heap.size w w' :=by
 obtain⟨A,c,rfl,-,-⟩:=h.1.form;obtain⟨W0,aY⟩:=eX ((w.alloc (.cells #[.slice none 0 0] 84)).alloc (.cells #[.int .i64 0] 25));have R1:Af (aq W0 w.heap.size 84 [.slice none 0 0]):=by show _=_;rw[aY];exact dx w _ _
 have R2:Af (aq W0 (w.heap.size+1) 25 [.int .i64 0]):=by show _=_;rw[aY];exact cL w _ _
 have B0:Af (Below w.heap.size w W0):=by rw[aY];exact(aF _ _).alloc (by simp) _
 have lz:Af (W0.heap.size=w.heap.size+2):=by show _=_;rw[aY];simp
 have HR:=aa (fun W=>rN W k hk);have jr:Bs W0 W0.heap.size (.slice A p.length c) p:=⟨(h.1.below B0.o).more B0.o.size,h.2⟩;have HO:=aa (nH jr h1);obtain⟨m,hm⟩:=eX p.length;rw[←hm] at HO⊢;have SR:=aY.symm;obtain⟨fg,-,bO⟩:=jO h1 h.2;have gd:body[0]? =some (body.headD 0):=by
  cases body with
  |nil=>simp at fg
  |cons x r=>rfl
 have eD:=(bO _ (Qi gd)).1;obtain⟨x,hx⟩:∃x:Nat,x=(body.headD 0).toNat:=⟨_,rfl⟩;have hxi:body.headD 0=(x:Int):=by omega
 rw[←hx] at hz⊢;rw[hxi] at gd Ny;have Ta:=kH fg gd (by omega:x≤61) hz;have avT:¬(61:Int)<x:=by omega
 clear h hk aY hm h1 jr fg bO gd eD hx hxi hz Ny;refine(callsIn_wide (n:=3)).1 ?_;refine callsIn_of_wp_marks func88 rfl trivial ?_ rfl;simp only[ntmps88,QW,QF,Xq,Nat.reduceAdd,Nat.reduceSub,Xv,Xw,Xx,Xy,QZ,List.cons_append];refine wpIn_wide.2 ?_;go_upto_region 2 with(go_at_call 90;go_must(refine HO.o.mono ?_);rintro e W1 ⟨A1,c1,rfl,o1,s1,b1⟩;have S3:=aa s1;have B1:=aa b1;clear o1 s1 b1)
 obtain⟨b,o,c',hv,-,-,hr⟩:=S3.o.1.row (by have:=Ta.o;omega);injection hv with e1 e2 e3
 subst e1;subst e3;clear e2;have pV:W1.cell? ⟨b,o,none⟩=some (.int .u8 x):=by have:=hr.2 0 (.int .u8 x) (by rw[Qt,Ta.o.2.1];rfl);simpa using this
 have J3:=hr.1;clear hr;obtain⟨X7,hX7⟩:=eX W1.heap.size;obtain⟨W2,cE⟩:=eX (W1.alloc (.cells #[.slice (some ⟨b,o,none⟩) 123 c1] 87));rw[←cE,←hX7];have wV:Below W1.heap.size W1 W2:=by rw[cE];exact aF _ _
 have B2:=aa (B1.o.trans (wV.mono B1.o.size));have K7:Af (aq W2 X7 87 [.slice (some ⟨b,o,none⟩) 123 c1]):=by show _=_;rw[cE,hX7];exact ar W1 [_] _
 have Kb:Af (W2.cell? ⟨b,o,none⟩=some (.int .u8 x)∧b<W2.heap.size∧Bs W2 W2.heap.size (.slice (some ⟨b,o,none⟩) 123 c1) body):=
  ⟨by rw[wV.cell (p:=⟨b,o,none⟩) J3];exact pV,Qn J3 wV.size,⟨(S3.o.1.below wV).more wV.size,S3.o.2⟩⟩
 have S1:=aa (R1.o.on B2.o);have S2:=aa (R2.o.on B2.o);clear cE J3 pV SR hX7 wV;obtain⟨i0,hi,oI,mM,xw⟩:=info_parts CI;obtain⟨W3,yX,o3,g3⟩:=run_make_own (P:=prog) W2 W2.heap.size 84 61 i0 (.int .u16 0) 1 underlying84 hi oI mM .i64 .u8 x (by rw[xw];have:=Ta.o.2.2.1;omega) (by have:=Ta.o.2.2.1;unfold maxLen;omega) (Qg _);have O3:=aa o3;have B3:Af (Below W2.heap.size W2 W3):=⟨g3.os,g3.tape,g3.output,g3.size,fun j hj=>g3.block j hj (by simp)⟩;have q1:=K7.o.cell0;have q2:=Kb.o.1;clear o3 g3;go_upto_region 5 with(go_at_call 158;go_must(refine(HR.o _).mono ?_);rintro e Wr ⟨rfl,rfl⟩)
 obtain⟨X9,hX9⟩:=eX W3.heap.size;obtain⟨W4,j7,-,abg⟩:=nW W3 [.slice (some ⟨W2.heap.size,0,none⟩) 0 x] 84;have B4:=aa (B3.o.trans (abg.mono B3.o.size));have K9:Af (Boxed W4 X9 84 (.slice (some ⟨W2.heap.size,0,none⟩) 0 x)):=by show Boxed _ _ _ _;rw[j7,hX9];exact Boxed.new W3 _ _
 have O4:=aa (aS O3.o abg);have H9:=dK (by rw[hX9];exact B3.o.size:W2.heap.size≤X9) K9.o.lt;rw[←j7,←hX9];clear yX j7 hX9 abg O3 B3 q1 q2;have q1:=(K7.o.aQ (B4.o.block X7 K7.o.lt)).cell0;obtain⟨Bx,j8⟩:=eX W4.heap.size;obtain⟨W5,j6⟩:=eX (W4.alloc (.cells #[.slice (some ⟨b,o,none⟩) 123 c1] 87));have HN:=aa (Dv W4 (some ⟨b,o,none⟩) 123 c1);rw[←j6,←j8] at HN;have E4:Below W4.heap.size W4 W5:=by rw[j6];exact aF _ _
 have B5:=aa (B4.o.trans (E4.mono B4.o.size));have K9' :=aa ((E4.block _ H9.o.2).trans K9.o);have O5:=aa (aS O4.o E4);have KB:Af (Boxed W5 Bx 87 (.slice (some ⟨b,o,none⟩) 123 c1)):=by show Boxed _ _ _ _;rw[j6,j8];exact Boxed.new W4 _ _
 have HX:=Ba (by rw[j8];exact H9.o.2:X9<Bx) KB.o.lt K7.o.lt H9.o.1 (by have h1:=B2.o.size;have h2:=lz.o;omega:w.heap.size+1<W2.heap.size);clear j6 j8 E4 K9 O4 H9;go_wp2_with(go_at_call 170;go_must(refine HN.o.mono ?_);rintro e W6 ⟨rfl,rfl⟩);clear q1 HN;refine(wpIn_wide (n:=3)).1 ?_;refine sO (P:=prog) rfl (by decide) (gf:=234) (lb:= #[.pointer (some ⟨Bx,0,none⟩)]) rfl trivial (enters_of func234 (by kernel_rfl) rfl) (fun y:Int×Int=> #[.int .i64 y.1,.int .u16 y.2]) (fun _=>rfl)
  W2.heap.size Bx B5.o.size HX.o.2.1 (kx body)
  (fun pre W=>(∃u,Boxed W X9 84 u∧aB W W2.heap.size 61 .u16 u ((pre.take x).map Prod.snd))∧Below W2.heap.size W2 W∧Boxed W Bx 87 (.slice (some ⟨b,o,none⟩) 123 c1))
  ?h0 ?hIr ?hit (fun y=>{tmps:= #[.int .u8 k,.slice A m c,undef,undef,.pointer (some ⟨w.heap.size,0,none⟩),.pointer (some ⟨w.heap.size+1,0,none⟩),.int .u8 k,.pointer (some ⟨X7,0,none⟩),.int .i64 0,.pointer (some ⟨X9,0,none⟩),.int .i64 y.1,.int .u16 y.2,.tuple #[.int .u8 k,.slice (some ⟨b,o,none⟩) 123 c1,.int .i64 0],.slice A m c,.tuple #[.int .u8 k,.slice (some ⟨b,o,none⟩) 123 c1,.int .i64 0],.int .u8 k,.slice (some ⟨b,o,none⟩) 123 c1,.int .i64 0,.int .i64 0,.bool false,.bool false,.int .u8 k,.int .u8 k,.bool false,.bool false,.bool false,.int .u8 k,.bool true,.bool false,.bool false,.bool false,.slice (some ⟨b,o,none⟩) 123 c1,.pointer (some ⟨b,o,none⟩),.int .u8 x,.bool (decide (61<(x:Int))),.bool (decide (61<(x:Int))),.slice (some ⟨b,o,none⟩) 123 c1,.pointer (some ⟨b,o,none⟩),.int .u8 x,.slice (some ⟨W2.heap.size,0,none⟩) 0 x,.slice (some ⟨b,o,none⟩) 123 c1,.func (.func 234) #[] #[.pointer (some ⟨Bx,0,none⟩)],.int .i64 y.1,.int .u16 y.2,undef,undef,undef,undef,undef,undef,undef,undef,undef,undef,undef,undef,undef,undef,undef],defers:=[]}) ?assign ?body ?done
 case h0=>intro W hW;exact⟨⟨_,(hW.block _ (by have:=HX.o;omega)).trans K9'.o,by have h1:=aS O5.o hW;simpa[aB] using h1⟩,B5.o.trans (hW.mono B5.o.size),(hW.block _ HX.o.2.1).trans KB.o⟩
 case hIr=>rintro pre W l ob Y8 ⟨⟨u,h1,h2⟩,h3,h4⟩ hl AS Ec;refine⟨⟨u,(World.putObj_heap_other (by have:=HX.o;omega)).trans h1,ownsRow_putObj h2 _ AS Ec⟩,h3.trans (fM W l Y8 (by have:=B5.o.size;omega)),(World.putObj_heap_other (by have:=HX.o;omega)).trans h4⟩
 case hit=>intro l J W hW hY Iu;exact Dw 2 (by decide) l W2.heap.size Bx (some ⟨b,o,none⟩) c1 body Ta.o.1 J hY W (Qh B5.o.size hW.size) (Boxed.cell ((hW.block _ HX.o.2.1).trans KB.o)) ⟨(Kb.o.2.2.1.below (B5.o.trans (hW.mono B5.o.size))),Kb.o.2.2.2⟩ Iu
 case assign=>
  intro l y W K hK
  gi_wp2
  exact hK
 case body=>
  rintro l j hj W ⟨⟨u,h1,h2⟩,h3,h4⟩ cz;have tH:=aa (XJ hj);have agE:j<61:=by rw[jP] at hj;exact hj
  have iO:=Cu body j hj;have hr:=cW Kb.o.2.2.2 (1+2*j) 2;obtain⟨z,hz⟩:=eX (cK body (1+2*j) 2);rw[←hz] at iO hr;rw[iO] at tH⊢;have H1:=aa h1;have H2:=aa h2;have H3:=aa h3;have H4:=aa h4;have uk:=aa cz;have q7:=(K7.o.aQ (H3.o.block X7 K7.o.lt)).cell0;have qb:=(H3.o.cell (p:=⟨b,o,none⟩) Kb.o.2.1).trans Kb.o.1;have gd:(0:Int)≤x:=by omega
  have hxw:IntKind.i64.wrap (x:Int)=x:=by have:=Ta.o.2.2.1;rw[XN];omega
  have Hj:=aa agE;have Hz:=aa hz;have Hr:=aa hr;clear h1 h2 h3 h4 cz hj agE iO hz hr;simp only;by_cases aJ:j<x
  ·have anb:(j:Int)<x:=by omega
   have aga:(((kx body).take j).take x)=(kx body).take j:=Qj (by rw[Qu,jP];omega);have af9:(((kx body).take (j+1)).take x)=(kx body).take j++[((j:Int),z)]:=by rw[tH.o];exact Qj (by rw[Qo,Qu,jP,ZA];omega)
   obtain⟨xs,hxs⟩:=eX (((kx body).take j).map Prod.snd);have hxl:xs.length=j:=by rw[hxs,Qq,Qu,jP];have:=Hj.o;omega
   have O2:Af (W.ownsRow W2.heap.size 61 1 u xs.length (xs.map (.int .u16))):=by have h2:=H2.o;rw[aga,←hxs] at h2;exact h2
   have Bv:Af ((((kx body).take (j+1)).take x).map Prod.snd=xs++[z]):=by show _=_;rw[af9,QL,←hxs];rfl
   obtain⟨Au,nu,cu,hu⟩:=aB.bu (show aB W W2.heap.size 61 .u16 u xs from O2.o);have oN:=aa (fun (v' :Va) (w1:Wo) (a:w1.ownsRow W2.heap.size 61 1 v' (xs.length+1) (xs.map (.int .u16)++[.int .u16 z])) (g:(W.alloc (.cells #[.int .u16 z] 61)).grownBy w1 u.ownBlock)=>Dd (Bx:=Bx) (by decide) H1.o O2.o a g (Qh B5.o.size uk.o) HX.o.2.2.2.1 (by have:=HX.o;omega) (by have:=HX.o.2.1;have:=uk.o;omega) (fun e=>by have h1:=Boxed.not_row (t:=87) (e:=61) H4.o (by decide) O2.o;exact h1 e.symm))
   have q9:=H1.o.cell;have qf:=H1.o.frozen;have Hxl:=aa hxl;subst hu;clear aga af9 hxs hxl;clear aJ
   gi_wp2_with (gi_at_builtin;go_must(refine wpListIn_append_own _ rfl _ _ 84 rfl W2.heap.size 61 i0 (.int .u16 0) 1 2 underlying84 hi oI mM xw rfl (by decide) _ _ _ rfl (aS O2.o (aF _ _)) ⟨W.heap.size,0,none⟩ 1 1 [.int .u16 z] rfl rfl (cell_one_new _ _ _) (by simp[Value.oneCell']) (by have:=Hxl.o;have:=Hj.o;unfold maxLen;omega) (by have:=Hxl.o;have:=Hj.o;omega) (by have:=B5.o.size;have:=uk.o;simp;omega) ?_);intro v' w1 ng BJ _;obtain⟨g',rr,rfl⟩:=ownsRow_succ ng;have F:=aa (oN.o _ _ ng BJ);have iI:=F.o.1.cell;have wB:=F.o.1.frozen;clear ng BJ)
   obtain⟨f1,f2,f3,f4,f5,f6⟩:=F.o;refine⟨f4,f5,⟨_,f2,?_⟩,H3.o.trans f6,?_⟩
   ·rw[←List.map_take,←List.map_take,Bv.o];unfold aB;rw[Qo,QL];exact f3
   ·exact(f5.block _ (.inr rfl)).trans H4.o
  ·have anb:¬(j:Int)<x:=by omega
   have am1 :z=0:=by
    have h1:=Ta.o.2.2.2;rw[XT] at h1;have h2:=h1 z (by rw[Hz.o];refine List.mem_iff_getElem?.2 ⟨j - x,?_⟩;rw[Zb,show x+(j - x)=j by omega];unfold mq;rw[Qt,List.getElem?_range Hj.o];rfl)
    simpa using h2
   subst am1;have bj:=aa aJ;clear aJ
   gi_wp2
   refine⟨DF (Xj _ _),⟨Qg _,fun _ _=>rfl⟩,⟨_,H1.o,?_⟩,H3.o,H4.o⟩;have h2:=H2.o;rw[←List.map_take,←List.map_take,tH.o,List.take_append_of_le_length (by rw[Qu,jP];have:=bj.o;have:=Hj.o;omega)];exact h2
 case done=>
  rintro D W hD ⟨⟨u,h1,h2⟩,h3,h4⟩ hK;have T1:=aa (S1.o.on h3);have T2:=aa (S2.o.on h3);have H2:Af (aB W W2.heap.size 61 .u16 u ((mq body).take x)):=by show aB _ _ _ _ _ _;rw[List.map_take,Ro] at h2;exact h2
  have y1:=T1.o.cell0;have y2:=T2.o.cell0;have f1:=T1.o.free 0;have f2:=T2.o.free 0;have q9:=h1.cell;obtain⟨Au,nu,cu,hu⟩:=H2.o.bu;subst hu;have H3:=aa h3;have HD:=aa hD;have HK:=aa hK;clear h1 h2 h3 h4 hD hK;go_wp2_with fail;have hDn:Af (D≠w.heap.size∧D≠w.heap.size+1∧w.heap.size≤D):=by have h1:=HX.o;have h2:=HD.o;have h3:=B5.o.size;exact⟨by omega,by omega,by omega⟩
  have B9:=aa (B0.o.trans ((B2.o.trans (H3.o.mono B2.o.size)).mono B0.o.size));obtain⟨r1,r2⟩:=tN (u:= .slice Au nu cu) (v:= .int .i64 0) T1.o T2.o (XP (XL _));have hK2:(((W.setCell ⟨w.heap.size,0,none⟩ (.slice Au nu cu)).setCell ⟨w.heap.size+1,0,none⟩ (.int .i64 0)).heap[D]? =some (.deferred (some []))):=by rw[Xl _ _ _ _ hDn.o.2.1,Xl _ _ _ _ hDn.o.1];exact HK.o
  have B8:Below w.heap.size w ((W.setCell ⟨w.heap.size,0,none⟩ (.slice Au nu cu)).setCell ⟨w.heap.size+1,0,none⟩ (.int .i64 0)):=(B9.o.setCell (Qg _) _).setCell (Q0 _) _;have O8:aB ((W.setCell ⟨w.heap.size,0,none⟩ (.slice Au nu cu)).setCell ⟨w.heap.size+1,0,none⟩ (.int .i64 0)) W2.heap.size 61 .u16 (.slice Au nu cu) ((mq body).take x):=by
   have bT:∀j,(Value.slice Au nu cu).ownBlock=some j→w.heap.size+1<j:=fun j e=>by have h1:=(Xr H2.o j e).1;have h2:=HX.o;omega
   refine World.ownsRow.kept (World.ownsRow.kept H2.o (grownBy_setCell' _ _ _) (.inr fun e=> ?_)) (grownBy_setCell' _ _ _) (.inr fun e=> ?_)
   ·have:=bT _ e;omega
   ·have:=bT _ e;omega
  refine⟨by simp,.inl ⟨_,_,rfl,run_takeDeferred hK2,?_⟩⟩;refine⟨_,lQ rfl rfl rfl (oE (x:= .slice Au nu cu) ?_) (lT (x:= .int .i64 0) ?_),_,rfl,?_,?_⟩
  ·exact(World.cell?_of_block (World.putObj_heap_other (Xm hDn.o.1))).trans r1
  ·exact(World.cell?_of_block (World.putObj_heap_other (Xm hDn.o.2.1))).trans r2
  ·exact fB (ownsRow_putObj O8 _ hK2 rfl) (by have:=HX.o;omega)
  ·exact B8.trans (fM _ D _ hDn.o.2.2)
def Pz (k:Int) (p:List Int):Prop:=∀body,dy p=some (k,body)→body.headD 0≤61→((mq body).drop (body.headD 0).toNat).all (·==0)=true
theorem Js (w:Wo) (k:Int) (hk:k=4∨k=5) (v:Va) (p:List Int) (h:Bs w w.heap.size v p) (ht:Pz k p):
  Calls prog 88 #[.int .u8 k,v] w (abH w k p):=by
 cases ho:dy p with
 |none=>exact Jr w k hk v p h (.inl ho)
 |some q=>
  obtain⟨k',body⟩:=q;by_cases h1:k'≠k∨61<body.headD 0
  ·exact Jr w k hk v p h (.inr ⟨k',body,ho,h1⟩)
  ·have ZT :=Classical.byContradiction fun e=>h1 (.inl e)
   have Ny:body.headD 0≤61:=Classical.byContradiction fun e=>h1 (.inr (by omega))
   subst ZT;have hz:=ht body ho Ny;refine(acj w k' hk v p h body ho Ny hz).mono ?_;rintro e w' ⟨u,rfl,h2,h3⟩;refine⟨h3,.inr ⟨_,u,?_,rfl,h2⟩⟩;unfold pB;rw[ho];simp only;rw[Xo ⟨trivial,hk,Ny,hz⟩]
end
section
open Go.RowKit Go.Shelf
attribute [local go_sem] Oper.semAt_some
variable {w : Wo} {x : Va}
theorem lj {P:Program} {fn:Func} {t:TypeId} {p:Tmp} {a:Addr} {tmps:Array Va} (h:fn.results= #[.cell p t]) (hp:tmps.getD p undef= .pointer (some a)) (hl:(loadVar t a).run P w= .ok x w):
  (results fn tmps).run P w= .ok x w:=by
 simp only[results,h];simp only[Array.getD_eq_getD_getElem?] at hp;simp[hp,hl,asAddr]
theorem Rz {b:Nat} (h:w.cell? ⟨b,0,none⟩=some x):(loadVar 3 ⟨b,0,none⟩).run prog w= .ok x w:=by simp[go_sem,h]
theorem Mq (w:Wo):Calls prog 192 #[.slice none 0 0] w fun e w' =>e= .returned (.func (.func 240) #[] #[.pointer (some ⟨w.heap.size,0,none⟩)])∧w' =w.alloc (.cells #[.slice none 0 0] 106):=by
 go_enter func192,ntmps192;go_wp2_with fail;go_ret;exact⟨rfl,rfl⟩
theorem Sp (n:Nat) (l Bx:Nat) (J:List Empty→Wo→Prop) (W:Wo) (aH:W.cell? ⟨Bx,0,none⟩=some (.slice none 0 0)) (h0:J [] W):
  CallsIn Fence.wide n prog 240 #[.func (.yield l) #[] #[],.pointer (some ⟨Bx,0,none⟩)] W fun e W' =>(∃v,e= .returned v)∧J [] W' :=by
 refine callsIn_of_wp func240 rfl trivial ?_ rfl;simp only[ntmps240,QW,QF,Xq,Nat.reduceAdd,Nat.reduceSub,Xv,Xw,Xx,Xy,QZ,List.cons_append]
 gi_wp2
 gi_loopw [3] (fun i wr=>i= .int .i64 (-1)∧Af (J [] wr)) (fun i _=>0)
 case atStart=>exact⟨rfl,h0⟩
 case round=>
  obtain⟨rfl,hJ⟩:=hrel;clear aH h0
  gi_wp2
  go_end0
  exact⟨⟨_,rfl⟩,hJ.o⟩
theorem RC (w:Wo) (d:Nat) (at_:Int) (h:w.cell? ⟨d,1,none⟩=some (.slice none 0 0)) (hd:d<w.heap.size):
  Calls prog 115 #[.pointer (some ⟨d,1,none⟩),.int .i64 at_] w fun e w' =>e= .returned (.int .i64 (-1))∧Below w.heap.size w w' :=by
 obtain⟨W0,aY⟩:=eX ((w.alloc (.cells #[.int .i64 at_] 3)).alloc (.cells #[.int .i64 0] 3));have R1:Af (aq W0 (w.heap.size+1) 3 [.int .i64 0]):=by show _=_;rw[aY];exact cL w _ _
 have B0:Af (Below w.heap.size w W0):=by rw[aY];exact(aF _ _).alloc (by simp) _
 have lz:Af (W0.heap.size=w.heap.size+2):=by show _=_;rw[aY];simp
 have x1:=(B0.o.cell (p:=⟨d,1,none⟩) hd).trans h;obtain⟨W1,aW⟩:=eX (W0.alloc (.cells #[.slice none 0 0] 106));obtain⟨Bx,j8⟩:=eX W0.heap.size;have uo:=aa (Mq W0);rw[←aW,←j8] at uo;have B1:Af (Below W0.heap.size W0 W1):=by rw[aW];exact aF _ _
 have KB:Af (Boxed W1 Bx 106 (.slice none 0 0)):=by show Boxed _ _ _ _;rw[aW,j8];exact Boxed.new W0 _ _
 have HX:=dK (by rw[j8];have:=lz.o;omega:w.heap.size+1<Bx) KB.o.lt;have HW:=aa aY.symm;clear aY aW j8 h hd;refine(callsIn_wide (n:=3)).1 ?_;refine callsIn_of_wp_marks func115 rfl trivial ?_ rfl;simp only[ntmps115,QW,QF,Xq,Nat.reduceAdd,Nat.reduceSub,Xv,Xw,Xx,Xy,QZ,List.cons_append];refine wpIn_wide.2 ?_;go_upto_region 1 with fail
 rw[HW.o];go_wp2_with(go_at_call 192;go_must(refine uo.o.mono ?_);rintro e W6 ⟨rfl,rfl⟩);clear x1;refine(wpIn_wide (n:=3)).1 ?_;refine sO (α:=Empty) (P:=prog) rfl (by decide) (gf:=240) (lb:= #[.pointer (some ⟨Bx,0,none⟩)]) rfl trivial (enters_of func240 (by kernel_rfl) rfl) (fun y=>nomatch y) (fun y=>nomatch y)
  W0.heap.size Bx B1.o.size HX.o.2 []
  (fun _ W=>Below W0.heap.size W0 W) ?h0 ?hIr ?hit (fun y=>nomatch y) ?assign ?body ?done
 case h0=>exact fun W hW=>B1.o.trans (hW.mono B1.o.size)
 case hIr=>exact fun pre A l o o' h hl AS Ec=>h.trans (fM A l o' (Qh B1.o.size hl))
 case hit=>intro l J W hW hY Iu;exact Sp 2 l Bx J W (Boxed.cell ((hW.block _ HX.o.2).trans KB.o)) Iu
 case assign=>exact fun l y=>nomatch y
 case body=>intro l k hk;simp at hk
 case done=>
  rintro D W hD hB hK;have R2:=aa (R1.o.on hB);have y0:=R2.o.cell0;have f0:=R2.o.free 0;have HB:=aa hB;have HD:=aa hD;have HK:=aa hK;clear hB hD hK;go_wp2_with fail;have R3:=Fj R2.o (.int .i64 (-1));have bT:D≠w.heap.size+1:=by have:=HX.o;have:=HD.o;omega
  have hK2:((W.setCell ⟨w.heap.size+1,0,none⟩ (.int .i64 (-1))).heap[D]? =some (.deferred (some []))):=by rw[Xl _ _ _ _ bT];exact HK.o
  refine⟨by simp,.inl ⟨_,_,rfl,run_takeDeferred hK2,?_⟩⟩;refine⟨_,lj rfl rfl (Rz (x:= .int .i64 (-1)) ?_),rfl,?_⟩
  ·exact(World.cell?_of_block (World.putObj_heap_other (Xm bT))).trans R3.cell0
  ·exact((B0.o.trans (HB.o.mono B0.o.size)).setCell (Q0 _) _).trans (fM _ D _ (by have:=HX.o;have:=HD.o;omega))
theorem flat_get:∀(bl:List (List Int)) (i j:Nat) (hi:i<bl.length) (_:∀b∈bl,b.length=128),j<128→bl.flatten[i*128+j]? =bl[i][j]?
 |[],i,j,hi,_,_=>by simp at hi
 |b::r,0,j,_,hs,hj=>by
  rw[List.flatten_cons,Xz,QR,QN (by rw[hs b (by simp)];exact hj)]
  rfl
 |b::r,i+1,j,hi,hs,hj=>by
  have hb:=hs b (by simp);rw[List.flatten_cons,QM (by rw[hb];omega),hb]
  rw[show(i+1)*128+j - 128=i*128+j by omega];rw[flat_get r i j (by simpa using hi) (fun x hx=>hs x (by simp[hx])) hj];rfl
theorem cF.on {w' :Wo} {d pl:Nat} {bl:List (List Int)} (h:cF w d pl bl) (hb:Below w.heap.size w w'):cF w' d pl bl:=⟨h.own.on hb,h.eP.on hb,h.ne,h.size,h.byte,h.n0,h.n1⟩
theorem oA (w:Wo) (d pl:Nat) (bl:List (List Int)) (h:cF w d pl bl) (i:Nat) (hi:i<bl.length):
  Calls prog 49 #[.pointer (some ⟨d,0,none⟩),.int .i64 i] w fun e w' =>∃g,e= .returned (.tuple #[.slice (some ⟨g,0,none⟩) 128 128,.int .i64 0])∧w.heap.size≤g∧dn w' g bl[i]∧Below w.heap.size w w' :=by
 obtain⟨n,hn⟩:=eX bl.length;have H:=aa h;have Hn:=dK hn (by omega:i<n);have HM:=aa (zL w d pl n _ (by rw[hn];exact h.own));have x0:w.cell? ⟨d,0,none⟩=some (.slice (some ⟨pl,0,none⟩) n n):=by rw[hn];exact h.own.cell (j:=0) rfl
 have HL:=aa (fun (W:Wo) (hW:Below w.heap.size w W)=>RC W d i ((hW.cell (p:=⟨d,1,none⟩) h.own.lt).trans (h.own.cell (j:=1) rfl)) (Qn h.own.lt hW.size));obtain⟨bs,iV⟩:=eX (bl[i]);have Hb:Af (bs.length=128∧(∀x∈bs,aI x)∧∀j,j<128→w.cell? ⟨pl,i*128+j,none⟩=(bs.map (Value.int .u8))[j]?):=by refine⟨by rw[iV];exact h.size _ (QI hi),by rw[iV];exact h.byte _ (QI hi),fun j hj=> ?_⟩;have hg:=flat_get bl i j hi h.size hj;have hl:=h.size _ (QI hi);replace hg:=hg.trans (Qf (show j<bl[i].length by omega));rw[h.eP.cell (u:= .int .u8 (bl[i][j]'(by omega))) (by rw[Qt,hg];rfl)];rw[iV,Qt,Qf (by omega)];rfl
 have ph:(i:Int)<n:=by omega
 have ml:(0:Int)≤i:=by omega
 have ang:¬(n:Int)≤i:=by omega
 rw[←iV];clear h hn hi iV;obtain⟨g,hg⟩:=eX w.heap.size;obtain⟨W1,aW⟩:=eX (w.alloc (.cells (List.replicate 128 (Value.int .u8 0)).toArray 5));have yX:(Instr.makeSlice 87 (.int .i64 128) (.int .i64 128)).run prog w= .ok (.slice (some ⟨g,0,none⟩) 128 128) W1:=by have:=eV underlying87 rD (eC .u8 0) (by decide) 128 (by decide) w;rw[aW,hg];exact this
 have B1:Af (Below w.heap.size w W1):=by rw[aW];exact aF _ _
 have P1:Af (aq W1 g 5 (List.replicate 128 (.int .u8 0))):=by show aq _ _ _ _;rw[aW,hg];exact ar _ _ _
 have G:=aa hg;have y0:=(B1.o.cell (p:=⟨d,0,none⟩) H.o.own.lt).trans x0;clear aW hg;go_enter func49,ntmps49;go_upto_region 8 with(first
  |(go_at_call 110;go_must(refine HM.o.mono ?_);rintro e W2 ⟨rfl,rfl⟩)
  |(go_at_call 115;go_must(refine(HL.o W1 B1.o).mono ?_);rintro e W3 ⟨rfl,b3⟩;have B3:=aa b3;clear b3))
 have y0:=(B1.o.trans (B3.o.mono B1.o.size)).cell (p:=⟨d,0,none⟩) H.o.own.lt;rw[x0] at y0;have P3:=aa (P1.o.on B3.o);have B13:=aa (B1.o.trans (B3.o.mono B1.o.size));obtain⟨cs,iH⟩:=eX (bs.map (Value.int .u8));have WS:=aa iH;have tk:Af (cs.length=128):=by show _=_;rw[iH,Qq];exact Hb.o.1
 have uE:Af (∀j u,cs[j]? =some u→W3.cell? ((⟨pl,i*128,none⟩:Addr).add j)=some u):=fun j u hj=>by
  have hj1:j<128:=by have:=(Ql.1 hj).1;rw[tk.o] at this;exact this
  rw[dP,B13.o.cell (p:=⟨pl,i*128+j,none⟩) H.o.eP.lt,Hb.o.2.2 j hj1,←iH];exact hj
 clear iH x0 yX;go_wp2_with(refine wpList_copy_splice rfl (.tmp 45) (.tmp 53) 87 87 rfl 5 underlying87 tP _ _ _ _ _ _ rfl rfl g 0 (List.replicate 128 (Value.int .u8 0)) 5 P3.o cs ?_ ?_ ?_ ?_ w.heap.size w B13.o (by rw[G.o];exact Qg _) ?_;go_must((·have:=tk.o;simp only[Nat.min_def];split<;>omega);(·intro hp;exact⟨rfl,_,rfl,uE.o⟩);(·have:=tk.o;rw[QK];omega);(·intro u hu;rw[WS.o] at hu;exact dW .u8 bs u hu);(intro W4 og sm;have B4:=aa sm;clear sm)));go_ret2;refine⟨g,rfl,by rw[G.o];exact Qg _,?_,B4.o⟩
 have h1:=og.out;have e:splice (List.replicate 128 (Value.int .u8 0)) 0 cs=bs.map (.int .u8):=by unfold splice;rw[WS.o,Zq,QZ,Zu (by rw[Qq,QK,Hb.o.1];omega),Zi]
 rw[e] at h1;exact aq.JZ h1
end
section
open Go.RowKit
open Go.Maps (Keyed)
theorem al {k L:Nat} (h:k<L):L - (intOf (.int .i64 ((k:Int)+1))).toNat<L - (intOf (.int .i64 (k:Int))).toNat:=by simp[intOf];omega
structure MK (K V:Type) where
 mt:TypeId
 kt:TypeId
 vt:TypeId
 xz:prog.underlying mt=some (.map kt vt)
 keyed:Keyed prog kt
 kv:K→Va
 kl:K→Lit
 qY:K→Prop
 ir:∀x,qY x→keyOf prog kt (kv x)=some (kl x)
 Bn:∀x y,kv x=kv y→x=y
 sB:∀v l,keyOf prog kt v=some l→∃x,qY x∧v=kv x
 vv:V→Va
 Ix:V→DataW Unit
 R:Va→Option (DataW Unit×List MemPlace)
 MZ:∀y,R (vv y)=some (Ix y,[])
 Bm:∀v z,R v=some z→∃y,v=vv y∧z=(Ix y,[])
 zo:∀y y',Ix y=Ix y'→y=y'
 zero:V
 hz:∀w,(zeroValue vt).run prog w= .ok (vv zero) w
def eM {K V:Type} [DecidableEq K] (f:K→Option V) (x:K) (y:V):K→Option V:=fun z=>if z=x then some y else f z
def mX {K V:Type} [DecidableEq K] (f:K→Option V) (x:K):K→Option V:=fun z=>if z=x then none else f z
section
variable {K V : Type} (M : MK K V)
theorem MK.IJ {x y:K} (hx:M.qY x) (hy:M.qY y) (h:x≠y):M.kl x≠M.kl y:=fun e=>h (M.Bn _ _ (M.keyed.inj (M.ir x hx) (by rw[e];exact M.ir y hy)))
theorem MK.isKey {x:K} (hx:M.qY x):WideAt.IsKeyLit (M.kl x):=M.keyed.key (M.ir x hx)
structure acF (D:DataW Unit) (f:K→Option V):Prop where
 at_:∀x,M.qY x→∀z,D.atKey (M.kl x) z=((f x).map M.Ix).getD z
 has:∀x,M.qY x→Maps.has D (M.kl x)=(f x).isSome
 dom:∀x c,f x=some c→M.qY x
def MG (w:Wo) (m:Nat) (f:K→Option V) (s:Nat):Prop:=∃D,w.ownsMap prog M.kt M.R m s D∧Maps.size D=s∧acF M D f
variable {M} {w w' : Wo} {m s : Nat} {f : K → Option V}
theorem OZ {b n:Nat} {D:DataW Unit} (h:w.ownsMap prog M.kt M.R b n D):w.ownsMap prog M.kt M.R b (Maps.size D) D:=by
 obtain⟨es,clock,hb,F,_,rfl⟩:=h;exact⟨es,clock,hb,F,by simp[Maps.size,length_sorted],rfl⟩
theorem MG.made (w:Wo):MG M (w.alloc (.map #[] 0)) w.heap.size (fun _=>none) 0:=
 ⟨.map [],World.ownsMap_made w _ _ _,rfl,⟨fun _ _ _=>rfl,fun _ _=>rfl,fun _ _ h=>by cases h⟩⟩
theorem MG.lt (h:MG M w m f s):m<w.heap.size:=by
 obtain⟨D,h,_⟩:=h;exact h.lt
theorem MG.aQ (h:MG M w m f s) (hb:w'.heap[m]? =w.heap[m]?):MG M w' m f s:=by
 obtain⟨D,⟨es,clock,h0,h1⟩,h2⟩:=h;exact⟨D,⟨es,clock,hb.trans h0,h1⟩,h2⟩
theorem MG.kept {row:Option Nat} (h:MG M w m f s) (hg:w.grownBy w' row) (bT:some m≠row):MG M w' m f s:=h.aQ (hg.block m h.lt bT)
theorem MG.on (h:MG M w m f s) (hb:Below w.heap.size w w'):MG M w' m f s:=h.aQ (hb.block m h.lt)
theorem MG.aL {S:Nat→Prop} (h:MG M w m f s) (hc:aG S w w') (hS:¬S m):MG M w' m f s:=h.aQ (hc.block m h.lt hS)
theorem MG.az (h:MG M w m f s) {p:Addr} (hp:m≠p.block) (u:Va):MG M (w.setCell p u) m f s:=h.aQ (Xl _ _ _ _ hp)
theorem MK.val {v:Va} {ps:List MemPlace} {o:Option V} {zd:DataW Unit} (h:M.R v=some ((o.map M.Ix).getD zd,ps)) (hz:zd=M.Ix M.zero):v=M.vv (o.getD M.zero):=by
 obtain⟨y,rfl,hy⟩:=M.Bm _ _ h;have e:=XF Prod.fst hy;cases o with
 |none=>rw[hz] at e;rw[M.zo _ _ e];rfl
 |some c=>rw[M.zo _ _ e];rfl
theorem MG.look (h:MG M w m f s) {x:K} (hx:M.qY x):(Instr.lookup M.mt (.map (some m)) (M.kv x) true).run prog w= .ok (.tuple #[M.vv ((f x).getD M.zero),.bool (f x).isSome]) w:=by
 obtain⟨D,h1,h2,h3⟩:=h;obtain⟨v,ps,hr,hv⟩:=h1.look_ok M.keyed M.xz (M.hz w) (M.MZ M.zero) (M.ir x hx);rw[h3.at_ x hx] at hv;rw[h3.has x hx] at hr;rw[hr,M.val hv rfl]
theorem MG.at (h:MG M w m f s) {x:K} (hx:M.qY x):(Instr.lookup M.mt (.map (some m)) (M.kv x) false).run prog w= .ok (M.vv ((f x).getD M.zero)) w:=by
 obtain⟨D,h1,h2,h3⟩:=h;obtain⟨v,ps,hr,hv⟩:=h1.lookup M.keyed M.xz (M.hz w) (M.MZ M.zero) (M.ir x hx);rw[h3.at_ x hx] at hv;rw[hr,M.val hv rfl]
theorem MG.store [DecidableEq K] (h:MG M w m f s) (hs:s≤100000) {x:K} (hx:M.qY x) (y:V):∃w',(Instr.mapUpdate M.mt (.map (some m)) (M.kv x) (M.vv y)).run prog w= .ok () w'∧MG M w' m (eM f x y) (if(f x).isSome then s else s+1)∧w.grownBy w' (some m):=by
 obtain⟨D,h1,h2,h3⟩:=h;obtain⟨w',hr,h4,h5⟩:=h1.store M.keyed M.xz (by unfold maxLen;omega) (M.ir x hx) (M.MZ y);have cz:=Maps.size_put (k:=M.kl x) (h1.tidy M.keyed) (M.Ix y);rw[h3.has x hx,h2] at cz;refine⟨w',hr,⟨_,?_,cz,⟨fun z hz zd=> ?_,fun z hz=> ?_,fun z c hzc=> ?_⟩⟩,h5.grown⟩
 ·have:=OZ h4;rw[cz] at this;exact this
 ·by_cases e:z=x
  ·subst e;rw[Maps.atKey_put_same h1.isMap (M.isKey hx)];simp[eM]
  ·rw[Maps.atKey_put_other (M.IJ hz hx e),h3.at_ z hz];simp[eM,e]
 ·by_cases e:z=x
  ·subst e;rw[Maps.has_put_same h1.isMap (M.isKey hx)];simp[eM]
  ·rw[Maps.has_put_other (M.IJ hz hx e),h3.has z hz];simp[eM,e]
 ·by_cases e:z=x
  ·subst e;exact hx
  ·simp[eM,e] at hzc;exact h3.dom z c hzc
theorem MG.drop [DecidableEq K] (h:MG M w m f s) {x:K} (hx:M.qY x) (ty:TypeId):∃w',(Builtin.delete_ #[M.mt,M.kt] ty #[.map (some m),M.kv x]).run prog w= .ok (.tuple #[]) w'∧MG M w' m (mX f x) (s - if(f x).isSome then 1 else 0)∧w.grownBy w' (some m):=by
 obtain⟨D,h1,h2,h3⟩:=h;obtain⟨w',hr,h4,h5⟩:=h1.drop M.keyed M.xz (M.ir x hx) ty;have cz:=Maps.size_del (k:=M.kl x) (h1.tidy M.keyed);rw[h3.has x hx,h2] at cz;have Uz:Maps.size (D.del (M.kl x))=s - if(f x).isSome then 1 else 0:=by omega
 refine⟨w',hr,⟨_,?_,Uz,⟨fun z hz zd=> ?_,fun z hz=> ?_,fun z c hzc=> ?_⟩⟩,h5.grown⟩
 ·have:=OZ h4;rw[Uz] at this;exact this
 ·by_cases e:z=x
  ·subst e;rw[Maps.atKey_del_same];simp[mX]
  ·rw[Maps.atKey_del_other (M.IJ hz hx e),h3.at_ z hz];simp[mX,e]
 ·by_cases e:z=x
  ·subst e;rw[Maps.has_del_same];simp[mX]
  ·rw[Maps.has_del_other (M.IJ hz hx e),h3.has z hz];simp[mX,e]
 ·by_cases e:z=x
  ·subst e;simp[mX] at hzc
  ·simp[mX,e] at hzc;exact h3.dom z c hzc
end
section
variable {K V : Type} [DecidableEq K] (M : MK K V)
variable {ops : Array Oper} {w : Wo} {Q : Exit → Act → Wo → Prop} {a : Act} {rest : List Oper} {dst : Option Tmp} {om ok ov : Operand} {ty mt kt : TypeId} {pos : String} {after : Array Edge} {m s : Nat} {f : K → Option V}
theorem wl_put (xz:mt=M.mt) (h:MG M w m f s) (hs:s≤100000) (x:K) (y:V) (hx:M.qY x) (hm:a.eval om= .map (some m)) (hk:a.eval ok=M.kv x) (hv:a.eval ov=M.vv y)
  (hK:∀w',MG M w' m (eM f x y) (if(f x).isSome then s else s+1)→w.grownBy w' (some m)→wpList prog ops Q rest (a.put dst undef) w'):
  wpList prog ops Q (⟨dst,.mapUpdate mt om ok ov,ty,pos,after,none⟩::rest) a w:=by
 subst xz;refine wpList_plain rfl fun K' hK' => ?_
 obtain⟨w',iq,r1,r2⟩:=h.store hs hx y;unfold Oper.wp;simp[execOp,hm,hk,hv,iq,Result.andThen];exact hK' _ _ (hK w' r1 r2)
theorem wl_cut (xz:mt=M.mt) (hkt:kt=M.kt) (h:MG M w m f s) (x:K) (hx:M.qY x) (hm:a.eval om= .map (some m)) (hk:a.eval ok=M.kv x)
  (hK:∀w',MG M w' m (mX f x) (s - if(f x).isSome then 1 else 0)→w.grownBy w' (some m)→wpList prog ops Q rest (a.put dst (.tuple #[])) w'):
  wpList prog ops Q (⟨dst,.call {callee:= .builtin .delete,args:= #[om,ok],argTypes:= #[mt,kt]},ty,pos,after,none⟩::rest) a w:=by
 subst xz hkt;refine wpList_plain rfl fun K' hK' => ?_
 obtain⟨w',iq,r1,r2⟩:=h.drop hx ty;unfold Oper.wp;simp[execOp,resolve,invoke,builtin,hm,hk,iq,Result.andThen];exact hK' _ _ (hK w' r1 r2)
end
def RI (k:IntKind) (v:Va):Option (DataW Unit×List MemPlace):=
 match v with
 | .int k' x=>if k' =k then some (.lit (.int k x),[]) else none
 |_=>none
theorem IU (k:IntKind) (y:Int):RI k (.int k y)=some (.lit (.int k y),[]):=by simp[RI]
theorem zy (k:IntKind) (v:Va) (z:DataW Unit×List MemPlace) (h:RI k v=some z):∃y,v= .int k y∧z=(.lit (.int k y),[]):=by
 unfold RI at h;split at h
 ·split at h
  ·rename_i x he
   subst he;cases h
   exact⟨x,rfl,rfl⟩
  ·cases h
 ·cases h
theorem zz (k:IntKind) (y y' :Int) (h:(DataW.lit (.int k y):DataW Unit)= .lit (.int k y')):y=y' :=by simpa using h
def sw (o:Option (Nat×Nat)):Va:=
 match o with
 |none=> .slice none 0 0
 |some (g,c)=> .slice (some ⟨g,0,none⟩) 128 c
def RS (v:Va):Option (DataW Unit×List MemPlace):=
 match v with
 | .slice none 0 0=>some (.agg [],[])
 | .slice (some ⟨g,0,none⟩) 128 c=>some (.agg [.lit (.int .u64 g),.lit (.int .u64 c)],[])
 |_=>none
def nt (o:Option (Nat×Nat)):DataW Unit:=
 match o with
 |none=> .agg []
 |some (g,c)=> .agg [.lit (.int .u64 g),.lit (.int .u64 c)]
theorem ahP (o:Option (Nat×Nat)):RS (sw o)=some (nt o,[]):=by
 cases o with
 |none=>rfl
 |some p=>rfl
theorem acC (v:Va) (z:DataW Unit×List MemPlace) (h:RS v=some z):∃o,v=sw o∧z=(nt o,[]):=by
 unfold RS at h;split at h
 ·cases h;exact⟨none,rfl,rfl⟩
 ·cases h;exact⟨some (_,_),rfl,rfl⟩
 ·cases h
theorem acD (o o' :Option (Nat×Nat)) (h:nt o=nt o'):o=o' :=by
 cases o with
 |none=>cases o' with
  |none=>rfl
  |some p=>simp[nt] at h
 |some p=>cases o' with
  |none=>simp[nt] at h
  |some q=>
   simp[nt] at h;rw[show p=q from Prod.ext (by omega) (by omega)]
end
structure aE where
 counts:List Int
 kept:List (Option Int)
 cY:Int
 waits:Int
deriving DecidableEq
namespace aE
def new (n:Nat):aE:=⟨List.replicate n 0,List.replicate n none,n,0⟩
def of (l:List Int):aE:=⟨l,List.replicate l.length none,(l.length:Int) - (l.countP fun c=>decide (0<c)),0⟩
def len (t:aE):Nat:=t.counts.length
def get (t:aE) (b:Nat):Int:=t.counts.getD b 0
def mE (t:aE) (b:Nat):Int:=(t.kept.getD b none).getD (t.get b)
def free (t:aE) (b:Nat):Bool:=decide (b<t.len)&&(t.get b==0)&&(t.mE b==0)
def Iy (t:aE) (mE count one:Int):aE:=
 if 0<count then t else if 0<mE then{t with waits:=t.waits+one} else{t with cY:=t.cY+one}
def set (t:aE) (b:Nat) (n:Int):aE:=
 let t1:=(t.Iy (t.mE b) (t.get b) (-1)).Iy (t.mE b) n 1
 {t1 with counts:=t.counts.set b n,kept:=t.kept.set b (if n=t.mE b then none else some (t.mE b))}
def up (t:aE) (b:Nat):Int×aE:=if t.len≤b then(80,t) else if t.get b=65535 then(81,t) else(0,t.set b (t.get b+1))
def down (t:aE) (b:Nat):Int×aE:=if t.len≤b then(80,t) else if t.get b=0 then(82,t) else(0,t.set b (t.get b - 1))
def changed (t:aE):List Nat:=(List.range t.len).filter fun b=>(t.kept.getD b none).isSome
def keep (t:aE):aE:={t with kept:=List.replicate t.len none,cY:=t.cY+t.waits,waits:=0}
def room (t:aE) (first:Nat):Int:=t.cY - ((List.range first).countP fun b=>t.free b)
def find (t:aE) (first next:Nat):Option Nat:=(List.range' next (t.len - next)++List.range' first (next - first)).find? t.free
def take (t:aE) (first next:Nat):Int×Int×aE×Nat:=
 match t.find first next with
 |none=>(0,90,t,next)
 |some b=>(b,0,t.set b (t.get b+1),if b+1=t.len then first else b+1)
end aE
def kU (n:Int):Int:=aR n+aR (aR n)
def eI (t:aE) (eL:Nat):List Int:=(t.counts.drop (61*eL)).take 61
def jE (t:aE):List Int→List Int→Bool
 |_,[]=>true
 |seen,b::r=>if b=0 then jE t seen r else !(seen.contains b)&& !(t.get b.toNat==0)&&jE t (b::seen) r
def ke (t:aE) (ag au:List Int):Bool:=
 decide ((ag.length:Int)=aR t.len)&&decide ((au.length:Int)=aR (ag.length:Int))&&jE t [] (ag++au)
structure fk where
 t:aE
 next:Nat
 ag:List Int
 au:List Int
 pp:List Bool
 pd:List Bool
deriving DecidableEq
namespace fk
def fU (x:fk) (i:Nat):Bool:=
 if x.pp.getD i false then false else if x.ag.getD i 0=0 then true else x.t.changed.any fun b=>decide (61*i≤b)&&decide (b<61*(i+1))
def gH (x:fk) (i:Nat):Bool:=
 if x.pd.getD i false then false else if x.au.getD i 0=0 then true else((x.pp.drop (61*i)).take 61).any id
def fst (x:fk):Option (Bool×Nat):=
 match(List.range x.ag.length).find? x.fU with
 |some i=>some (false,i)
 |none=>match(List.range x.au.length).find? x.gH with
  |some i=>some (true,i)
  |none=>none
def place (x:fk) (kind:Bool) (i:Nat):Int×fk:=
 let wG:=if kind then x.au.getD i 0 else x.ag.getD i 0
 let t1:=if wG=0 then x.t else(x.t.down wG.toNat).2
 let r:=t1.take 2 x.next
 (r.2.1,if kind then{x with t:=r.2.2.1,next:=r.2.2.2,au:=x.au.set i r.1,pd:=x.pd.set i true}
  else{x with t:=r.2.2.1,next:=r.2.2.2,ag:=x.ag.set i r.1,pp:=x.pp.set i true})
def run:Nat→fk→Int×fk
 |0,x=>(0,x)
 |f+1,x=>
  match x.fst with
  |none=>(0,x)
  |some (kind,i)=>if(x.place kind i).1=0 then run f (x.place kind i).2 else x.place kind i
end fk
def gG (l:List Bool):List Nat:=(List.range l.length).filter fun i=>l.getD i false
def fm (t:aE) (next:Nat) (ag au:List Int):Int×fk:=
 let x:fk:=⟨t,next,ag,au,ag.map fun _=>false,au.map fun _=>false⟩
 if t.len=0 then(1,x) else if ke t ag au=false then(100,x) else if t.room 2<kU t.len then(90,x) else x.run (ag.length+au.length)
structure aX where
 bl:List (List Int)
 t:aE
 next:Nat
 ag:List Int
 au:List Int
 fresh:List (Option (List Int))
 eO:aN
 kept:aN
 slot:Nat
 broken:Bool
deriving DecidableEq
def aV:aN:=⟨0,0,List.replicate 8 0,List.replicate 8 0⟩
def qE (x:aN) (au:List Int):aN:={x with roots:=(List.range 2).map (fun i=>au.getD i 0)++x.roots.drop 2}
def bG (l:List Int) (i:Nat):List Int:=(l.drop (61*i)).take 61
def eS (bl:List (List Int)) (ws:List (Int×List Int)):List (List Int):=ws.foldl (fun bl w=>bl.set w.1.toNat w.2) bl
namespace aX
def len (s:aX):Nat:=s.t.len
def root (s:aX) (i:Nat):Int:=s.eO.roots.getD i 0
def may (s:aX):Int:=if s.broken then 111 else 0
def cM (s:aX) (i:Nat) (b:Int):Int×aX:=
 if s.broken then(111,s) else if i<2∨8≤i∨b≠0∧(b<2∨(s.len:Int)≤b) then(2,s) else(0,{s with eO:={s.eO with roots:=s.eO.roots.set i b}})
def ik (s:aX) (b:Nat):Bool:=(s.fresh.getD b none).isSome
def read (s:aX) (b:Nat):List Int:=(s.fresh.getD b none).getD (s.bl.getD b [])
def room (s:aX):Int:=max (s.t.room 2 - kU s.len) 0
def put (s:aX) (data:List Int):Int×Int×aX:=
 if s.broken then(0,111,s) else if data.length≠128 then(0,2,s) else if s.room=0 then(0,90,s)
 else
  let r:=s.t.take 2 s.next
  (r.1,r.2.1,{s with t:=r.2.2.1,next:=r.2.2.2,fresh:=s.fresh.set r.1.toNat (some data)})
def count (s:aX) (b:Nat) (up:Bool):Int×aX:=
 if s.broken then(111,s) else if b<2∨s.len≤b∨s.ag.contains (b:Int)∨s.au.contains (b:Int) then(2,s)
 else if s.t.get b=0 then(82,s)
 else
  let r:=if up then s.t.up b else s.t.down b
  (r.1,{s with t:=r.2,fresh:=if r.2.get b=0 then s.fresh.set b none else s.fresh})
end aX
section
variable {b : Nat}
theorem acG (p q:Nat→Bool) (b:Nat) (n:Nat) (bT:∀x,x≠b→p x=q x) (hb:b<n):
  ((List.range n).countP q:Int)=(List.range n).countP p - (if p b then 1 else 0)+(if q b then 1 else 0):=by
 induction n with
 |zero=>omega
 |succ n ih=>
  rw[List.range_succ,List.countP_append,List.countP_append];by_cases h:b<n
  ·have h1:=ih h;have h2:List.countP q [n]=List.countP p [n]:=by simp[List.countP_cons,bT n (by omega)]
   rw[h2]
   push_cast
   omega
  ·obtain rfl:b=n:=by omega
   have h1:List.countP q (List.range b)=List.countP p (List.range b):=List.countP_congr fun x hx=>by rw[bT x (by have:=Zm.1 hx;omega)]
   rw[h1]
   push_cast
   simp only[List.countP_cons,List.countP_nil];cases p b<;>cases q b<;>simp<;>omega
theorem mD (p:Nat→Bool) (n:Nat):(List.range n).countP p≤n:=by
 have:=List.countP_le_length (p:=p) (l:=List.range n);simpa using this
namespace aE
def pD (t:aE) (b:Nat):Bool:=decide (b<t.len)&&(t.get b==0)&& !(t.mE b==0)
structure Ok (t:aE):Prop where
 n0:1≤t.len
 n1:t.len≤4096
 J0:t.kept.length=t.len
 range:∀c∈t.counts,0≤c∧c≤65535
 ab4:∀c,some c∈t.kept→0≤c∧c≤65535
 cY:t.cY=(List.range t.len).countP t.free
 waits:t.waits=(List.range t.len).countP t.pD
variable {t : aE}
theorem Fk (hb:b<t.len):t.counts[b]? =some (t.get b):=by
 unfold get;rw[Qe,Qf hb];rfl
theorem ll (h:t.Ok) (b:Nat):0≤t.get b∧t.get b≤65535:=by
 by_cases hb:b<t.len
 ·have:=Qi (Fk hb);exact h.range _ this
 ·unfold get;rw[Qe,QQ (by unfold len at hb;omega)];exact⟨by decide,by decide⟩
theorem adY (h:t.Ok) (b:Nat):0≤t.mE b∧t.mE b≤65535:=by
 unfold mE;cases hk:t.kept.getD b none with
 |none=>exact ll h b
 |some c=>
  refine h.ab4 c ?_;rw[Qe] at hk;cases hg:t.kept[b]? with
  |none=>rw[hg] at hk;cases hk
  |some o=>rw[hg] at hk;simp at hk;subst hk;exact Qi hg
@[simp] theorem tU (b:Nat) (n:Int):(t.set b n).len=t.len:=by simp[set,len]
theorem VH (hb:b<t.len) (n:Int) (x:Nat):(t.set b n).get x=if x=b then n else t.get x:=by
 unfold get set;simp only;rw[Qe,List.getElem?_set];split
 ·rename_i h
  subst h;rw[Xo rfl,Xo (show b<t.counts.length from hb)];rfl
 ·rename_i h
  rw[Xd (fun e=>h e.symm),Qe]
theorem ajO (h:t.Ok) (hb:b<t.len) (n:Int) (x:Nat):(t.set b n).mE x=t.mE x:=by
 have hk:b<t.kept.length:=by rw[h.J0];exact hb
 unfold mE;rw[VH hb n x];show(((t.kept.set b _).getD x none).getD _)=_;rw[Qe,List.getElem?_set];by_cases hx:x=b
 ·subst hx;rw[Xo rfl,Xo hk,Xo rfl];simp only[Option.getD_some];by_cases hn:n=t.mE x
  ·rw[Xo hn];exact hn
  ·rw[Xd hn];rfl
 ·rw[Xd (fun e=>hx e.symm),Xd hx,Qe]
theorem ad0 (b:Nat) (n:Int):(t.set b n).cY=t.cY - (if 0<t.get b then 0 else if 0<t.mE b then 0 else 1)+(if 0<n then 0 else if 0<t.mE b then 0 else 1):=by
 unfold set Iy;simp only;split<;>split<;>(try split)<;>simp<;>omega
theorem adZ (b:Nat) (n:Int):(t.set b n).waits=t.waits - (if 0<t.get b then 0 else if 0<t.mE b then 1 else 0)+(if 0<n then 0 else if 0<t.mE b then 1 else 0):=by
 unfold set Iy;simp only;split<;>split<;>(try split)<;>simp<;>omega
theorem Ok.set (h:t.Ok) (hb:b<t.len) {n:Int} (h0:0≤n) (h1:n≤65535):(t.set b n).Ok:=by
 have g:=ll h b;have ws:=adY h b;refine⟨by rw[tU];exact h.n0,by rw[tU];exact h.n1,by simp[aE.set,len];exact h.J0,?_,?_,?_,?_⟩
 ·intro c hc;rcases Zz hc with h2|h2
  ·exact h.range c h2
  ·subst h2;exact⟨h0,h1⟩
 ·intro c hc;rcases Zz hc with h2|h2
  ·exact h.ab4 c h2
  ·split at h2
   ·cases h2
   ·cases h2;exact ws
 ·have hu:=acG t.free (t.set b n).free b t.len (fun x hx=>by unfold free;rw[tU,VH hb,ajO h hb,Xd hx]) hb
  rw[tU,hu,ad0,h.cY];have e1:t.free b=(decide (¬0<t.get b)&&decide (¬0<t.mE b)):=by unfold free;rw[Xa hb,Bool.true_and,XD];simp;omega
  have e2:(t.set b n).free b=(decide (¬0<n)&&decide (¬0<t.mE b)):=by unfold free;rw[tU,VH hb,ajO h hb,Xo rfl,Xa hb,Bool.true_and,XD];simp;omega
  rw[e1,e2];by_cases c1:0<t.get b<;>by_cases c2:0<t.mE b<;>by_cases c3:0<n<;>simp[c1,c2,c3]
 ·have hu:=acG t.pD (t.set b n).pD b t.len (fun x hx=>by unfold pD;rw[tU,VH hb,ajO h hb,Xd hx]) hb
  rw[tU,hu,adZ,h.waits];have e1:t.pD b=(decide (¬0<t.get b)&&decide (0<t.mE b)):=by unfold pD;rw[Xa hb,Bool.true_and,XD];simp;omega
  have e2:(t.set b n).pD b=(decide (¬0<n)&&decide (0<t.mE b)):=by unfold pD;rw[tU,VH hb,ajO h hb,Xo rfl,Xa hb,Bool.true_and,XD];simp;omega
  rw[e1,e2];by_cases c1:0<t.get b<;>by_cases c2:0<t.mE b<;>by_cases c3:0<n<;>simp[c1,c2,c3]
theorem Ok.frees_le (h:t.Ok):0≤t.cY∧t.cY≤4096:=by
 have:=mD t.free t.len;have:=h.n1;rw[h.cY];omega
theorem Ok.waits_le (h:t.Ok):0≤t.waits∧t.waits≤4096:=by
 have:=mD t.pD t.len;have:=h.n1;rw[h.waits];omega
theorem ab0 {n:Nat} (h0:1≤n) (h1:n≤4096):(aE.new n).Ok:=by
 have g:∀b,b<n→(aE.new n).get b=0:=fun b hb=>by unfold get new;simp[Qe,hb]
 have k:∀b,(aE.new n).kept.getD b none=none:=fun b=>by unfold new;simp only[Qe,Zr];split<;>rfl
 have ws:∀b,b<n→(aE.new n).mE b=0:=fun b hb=>by unfold mE;rw[k b,g b hb];rfl
 have e:(aE.new n).len=n:=by simp[new,len]
 refine⟨by rw[e];exact h0,by rw[e];exact h1,by simp[new,len],fun c hc=> ?_,fun c hc=> ?_,?_,?_⟩
 ·rw[QJ hc];exact⟨by decide,by decide⟩
 ·cases QJ hc
 ·rw[e];have:(List.range n).countP (aE.new n).free=(List.range n).length:=List.countP_eq_length.2 fun b hb=>by have hb:=Zm.1 hb;unfold free;rw[e,g b hb,ws b hb];simp[hb]
  rw[this,List.length_range];rfl
 ·rw[e];have:(List.range n).countP (aE.new n).pD=0:=List.countP_eq_zero.2 fun b hb=>by have hb:=Zm.1 hb;unfold pD;rw[e,g b hb,ws b hb];simp
  rw[this];rfl
end aE
end
end Go.Proofs.YthgdhacopamklaaGreat

/- What HashNone asks, part 36 of 41: parts of the walks and laws, each true as it stands. -/
import Derived.Test.YthgdhacopamklaaGreatTBI
set_option maxHeartbeats 16000000
set_option maxRecDepth 100000
set_option linter.unusedVariables false
set_option linter.unusedSimpArgs false
namespace Go.Proofs.YthgdhacopamklaaGreat
open Go.Proofs.Tryz
section
open Go.RowKit
attribute [local go_sem] Oper.semAt_some
variable {w : Wo} {b0 c g : Nat} {xs : List Int}
theorem Cz (w:Wo) (x:Int):
  Calls prog 211 #[.int .u32 x] w fun e w' =>e= .returned (.bool false)∧w=w' :=by
 go_enter func211,ntmps211;go_wp2_with fail;go_ret;exact⟨by simp,rfl⟩
theorem Lt (w:Wo) (x y:Int):
  Calls prog 207 #[.int .u32 x,.int .u32 y] w fun e w' =>e= .returned (.bool (decide (x<y)))∧w=w' :=by
 have Hx:=aa (Cz w x);have Hy:=aa (Cz w y);go_enter func207,ntmps207;go_wp2_with(first|(go_at_call 211;go_must(refine Hx.o.mono ?_);rintro e W2 ⟨rfl,rfl⟩)|(go_at_call 211;go_must(refine Hy.o.mono ?_);rintro e W2 ⟨rfl,rfl⟩));go_ret;exact⟨rfl,rfl⟩
def fX (w:Wo) (b0 g c:Nat) (xs:List Int):Prop:=aB w b0 23 .u32 (.slice (some ⟨g,0,none⟩) xs.length c) xs
theorem fX.set (h:fX w b0 g c xs) (i:Nat) (x:Int):fX (w.setCell ⟨g,i,none⟩ (.int .u32 x)) b0 g c (xs.set i x):=by
 unfold fX aB at h⊢;rw[Zy,List.map_set];exact tS h i _
theorem fX.cell (h:fX w b0 g c xs) {j:Nat} (hj:j<xs.length):w.cell? ⟨g,j,none⟩=some (.int .u32 (xs.getD j 0)):=by
 obtain⟨b,o,c',hv,-,-,-,hc⟩:=Ns.cells (aB.ns h) (QO (Qp j) hj);injection hv with h1 h2 h3
 injection h1 with h1
 injection h1 with h1 h2
 subst h1 h2;have:=hc j hj;rw[QR] at this;exact this
theorem zC {b i n:Nat} (hi:i≤b) (hb:b≤n) (hn:n≤100000):wrap64 ((i:Int)+1)=(i:Int)+1∧(0<i→wrap64 ((i:Int) - 1)=((i - 1:Nat):Int)):=by
 unfold wrap64;omega
theorem RG (w:Wo) (b0 g c:Nat) (xs:List Int) (h:fX w b0 g c xs) (hl:xs.length≤100000) (a b:Nat) (SQ:a≤b) (hb:b≤xs.length):
  Calls prog 201 #[.slice (some ⟨g,0,none⟩) xs.length c,.int .i64 a,.int .i64 b] w fun e w' =>(∃v,e= .returned v)∧∃ys,fX w' b0 g c ys∧ys.Perm xs∧qJ xs ys a b∧qI ys a b∧aG (fun x=>x=g) w w' :=by
 have H0:=kH h hl SQ hb;have nZ:=aa (zC SQ hb hl).1;have am4:=nZ.o;obtain⟨N,hN⟩:=eX xs.length;have HN:=aa hN;rw[←hN];clear h hl SQ hb hN;go_enter func201,ntmps201;go_wp2_with fail;clear am4;go_loopw [6] (fun iv wr=>∃(i:Nat) (ys:List Int),iv= .int .i64 i∧Af (Bt a b xs ys i∧fX wr b0 g c ys∧aG (fun x=>x=g) w wr)) (fun iv _=>b - (intOf iv).toNat)
 case atStart=>exact⟨a+1,xs,by rw[nZ.o];rfl,Bt.start a b,H0.o.1,aG.refl _ _⟩
 case round=>
  obtain⟨i,ys,rfl,HR⟩:=hrel;by_cases hi:i<b
  ·have hlen:=HR.o.1.wo.1;have HX:=kH hi (by rw[HN.o];exact H0.o.2.2.2:b≤N) (by rw[HN.o];exact H0.o.2.1:N≤100000) HR.o.1.ai;have HJ0:Af (wY a b i xs ys i∧fX wr b0 g c ys∧aG (fun x=>x=g) w wr):=⟨HR.o.1.inner hi,HR.o.2⟩;have ub:(i:Int)<b:=by omega
   have Hw:=aa (zC (QX hi) HX.o.2.1 HX.o.2.2.1).1;clear hi hlen HR;go_wp2_with fail;go_loopw [7] (fun jv W=>∃(j:Nat) (zs:List Int),jv= .int .i64 j∧Af (wY a b i xs zs j∧fX W b0 g c zs∧aG (fun x=>x=g) w W)) (fun jv _=>(intOf jv).toNat)
   case atStart=>exact⟨i,ys,rfl,HJ0.o⟩
   case round=>
    obtain⟨j,zs,rfl,HS⟩:=hrel;have JC:=HS.o.1.wo.1.trans HN.o.symm;by_cases hj:a<j
    ·have tC:j<zs.length:=by have:=HS.o.1.ji;have:=HX.o.1;have:=HX.o.2.1;omega
     have z0:=HS.o.2.1.cell tC;have z1:=HS.o.2.1.cell (j:=j - 1) (by omega);have hwj:=(zC (i:=j) (QX (QO HS.o.1.ji HX.o.1)) HX.o.2.1 HX.o.2.2.1).2 (by omega);obtain⟨x,hx⟩:=eX (zs.getD j 0);obtain⟨y,hy⟩:=eX (zs.getD (j - 1) 0);rw[←hx] at z0;rw[←hy] at z1;have HLs:Af (∀q,Calls prog 207 #[.int .u32 x,.int .u32 y] (wr.drewN q) fun e w' =>e= .returned (.bool (decide (x<y)))∧∃m,w' =wr.drewN m):=fun q=>Calls.quiet_of_same ((Lt (wr.drewN q) x y).mono fun e w' h=>⟨h.1,h.2.symm⟩)
     have dja:decide ((a:Int)<(j:Int))=true:=by simp;omega
     have i0:=Xh j;have iN:(j:Int)<N:=by omega
     have k0:(0:Int)≤((j - 1:Nat):Int):=Xh _;have kN:((j - 1:Nat):Int)<N:=by omega
     have hja:(a:Int)<j:=by omega
     obtain⟨J,hJ⟩:=eX (j - 1);rw[←hJ] at hwj z1 k0 kN;have HZ:Af (zs.length=N∧a<j∧x=zs.getD j 0∧y=zs.getD (j - 1) 0∧J=j - 1∧j<N):=⟨JC,hj,hx,hy,hJ,by rw[←JC];exact tC⟩;clear JC hj hx hy tC hJ;go_upto_region 4 with fail
     go_quiet ((go_at_call 207;with_reducible exact HLs.o _))
     obtain⟨W,hW⟩:=eX (wr.drewN nq);have bw:Below wr.heap.size wr W:=by rw[hW];exact below_drewN (Xj _ _) _
     rw[←hW];have j2:Af (wY a b i xs zs j∧fX W b0 g c zs∧aG (fun x=>x=g) w W):=⟨HS.o.1,aB.on HS.o.2.1 bw,HS.o.2.2.trans (aG.aZ bw)⟩;clear hW bw z0 z1 HS dja HLs;obtain⟨R,hR⟩:=eX (decide (x<y));rw[←hR];cases R with
     |true=>
      have z0:=j2.o.2.1.cell (j:=j) (by rw[HZ.o.1];exact HZ.o.2.2.2.2.2);have z1:=j2.o.2.1.cell (j:=J) (by rw[HZ.o.1,HZ.o.2.2.2.2.1];exact QO (Nat.sub_le _ _) HZ.o.2.2.2.2.2);rw[←HZ.o.2.2.1] at z0;rw[HZ.o.2.2.2.2.1,←HZ.o.2.2.2.1,←HZ.o.2.2.2.2.1] at z1;go_upto_region 6 with fail
      have f0:=jN j2.o.2.1 j;have f1:=jN j2.o.2.1 J;have hwk:IntKind.i64.wrap ((j:Int) - 1)=(J:Int):=by have h1:=HZ.o.2.2.2.2.1;have h2:=HZ.o.2.1;have h3:=HX.o.2.2.1;have h4:=HZ.o.2.2.2.2.2;simp only[IntKind.wrap,IntKind.bits,IntKind.signed];simp;omega
      have o2:=j2.o.2.1.set j y;have z2:(W.setCell ⟨g,j,none⟩ (.int .u32 y)).cell? ⟨g,J,none⟩=some (.int .u32 ((zs.set j y).getD J 0)):=o2.cell (by rw[Zy,HZ.o.1,HZ.o.2.2.2.2.1];exact QO (Nat.sub_le _ _) HZ.o.2.2.2.2.2);have f2:=jN o2 J;clear o2;have HR:=aa hR;clear hR;have Hwj:=aa hwj;go_region_law fail
      all_goals
       have o3:fX (((W.setCell ⟨g,j,none⟩ (.int .u32 y)).setCell ⟨g,J,none⟩ (.int .u32 x)).drew) b0 g c (jB zs j J):=by
        have o:=(j2.o.2.1.set j y).set J x;have e:(zs.set j y).set J x=jB zs j J:=by unfold jB;rw[←HZ.o.2.2.1,HZ.o.2.2.2.2.1,←HZ.o.2.2.2.1]
        rw[e] at o;exact aB.on o (below_drewN (Xj _ _) 1)
       have c3:aG (fun x=>x=g) w (((W.setCell ⟨g,j,none⟩ (.int .u32 y)).setCell ⟨g,J,none⟩ (.int .u32 x)).drew):=((j2.o.2.2.setCell (p:=⟨g,j,none⟩) (fun _=>rfl) _).setCell (p:=⟨g,J,none⟩) (fun _=>rfl) _).trans (aG.aZ (below_drewN (Xj _ _) 1));have i3:wY a b i xs (jB zs j J) J:=by
        have aJ:zs.getD j 0<zs.getD (j - 1) 0:=by rw[←HZ.o.2.2.1,←HZ.o.2.2.2.1];exact XQ HR.o.symm
        rw[HZ.o.2.2.2.2.1];exact j2.o.1.step HZ.o.2.1 aJ (by rw[HZ.o.1];exact HX.o.2.1)
       have H3:=aa (And.intro i3 (And.intro o3 c3));have hJj:J<j:=by rw[HZ.o.2.2.2.2.1];exact Nat.sub_lt (QO (Qp a) HZ.o.2.1) (XL 0)
       have HJj:=aa hJj;clear o3 c3 i3 z0 z1 z2 f0 f1 f2 hwk i0 iN k0 kN hja hJj;obtain⟨W3,cD⟩:=eX (((W.setCell ⟨g,j,none⟩ (.int .u32 y)).setCell ⟨g,J,none⟩ (.int .u32 x)).drew);rw[←cD] at H3⊢;clear cD;go_wp2_with fail;exact⟨⟨J,jB zs j J,by first|trivial|rfl|(rw[Hwj.o]),H3.o⟩,by first|simpa[intOf] using HJj.o|(rw[Hwj.o];simpa[intOf] using HJj.o)⟩
     |false=>
      have cO:Bt a b xs zs (i+1):=j2.o.1.stop (.inr (by rw[←HZ.o.2.2.1,←HZ.o.2.2.2.1];exact of_decide_eq_false hR.symm)) HX.o.2.2.2
      have H3:=aa (And.intro cO j2.o.2);have hw:=Hw.o;clear cO hR i0 iN k0 kN hja j2;go_wp2_with fail;exact⟨⟨i+1,zs,by first|rfl|(rw[Hw.o];rfl),H3.o⟩,by first|exact al HX.o.1|(rw[Hw.o];exact al HX.o.1)⟩
    ·have hja:=QE (QC hj) HS.o.1.aj;have dja:decide ((a:Int)<(j:Int))=false:=by simp;omega
     have cO:=HS.o.1.stop (.inl hja) HX.o.2.2.2;have H3:=aa (And.intro cO HS.o.2);have tC:¬(a:Int)<j:=by omega
     clear cO hja HS hj JC;go_upto_region 4 with fail
     go_quiet (fail)
     obtain⟨W,hW⟩:=eX (wr.drewN nq);have bw:Below wr.heap.size wr W:=by rw[hW];exact below_drewN (Xj _ _) _
     rw[←hW];have H4:=iJ H3.o.1 (aB.on H3.o.2.1 bw) (H3.o.2.2.trans (aG.aZ bw));have hw:=Hw.o;clear hW bw H3 dja tC;go_wp2_with fail;exact⟨⟨i+1,zs,by first|rfl|(rw[Hw.o];rfl),H4.o⟩,by first|exact al HX.o.1|(rw[Hw.o];exact al HX.o.1)⟩
  ·have ub:¬(i:Int)<b:=by omega
   have tt:qI ys a b:=fun p q h1 h2 h3=>HR.o.1.Et p q h1 h2 (by omega)
   have H4:=Ba HR.o.2.1 HR.o.1.perm HR.o.1.wo tt HR.o.2.2;clear tt HR hi;go_wp2_with fail;go_end0;exact⟨⟨_,rfl⟩,ys,H4.o⟩
end
section
open Go.RowKit
attribute [local go_sem] Oper.semAt_some
theorem CG (w:Wo):
  Calls prog 201 #[.slice none 0 0,.int .i64 0,.int .i64 0] w fun e w' =>(∃v,e= .returned v)∧w=w' :=by
 go_enter func201,ntmps201;go_wp2_with fail;go_loopw [6] (fun iv wr=>iv= .int .i64 1∧wr=w) (fun _ _=>0)
 case atStart=>exact⟨rfl,rfl⟩
 case round=>obtain⟨rfl,rfl⟩:=hrel;go_wp2_with fail;go_end0;exact⟨⟨_,rfl⟩,rfl⟩
theorem F7 (w:Wo) (v:Va) (n:Nat) (hn:n≤12) (k:Int) (R:Wo→Prop) (h:Calls prog 201 #[v,.int .i64 0,.int .i64 n] w fun e w' =>(∃v,e= .returned v)∧R w'):
  Calls prog 126 #[v,.int .i64 0,.int .i64 n,.int .i64 k] w fun e w' =>e= .returned (.tuple #[])∧R w' :=by
 have H:=aa h;have hw:IntKind.i64.wrap ((n:Int) - 0)=(n:Int):=by rw[XN];omega
 have fp:wrap64 ((n:Int) - 0)=(n:Int):=by unfold wrap64;omega
 have DZ:wrap64 (n:Int)=(n:Int):=by unfold wrap64;omega
 have yW:(n:Int)≤12:=by omega
 clear h hn;go_enter func126,ntmps126;go_wp2_with fail;go_loopw [1,2,8] (fun av bv cv wr=>av= .int .i64 0∧bv= .int .i64 n∧cv= .bool true∧wr=w) (fun _ _ _ _=>0)
 case atStart=>exact⟨rfl,rfl,rfl,rfl⟩
 case round=>
  obtain⟨rfl,rfl,rfl,rfl⟩:=hrel;go_wp2_with(go_at_call 201;go_must(refine H.o.mono ?_);rintro e W2 ⟨⟨v,rfl⟩,q2⟩;have Q2:=aa q2;clear q2)
  try rw[Qv]
  refine bodyPost_ret (results_none rfl _ _ _) rfl ?_;exact⟨rfl,Q2.o⟩
theorem nO (w:Wo) (v:Va) (n:Nat) (hn:n≤12) (hv:∃A c,v= .slice A n c) (R:Wo→Prop) (h:Calls prog 201 #[v,.int .i64 0,.int .i64 n] w fun e w' =>(∃v,e= .returned v)∧R w'):
  Calls prog 58 #[v] w fun e w' =>e= .returned (.tuple #[])∧R w' :=by
 obtain⟨A,c,rfl⟩:=hv;have HP:=aa (F7 w (.slice A n c) n hn (Lib.bitLen n:Nat) R h);have HL:Af (Calls prog 121 #[.int .u64 n] w fun e w' =>e= .returned (.int .i64 (Lib.bitLen n:Nat))∧w=w'):=(Tryz.bits_Len n w (Xh _) (by omega)).mono fun e w' h=>by rw[Xt] at h;exact⟨h.1,h.2.symm⟩
 have hu:IntKind.u64.wrap (n:Int)=(n:Int):=by simp only[IntKind.wrap,IntKind.bits,IntKind.signed];simp;omega
 clear h hn;go_enter func58,ntmps58;go_wp2_with(first|(go_at_call 121;go_must(refine HL.o.mono ?_);rintro e W2 ⟨rfl,rfl⟩)|(go_at_call 126;go_must(refine HP.o.mono ?_);rintro e W2 ⟨rfl,q2⟩;have Q2:=aa q2;clear q2));go_end0
 exact⟨rfl,Q2.o⟩
end
section
open Go.RowKit
attribute [local go_sem] Oper.semAt_some
variable {W W' w : Wo} {cb : Nat} {c4 : List Va} {ov sv : Va} {ps : List (ay × Va)} {xs : List Int}
theorem LA:(prog.info? 23).map (fun i=>(i.zero,i.size,i.bytes))=some (some (.int .u32 0),1,4):=by kernel_rfl
@[reducible] def NKu:NK .u32:=⟨53,23,4,underlying53,LA,by decide⟩
def gu (p:Int) (es:List aD):List Int:=(es.filter fun e=>e.print==p).map (·.block)
theorem KW (p:Int) (a b:List aD):gu p (a++b)=gu p a++gu p b:=by unfold gu;rw[List.filter_append,QL]
def uO (l:List ay):List aD:=l.flatMap (·.es)
structure uG (w:Wo) (cb:Nat) (c4:List Va) (sv:Va) (ps:List (ay×Va)) (ov:Va) (xs:List Int) (W:Wo):Prop where
 box:aq W cb 50 c4
 so:gj W w.heap.size sv ps
 own:aB W w.heap.size 23 .u32 ov xs
 low:Below w.heap.size w W
theorem uG.on (h:uG w cb c4 sv ps ov xs W) (hb:Below W.heap.size W W'):uG w cb c4 sv ps ov xs W' :=
 ⟨h.box.on hb,h.so.on hb,aB.on h.own hb,h.low.trans (hb.mono h.low.size)⟩
theorem yA {base g sz n:Nat} {t e:TypeId} {cs:List Va} {v:Va} {xs:List Va} (h:aq W g t cs) (JG:t≠e) (ho:W.ownsRow base e sz v n xs) (hg:W.grownBy W' v.ownBlock):aq W' g t cs:=by
 have bT:=h.not_row JG ho;exact h.aL (aG.dH (S:=fun b=>v.ownBlock=some b) hg (fun x _ e=>e)) (fun e=>bT e)
theorem uG.grown {ov' :Va} {VY :List Int} (h:uG w cb c4 sv ps ov xs W) (h2:aB W' w.heap.size 23 .u32 ov' VY) (h3:W.grownBy W' ov.ownBlock):uG w cb c4 sv ps ov' VY W' :=
 ⟨yA h.box (by decide) h.own h3,h.so.kept h.own (by decide) (by decide) h3,h2,h.low.grown h3 h.low.size (fun j e=>(pG h.own e).1)⟩
theorem Re (p:Int) (es:List aD):(gu p es).length≤es.length:=by
 unfold gu;rw[Qq];exact List.length_filter_le _ _
theorem Rc (p:Int) (e:aD):gu p [e]=if e.print=p then[e.block] else[]:=by
 unfold gu;rw[List.filter_cons];by_cases h:e.print=p
 ·rw[Xo (by simpa using h),Xo h];rfl
 ·rw[Xd (by simpa using h),Xd h];rfl
def kM (p:Int) (l:List ay) (k j:Nat):List Int:=gu p (uO (l.take k)++((l.drop k).headD ⟨0,0,[]⟩).es.take j)
theorem xM (p:Int) (l:List ay) (k:Nat):kM p l k 0=gu p (uO (l.take k)):=by unfold kM;rw[Zq,Zi]
theorem vR (l:List ay) (k:Nat) (s:ay) (h:l[k]? =some s):(l.drop k).headD ⟨0,0,[]⟩=s:=by
 rw[List.headD_eq_head?_getD,List.head?_drop,h];rfl
theorem Kp (p:Int) (l:List ay) (k j:Nat) (s:ay) (e:aD) (hs:l[k]? =some s) (he:s.es[j]? =some e):kM p l k (j+1)=if e.print=p then kM p l k j++[e.block] else kM p l k j:=by
 unfold kM;rw[vR l k s hs,aA s.es j e he,←QY,KW _ _ [e],Rc];split
 ·rfl
 ·rw[Zi]
theorem Kq (p:Int) (l:List ay) (k:Nat) (s:ay) (hs:l[k]? =some s):kM p l k s.es.length=kM p l (k+1) 0:=by
 rw[xM];unfold kM uO;rw[vR l k s hs,XU,aA l k s hs,QP,List.flatMap_singleton]
theorem PD (p:Int) (l:List ay) (k:Nat) (h:l.length≤k):kM p l k 0=gu p (uO l):=by rw[xM,Qj h]
theorem PC (p:Int) (l:List ay) (k j:Nat) (h:∀s∈l,s.es.length≤9) (hl:l.length≤4096) (hk:k≤l.length):(kM p l k j).length≤50000:=by
 refine Qh (Re _ _) ?_;have h1:∀m:List ay,(∀s∈m,s.es.length≤9)→(uO m).length≤9*m.length:=by
  intro m;induction m with
  |nil=>intro _;exact Qg _
  |cons a r ih=>
   intro hm;have:=ih fun s hs=>hm s (Qs _ hs)
   have h2:=hm a (Qm ..);unfold uO at this⊢;rw[QH,Qo,QF];omega
 have h2:=h1 (l.take k) fun s hs=>h s (Za hs)
 have h3:((l.drop k).headD ⟨0,0,[]⟩).es.length≤9:=by
  cases hd:l.drop k with
  |nil=>exact Qp _
  |cons a r=>exact h a (Q6 (by rw[hd];exact Qm ..))
 rw[Qo,Qu];rw[Qu] at h2;omega
theorem LR (w:Wo) (I:bF) (s:aX) (h:cR w I s) (dep:Nat) (ae:List (Nat×Int)) (at_:List Int) (cs:List ak) (hk:CK s dep ae at_ cs) (p:Int) (hp:bI p) (R:List Int→List Int→Prop) (c:ak) (kJ:Bf cs (p/2^56).toNat=some c)
  (ET:∀(W:Wo) (v:Va),aB W w.heap.size 23 .u32 v (gu p c.all)→Below w.heap.size w W→Calls prog 58 #[v] W fun e W' =>e= .returned (.tuple #[])∧∃ys,aB W' w.heap.size 23 .u32 v ys∧R (gu p c.all) ys∧Below w.heap.size w W'):
  Calls prog 15 #[.pointer (some ⟨I.b,0,none⟩),.int .u64 p] w fun r w' =>∃v ys,r= .returned (.tuple #[v,.int .i64 0])∧aB w' w.heap.size 23 .u32 v ys∧R (gu p c.all) ys∧Below w.heap.size w w' :=by
 obtain⟨j0,c0,hj,hit,ej⟩:=sX w I s h dep ae at_ cs hk.ok p hp;have oS:=Qi hj;have abh:=hk.ok.aaP.find oS hit;rw[kJ] at abh;obtain rfl:=Qr abh;have uo:=aa ej;have ahe:=aa ET;have hG:=hk.ch c oS;have HC:Af ((∀s∈c.ah,s.es.length≤9)∧c.ah.length≤4096):=⟨fun s hs=>(fZ (hG.ok.right s hs)).1,by rw[←hG.ok.len];exact Qh (fL cs c oS) hk.ok.many⟩
 have bm:c.all=uO c.ah:=rfl;rw[bm] at ahe⊢;clear h hk hp hj hit ej oS kJ abh ET hG bm;go_enter func15,ntmps15;go_upto_region 2 with(go_at_call 14;go_must(refine uo.o.mono ?_);rintro e W2 ⟨bv,sv,ps,rfl,bo,so,fc,b2⟩;obtain⟨Ab,nb,cb,rfl⟩:=bo.bu;obtain⟨As,ns,ks,rfl⟩:=so.form;have SO:=aa so;have EI:=aa fc;have B2:=aa b2;clear bo so fc b2)
 have b3:=aF W2 (.cells #[.int .i64 c.ax,.int .i64 c.depth,.slice Ab nb cb,.slice As ns ks] 50);have X3:=ar W2 [.int .i64 c.ax,.int .i64 c.depth,.slice Ab nb cb,.slice As ns ks] 50;obtain⟨W3,cD⟩:=eX (W2.alloc (.cells #[.int .i64 c.ax,.int .i64 c.depth,.slice Ab nb cb,.slice As ns ks] 50));obtain⟨xb,eD⟩:∃y,y=W2.heap.size:=⟨_,rfl⟩;rw[←cD] at b3⊢;have X3:aq W3 xb 50 [.int .i64 c.ax,.int .i64 c.depth,.slice Ab nb cb,.slice As ns ks]:=by rw[cD,eD];exact X3
 rw[←eD];have HXb:Af (w.heap.size≤xb):=by show _≤_;rw[eD];exact B2.o.size
 have rj:Af (uG w xb [.int .i64 c.ax,.int .i64 c.depth,.slice Ab nb cb,.slice As ns ks] (.slice As ns ks) ps (.slice none 0 0) (kM p c.ah 0 0) W3):=⟨X3,SO.o.on b3,cQ _ _ _ _,B2.o.trans (b3.mono B2.o.size)⟩;have pT:ns=ps.length:=by
  obtain⟨A',c',e'⟩:=SO.o.Wa.form;injection e'
 have MT:Af (ns=ps.length∧ps.length=c.ah.length∧ns≤4096):=by
  have h1:ps.length=c.ah.length:=by rw[←EI.o,Qq]
  exact⟨pT,h1,by rw[pT,h1];exact HC.o.2⟩
 have x3:=X3.cell (j:=3) rfl;clear cD eD b3 X3 pT uo;go_wp2_with fail;clear x3
 go_loopw [8,22] (fun ov iv wr=>∃k:Nat,iv= .int .i64 k∧Af (k≤ns∧uG w xb [.int .i64 c.ax,.int .i64 c.depth,.slice Ab nb cb,.slice As ns ks] (.slice As ns ks) ps ov (kM p c.ah k 0) wr)) (fun _ iv _=>ns - (intOf iv).toNat)
 case atStart=>exact⟨0,rfl,Qp _,rj.o⟩
 case round=>
  obtain⟨k,rfl,HR⟩:=hrel;obtain⟨Ao,no,co,rfl⟩:=HR.o.2.own.bu;by_cases hk:k<ns
  ·obtain⟨q,hq⟩:∃q,ps[k]? =some q:=⟨_,Qf (by rw[←MT.o.1];exact hk)⟩
   have hS:=HR.o.2.so.Wa;obtain⟨b,o,c',hv,hb,z0,z1,z2⟩:=hS.cells hq;obtain rfl:As=some ⟨b,o,none⟩:=by injection hv
   have eE:=HR.o.2.so.es q (Qi hq);obtain⟨Ae,ce,hU⟩:=eE.1.form;obtain⟨L,hL⟩:=eX q.1.es.length;rw[←hL] at hU;rw[hU] at z2;have JH:c.ah[k]? =some q.1:=by rw[←EI.o,Qt,hq];rfl
   obtain⟨d,hd⟩:=eX q.1.depth;obtain⟨nx,fu⟩:=eX q.1.next;rw[←hd] at z0;rw[←fu] at z1;obtain⟨W4,j7,Y4,b4⟩:=nW wr [.int .u8 d,.int .u32 nx,.slice Ae L ce] 92;obtain⟨rb,ft⟩:=eX wr.heap.size;rw[←ft] at Y4;have WR:=dK (HR.o.2.on b4) Y4;have t2:=Y4.cell (j:=2) rfl;have Hq:=Nv JH (Qi hq) hU hL (by rw[hL];exact HC.o.1 q.1 (Qi JH):L≤9) hk
   obtain⟨u1,u2,u3⟩:=bR hk MT.o.2.2 (by decide);have Hu1:=aa u1;have Bh:=dK j7.symm ft.symm;clear hb hS eE hU hL hq hd fu hk hv JH HR b4 Y4 u1 ft j7;go_upto_region 6 with fail
   rw[Bh.o.1,Bh.o.2];clear z0 z1 z2 Bh;go_wp2_with fail;clear t2
   go_loopw [8,29] (fun ov jv wr=>∃j:Nat,jv= .int .i64 j∧Af (j≤L∧uG w xb [.int .i64 c.ax,.int .i64 c.depth,.slice Ab nb cb,.slice (some ⟨b,o,none⟩) ns ks] (.slice (some ⟨b,o,none⟩) ns ks) ps ov (kM p c.ah k j) wr∧aq wr rb 92 [.int .u8 d,.int .u32 nx,.slice Ae L ce])) (fun _ jv _=>L - (intOf jv).toNat)
   case atStart=>exact⟨0,rfl,Qp _,WR.o⟩
   case round=>
    obtain⟨j,rfl,HI⟩:=hrel;obtain⟨Ao,no,co,rfl⟩:=HI.o.2.1.own.bu;by_cases hj:j<L
    ·have Iw:=(HI.o.2.1.so.Wa.es q Hq.o.2.1).1
     rw[Hq.o.2.2.1] at Iw;have Ef:j<q.1.es.length:=by rw[←Hq.o.2.2.2.1];exact hj
     obtain⟨be,oe,ce',hU,-,-,mG,Wz⟩:=Iw.cells (QO (Qp _) Ef);obtain rfl:Ae=some ⟨be,oe,none⟩:=by injection hU
     obtain⟨q0,q1⟩:=Wz j Ef;obtain⟨x,hx⟩:=eX (q.1.es[j]);rw[←hx] at q0 q1;have pf:q.1.es[j]? =some x:=by rw[hx];exact Qf Ef
     have hup:=Kp p c.ah k j q.1 x Hq.o.1 pf;have hul:=PC p c.ah k j HC.o.1 HC.o.2 (by rw[←MT.o.2.1,←MT.o.1];exact QX Hq.o.2.2.2.2.2)
     obtain⟨pr,gY⟩:=eX x.print;obtain⟨bk,ej⟩:=eX x.block;rw[←gY] at q0;rw[←ej] at q1;rw[←gY,←ej] at hup;obtain⟨W5,j6,Y5,b5⟩:=nW wr [.int .u64 pr,.int .u32 bk] 68;obtain⟨eb,mR⟩:=eX wr.heap.size;rw[←mR] at Y5;obtain⟨v0,v1⟩:=gh Y5;have zb:=dK j6.symm mR.symm;have HI5:=iJ (HI.o.2.1.on b5) (HI.o.2.2.on b5) hul;have Hup:=aa hup;obtain⟨u1,u4,u5⟩:=bR hj Hq.o.2.2.2.2.1 (by decide);have Huj:=aa u1;have Hj:=aa hj;clear Iw Ef hU mG Wz hx pf hup hul gY ej b5 Y5 mR j6 HI hj u1;go_upto_region 9 with fail
     rw[zb.o.1,zb.o.2];clear q0 q1 zb;by_cases hpp:pr=p
     ·have abx:Af (kM p c.ah k (j+1)=kM p c.ah k j++[bk]):=by show _=_;rw[Hup.o,Xo hpp]
      subst hpp;go_upto_region 10 with fail
      have b6:=aF W5 (.cells #[.int .u32 bk] 23);have X6:=aa (ar W5 [.int .u32 bk] 23);have H6:=dK (HI5.o.1.on b6) (HI5.o.2.1.on b6);have O6:=aa H6.o.1.own;have S6:=aa H6.o.1.low.size;have L6:=aa (Qh HI5.o.2.2 (show 50000≤100000 by decide));clear b6;go_wp2_with(at_builtin;(with_reducible refine wl_app1 NKu (os:= .tmp 37) (ox:= .tmp 40) w.heap.size _ _ O6.o W5.heap.size bk X6.o ?_ ?_ ?_ ?_ ?_);go_must((·exact L6.o);(·exact S6.o);(·rfl);(·rfl);intro v7 W7 o7 g7;obtain⟨A7,n7,c7,rfl⟩:=o7.bu;have O7:=aa (And.intro o7 g7);clear o7 g7))
      have HN:uG w xb [.int .i64 c.ax,.int .i64 c.depth,.slice Ab nb cb,.slice (some ⟨b,o,none⟩) ns ks] (.slice (some ⟨b,o,none⟩) ns ks) ps (.slice A7 n7 c7) (kM pr c.ah k (j+1)) W7∧aq W7 rb 92 [.int .u8 d,.int .u32 nx,.slice (some ⟨be,oe,none⟩) L ce]:=by
       rw[abx.o];exact⟨H6.o.1.grown O7.o.1 O7.o.2,yA H6.o.2 (by decide) O6.o O7.o.2⟩
      exact⟨⟨j+1,by first|rfl|(rw[Huj.o];rfl),Hj.o,HN⟩,by first|exact al Hj.o|(rw[Huj.o];exact al Hj.o)⟩
     ·have abx:Af (kM p c.ah k (j+1)=kM p c.ah k j):=by show _=_;rw[Hup.o,Xd hpp]
      have xy:=Xc hpp;have HN:=dK (by rw[abx.o];exact HI5.o.1:uG w xb [.int .i64 c.ax,.int .i64 c.depth,.slice Ab nb cb,.slice (some ⟨b,o,none⟩) ns ks] (.slice (some ⟨b,o,none⟩) ns ks) ps (.slice Ao no co) (kM p c.ah k (j+1)) W5) HI5.o.2.1
      clear hpp;go_wp2_with fail;exact⟨⟨j+1,by first|rfl|(rw[Huj.o];rfl),Hj.o,HN.o⟩,by first|exact al Hj.o|(rw[Huj.o];exact al Hj.o)⟩
    ·have TC:=QE HI.o.1 (QC hj)
     have cO:=HI.o.2.1;rw[TC,Hq.o.2.2.2.1,Kq p c.ah k q.1 Hq.o.1] at cO;have Te:=aa cO;have bj:=aa Hq.o.2.2.2.2.2;subst TC;clear HI hj cO;go_wp2_with fail;exact⟨⟨k+1,by first|rfl|(rw[Hu1.o];rfl),bj.o,Te.o⟩,by first|exact al bj.o|(rw[Hu1.o];exact al bj.o)⟩
  ·have cH:=QE HR.o.1 (QC hk)
   have cO:=HR.o.2;rw[cH,PD p c.ah ns (by rw[MT.o.1,MT.o.2.1];exact Qg _)] at cO
   have hs:=ahe.o wr (.slice Ao no co) cO.own cO.low;have HS:=aa hs;subst cH;clear HR hk cO hs;go_wp2_with(go_at_call 58;go_must(refine HS.o.mono ?_);rintro e W6 ⟨rfl,ys,o6,r6,b6⟩;have O6:=aa (And.intro o6 (And.intro r6 b6));clear o6 r6 b6)
   go_ret2;exact⟨_,ys,rfl,O6.o⟩
end
section
open Go.RowKit
attribute [local go_sem] Oper.semAt_some
variable {w : Wo} {v : Va}
theorem KJ (w:Wo):
  Calls prog 122 #[.agg #[.int .u8 0,.slice none 0 0]] w fun e w' =>e= .returned (.bool false)∧Below w.heap.size w w' :=by
 obtain⟨W0,aY,X0,-⟩:=nW w [.int .u8 0,.slice none 0 0] 133;have B0:Af (Below w.heap.size w W0):=by rw[aY];exact aF _ _
 have fD:=aa aY.symm;obtain⟨x0,x1⟩:=gh X0;clear aY X0;go_enter func122,ntmps122;go_upto_region 1 with fail
 rw[fD.o];go_step3;go_wp2_with fail
 try rw[Qv]
 go_ret;exact⟨rfl,B0.o⟩
def J6 (x:Int):Va:= .tuple #[.agg #[.int .u8 0,.slice none 0 0],.slice none 0 0,.int .i64 x]
theorem yL (w:Wo):∃W0 W1,w.alloc (.cells #[.int .u8 0,.slice none 0 0] 133)=W0∧W0.alloc (.cells #[.int .u8 0,.slice none 0 0] 133)=W1∧aq W1 w.heap.size 133 [.int .u8 0,.slice none 0 0]∧aq W1 W0.heap.size 133 [.int .u8 0,.slice none 0 0]∧Below w.heap.size w W1∧w.heap.size<W0.heap.size:=by
 have r0:aq (w.alloc (.cells #[.int .u8 0,.slice none 0 0] 133)) w.heap.size 133 [.int .u8 0,.slice none 0 0]:=ar w [_,_] _;have b0:Below w.heap.size w (w.alloc (.cells #[.int .u8 0,.slice none 0 0] 133)):=aF _ _;obtain⟨W0,aY⟩:=eX (w.alloc (.cells #[.int .u8 0,.slice none 0 0] 133));rw[←aY] at r0 b0;have b1:=aF W0 (.cells #[.int .u8 0,.slice none 0 0] 133);exact⟨W0,_,aY.symm,rfl,r0.on b1,ar W0 [_,_] _,b0.trans (b1.mono b0.size),r0.lt⟩
theorem P8 (w:Wo) (v:Va) (h:JQ w v) (hl:∀b,v= .pointer (some ⟨b,0,none⟩)→b<w.heap.size):
  Calls prog 55 #[v] w fun e w' =>e= .returned (J6 1)∧Below w.heap.size w w' :=by
 obtain⟨W0,W1,aY,aW,R1,D1,B1,aJ⟩:=yL w;have HB:=aa (vW W1 v (h.on hl B1));have hv:∃a,v= .pointer a:=by rcases h with rfl|⟨b,rfl,-⟩<;>exact⟨_,rfl⟩
 obtain⟨a,rfl⟩:=hv;obtain⟨db,iU⟩:=eX W0.heap.size;rw[←iU] at D1 aJ;have fD:=aa aY;have gB:=aa aW;have Bw:=aa iU.symm;obtain⟨r0,r1⟩:=gh R1;obtain⟨f0,f1⟩:=fR2 R1;obtain⟨d0,d1⟩:=gh D1;have HR:=aa R1;have HL:=aa B1;clear h hl aY aW iU aJ R1 D1 B1;go_enter func55,ntmps55;go_upto_region 1 with fail
 change Code.wp _ _ _ _ (w.alloc (.cells #[.int .u8 0,.slice none 0 0] 133));rw[fD.o];go_upto_region 2 with fail
 change Code.wp _ _ _ _ (W0.alloc (.cells #[.int .u8 0,.slice none 0 0] 133));rw[gB.o,Bw.o];clear fD gB Bw;go_wp2_with(go_at_call 60;go_must(refine HB.o.mono ?_);rintro e W2 ⟨rfl,rfl⟩)
 try rw[Qv]
 refine bodyPost_ret (jR rfl rfl (ve (OB HR.o _ _))) rfl ?_;exact⟨rfl,(HL.o.setCell (p:=⟨_,0,none⟩) (Qg _) _).setCell (p:=⟨_,1,none⟩) (Qg _) _⟩
theorem FV (w:Wo) (I:bF) (s:aX) (h:cR w I s) (h0:∀i,3≤i→i<8→s.root i=0):
  Calls prog 55 #[.pointer (some ⟨I.b,0,none⟩)] w fun e w' =>e= .returned (J6 180)∧Below w.heap.size w w' :=by
 obtain⟨W0,W1,aY,aW,R1,D1,B1,aJ⟩:=yL w;have HB:=aa (dI W1 I s (h.on B1));have n0:((s.t.len:Int)==0)=false:=Xc (by have:=h.n0;omega);have mn:Af (∀q:Nat,q<5→Calls prog 70 #[.pointer (some ⟨I.b,0,none⟩),.int .i64 (3+(q:Int))] W1 fun e w' =>e= .returned (.int .i64 0)∧W1=w'):=fun q hq=>by have h1:=ot W1 I s (h.on B1) (3+q) (by omega);rw[h0 (3+q) (by omega) (by omega)] at h1;exact h1
 obtain⟨db,iU⟩:=eX W0.heap.size;rw[←iU] at D1 aJ;have fD:=aa aY;have gB:=aa aW;have Bw:=aa iU.symm;have HR:=aa R1;have HD:=aa D1;have HL:=aa B1;have HRi:=aa (KJ W1);clear h h0 aY aW iU aJ R1 D1 B1;go_enter func55,ntmps55;go_upto_region 1 with fail
 change Code.wp _ _ _ _ (w.alloc (.cells #[.int .u8 0,.slice none 0 0] 133));rw[fD.o];go_upto_region 2 with fail
 change Code.wp _ _ _ _ (W0.alloc (.cells #[.int .u8 0,.slice none 0 0] 133));rw[gB.o,Bw.o];clear fD gB Bw;go_wp2_with(go_at_call 60;go_must(refine HB.o.mono ?_);rintro e W2 ⟨rfl,rfl⟩);clear n0 HB;go_loopw [7] (fun i wr=>∃q:Nat,i= .int .i64 (3+(q:Int))∧wr=W1∧Af (q≤5)) (fun i _=>8 - (intOf i).toNat)
 case atStart=>exact⟨0,rfl,rfl,by show 0≤5;decide⟩
 case round=>
  obtain⟨q,rfl,rfl,HS⟩:=hrel;by_cases hq:q<5
  ·obtain⟨i8,i0,nZ,hwq,hi8⟩:=Pg hq;have tI:=aa (mn.o q hq);have Hq:=aa hq;clear hq i0 hi8 HS;go_wp2_with(go_at_call 70;go_must(refine tI.o.mono ?_);rintro e W2 ⟨rfl,rfl⟩);exact⟨⟨q+1,by first|rfl|(rw[Int.natCast_add,←Int.add_assoc];rfl),by first|trivial|rfl,Hq.o⟩,zK Hq.o⟩
  ·have hq5:=QE HS.o (QC hq);subst hq5;rw[show(3:Int)+((5:Nat):Int)=8 from rfl];obtain⟨r0,r1⟩:=gh HR.o;obtain⟨f0,f1⟩:=fR2 HR.o;obtain⟨d0,d1⟩:=gh HD.o;clear hq HS;go_wp2_with(go_at_call 122;go_must(refine HRi.o.mono ?_);rintro e W3 ⟨rfl,b3⟩;have B3:=aa b3;have q0:=(HR.o.on b3).cell (j:=0) rfl;have q1:=(HR.o.on b3).cell (j:=1) rfl;have g0:=(HR.o.on b3).free 0;have g1:=(HR.o.on b3).free 1;clear b3)
   try rw[Qv]
   refine bodyPost_ret (jR rfl rfl (ve (OB (HR.o.on B3.o) _ _))) rfl ?_;have mO:=HL.o.trans (B3.o.mono HL.o.size);exact⟨rfl,(mO.setCell (p:=⟨_,0,none⟩) (Qg _) _).setCell (p:=⟨_,1,none⟩) (Qg _) _⟩
def qC (w:Wo) (v:Va) (x:Int):Prop:=∀W,Below w.heap.size w W→Calls prog 55 #[v] W fun e w' =>e= .returned (J6 x)∧Below W.heap.size W w'
theorem qC.on {w' :Wo} {x:Int} (h:qC w v x) (hb:Below w.heap.size w w'):qC w' v x:=fun W hW=>h W (hb.trans (hW.mono hb.size))
theorem P9 (h:JQ w v) (hl:∀b,v= .pointer (some ⟨b,0,none⟩)→b<w.heap.size):qC w v 1:=fun W hW=>P8 W v (h.on hl hW) fun b hb=>Qn (hl b hb) hW.size
theorem pK {I:bF} {s:aX} (h:cR w I s) (h0:∀i,3≤i→i<8→s.root i=0):qC w (.pointer (some ⟨I.b,0,none⟩)) 180:=fun W hW=>FV W I s (h.on hW) h0
theorem vl (w:Wo) (v:Va) (x:Int) (h:qC w v x) (hx:¬x=0):
  Calls prog 13 #[v] w fun e w' =>e= .returned (.tuple #[.slice none 0 0,.int .i64 x])∧Below w.heap.size w w' :=by
 have h1:=h w (Xj _ _);unfold J6 at h1;have H:=aa h1;clear h h1;go_enter func13,ntmps13;go_wp2_with(go_at_call 55;go_must(refine H.o.mono ?_);rintro e W2 ⟨rfl,b2⟩;have B2:=aa b2;clear b2)
 try rw[Qv]
 go_ret2;exact⟨rfl,B2.o.trans ((aF _ _).mono B2.o.size)⟩
theorem iF (w:Wo) (v:Va) (x:Int) (h:qC w v x) (hx:¬x=0) (p:Int):
  Calls prog 14 #[v,.int .u64 p] w fun e w' =>e= .returned (.tuple #[.agg #[.int .i64 0,.int .i64 0,.slice none 0 0,.slice none 0 0],.int .i64 x])∧Below w.heap.size w w' :=by
 obtain⟨W0,aY,R0,B0⟩:=nW w [.int .i64 0,.int .i64 0,.slice none 0 0,.slice none 0 0] 50;have h1:=h W0 B0;unfold J6 at h1;have H:=aa h1;clear h1;have tI:=aa R0;have mV:=aa B0;have fD:=aa aY.symm;clear h R0 B0 aY;go_enter func14,ntmps14;go_upto_region 1 with fail
 rw[fD.o];go_wp2_with(go_at_call 55;go_must(refine H.o.mono ?_);rintro e W2 ⟨rfl,b2⟩;have b3:=b2.trans ((aF W2 (.cells #[.int .u8 0,.slice none 0 0] 133)).mono b2.size);have r3:=tI.o.on b3;have r0:=r3.cell (j:=0) rfl;have r1:=r3.cell (j:=1) rfl;have r2:=r3.cell (j:=2) rfl;have r4:=r3.cell (j:=3) rfl;have f0:=r3.free 0;have f1:=r3.free 1;have f2:=r3.free 2;have f3:=r3.free 3;have R3:=aa r3;have B3:=aa (mV.o.trans (b3.mono mV.o.size));clear b2 b3 r3)
 try rw[Qv]
 refine bodyPost_ret (cG rfl rfl (eY (oW R3.o _ _ _ _))) rfl ?_;exact⟨rfl,(((B3.o.setCell (p:=⟨_,0,none⟩) (Qg _) _).setCell (p:=⟨_,1,none⟩) (Qg _) _).setCell (p:=⟨_,2,none⟩) (Qg _) _).setCell (p:=⟨_,3,none⟩) (Qg _) _⟩
end
section
open Go.RowKit
attribute [local go_sem] Oper.semAt_some
def OT (xs ys:List Int):Prop:=ys.Perm xs∧qI ys 0 ys.length
theorem abM (base:Nat) (W:Wo) (v:Va) (xs:List Int) (h:aB W base 23 .u32 v xs) (hl:xs.length≤12):
  Calls prog 58 #[v] W fun e W' =>e= .returned (.tuple #[])∧∃ys,aB W' base 23 .u32 v ys∧OT xs ys∧Below base W W' :=by
 rcases h.2 with⟨rfl,h0⟩|⟨g,cap,cur,rfl,hg,-⟩
 ·have hx:=List.length_eq_zero_iff.1 h0;subst hx;refine nO W (.slice none 0 0) 0 (by decide) ⟨_,_,rfl⟩ _ ((CG W).mono ?_);rintro e W' ⟨h1,rfl⟩;exact⟨h1,[],h,⟨List.Perm.refl _,fun p q h1 h2 h3=>by simp at h3⟩,Xj _ _⟩
 ·refine nO W _ xs.length hl ⟨_,_,rfl⟩ _ ((RG W base g cap xs h (by omega) 0 xs.length (Qp _) (Qg _)).mono ?_);rintro e W' ⟨h1,ys,h2,h3,h4,h5,h6⟩;have hlen:=h4.1;refine⟨h1,ys,by unfold fX at h2;rw[hlen] at h2;exact h2,⟨h3,by rw[hlen];exact h5⟩,h6.below (Qh hg (QX (pG h rfl).2)) fun x hx e=>absurd hg (Nat.not_le.2 (by rw[←e];exact hx))⟩
theorem rY (w:Wo) (v:Va) (x:Int) (h:qC w v x) (hx:¬x=0) (p:Int):
  Calls prog 15 #[v,.int .u64 p] w fun e w' =>e= .returned (.tuple #[.slice none 0 0,.int .i64 x])∧Below w.heap.size w w' :=by
 have H:=aa (iF w v x h hx p);have HS:Af (∀W:Wo,Calls prog 58 #[.slice none 0 0] W fun e W' =>e= .returned (.tuple #[])∧W=W'):=fun W=>nO W (.slice none 0 0) 0 (by decide) ⟨_,_,rfl⟩ (fun W' =>W=W') (CG W)
 clear h;go_enter func15,ntmps15;go_upto_region 2 with(go_at_call 14;go_must(refine H.o.mono ?_);rintro e W2 ⟨rfl,b2⟩;have B2:=aa b2;clear b2)
 obtain⟨W3,cD,X3,b3⟩:=nW W2 [.int .i64 0,.int .i64 0,.slice none 0 0,.slice none 0 0] 50;obtain⟨xb,eD⟩:=eX W2.heap.size;rw[←cD,←eD];rw[←eD] at X3;have x3:=X3.cell (j:=3) rfl;have HB:=aa (B2.o.trans (b3.mono B2.o.size));clear cD eD b3 X3;go_wp2_with fail;clear x3;go_loopw [8,22] (fun ov iv wr=>ov= .slice none 0 0∧iv= .int .i64 0∧wr=W3) (fun _ _ _=>0)
 case atStart=>exact⟨rfl,rfl,rfl⟩
 case round=>obtain⟨rfl,rfl,rfl⟩:=hrel;have hs:=HS.o wr;have dZ:=aa hs;clear hs;go_wp2_with(go_at_call 58;go_must(refine dZ.o.mono ?_);rintro e W6 ⟨rfl,rfl⟩);go_ret2;exact⟨rfl,HB.o⟩
theorem VX (w:Wo) (v:Va) (h:JQ w v) (p k:Int):
  Calls prog 16 #[v,.int .u64 p,.int .u32 k] w fun e w' =>e= .returned (.int .i64 1)∧Below w.heap.size w w' :=by
 have HM:=aa (zM w v h);clear h;go_enter func16,ntmps16;go_wp2_with(go_at_call 59;go_must(refine HM.o.mono ?_);rintro e W1 ⟨rfl,rfl⟩)
 try rw[Qv]
 go_ret;exact⟨rfl,Xj _ _⟩
theorem Mx (w:Wo) (I:bF) (s:aX) (h:cR w I s) (hb:s.broken=false) (h0:∀i,3≤i→i<8→s.root i=0) (p k:Int):
  Calls prog 16 #[.pointer (some ⟨I.b,0,none⟩),.int .u64 p,.int .u32 k] w fun e w' =>e= .returned (.int .i64 180)∧Below w.heap.size w w' :=by
 have HM:=aa (la w I s h hb);have HB:=aa (iF w _ 180 (pK h h0) (by decide) p);clear h hb h0;go_enter func16,ntmps16;go_wp2_with(first
  |(go_at_call 59;go_must(refine HM.o.mono ?_);rintro e W1 ⟨rfl,rfl⟩)
  |(go_at_call 14;go_must(refine HB.o.mono ?_);rintro e W2 ⟨rfl,b2⟩;have B2:=aa b2;clear b2))
 try rw[Qv]
 go_ret;exact⟨rfl,B2.o.trans ((aF _ _).mono B2.o.size)⟩
theorem PF (w:Wo) (v:Va) (h:JQ w v) (a b:Va):
  Calls prog 17 #[v,a,b] w fun e w' =>e= .returned (.int .i64 1)∧Below w.heap.size w w' :=by
 have HM:=aa (zM w v h);clear h;go_enter func17,ntmps17;go_wp2_with(go_at_call 59;go_must(refine HM.o.mono ?_);rintro e W1 ⟨rfl,rfl⟩)
 try rw[Qv]
 go_ret;exact⟨rfl,Xj _ _⟩
theorem Fy (w:Wo) (I:bF) (s:aX) (h:cR w I s) (hb:s.broken=false) (h0:∀i,3≤i→i<8→s.root i=0) (a b:Va):
  Calls prog 17 #[.pointer (some ⟨I.b,0,none⟩),a,b] w fun e w' =>e= .returned (.int .i64 180)∧Below w.heap.size w w' :=by
 have HM:=aa (la w I s h hb);have h1:=pK h h0 w (Xj _ _);unfold J6 at h1;have HB:=aa h1;clear h hb h0 h1;go_enter func17,ntmps17;go_wp2_with(first
  |(go_at_call 59;go_must(refine HM.o.mono ?_);rintro e W1 ⟨rfl,rfl⟩)
  |(go_at_call 55;go_must(refine HB.o.mono ?_);rintro e W2 ⟨rfl,b2⟩;have B2:=aa b2;clear b2))
 try rw[Qv]
 go_ret;exact⟨rfl,B2.o.trans ((aF _ _).mono B2.o.size)⟩
theorem CC (w:Wo) (v:Va) (h:JQ w v):
  Calls prog 18 #[v] w fun e w' =>e= .returned (.int .i64 1)∧Below w.heap.size w w' :=by
 have HM:=aa (zM w v h);clear h;go_enter func18,ntmps18;go_wp2_with(go_at_call 59;go_must(refine HM.o.mono ?_);rintro e W1 ⟨rfl,rfl⟩)
 try rw[Qv]
 go_ret;exact⟨rfl,Xj _ _⟩
theorem Dz (w:Wo) (I:bF) (s:aX) (h:cR w I s) (hb:s.broken=false) (h0:¬s.root 3=0):
  Calls prog 18 #[.pointer (some ⟨I.b,0,none⟩)] w fun e w' =>e= .returned (.int .i64 180)∧Below w.heap.size w w' :=by
 have HM:=aa (la w I s h hb);have tI:=ot w I s h 3 (by decide);obtain⟨r,hr⟩:=eX (s.root 3);rw[←hr] at tI h0;have HR:=aa tI;have ft:=Xc h0;clear h hb tI hr;go_enter func18,ntmps18;go_wp2_with(first
  |(go_at_call 59;go_must(refine HM.o.mono ?_);rintro e W1 ⟨rfl,rfl⟩)
  |(go_at_call 70;go_must(refine HR.o.mono ?_);rintro e W1 ⟨rfl,rfl⟩))
 try rw[Qv]
 go_ret;exact⟨rfl,Xj _ _⟩
theorem Lk (w:Wo):Calls prog 25 #[] w fun e w' =>e= .returned (.int .i64 15)∧w=w' :=by
 have h1:=dY w 256 (by decide) (by decide);rw[show aR 256=5 by decide] at h1;have H:=aa h1;clear h1;go_enter func25,ntmps25;go_wp2_with(go_at_call 36;go_must(refine H.o.mono ?_);rintro e W1 ⟨rfl,rfl⟩);go_ret;exact⟨rfl,rfl⟩
theorem CN (w:Wo) (d pl n:Nat) (hm:Yf n) (h:cF w d pl (List.replicate n iy)):
  Calls prog 11 #[.pointer (some ⟨d,0,none⟩)] w fun e w' =>e= .returned (.int .i64 0)∧cF w' d pl (Ei n)∧aG (DS d pl) w w' :=by
 have hf:=Gw w d pl _ h (by rw[QK];exact hm.ok);rw[QK] at hf;exact hf
theorem Ct (w:Wo) (d pl n:Nat) (h:cF w d pl (Ei n)) (hs:WM n):
  Calls prog 12 #[.pointer (some ⟨d,0,none⟩)] w fun e w' =>∃I,e= .returned (.tuple #[.pointer (some ⟨I.b,0,none⟩),.int .i64 0])∧cR w' I (Tl n)∧abu w d pl I∧Below w.heap.size w w' :=
 Ld w d pl (Ei n) h _ _ _ _ hs.opn
theorem tri {α β γ:Type} {x:α×β×γ} {b:β} (h:x.2.1=b):x=(x.1,b,x.2.2):=by rw[←h]
theorem CD (w:Wo) (I:bF) (n:Nat) (h:cR w I (Tl n)) (hm:MkD n):
  Calls prog 18 #[.pointer (some ⟨I.b,0,none⟩)] w fun e w' =>e= .returned (.int .i64 0)∧cR w' I (stB n)∧aG (BS I) w w' :=by
 obtain⟨m1,m2,m3,m4,m5,m6,m7⟩:=hm;have e1:=tri m3;have e2:=tri m4;have hb:(Tl n).broken=false:=by unfold Tl EP;rfl
 have h0:=m1 3 (by decide) (by decide);unfold stB;unfold Wc at e2 m6 m7⊢;generalize hx:mk1 n=x at*;generalize hy:x.2.2.put (encI 4 [x.1])=y at*;exact Lq w I (Tl n) h hb h0 m2 x.1 y.1 x.2.2 y.2.2 (hx.trans e1) (hy.trans e2) m5 m6 m7
theorem Jh {w:Wo} {d pl:Nat} {I:bF} (h:abu w d pl I) {B:Nat} (hB:B≤w.heap.size) (hd:B≤d) (hp:B≤pl):∀x,BS I x→B≤x:=by
 obtain⟨h1,h2,h3,h4,h5,h6,h7,h8⟩:=h;intro x hx;rcases hx with e|e|e|e|e|e|e|e<;>omega
theorem yT (w:Wo) (n:Nat) (h0:16≤n) (h1:n≤4096) (hs:Yf n∧WM n∧MkD n):
  Calls prog 20 #[.int .i64 n] w fun e w' =>∃I,e= .returned (.tuple #[.pointer (some ⟨I.b,0,none⟩),.bool true])∧cR w' I (stB n)∧(∀x,BS I x→w.heap.size≤x)∧Below w.heap.size w w' :=by
 have HN:=aa (Cx w n h0 h1);have HS:=aa hs;clear h0 h1 hs;go_enter func20,ntmps20;go_upto_region 2 with(go_at_call 10;go_must(refine HN.o.mono ?_);rintro e W1 ⟨d,pl,rfl,d1,hd,hp,b1⟩;have D1:=aa (And.intro d1 (And.intro hd (And.intro hp b1)));clear d1 hd hp b1)
 have HF:=aa (CN W1 d pl n HS.o.1 D1.o.1);clear HN;go_upto_region 4 with(go_at_call 11;go_must(refine HF.o.mono ?_);rintro e W2 ⟨rfl,d2,c2⟩;have D2:=aa (And.intro d2 c2);clear d2 c2)
 have HO:=aa (Ct W2 d pl n D2.o.1 HS.o.2.1);clear HF;go_upto_region 5 with(go_at_call 12;go_must(refine HO.o.mono ?_);rintro e W3 ⟨I,rfl,h3,n3,b3⟩;have H3:=aa (And.intro h3 (And.intro n3 b3));clear h3 n3 b3)
 have HM:=aa (CD W3 I n H3.o.1 HS.o.2.2);clear HO;go_wp2_with(go_at_call 18;go_must(refine HM.o.mono ?_);rintro e W4 ⟨rfl,h4,c4⟩;have H4:=aa (And.intro h4 c4);clear h4 c4)
 try rw[Qv]
 go_ret2;have NB:=D2.o.2.below D1.o.2.2.2.size (fun x hx e=>by rcases e with e|e<;>(rw[e] at hx;have:=D1.o.2.1;have:=D1.o.2.2.1;omega))
 have zj:=Jh H3.o.2.1 (B:=w.heap.size) (Qh D1.o.2.2.2.size NB.size) D1.o.2.1 D1.o.2.2.1;have EF:=(D1.o.2.2.2.trans NB).trans (H3.o.2.2.mono (Qh D1.o.2.2.2.size NB.size));have WK:=H4.o.2.below EF.size (fun x hx e=>absurd (zj x e) (Nat.not_le.2 hx));exact⟨I,rfl,H4.o.1,zj,EF.trans WK⟩
theorem KE (w:Wo) (va vb:Va) (xs:List Int) (ha:Ns w w.heap.size .u32 va xs) (hb:Ns w w.heap.size .u32 vb xs) (hl:xs.length≤1000):
  Calls prog 27 #[va,vb] w fun e w' =>e= .returned (.bool true)∧Below w.heap.size w w' :=by
 obtain⟨Aa,ca,rfl,-,-⟩:=ha.form;obtain⟨Ab,cb,rfl,-,-⟩:=hb.form;obtain⟨n,hn⟩:=eX xs.length;have HA:=kH (by rw[hn];exact ha:Ns w w.heap.size .u32 (.slice Aa n ca) xs) (by rw[hn];exact hb:Ns w w.heap.size .u32 (.slice Ab n cb) xs) hn (by omega:n≤1000);rw[←hn];clear ha hb hl hn;go_enter func27,ntmps27;go_wp2_with fail;go_loopw [13] (fun iv wr=>∃k:Nat,iv= .int .i64 k∧Af (k≤n∧Below w.heap.size w wr)) (fun iv _=>n - (intOf iv).toNat)
 case atStart=>exact⟨0,rfl,Qp _,Xj _ _⟩
 case round=>
  obtain⟨k,rfl,HR⟩:=hrel;by_cases hk:k<n
  ·have si:k<xs.length:=by rw[←HA.o.2.2.1];exact hk
   obtain⟨b1,o1,c1,hv1,-,-,ME,jb⟩:=HA.o.1.cells (QO (Qp _) si);obtain⟨b2,o2,c2,AO,-,-,rf,pk⟩:=HA.o.2.1.cells (QO (Qp _) si);obtain rfl:Aa=some ⟨b1,o1,none⟩:=by injection hv1
   obtain rfl:Ab=some ⟨b2,o2,none⟩:=by injection AO
   obtain⟨x,hx⟩:=eX (xs.getD k 0);have z1:=jb k si;have z2:=pk k si;rw[←hx] at z1 z2;have y1:=(HR.o.2.cell (p:=⟨b1,o1+k,none⟩) ME).trans z1;have y2:=(HR.o.2.cell (p:=⟨b2,o2+k,none⟩) rf).trans z2;have k0:=Xh k;have kn:(k:Int)<n:=by omega
   have HL:=aa HR.o.2;obtain⟨u1,u2,u3⟩:=bR hk HA.o.2.2.2 (by decide);have Hu:=aa u1;have Hk:=aa hk;clear hv1 AO ME rf jb pk z1 z2 hx si HR hk u1;go_upto_region 6 with fail
   go_quiet (fail)
   obtain⟨W,hW⟩:=eX (wr.drewN nq);have bw:Below wr.heap.size wr W:=by rw[hW];exact below_drewN (Xj _ _) _
   rw[←hW];have HL2:=aa (HL.o.trans (bw.mono HL.o.size));clear hW bw y1 y2;go_wp2_with fail;exact⟨⟨k+1,by first|rfl|(rw[Hu.o];rfl),Hk.o,HL2.o⟩,by first|exact al Hk.o|(rw[Hu.o];exact al Hk.o)⟩
  ·have cH:=QE HR.o.1 (QC hk);subst cH;have HL:=aa HR.o.2;clear HR hk;go_wp2_with fail
   try rw[Qv]
   go_ret;exact⟨rfl,HL.o⟩
theorem Kx {l:List Int} (h:qI l 0 l.length):l.Pairwise (·≤·):=by
 rw[List.pairwise_iff_getElem];intro i j hi hj wJ;have:=h i j (Qp _) wJ hj;rw[Qe,Qe,Qf hi,Qf hj] at this;exact this
theorem Vc {xs ys ws:List Int} (h:OT xs ys) (hp:ws.Perm xs) (hw:ws.Pairwise (·≤·)):ys=ws:=
 List.Perm.eq_of_pairwise (fun a b _ _ h1 h2=>by omega) (Kx h.2) hw (h.1.trans hp.symm)
theorem Gv (w:Wo) (I:bF) (s:aX) (h:cR w I s) (dep:Nat) (ae:List (Nat×Int)) (at_:List Int) (cs:List ak) (hk:CK s dep ae at_ cs) (p:Int) (hp:bI p) (c:ak) (kJ:Bf cs (p/2^56).toNat=some c)
  (hl:(gu p c.all).length≤12) (v:Va) (ws:List Int) (hv:Ns w w.heap.size .u32 v ws) (hw:ws.Perm (gu p c.all)) (hs:ws.Pairwise (·≤·)):
  Calls prog 75 #[.pointer (some ⟨I.b,0,none⟩),.int .u64 p,v] w fun e w' =>e= .returned (.bool true)∧Below w.heap.size w w' :=by
 have HF:=aa (LR w I s h dep ae at_ cs hk p hp OT c kJ fun W u hu hW=>(abM w.heap.size W u _ hu hl).mono fun e W' ⟨h1,ys,h2,h3,h4⟩=>⟨h1,ys,h2,h3,hW.trans h4⟩);have HV:=kH hv (by rw[hw.length_eq];omega:ws.length≤1000) hw hs
 obtain⟨Av,cv,rfl,-,-⟩:=hv.form;have HN:=aa HV.o.2.1;obtain⟨n,hn⟩:=eX ws.length;rw[←hn] at HV⊢;clear h hk hp kJ hl hw hs hv hn;go_enter func75,ntmps75;go_upto_region 2 with(go_at_call 15;go_must(refine HF.o.mono ?_);rintro e W2 ⟨u,ys,rfl,o2,r2,b2⟩;obtain⟨Au,nu,cu,rfl⟩:=o2.bu;have O2:=aa (And.intro o2 (And.intro r2 b2));clear o2 r2 b2)
 have he:=Vc O2.o.2.1 HV.o.2.2.1 HV.o.2.2.2;have hS:=KE W2 (.slice Au nu cu) (.slice Av n cv) ws (by rw[←he];exact O2.o.1.ns) (dU HV.o.1 O2.o.2.2) HN.o
 have HS:=aa hS;clear he hS;go_wp2_with(go_at_call 27;go_must(refine HS.o.mono ?_);rintro e W3 ⟨rfl,b3⟩;have B3:=aa b3;clear b3)
 go_ret;exact⟨rfl,O2.o.2.2.trans (B3.o.mono O2.o.2.2.size)⟩
end
def MO (k:Nat):aD:=⟨(k:Int)*1152921504606846976,5⟩
def TR (k:Nat):aD:=⟨7,(k:Int)+1⟩
def Pb (c:ak):Nat×Nat×List (List aD):=(c.ax,c.depth,c.ah.map (·.es))
def iS (cs:List ak):List (Nat×Nat×List (List aD)):=cs.map Pb
def MN (x:Bool) (k:Nat):aD:=if x then TR k else MO k
def wF (x:Bool):Nat→aX
 |0=>stB 200
 |k+1=>(UQ (wF x k) (Fa (wF x k)) (wS (wF x k)) (atX (wF x k)) (TT (wF x k)) (MN x k)).2
def shX (x:Bool) (k:Nat):List (Nat×Nat×List (List aD)):=
 if k≤9 then[(0,0,[(List.range k).map (MN x)])] else if x then[(0,0,[[TR 9],(List.range 9).map TR])] else[(0,1,[(List.range 8).map MO]),(128,1,[[MO 8,MO 9]])]
def zA (s:aX) (e:aD):Prop:=match Bf (TT s) (bz e) with|none=>False|some c=>e∈c.all
instance (s:aX) (e:aD):Decidable (zA s e):=by unfold zA;split<;>infer_instance
def BV (x:Bool) (k:Nat) (s:aX):Prop:=CkD s (Fa s) (wS s) (atX s) (TT s)∧s.t.len=200∧iS (TT s)=shX x k∧¬s.root 3=0∧(0<k→zA s (MN x (k - 1)))
instance (x:Bool) (k:Nat) (s:aX):Decidable (BV x k s):=by unfold BV;infer_instance
def BR (s:aX) (e:aD):Prop:=Kj s (Fa s) (wS s) (atX s) (TT s) e∧(UQ s (Fa s) (wS s) (atX s) (TT s) e).1=0
instance (s:aX) (e:aD):Decidable (BR s e):=by unfold BR;infer_instance
theorem Yo:Yf 200∧WM 200∧MkD 200:=by decide+kernel
theorem Uw:Yf 16∧WM 16∧MkD 16:=by decide+kernel
theorem ant:∀k,k<11→BV false k (wF false k)∧(k<10→BR (wF false k) (MO k)):=by decide+kernel
theorem ans:∀k,k<11→BV true k (wF true k)∧(k<10→BR (wF true k) (TR k)):=by decide+kernel
end Go.Proofs.YthgdhacopamklaaGreat

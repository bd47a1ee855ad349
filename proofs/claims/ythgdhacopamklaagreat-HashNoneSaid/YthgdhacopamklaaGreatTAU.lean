/- What HashNone asks, part 21 of 41: parts of the walks and laws, each true as it stands. -/
import Derived.Test.YthgdhacopamklaaGreatTAT
set_option maxHeartbeats 16000000
set_option maxRecDepth 100000
set_option linter.unusedVariables false
set_option linter.unusedSimpArgs false
namespace Go.Proofs.YthgdhacopamklaaGreat
open Go.Proofs.Tryz
section
open Go.RowKit
attribute [local go_sem] Oper.semAt_some
variable {dep : Nat}
structure MU (s:aX) (dep:Nat) (ae:List (Nat×Int)) (at_:List Int) (cs:List ak):Prop where
 dir:BW s dep ae at_
 len:cs.length=ae.length
 ch:∀(j:Nat) (sg:Nat×Int) (c:ak),ae[j]? =some sg→cs[j]? =some c→JA s c∧dz c=true∧c.blocks.getD 0 0=sg.2∧c.ax=aC ae j*2^(8 - dep)∧∃e,e≤dep∧sg.1=2^e∧c.depth=dep - e
 nd:(cs.flatMap (·.blocks)).Nodup
 many:(cs.flatMap (·.blocks)).length≤4096
theorem fL:∀(cs:List ak) (c:ak),c∈cs→c.blocks.length≤(cs.flatMap (·.blocks)).length
 |[],_,h=>by cases h
 |a::r,c,h=>by
  rw[QH,Qo];rcases QA.1 h with rfl|h
  ·exact XM _ _
  ·exact Qh (fL r c h) (Nat.le_add_left _ _)
theorem MU.at_seg {s:aX} {ae:List (Nat×Int)} {at_:List Int} {cs:List ak} (h:MU s dep ae at_ cs) {j:Nat} {sg:Nat×Int} (hj:ae[j]? =some sg):∃c,cs[j]? =some c:=
 ⟨_,Qf (by rw[h.len];exact(Ql.1 hj).1)⟩
theorem CF {e x i n:Nat} (he:e≤dep) (hd:dep≤8) (hx:x%2^e=0) (hi:i<2^e) (hn:n/2^(8 - dep)=x+i):bY (x*2^(8 - dep)) (dep - e) n=true:=by
 rw[lE,show 8 - (dep - e)=8 - dep+e by omega,Nat.pow_add,←Nat.div_div_eq_div_mul,←Nat.div_div_eq_div_mul,hn,Nat.mul_div_cancel _ (Nat.pow_pos (by decide))];obtain⟨q,hq⟩:=Nat.dvd_of_mod_eq_zero hx;rw[hq,Nat.mul_div_cancel_left _ (Nat.pow_pos (by decide)),Nat.mul_add_div (Nat.pow_pos (by decide)),Nat.div_eq_of_lt hi];rfl
theorem FE {p:Int} (hp:bI p) (hd:dep≤8):∃n:Nat,p/2^(64 - dep)=(n:Int)∧n<2^dep∧(p/2^56).toNat/2^(8 - dep)=n:=by
 obtain⟨k,hk⟩:∃k:Nat,p=k:=⟨p.toNat,(Xp hp.1).symm⟩;have aJ:k<2^64:=by have:=hp.2;rw[hk] at this;omega
 refine⟨k/2^(64 - dep),by rw[hk,show((2:Int)^(64 - dep))=((2^(64 - dep):Nat):Int) from(Int.natCast_pow 2 _).symm,←Int.natCast_ediv],?_,?_⟩
 ·refine(Nat.div_lt_iff_lt_mul (Nat.pow_pos (by decide))).2 ?_;rw[←Nat.pow_add,show dep+(64 - dep)=64 by omega];exact aJ
 ·rw[hk,show(2:Int)^56=((2^56:Nat):Int) by decide,←Int.natCast_ediv,Xt,Nat.div_div_eq_div_mul,←Nat.pow_add,show 56+(8 - dep)=64 - dep by omega]
def ChR (w:Wo) (c:ak) (e:Ending) (w' :Wo):Prop:=
 ∃bv sv ps,e= .returned (.tuple #[.agg #[.int .i64 c.ax,.int .i64 c.depth,bv,sv],.int .i64 0])∧aB w' w.heap.size 3 .i64 bv c.blocks∧gj w' w.heap.size sv ps∧ps.map Prod.fst=c.ah∧Below w.heap.size w w'
theorem nR (w:Wo) (I:bF) (s:aX) (h:cR w I s) (dep:Nat) (ae:List (Nat×Int)) (at_:List Int) (cs:List ak) (hk:MU s dep ae at_ cs) (dv:Va) (ue:Ns w w.heap.size .u16 dv (expand ae)) (j i:Nat) (sg:Nat×Int) (c:ak) (hj:ae[j]? =some sg) (hc:cs[j]? =some c) (hi:i<sg.1):
  Calls prog 56 #[.pointer (some ⟨I.b,0,none⟩),.agg #[.int .u8 dep,dv],.int .i64 (aC ae j+i:Nat)] w (ChR w c):=by
 obtain⟨h1,h2,h3,h4,e,h5,h6,h7⟩:=hk.ch j sg c hj hc;exact GZ w I s h dep ae hk.dir.oH dv ue j i e sg hj hi h6 c h1 h4 h7 h3 h2 (by rw[←h1.len];exact Qh (fL cs c (Qi hc)) hk.many)
theorem gj.low {w:Wo} {b b' :Nat} {v:Va} {ps:List (ay×Va)} (h:gj w b v ps) (hb:b'≤b):gj w b' v ps:=⟨fB h.row hb,fun p hp=>⟨fB (h.es p hp).1 hb,(h.es p hp).2⟩⟩
theorem sX (w:Wo) (I:bF) (s:aX) (h:cR w I s) (dep:Nat) (ae:List (Nat×Int)) (at_:List Int) (cs:List ak) (hk:MU s dep ae at_ cs) (p:Int) (hp:bI p):
  ∃(j:Nat) (c:ak),cs[j]? =some c∧bY c.ax c.depth (p/2^56).toNat=true∧Calls prog 14 #[.pointer (some ⟨I.b,0,none⟩),.int .u64 p] w (ChR w c):=by
 obtain⟨n,n1,n2,n3⟩:=FE hp hk.dir.oH.d8;obtain⟨j,sg,i,hj,hi,Wp⟩:=lo ae n (by rw[hk.dir.oH.sum];exact n2);obtain⟨c,hc⟩:=hk.at_seg hj;obtain⟨-,-,-,h4,e,h5,h6,h7⟩:=hk.ch j sg c hj hc;refine⟨j,c,hc,?_,?_⟩
 ·rw[h4,h7];obtain⟨e',-,g2,g3⟩:=hk.dir.oH.two j sg hj;refine CF h5 hk.dir.oH.d8 (by rw[←h6];exact g3) (by rw[←h6];exact hi) (n3.trans Wp)
 ·have Td:=aa (oz w I s h dep ae at_ hk.dir);have HK:=aa hk;have Ye:Af (∀(W:Wo) v,Ns W W.heap.size .u16 v (expand ae)→Calls prog 57 #[.agg #[.int .u8 dep,v],.int .u64 p] W fun e w' =>e= .returned (.tuple #[.int .i64 (aC ae j+i:Nat),.int .i64 0])∧Below W.heap.size W w'):=fun W v hv=>by have h8:=VU W dep ae hk.dir.oH v hv p hp;rw[n1,Wp] at h8;exact h8
  have Ep:Af (∀(W:Wo) v,cR W I s→Ns W W.heap.size .u16 v (expand ae)→Calls prog 56 #[.pointer (some ⟨I.b,0,none⟩),.agg #[.int .u8 dep,v],.int .i64 (aC ae j+i:Nat)] W (ChR W c)):=fun W v hB hv=>nR W I s hB dep ae at_ cs hk v hv j i sg c hj hc hi
  have H:=aa h;obtain⟨q,hq⟩:=eX (aC ae j+i);rw[←hq] at Ye Ep;obtain⟨W0,aY,R0,B0⟩:=nW w [.int .i64 0,.int .i64 0,.slice none 0 0,.slice none 0 0] 50;have tI:=aa R0;have mV:=aa B0;have fD:=aa aY.symm;have anZ:=aa (oz W0 I s (h.on B0) dep ae at_ hk.dir);clear h hk n1 n2 n3 hj hi Wp hc h4 h5 h6 h7 hq aY R0 B0 Td;go_enter func14,ntmps14;go_upto_region 1 with fail
  rw[fD.o];go_upto_region 2 with(go_at_call 55;go_must(refine anZ.o.mono ?_);rintro e W2 ⟨dv,av,rfl,d2,a2,b2⟩;obtain⟨Ad,nd,cd,rfl⟩:=d2.bu;obtain⟨Aa,na,ca,rfl⟩:=a2.bu;have D2:=aa d2;have B2:=aa b2;clear d2 a2 b2)
  obtain⟨W3,cD,X3,b3⟩:=nW W2 [.int .u8 dep,.slice Ad nd cd] 133;obtain⟨db,iU⟩:=eX W2.heap.size;rw[←cD];rw[←iU] at X3⊢;obtain⟨x0,x1⟩:=gh X3;have Em:=aa X3;have py:=aa (mV.o.trans ((B2.o.trans (b3.mono B2.o.size)).mono mV.o.size));have R3:=aa (tI.o.on (B2.o.trans (b3.mono B2.o.size)));have D3:=aa ((aB.on D2.o b3).ns);have HA3:=aa (Ye.o W3 _ D3.o);clear cD iU b3 X3 Ye;go_upto_region 5 with(go_at_call 57;go_must(refine HA3.o.mono ?_);rintro e W4 ⟨rfl,b4⟩;have B4:=aa b4;have y0:=(Em.o.on b4).cell (j:=0) rfl;have y1:=(Em.o.on b4).cell (j:=1) rfl;clear b4)
  have Ut:=aa (py.o.trans (B4.o.mono py.o.size));have R4:=aa (R3.o.on B4.o);have D4:=Sl.more (Sl.below D3.o B4.o) B4.o.size;have HC4:=aa (Ep.o W4 _ (H.o.on Ut.o) D4);clear x0 x1 D4 Ep HA3;go_wp2_with(go_at_call 56;go_must(refine HC4.o.mono ?_);rintro e W5 ⟨bv,sv,ps,rfl,bo5,so5,ps5,b5⟩;obtain⟨Ab,nb,cb,rfl⟩:=bo5.bu;obtain⟨As,ns,ks,rfl⟩:=so5.form;have r5:=R4.o.on b5;have r0:=r5.cell (j:=0) rfl;have r1:=r5.cell (j:=1) rfl;have r2:=r5.cell (j:=2) rfl;have r3:=r5.cell (j:=3) rfl;have f0:=r5.free 0;have f1:=r5.free 1;have f2:=r5.free 2;have f3:=r5.free 3;have R5:=aa r5;have BO5:=aa bo5;have SO5:=aa so5;have PS5:=aa ps5;have B5:=aa (Ut.o.trans (b5.mono Ut.o.size));clear bo5 so5 ps5 b5 r5);refine bodyPost_ret (cG rfl rfl (eY (oW R5.o _ _ _ _))) rfl ?_;have k7:=lO R5.o BO5.o SO5.o B5.o (Qg _) (.int .i64 c.ax) (.int .i64 c.depth) (.slice Ab nb cb) (.slice As ns ks);exact⟨_,_,ps,rfl,k7.1.low Ut.o.size,k7.2.1.low Ut.o.size,PS5.o,k7.2.2⟩
end
section
open Go.RowKit
open Go.Maps (Keyed)
variable {w' : Wo} {b' base mb s : Nat} {v : Va} {K V : Type} {M : MK K V} {f : K → Option V}
def kb (l:List Int):Int→Option Int:=fun e=>if e∈l then some 1 else none
theorem Le (l:List Int) (e:Int):eM (kb l) e 1=kb (l++[e]):=by
 funext z
 unfold eM kb;by_cases h:z=e<;>simp[h]
theorem Lf:kb []=fun _=>none:=by
 funext z
 simp[kb]
structure tL where
 c:ak
 bv:Va
 sv:Va
 ps:List (ay×Va)
def wX (m:tL):List Va:=[.int .i64 m.c.ax,.int .i64 m.c.depth,m.bv,m.sv]
structure rl (w:Wo) (base:Nat) (m:tL):Prop where
 b:aB w base 3 .i64 m.bv m.c.blocks
 s:gj w base m.sv m.ps
 p:m.ps.map Prod.fst=m.c.ah
theorem rl.on {w:Wo} {m:tL} (h:rl w base m) (hb:Below w.heap.size w w'):rl w' base m:=⟨aB.on h.b hb,h.s.on hb,h.p⟩
theorem rl.low {w:Wo} {b:Nat} {m:tL} (h:rl w b m) (hb:b'≤b):rl w b' m:=⟨h.b.low hb,h.s.low hb,h.p⟩
theorem rl.row {w:Wo} {m:tL} {e' s' n' :Nat} {v' :Va} {VY :List Va} (h:rl w base m) (k:w.ownsRow b' e' s' v' n' VY) (h0:3≠e') (h1:92≠e') (h2:68≠e') (hg:w.grownBy w' v'.ownBlock):rl w' base m:=
 ⟨World.ownsRow.kept h.b hg (iT h.b k h0),h.s.kept k h1 h2 hg,h.p⟩
theorem tQ {w:Wo} {n sz:Nat} {e:TypeId} {xs:List Va} [DecidableEq K] (h:w.ownsRow base e sz v n xs) (hm:MG M w mb f s) (hg:w.grownBy w' (some mb)):w'.ownsRow base e sz v n xs:=
 World.ownsRow.kept h hg (.inr (kj hm h))
theorem rl.map {w:Wo} {m:tL} [DecidableEq K] (h:rl w base m) (hm:MG M w mb f s) (hg:w.grownBy w' (some mb)):rl w' base m:=
 ⟨tQ h.b hm hg,⟨tQ h.s.row hm hg,fun p hp=>⟨tQ (h.s.es p hp).1 hm hg,(h.s.es p hp).2⟩⟩,h.p⟩
theorem rl.chn {w:Wo} {m:tL} (h:rl w base m):Uq w w.heap.size (.agg #[.int .i64 m.c.ax,.int .i64 m.c.depth,m.bv,m.sv]) m.c:=⟨_,_,_,rfl,h.b.ns,h.s.Wa,h.p⟩
structure jA (w:Wo) (base:Nat) (v:Va) (ms:List tL):Prop where
 row:w.ownsRow base 50 4 v ms.length (ms.flatMap wX)
 all:∀m∈ms,rl w base m
theorem Rl (w:Wo) (base:Nat):jA w base (.slice none 0 0) []:=⟨World.ownsRow_nil _ _ _ _,fun p hp=>by cases hp⟩
theorem jA.on {w:Wo} {ms:List tL} (h:jA w base v ms) (hb:Below w.heap.size w w'):jA w' base v ms:=⟨aS h.row hb,fun m hm=>(h.all m hm).on hb⟩
theorem jA.map {w:Wo} {ms:List tL} [DecidableEq K] (h:jA w base v ms) (hm:MG M w mb f s) (hg:w.grownBy w' (some mb)):jA w' base v ms:=⟨tQ h.row hm hg,fun m xA=>(h.all m xA).map hm hg⟩
theorem jA.form {w:Wo} {ms:List tL} (h:jA w base v ms):∃A n c,v= .slice A n c:=by
 rcases h.row.2 with⟨rfl,_⟩|⟨g,cap,cur,rfl,_⟩<;>exact⟨_,_,_,rfl⟩
theorem Yu:(prog.info? 50).map (fun i=>(i.zero,i.size,i.bytes))=some (some (.agg #[.int .i64 0,.int .i64 0,.slice none 0 0,.slice none 0 0]),4,64):=by kernel_rfl
theorem Sh {w:Wo} {m:tL} (h:rl w base m):∀u∈wX m,u.oneCell' =true:=by
 obtain⟨A,n,c,hv⟩:=aB.bu h.b;obtain⟨A2,n2,c2,AO⟩:=h.s.form;intro u hu;simp[wX] at hu;rcases hu with rfl|rfl|rfl|rfl
 ·rfl
 ·rfl
 ·rw[hv];rfl
 ·rw[AO];rfl
theorem PX (w:Wo) (base:Nat) (v:Va) (ms:List tL) (h:jA w base v ms) (g:Nat) (m:tL) (hx:aq w g 50 (wX m)) (hp:rl w base m) (hl:ms.length≤10000) (hb:base≤w.heap.size) (ty:TypeId):
  ∃v' w',(Builtin.append_ #[45,45] ty #[v,.slice (some ⟨g,0,none⟩) 1 1]).run prog w= .ok v' w'∧jA w' base v' (ms++[m])∧w.grownBy w' v.ownBlock∧(v'.ownBlock=v.ownBlock∨v'.ownBlock=some w.heap.size):=by
 obtain⟨v',w',h1,h2,h3,h4⟩:=cy (P:=prog) w base 45 ty 50 _ 4 64 underlying45 Yu rfl (by decide) v ms.length _ h.row (B:=w.heap.size) (.slice (some ⟨g,0,none⟩) 1 1) 1 (wX m)
  (hx.sl (o:=0) (n:=1) (sz:=4) (c:=1) (by simp[wX]) (Qg _) (by unfold maxLen;decide)) (Sh hp) (by unfold maxLen;omega) (by omega) hb
 refine⟨v',w',h1,⟨?_,fun q hq=> ?_⟩,h3,h4⟩
 ·rw[Qo,QP];simpa using h2
 ·rcases Qz.1 hq with hq|hq
  ·exact(h.all q hq).row h.row (by decide) (by decide) (by decide) h3
  ·rw[Qx] at hq;subst hq;exact hp.row h.row (by decide) (by decide) (by decide) h3
section
variable {P : Program} {ops : Array Oper} {w : Wo} {Q : Exit → Act → Wo → Prop} {a : Act} {rest : List Oper} {dst : Option Tmp} {os ox : Operand} {ty t : TypeId} {pos : String} {after : Array Edge}
theorem wl_append_run {vx:Va} {R:Va→Wo→Prop} (h:∃v' w',(Builtin.append_ #[t,t] ty #[v,vx]).run P w= .ok v' w'∧R v' w') (hs:a.eval os=v) (hx:a.eval ox=vx)
  (hK:∀v' w',R v' w'→wpList P ops Q rest (a.put dst v') w'):
  wpList P ops Q (⟨dst,.call {callee:= .builtin .append,args:= #[os,ox],argTypes:= #[t,t]},ty,pos,after,none⟩::rest) a w:=by
 refine wpList_plain rfl fun K' hK' => ?_
 obtain⟨v',w',iq,hR⟩:=h;unfold Oper.wp;simp[execOp,resolve,invoke,builtin,hs,hx,iq,Result.andThen];exact hK' _ _ (hK v' w' hR)
end
end
section
open Go.RowKit
attribute [local go_sem] Oper.semAt_some
variable {w : Wo} {v : Va} {ps : List (ay × Va)} {B : Nat}
def kP (w:Wo) (base:Nat) (v:Va) (ps:List (ay×Va)):Prop:=w.ownsRow base 92 3 v ps.length (ps.flatMap fV)
theorem kP.form {base:Nat} (h:kP w base v ps):∃A n c,v= .slice A n c:=by
 rcases h.2 with⟨rfl,_⟩|⟨g,cap,cur,rfl,_⟩<;>exact⟨_,_,_,rfl⟩
theorem Ck (w:Wo) (base:Nat):kP w base (.slice none 0 0) []:=World.ownsRow_nil _ _ _ _
theorem ab9:∃i,prog.info? 92=some i∧i.zero=some (.agg #[.int .u8 0,.int .u32 0,.slice none 0 0])∧i.size=3∧i.bytes=32:=by
 obtain⟨i0,hi,oI,mM,xw⟩:=info_parts OH;exact⟨i0,hi,oI,mM,xw⟩
theorem LF (w:Wo) (n:Nat) (hn:n≤1000000):
  Calls prog 246 #[.slice none 0 0,.int .i64 n] w fun e w' =>∃v',e= .returned v'∧kP w' w.heap.size v' []∧Below w.heap.size w w' :=by
 by_cases h0:n=0
 ·subst h0;go_enter func246,ntmps246;go_wp2_with fail;go_ret;exact⟨_,rfl,Ck _ _,Xj _ _⟩
 ·have Bu:Af (∀ty,(Builtin.append_ #[48,3] ty #[.slice none 0 0,.int .i64 n]).run prog w= .ok (.slice (some ⟨w.heap.size,0,none⟩) n (grownCap w n 0 92)) (w.drew.alloc (.cells (Builtin.zeroCells #[.int .u8 0,.int .u32 0,.slice none 0 0] n++Builtin.zeroCells #[.int .u8 0,.int .u32 0,.slice none 0 0] (grownCap w n 0 92 - n)) 92))):=by intro ty;obtain⟨i,hi,hz,hs,hb⟩:=ab9;exact Lib.run_append_nil_zeros w 48 3 ty 92 i _ .i64 .i64 underlying48 underlying3 hi hz n (by omega) (by omega) (by omega) (by rw[hb];omega)
  have pj:n≤grownCap w n 0 92:=grownCap_ge _ _ _ _;have hle:=aa (grownCap_le_maxLen w n 0 92 (by unfold maxLen;omega));generalize AB:grownCap w n 0 92=cc at*;clear AB;have nZ:IntKind.i64.wrap (n:Int)=(n:Int):=by rw[XN];omega
  go_enter func246,ntmps246;go_wp2_with(at_builtin;refine Lib.wpList_append_run _ rfl _ _ _ _ rfl _ _ rfl rfl _ _ (Bu.o _) ?_);go_ret;refine⟨_,rfl,⟨rfl,.inr ⟨_,cc,_,rfl,Qg _,heap_alloc_new w.drew _,Qp _,hle.o,?_,rfl⟩⟩,below_drewN ((Xj _ _).alloc (Qg _) _) 1⟩;simp[size_zeroCells];omega
def SsL (w:Wo) (v:Va) (ls:List (Va×List (ay×Va))):Prop:=Sl w w.heap.size 1 v ls.length (ls.map Prod.fst)∧∀p∈ls,mP w w.heap.size p.1 p.2
def jx (ls:List (Va×List (ay×Va))):Nat:=(ls.flatMap Prod.snd).length
theorem yt (ls:List (Va×List (ay×Va))) (k:Nat) (p:Va×List (ay×Va)) (h:ls[k]? =some p):jx (ls.take (k+1))=jx (ls.take k)+p.2.length:=by
 unfold jx;rw[aA ls k p h,QP,Qo];simp
theorem Jj (ls:List (Va×List (ay×Va))) (k:Nat):jx (ls.take k)≤jx ls:=by
 unfold jx
 conv=>rhs;rw[←XW k ls,QP,Qo]
 exact XM _ _
theorem Dj (h:mP w B v ps):∀u∈ps.flatMap fV,u.oneCell' =true:=by
 intro u hu;obtain⟨p,hp,hu⟩:=QT.1 hu;obtain⟨A,c,hv,-,-⟩:=(h.es p hp).1.1.form;simp[fV] at hu;rcases hu with rfl|rfl|rfl
 ·rfl
 ·rfl
 ·rw[hv];rfl
theorem mP.form (h:mP w B v ps):∃A c,v= .slice A ps.length c:=by
 obtain⟨A,c,hv,-,-⟩:=h.sl.form;exact⟨A,c,hv⟩
theorem KG (w:Wo) (base:Nat) (v:Va) (ps:List (ay×Va)) (h:kP w base v ps) (vx:Va) (qs:List (ay×Va)) (hx:mP w B vx qs) (hl:ps.length+qs.length≤1000000) (hb:base≤w.heap.size) (ty:TypeId):
  ∃v' w',(Builtin.append_ #[48,48] ty #[v,vx]).run prog w= .ok v' w'∧kP w' base v' (ps++qs)∧w.grownBy w' v.ownBlock:=by
 obtain⟨v',w',h1,h2,h3,-⟩:=cy (P:=prog) w base 48 ty 92 _ 3 32 underlying48 OH rfl (by decide) v ps.length _ h vx qs.length _ hx.sl (Dj hx) (by unfold maxLen;omega) (by omega) hb;refine⟨v',w',h1,?_,h3⟩;unfold kP;rw[Qo,QP];exact h2
theorem DP (w:Wo) (v:Va) (ls:List (Va×List (ay×Va))) (h:SsL w v ls) (hl:ls.length≤10000) (ht:jx ls≤100000):
  Calls prog 212 #[v] w fun e w' =>∃v',e= .returned v'∧kP w' w.heap.size v' (ls.flatMap Prod.snd)∧Below w.heap.size w w' :=by
 obtain⟨A,c,rfl,jb,pk⟩:=Sl.form h.1;obtain⟨n,hn⟩:∃n,n=ls.length:=⟨_,rfl⟩;have H:=aa h;have Hn:Af (n=ls.length∧n≤10000∧jx ls≤100000):=⟨hn,by omega,ht⟩;rw[←hn];clear h hl hn jb pk ht;go_enter func212,ntmps212;go_wp2_with fail;go_loop [11,3] (fun i s=>∃k:Nat,k≤n∧i= .int .i64 k∧s= .int .i64 (jx (ls.take k))) (fun i _=>n - (intOf i).toNat)
 case atStart=>exact⟨0,Qp _,rfl,rfl⟩
 case round=>
  obtain⟨k,hk,rfl,rfl⟩:=hrel;by_cases aJ:k<n
  ·have bQ:k<ls.length:=by have:=Hn.o;omega
   obtain⟨b,o,c',hv,-,-,dL⟩:=H.o.1.row (by omega);cases hv
   obtain⟨p,hp⟩:∃p,p=ls[k]:=⟨_,rfl⟩;have qZ:ls[k]? =some p:=by rw[hp];exact Qf bQ
   obtain⟨Ap,cp,pY⟩:=(H.o.2 p (Qi qZ)).form;obtain⟨pv,pl⟩:=p;have wT:pv= .slice Ap pl.length cp:=pY;subst wT;have y0:w.cell? ⟨b,o+k,none⟩=some (.slice Ap pl.length cp):=dL.2 k _ (by rw[Qt,qZ];rfl);have uz:jx (ls.take (k+1))=jx (ls.take k)+pl.length:=yt ls k _ qZ;have hle:=Jj ls (k+1);have abz:=aa uz;have mW:=Hn.o.2.2;have fp:wrap64 ((k:Int)+1)=(k:Int)+1:=by unfold wrap64;have:=Hn.o;omega
   have DZ:wrap64 ((jx (ls.take k):Int)+pl.length)=(jx (ls.take (k+1)):Int):=by unfold wrap64;omega
   have aa1:¬((jx (ls.take (k+1)):Nat):Int)<0:=by omega
   have bj:=aa aJ;have eu:=aa fp;have hi:(k:Int)<n:=by omega
   have ml:(0:Int)≤k:=by omega
   have H1:Af (∃s1,s1=jx (ls.take (k+1))):=⟨_,rfl⟩;obtain⟨s1,Ip⟩:=H1.o;rw[←Ip] at DZ aa1;have Hs1:=aa Ip;generalize jx (ls.take k)=s0 at*;clear hp qZ pY dL uz hle aJ bQ hk mW Ip abz H1;go_wp2_with fail;go_round
   case rel=>exact⟨k+1,bj.o,by first|rfl|(rw[eu.o];rfl),by rw[←Hs1.o,DZ]⟩
   case measure=>first|exact al bj.o|(rw[eu.o];exact al bj.o)
  ·have cH:k=n:=by omega
   subst cH;have e1:ls.take k=ls:=Qj (by have:=Hn.o;omega);rw[e1];have HG:=aa (LF w (jx ls) (by have:=Hn.o;omega));have Ht:=aa Hn.o.2.2;obtain⟨tot,mW⟩:∃t,t=jx ls:=⟨_,rfl⟩;rw[←mW] at HG Ht⊢;have aby:Af (jx ls=tot):=mW.symm;clear mW;have hi:¬(k:Int)<k:=by omega
   clear e1 aJ hk;go_wp2_with(go_at_call 246;go_must(refine HG.o.mono ?_);rintro e W2 ⟨v2,rfl,o2,b2⟩;have O2:=aa o2;have B2:=aa b2;clear o2 b2);clear HG;have HtL:Af (∀j,jx (ls.take j)≤tot):=fun j=>Qh (Jj ls j) (Xg (aby.o))
   go_loopw [27,6] (fun i v wr=>∃j:Nat,i= .int .i64 j∧Af (j≤k∧kP wr w.heap.size v ((ls.take j).flatMap Prod.snd)∧Below w.heap.size w wr)) (fun i _ _=>k - (intOf i).toNat)
   case atStart=>exact⟨0,rfl,Qp _,O2.o,B2.o⟩
   case round=>
    obtain⟨j,rfl,HR⟩:=hrel;obtain⟨A0,n0,c0,Ew⟩:=HR.o.2.1.form;subst Ew;by_cases aJ:j<k
    ·have bQ:j<ls.length:=by have:=Hn.o;omega
     obtain⟨b,o,c',hv,-,-,dL⟩:=H.o.1.row (by omega);cases hv
     obtain⟨p,hp⟩:∃p,p=ls[j]:=⟨_,rfl⟩;have qZ:ls[j]? =some p:=by rw[hp];exact Qf bQ
     have Iq:=H.o.2 p (Qi qZ);obtain⟨Ap,cp,pY⟩:=Iq.form;obtain⟨pv,pl⟩:=p;have wT:pv= .slice Ap pl.length cp:=pY;subst wT;have y0:wr.cell? ⟨b,o+j,none⟩=some (.slice Ap pl.length cp):=(HR.o.2.2.cell (p:=⟨b,o+j,none⟩) dL.1).trans (dL.2 j _ (by rw[Qt,qZ];rfl));have fp:wrap64 ((j:Int)+1)=(j:Int)+1:=by unfold wrap64;have:=Hn.o;omega
     have hlen:((ls.take j).flatMap Prod.snd).length+pl.length≤1000000:=by have h1:jx (ls.take (j+1))=jx (ls.take j)+pl.length:=yt ls j _ qZ;have h2:=HtL.o (j+1);have h3:=Ht.o;show jx (ls.take j)+_≤_;omega
     have Ir:(ls.take (j+1)).flatMap Prod.snd=(ls.take j).flatMap Prod.snd++pl:=by rw[aA ls j _ qZ,QP];simp
     have lD:=aa hlen;have Hfl:=aa Ir;have tJ:=aa HR.o.2.1;have IB:=aa (mP.below Iq HR.o.2.2);have rk:=aa HR.o.2.2;have bj:=aa aJ;have eu:=aa fp;have Ni:(j:Int)<k:=by omega
     have ml:(0:Int)≤j:=by omega
     clear hp qZ Iq pY dL bQ aJ hlen Ir HR;have Up:=aa (KG wr w.heap.size _ _ tJ.o _ _ IB.o lD.o rk.o.size 48);go_wp2_with(at_builtin;(with_reducible refine wl_append_run (os:= .tmp 31) (ox:= .tmp 32) Up.o ?_ ?_ ?_);go_must((·rfl);(·rfl);intro v' w' pt;have JW:=aa pt.1;have px:=aa (rk.o.grown pt.2 rk.o.size (fun j e=>(Xr tJ.o j e).1));clear pt Ni ml));go_roundw
     case rel=>refine⟨j+1,by first|rfl|(rw[eu.o];rfl),bj.o,?_,px.o⟩;rw[Hfl.o];exact JW.o
     case measure=>first|exact al bj.o|(rw[eu.o];exact al bj.o)
    ·have hjk:j=k:=by have:=HR.o.1;omega
     have Ni:¬(j:Int)<k:=by omega
     have e1:ls.take j=ls:=Qj (by have:=Hn.o;omega);have fF:=aa HR.o.2;rw[e1] at fF;clear e1 HR hjk aJ hi;go_wp2_with fail;go_ret;exact⟨_,rfl,fF.o.1,fF.o.2⟩
end
section
open Go.RowKit
attribute [local go_sem] Oper.semAt_some
structure abw (w:Wo) (xb rb:Nat) (c4 sc:List Va) (A:Bool) (N:Nat) (r:List ay) (es:List aD) (j:Nat) (wr:Wo):Prop where
 le:j≤es.length
 rest:A=((es.drop j).all (fun a=>bz a==N)&&(r.flatMap (·.es)).all (fun a=>bz a==N))
 box:aq wr xb 50 c4
 OA:aq wr rb 92 sc
 low:Below w.heap.size w wr
structure abv (w:Wo) (xb:Nat) (c4:List Va) (A:Bool) (N:Nat) (ss:List ay) (k:Nat) (wr:Wo):Prop where
 le:k≤ss.length
 rest:A=((ss.drop k).flatMap (·.es)).all (fun a=>bz a==N)
 box:aq wr xb 50 c4
 low:Below w.heap.size w wr
theorem bR {k n m:Nat} (h:k<n) (hn:n≤m) (hm:m≤100000):wrap64 ((k:Int)+1)=(k:Int)+1∧(0:Int)≤k∧(k:Int)<n:=by
 unfold wrap64;omega
theorem wa (w:Wo) (c:ak) (v:Va) (h:Uq w w.heap.size v c) (cC:c.ah.length≤4096) (p:Int) (hp:bI p) (hu:∀e∈c.all,bI e.print):
  Calls prog 138 #[v,.int .u64 p] w fun e w' =>e= .returned (.bool (c.all.all fun a=>bz a==(p/2^56).toNat))∧Below w.heap.size w w' :=by
 obtain⟨bv,sv,ps,rfl,hb,hs,fc⟩:=h.ex;obtain⟨Ab,cb,rfl,-,-⟩:=hb.form;obtain⟨As,cs,rfl,-,-⟩:=hs.sl.form;obtain⟨n,j5⟩:=eX ps.length;have oc:c.ah.length=n:=by rw[j5,←fc,Qq]
 obtain⟨nb,gZ⟩:=eX c.blocks.length;rw[oc] at cC;rw[←j5,←gZ];obtain⟨N,hN⟩:∃N:Nat,p/2^56=(N:Int):=⟨(p/2^56).toNat,(Xp (gQ hp).1).symm⟩;have hNT:(p/2^56).toNat=N:=by rw[hN];exact Xt N
 rw[hNT];have HBp:Af (∀W,Calls prog 141 #[.int .u64 p] W fun e w' =>e= .returned (.int .i64 N)∧W=w'):=fun W=>by have h1:=lr W p hp;rw[hN] at h1;exact h1
 obtain⟨A,hA⟩:=eX (c.all.all (fun a=>bz a==N));rw[←hA];have HC:=Ba cC j5 fc hA hu;have HS:=aa hs;obtain⟨ax,eo⟩:=eX c.ax;obtain⟨dep,eK⟩:=eX c.depth;rw[←eo,←eK];obtain⟨W0,aY,X0,B0⟩:=nW w [.int .i64 ax,.int .i64 dep,.slice Ab nb cb,.slice As n cs] 50;have fD:=aa aY.symm;have x3:=X0.cell (j:=3) rfl;have rj:Af (abv w w.heap.size [.int .i64 ax,.int .i64 dep,.slice Ab nb cb,.slice As n cs] A N c.ah 0 W0):=⟨Qp _,hA,X0,B0⟩;clear hb hs fc j5 oc cC gZ hN hNT hA aY X0 B0 eo eK h hu;go_enter func138,ntmps138;go_upto_region 1 with fail
 rw[fD.o];go_wp2_with fail;clear x3;go_loopw [12] (fun iv wr=>∃k:Nat,iv= .int .i64 k∧Af (abv w w.heap.size [.int .i64 ax,.int .i64 dep,.slice Ab nb cb,.slice As n cs] A N c.ah k wr)) (fun iv _=>n - (intOf iv).toNat)
 case atStart=>exact⟨0,rfl,rj.o⟩
 case round=>
  obtain⟨k,rfl,HR⟩:=hrel;by_cases hk:k<n
  ·obtain⟨q,hq⟩:∃q,ps[k]? =some q:=⟨_,Qf (by rw[←HC.o.2.1];exact hk)⟩;have hS:=HS.o.below HR.o.low;obtain⟨b,o,c',hv,hb,z0,z1,z2⟩:=hS.cells hq;obtain rfl:As=some ⟨b,o,none⟩:=by injection hv
   have eE:=hS.es q (Qi hq);obtain⟨Ae,ce,hU,-,-⟩:=eE.1.1.form;obtain⟨L,hL⟩:=eX q.1.es.length;rw[←hL] at hU;rw[hU] at z2;have JH:c.ah[k]? =some q.1:=by rw[←HC.o.2.2.1,Qt,hq];rfl
   have Wi:=tX JH;have dR:=HR.o.rest;rw[Wi,QH,List.all_append] at dR;obtain⟨d,hd⟩:=eX q.1.depth;obtain⟨nx,fu⟩:=eX q.1.next;rw[←hd] at z0;rw[←fu] at z1;have b3:=aF wr (.cells #[.int .u8 d,.int .u32 nx,.slice Ae L ce] 92);have Y3:=ar wr [.int .u8 d,.int .u32 nx,.slice Ae L ce] 92;have WR:Af (abw w w.heap.size wr.heap.size [.int .i64 ax,.int .i64 dep,.slice Ab nb cb,.slice (some ⟨b,o,none⟩) n cs] [.int .u8 d,.int .u32 nx,.slice Ae L ce] A N (c.ah.drop (k+1)) q.1.es 0 (wr.alloc (.cells #[.int .u8 d,.int .u32 nx,.slice Ae L ce] 92))):=
    ⟨Qp _,dR,HR.o.box.on b3,Y3,HR.o.low.trans (b3.mono HR.o.low.size)⟩
   have t2:=Y3.cell (j:=2) rfl;have wN:Af (∀W,Below w.heap.size w W→Es W w.heap.size (.slice Ae L ce) q.1.es):=fun W hW=>by have h1:=(HS.o.es q (Qi hq)).1.below hW;rw[hU] at h1;exact h1
   have Hn:=Ba hL (by rw[hL];exact eE.2.2.2:L≤9) hk (fun e he=>HC.o.2.2.2.2 e (QT.2 ⟨q.1,Qi JH,he⟩):(∀e∈q.1.es,bI e.print)) HR.o.box.lt;obtain⟨u1,u2,u3⟩:=bR hk HC.o.1 (by decide);have Hu1:=aa u1;obtain⟨rb,ft⟩:=eX wr.heap.size;obtain⟨W3,cD⟩:=eX (wr.alloc (.cells #[.int .u8 d,.int .u32 nx,.slice Ae L ce] 92));rw[←cD,←ft] at WR;rw[←cD,←ft] at t2;have mT:=dK cD.symm ft.symm;clear hb hS eE hU hL Wi dR hq hd fu hk hv JH HR b3 Y3 u1 ft cD;go_upto_region 4 with fail
   rw[mT.o.1,mT.o.2];clear z0 z1 z2;go_wp2_with fail;clear t2;go_loopw [19] (fun jv wr=>∃j:Nat,jv= .int .i64 j∧Af (abw w w.heap.size rb [.int .i64 ax,.int .i64 dep,.slice Ab nb cb,.slice (some ⟨b,o,none⟩) n cs] [.int .u8 d,.int .u32 nx,.slice Ae L ce] A N (c.ah.drop (k+1)) q.1.es j wr)) (fun jv _=>L - (intOf jv).toNat)
   case atStart=>exact⟨0,rfl,WR.o⟩
   case round=>
    obtain⟨j,rfl,HI⟩:=hrel;by_cases hj:j<L
    ·have Iw:=wN.o wr HI.o.low;have Ef:j<q.1.es.length:=by rw[←Hn.o.1];exact hj
     obtain⟨be,oe,ce',hU,-,-,mG,Wz⟩:=Iw.cells (QO (Qp _) Ef);obtain rfl:Ae=some ⟨be,oe,none⟩:=by injection hU
     obtain⟨q0,q1⟩:=Wz j Ef;obtain⟨x,hx⟩:=eX (q.1.es[j]);rw[←hx] at q0 q1;have hxu:=Hn.o.2.2.2.1 x (by rw[hx];exact QI _);have BL:q.1.es.drop j=x::q.1.es.drop (j+1):=by rw[hx];exact Zd Ef
     have dR:=HI.o.rest;rw[BL,List.all_cons] at dR;obtain⟨pr,gY⟩:=eX x.print;obtain⟨bk,ej⟩:=eX x.block;rw[←gY] at q0 hxu;rw[←ej] at q1;obtain⟨M,hM⟩:∃M:Nat,pr/2^56=(M:Int):=⟨(pr/2^56).toNat,(Xp (gQ hxu).1).symm⟩;have WA:bz x=M:=by unfold bz;rw[←gY,hM];exact Xt M
     rw[WA] at dR;have HBx:Af (∀W,Calls prog 141 #[.int .u64 pr] W fun e w' =>e= .returned (.int .i64 M)∧W=w'):=fun W=>by have h1:=lr W pr hxu;rw[hM] at h1;exact h1
     have b5:=aF wr (.cells #[.int .u64 pr,.int .u32 bk] 68);have Y5:=ar wr [.int .u64 pr,.int .u32 bk] 68;have v0:=Y5.cell (j:=0) rfl;obtain⟨eb,mR⟩:=eX wr.heap.size;obtain⟨W5,j6⟩:=eX (wr.alloc (.cells #[.int .u64 pr,.int .u32 bk] 68));have zb:=dK j6.symm mR.symm;rw[←j6] at b5;rw[←j6,←mR] at v0;have qg:=aa HI.o;have mU:=aa b5;have YR:=aa dR;obtain⟨u1,u4,u5⟩:=bR hj Hn.o.2.1 (by decide);have Huj:=aa u1;have Hj:=dK hj Ef;clear Iw Ef hU mG Wz hx hxu BL dR gY ej hM WA b5 Y5 mR j6 HI hj u1;go_upto_region 7 with fail
     rw[zb.o.1,zb.o.2];clear q0 q1;by_cases hMN:M=N
     ·have hIN:abw w w.heap.size rb [.int .i64 ax,.int .i64 dep,.slice Ab nb cb,.slice (some ⟨b,o,none⟩) n cs] [.int .u8 d,.int .u32 nx,.slice (some ⟨be,oe,none⟩) L ce] A N (c.ah.drop (k+1)) q.1.es (j+1) W5:=
       ⟨Hj.o.2,by rw[YR.o,hMN,beq_self_eq_true,Bool.true_and],qg.o.box.on mU.o,qg.o.OA.on mU.o,qg.o.low.trans (mU.o.mono qg.o.low.size)⟩
      have HIN:=aa hIN;subst hMN;clear hIN;go_wp2_with(first|((go_at_call 141;with_reducible refine(HBx.o _).mono ?_);go_must(rintro e W6 ⟨rfl,rfl⟩))|((go_at_call 141;with_reducible refine(HBp.o _).mono ?_);go_must(rintro e W6 ⟨rfl,rfl⟩)));exact⟨⟨j+1,by first|rfl|(rw[Huj.o];rfl),HIN.o⟩,by first|exact al Hj.o.1|(rw[Huj.o];exact al Hj.o.1)⟩
     ·have jr:=Xc (fun e=>hMN (Int.natCast_inj.1 e));have yZ:((M:Int)!=(N:Int))=true:=by rw[bne,jr];rfl
      have Um:Af (A=false):=by show _=_;rw[YR.o,Xc hMN];rfl
      have HL5:=aa (qg.o.low.trans (mU.o.mono qg.o.low.size));clear hMN;go_wp2_with(first|((go_at_call 141;with_reducible refine(HBx.o _).mono ?_);go_must(rintro e W6 ⟨rfl,rfl⟩))|((go_at_call 141;with_reducible refine(HBp.o _).mono ?_);go_must(rintro e W6 ⟨rfl,rfl⟩)))
      all_goals(try rw[Qv])
      all_goals go_ret
      all_goals exact⟨by rw[Um.o];rfl,HL5.o⟩
    ·have TC:=QE (by rw[Hn.o.1];exact HI.o.le) (QC hj);have dR:=HI.o.rest;rw[Zu (by rw[←Hn.o.1,TC];exact Qg _),List.all_nil,Bool.true_and] at dR;have Nt:abv w w.heap.size [.int .i64 ax,.int .i64 dep,.slice Ab nb cb,.slice (some ⟨b,o,none⟩) n cs] A N c.ah (k+1) wr:=⟨by rw[←HC.o.2.2.1,Qq,←HC.o.2.1];exact Hn.o.2.2.1,dR,HI.o.box,HI.o.low⟩;have Te:=aa Nt;have bj:=aa Hn.o.2.2.1;subst TC;clear HI hj dR Nt;go_wp2_with fail;exact⟨⟨k+1,by first|rfl|(rw[Hu1.o];rfl),Te.o⟩,by first|exact al bj.o|(rw[Hu1.o];exact al bj.o)⟩
  ·have cH:=QE (by have h1:=HR.o.le;rw[←HC.o.2.2.1,Qq,←HC.o.2.1] at h1;exact h1) (QC hk);have dR:=HR.o.rest;rw[Zu (by rw[cH,←HC.o.2.2.1,Qq,←HC.o.2.1];exact Qg _)] at dR;have NP:=aa dR;have HL:=aa HR.o.low;subst cH;clear HR hk dR;go_wp2_with fail
   try rw[Qv]
   go_ret;exact⟨by rw[NP.o];rfl,HL.o⟩
end
end Go.Proofs.YthgdhacopamklaaGreat

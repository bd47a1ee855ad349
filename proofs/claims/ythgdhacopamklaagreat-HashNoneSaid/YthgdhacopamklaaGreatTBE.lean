/- What HashNone asks, part 31 of 41: parts of the walks and laws, each true as it stands. -/
import Derived.Shelf.RegionOpen
import Derived.Test.YthgdhacopamklaaGreatTBD
set_option maxHeartbeats 16000000
set_option maxRecDepth 100000
set_option linter.unusedVariables false
set_option linter.unusedSimpArgs false
namespace Go.Proofs.YthgdhacopamklaaGreat
open Go.Proofs.Tryz
section
open Go.RowKit
attribute [local go_sem] Oper.semAt_some
variable {l m : Nat} {o : Obj}
def ku (s:aX) (c:ak) (m:Nat):Int×aX:=((c.blocks.zip c.ah).drop (c.ah.length - m)).foldr (nn c.depth) (0,s)
theorem rR (s:aX) (c:ak) (h:c.blocks.length=c.ah.length):ku s c 0=(0,s):=by
 unfold ku;rw[List.drop_of_length_le (by rw[List.length_zip,h];omega)];rfl
theorem Qk (s:aX) (c:ak):ku s c c.ah.length=qh s c:=by
 unfold ku qh;rw[XE,Zl]
theorem KQ {s:aX} {c:ak} {j:Nat} {b:Int} {sh:ay} (hj:j+m+1=c.ah.length) (hb:c.blocks[j]? =some b) (hs:c.ah[j]? =some sh):ku s c (m+1)=nn c.depth (b,sh) (ku s c m):=by
 unfold ku;have hz:(c.blocks.zip c.ah)[j]? =some (b,sh):=by rw[List.getElem?_zip_eq_some];exact⟨hb,hs⟩
 rw[show c.ah.length - (m+1)=j by omega,tX hz,show c.ah.length - m=j+1 by omega];rfl
theorem KP {w:Wo} {I:bF} {s:aX} (h:cR w I s) (data:List Int):0≤(s.put data).1∧(s.put data).1<4096:=by
 have hn:=h.n0;unfold aX.put;split
 ·exact⟨Int.le_refl 0,(by decide:(0:Int)<4096)⟩
 ·split
  ·exact⟨Int.le_refl 0,(by decide:(0:Int)<4096)⟩
  ·split
   ·exact⟨Int.le_refl 0,(by decide:(0:Int)<4096)⟩
   ·obtain⟨b,h1,h2⟩:=aE.zB s.t s.next (by omega) h.ok.n2;dsimp only;rw[h1];omega
structure my (T:Nat→Prop) (w:Wo) (I:bF) (s:aX) (c:ak) (bb cb vb:Nat) (TU:List Va) (pre:List ry) (W:Wo):Prop where
 le:pre.length≤c.ah.length
 base:cS (fun x=>T x∨x=vb) W I (ku s c pre.length).2
 nx:aq W vb 3 [.int .i64 (ku s c pre.length).1]
 bbx:aq W bb 29 [.pointer (some ⟨I.b,0,none⟩)]
 cbx:aq W cb 50 TU
 aL:aG (BS I) w W
 rg:0≤(ku s c pre.length).1∧(ku s c pre.length).1<4096
section
variable {T : Nat → Prop} {w : Wo} {I : bF} {s : aX} {c : ak} {bb cb vb : Nat} {TU : List Va} {pre : List ry} {W : Wo}
theorem my.on {W' :Wo} (h:my T w I s c bb cb vb TU pre W) (hb:Below W.heap.size W W'):my T w I s c bb cb vb TU pre W' :=
 ⟨h.le,h.base.on hb,h.nx.on hb,h.bbx.on hb,h.cbx.on hb,h.aL.trans (aG.aZ hb),h.rg⟩
theorem my.obj (h:my T w I s c bb cb vb TU pre W) (hl:W.heap[l]? =some o) (hc:o.isCells=false) (hw:w.heap.size≤l) (hB:∀x,BS I x→x<w.heap.size) (bO:bb<l) (iI:cb<l) (oQ:vb<l) (o' :Obj):my T w I s c bb cb vb TU pre (W.putObj l o'):=by
 have q:aG (fun x=>x=l) W (W.putObj l o'):=fY _ _ _ _ rfl;exact⟨h.le,h.base.putObj hl hc (fun e=>absurd (hB _ e) (XV.2 hw)) o',h.nx.aL q (XP oQ),h.bbx.aL q (XP bO),h.cbx.aL q (XP iI),h.aL.iR q (fun _ _ e=>e) (fun x hx e=>by have e:x=l:=e;omega),h.rg⟩
end
theorem my.step {T:Nat→Prop} {w:Wo} {I:bF} {s:aX} {c:ak} {bb cb vb:Nat} {TU:List Va} {pre:List ry} {W:Wo} (hm:m=pre.length) (x:ry) {r:Int} {st:aX} {u:Va} (hs:ku s c (m+1)=(r,st)) (hr:0≤r∧r<4096) (hle:m+1≤c.ah.length)
  (hB:cS (fun y=>T y∨y=vb) W I st) (hn:aq W vb 3 [u]) (hb:aq W bb 29 [.pointer (some ⟨I.b,0,none⟩)]) (hcx:aq W cb 50 TU) (hc:aG (BS I) w W) (hv:w.heap.size≤vb) (n1:bb≠vb) (n2:cb≠vb):
  my T w I s c bb cb vb TU (pre++[x]) (W.setCell ⟨vb,0,none⟩ (.int .i64 r)):=by
 have hl:(pre++[x]).length=m+1:=by rw[Qo,ZA,hm]
 refine⟨by rw[hl];exact hle,?_,?_,hb.az (p:=⟨vb,0,none⟩) n1 _,hcx.az (p:=⟨vb,0,none⟩) n2 _,hc.setCell (p:=⟨vb,0,none⟩) (fun h=>absurd h (XV.2 hv)) _,?_⟩
 ·rw[hl,hs];exact hB.set (p:=⟨vb,0,none⟩) (.inr rfl) _
 ·rw[hl,hs];exact hn.set 0 _
 ·rw[hl,hs];exact hr
theorem acg {w:Wo} {v:Va} {es:List aD} (h:Es w w.heap.size v es) (hl:w.heap[l]? =some o) (hc:o.isCells=false) (o' :Obj):Es (w.putObj l o') (w.putObj l o').heap.size v es:=
 ⟨by rw[World.putObj_size];exact pF h.1 (Qg _) (by decide) hl hc o',h.2⟩
theorem QG (T:Nat→Prop) (w:Wo) (I:bF) (s:aX) (hB:cS T w I s) (c:ak) (A1 A2:Option Addr) (m1 c1 m2 c2:Nat) (kG:jw w (BS I) (.agg #[.int .i64 c.ax,.int .i64 c.depth,.slice A1 m1 c1,.slice A2 m2 c2]) c) (hk:qo c)
  (hR:∀sh∈c.ah,∀n:Int,0≤n→n<4096→bC ⟨c.depth,n,sh.es⟩=true):
  Calls prog 155 #[.pointer (some ⟨I.b,0,none⟩),.agg #[.int .i64 c.ax,.int .i64 c.depth,.slice A1 m1 c1,.slice A2 m2 c2]] w fun r w' =>r= .returned (.int .i64 (qh s c).1)∧cS T w' I (qh s c).2∧aG (BS I) w w'∧(0≤(qh s c).1∧(qh s c).1<4096):=by
 obtain⟨bv,sv,ps,he,g1,g2,g3,fc⟩:=kG.ex;obtain⟨rfl,rfl⟩: .slice A1 m1 c1=bv∧ .slice A2 m2 c2=sv:=by simpa using he
 have dh:ps.length=c.ah.length:=by rw[←fc,Qq]
 have Nf:m2=ps.length:=by
  obtain⟨A,cx,e,-,-⟩:=Sl.form g3.s.sl;injection e
 have Az:m1=c.blocks.length:=by
  obtain⟨A,cx,e,-,-⟩:=g1.form;injection e
 obtain⟨fr,eo⟩:=eX c.ax;obtain⟨dp,eK⟩:=eX c.depth;rw[←eo,←eK];have Nx:=hB.at_.lt;have Hc:Af (qo c∧dp=c.depth∧ps.map Prod.fst=c.ah∧ps.length=c.ah.length∧m2=ps.length∧m1=c.blocks.length∧∀sh∈c.ah,∀n:Int,0≤n→n<4096→bC ⟨c.depth,n,sh.es⟩=true):=⟨hk,eK,fc,dh,Nf,Az,hR⟩;have HG:=iJ g1 g2 g3;have HB:=aa hB;obtain⟨W1,aW⟩:=eX ((w.alloc (.cells #[.pointer (some ⟨I.b,0,none⟩)] 29)).alloc (.cells #[.int .i64 fr,.int .i64 dp,.slice A1 m1 c1,.slice A2 m2 c2] 50));have b1:Below w.heap.size w W1:=by rw[aW];exact(aF _ _).alloc (by simp) _
 have X1:aq W1 w.heap.size 29 [.pointer (some ⟨I.b,0,none⟩)]:=by rw[aW];exact dx w _ _
 have Y1:aq W1 (w.heap.size+1) 50 [.int .i64 fr,.int .i64 dp,.slice A1 m1 c1,.slice A2 m2 c2]:=by rw[aW];exact cL w _ _
 obtain⟨W2,cE,Z2,b2⟩:=nW W1 [.int .i64 0] 3;obtain⟨W3,cD,U3,b3⟩:=nW W2 [.slice A2 m2 c2] 48;have ej:=Mr W2 A2 m2 c2;rw[←cD] at ej;have s1:W1.heap.size=w.heap.size+2:=by rw[aW];simp
 have s2:W2.heap.size=w.heap.size+3:=by rw[cE];simp[s1]
 have s3:W3.heap.size=w.heap.size+4:=by rw[cD];simp[s2]
 obtain⟨bb,bO⟩:=eX w.heap.size;obtain⟨cb,iI⟩:=eX (w.heap.size+1);obtain⟨vb,oQ⟩:=eX W1.heap.size;obtain⟨Bx,j8⟩:=eX W2.heap.size;have cz:(w.alloc (.cells #[.pointer (some ⟨I.b,0,none⟩)] 29)).heap.size=cb:=by rw[iI];simp
 rw[←j8] at ej U3;rw[←bO] at X1;rw[←iI] at Y1;rw[←oQ] at Z2;have uo:=aa ej;have HW:=aa aW.symm;have b23:=b2.trans (b3.mono b2.size);have mO:=b1.trans (b23.mono b1.size);have x3:W2.cell? ⟨cb,3,none⟩=some (.slice A2 m2 c2):=(Y1.on b2).cell rfl;have ID:Af (my T w I s c bb cb vb [.int .i64 fr,.int .i64 dp,.slice A1 m1 c1,.slice A2 m2 c2] [] W3):=⟨Qp _,by show cS _ W3 I (ku s c 0).2;rw[rR s c hk.kp.len];exact hB.more mO (fun x hx=>hx.imp id fun e=>by omega) (fun x hx=>hx.elim (fun e=>by have:=hB.lt x e;omega) (fun e=>by omega)),by show aq W3 vb _ [.int .i64 (ku s c 0).1];rw[rR s c hk.kp.len];exact Z2.on b3,X1.on b23,Y1.on b23,aG.aZ mO,by show 0≤(ku s c 0).1∧(ku s c 0).1<4096;rw[rR s c hk.kp.len];exact⟨Int.le_refl 0,(by decide:(0:Int)<4096)⟩⟩
 have HL:=hI7 bO iI (by omega:vb=w.heap.size+2) (by omega:Bx=w.heap.size+3) s3 Nx mO;have HU:=aa U3;have HWs:=kH cE.symm bO.symm oQ.symm iI.symm;clear kG he g1 g2 g3 fc dh Az Nf eo eK Nx hB hk hR aW b1 X1 Y1 cE b2 Z2 cD b3 U3 ej s1 s2 s3 bO iI oQ j8 cz b23 mO;refine(callsIn_wide (n:=3)).1 ?_;refine callsIn_of_wp_marks func155 rfl trivial ?_ rfl;simp only[ntmps155,QW,QF,Xq,Nat.reduceAdd,Nat.reduceSub,Xv,Xw,Xx,Xy,QZ,List.cons_append];refine wpIn_wide.2 ?_;go_upto_region 1 with fail
 rw[HW.o,HWs.o.2.2.2,HWs.o.2.1];go_upto_region 2 with fail
 rw[HWs.o.1,HWs.o.2.2.1];go_wp2_with(go_at_call 227;go_must(refine uo.o.mono ?_);rintro e tj ⟨rfl,e3⟩;obtain rfl:=e3.symm)
 clear x3;refine(wpIn_wide (n:=3)).1 ?_;refine Dp (α:=ry) (P:=prog) rfl (by decide) (gf:=250) (lb:= #[.pointer (some ⟨Bx,0,none⟩)]) rfl trivial (enters_of func250 (by kernel_rfl) rfl) IP (fun _=>rfl)
  (fun k=>BS I k∨k=vb) ?hSl (Ow (fun k=>(BS I k∨k=vb)∨W3.heap.size≤k∧k≤W3.heap.size+1) ps) (fun pre=>pre.length=ps.length) (my T w I s c bb cb vb [.int .i64 fr,.int .i64 dp,.slice A1 m1 c1,.slice A2 m2 c2]) ?h0 ?hIp ?hit
  (fun e W=>{tmps:= #[.pointer (some ⟨I.b,0,none⟩),.agg #[.int .i64 fr,.int .i64 dp,.slice A1 m1 c1,.slice A2 m2 c2],.pointer (some ⟨bb,0,none⟩),.pointer (some ⟨cb,0,none⟩),.int .i64 0,.pointer (some ⟨vb,0,none⟩),.int .i64 e.i,.pointer (some ⟨W.heap.size,0,none⟩),undef,undef,undef,.pointer (some ⟨cb,3,none⟩),.slice A2 m2 c2,.func (.func 250) #[] #[.pointer (some ⟨Bx,0,none⟩)],.int .i64 e.i,.agg #[.int .u8 e.sh.depth,.int .u32 e.sh.next,.slice e.A e.n e.c],undef,undef,undef,undef,undef,undef,undef,undef,undef,undef,undef,undef,undef,undef,undef,undef,undef,undef,undef,undef,undef,undef,undef,undef,undef,undef,undef],defers:=[]})
  (fun e W=>W.alloc (.cells #[.int .u8 e.sh.depth,.int .u32 e.sh.next,.slice e.A e.n e.c] 92)) (fun e W=>aF _ _) ?assign ?body ?done
 case hSl=>
  have hl:=HL.o;rintro x (h|h)
  ·have:=hl.2.2.2.2.2.1 x h
   omega
  ·omega
 case h0=>exact fun W hW=>ID.o.on hW
 case hIp=>exact fun pre A l o o' h AS Ec hl=>by have hL:=HL.o;exact h.obj AS Ec (by omega) hL.2.2.2.2.2.1 (by omega) (by omega) (by omega) o'
 case hit=>
  intro l J W hW hJI hY Iu;have hL:=HL.o;have hs3:iP W3 (fun k=>(BS I k∨k=vb)∨W3.heap.size≤k∧k≤W3.heap.size+1) (.slice A2 m2 c2) ps:=(HG.o.2.2.apart (fun x hx=>hx.elim (fun hx=>hx.elim .inl (fun hx=> .inr (by omega))) (fun hx=> .inr (by omega)))).on hL.2.2.2.2.2.2;exact Sq 2 (by decide) l Bx A2 m2 c2 ps _ W ((HU.o.on hW).cell rfl) (HU.o.on hW).lt (fun h=>h.elim (fun h=>h.elim (fun h=>by have:=hL.2.2.2.2.2.1 _ h;omega) (fun h=>by omega)) (fun h=>by omega)) (hs3.on hW) Hc.o.2.2.2.2.1 (by rw[Hc.o.2.2.2.2.1,Hc.o.2.2.2.1,←Hc.o.1.kp.len];exact Qh Hc.o.1.kp.y7 (by decide)) J hY Iu
 case assign=>
  intro l e W K hK;unfold IP
  gi_wp2
  exact hK
 case body=>
  intro l pre x W0 o o' ec hI hl AS Ec cz;have hL:=HL.o;have aJ:=(Qy.1 AS).1;have F0:=ar W0 [.int .u8 x.sh.depth,.int .u32 x.sh.next,.slice x.A x.n x.c] 92;have b0:=aF W0 (.cells #[.int .u8 x.sh.depth,.int .u32 x.sh.next,.slice x.A x.n x.c] 92);obtain⟨V0,hV0⟩:=eX (W0.alloc (.cells #[.int .u8 x.sh.depth,.int .u32 x.sh.next,.slice x.A x.n x.c] 92));have F1:aq V0 W0.heap.size 92 [.int .u8 x.sh.depth,.int .u32 x.sh.next,.slice x.A x.n x.c]:=by rw[hV0];exact F0
  rw[←hV0] at b0⊢;have pt:Ap (fun y=>y=W0.heap.size) (.slice x.A x.n x.c):=Sl.ap ec.es.1 (fun y hy e=>by omega)
  replace ec:=ec.on b0
  have dK:=hI.on b0;have hBT:=hI.base.more (T' :=fun y=>(T y∨y=vb)∨y=W0.heap.size) b0 (fun y hy=>hy.imp id fun e=>Xg e.symm) (fun y hy=>hy.elim (fun e=>Qn (hI.base.lt y e) b0.size) (fun e=>by rw[e];exact F1.lt))
  have UJ:=(b0.block l aJ).trans AS;have Od:=hBT.putObj UJ Ec (fun e=>by have:=hL.2.2.2.2.2.1 _ e;omega) o'
  have WG:=dK.obj UJ Ec (by omega) hL.2.2.2.2.2.1 (by omega) (by omega) (by omega) o';have eE:=acg ec.es UJ Ec o';have F6:=F1.aL (fY (fun y=>y=l) V0 l o' rfl) (XO aJ);obtain⟨W6,jc⟩:=eX (V0.putObj l o');obtain⟨xb,eD⟩:∃y,y=W0.heap.size:=⟨_,rfl⟩;rw[←jc] at WG eE F6 Od⊢;rw[←eD] at F6 Od pt⊢;obtain⟨m,hm⟩:=eX pre.length;have hj:=ec.at_;have hit:=ec.it;have aaY:=ec.ok.2.2;obtain⟨i,sh,A,n,cc⟩:=x;dsimp only at hj hit eE F6 pt aaY⊢;have ta:c.ah[i]? =some sh:=by rw[←Hc.o.2.2.1,Qt,hit];rfl
  have JL:i<m1:=by rw[Hc.o.2.2.2.2.2.1,Hc.o.1.kp.len,←Hc.o.2.2.2.1];omega
  obtain⟨bi,hbi⟩:=eX (c.blocks.getD i 0);have uA:c.blocks[i]? =some bi:=by rw[hbi,Qe,Qf (by rw[←Hc.o.2.2.2.2.2.1];exact JL)];rfl
  have e8:=Hc.o.1.kp.pos bi (Qi uA);obtain⟨b1,o1,c1',hv,-,-,l1,q1⟩:=HG.o.1.cells (by rw[←Hc.o.2.2.2.2.2.1];omega)
  obtain rfl:A1=some ⟨b1,o1,none⟩:=by injection hv
  have q2:W6.cell? ⟨b1,o1+i,none⟩=some (.int .i64 bi):=by
   rw[WG.aL.cell (p:=⟨b1,o1+i,none⟩) l1 (HG.o.2.1 b1 o1 m1 c1 (by omega) rfl),hbi];exact q1 i (by rw[←Hc.o.2.2.2.2.2.1];exact JL)
  obtain⟨nx,fu⟩:=eX ((ku s c m).1);obtain⟨st,cO⟩:=eX ((ku s c m).2);have Yw:ku s c (m+1)=nn c.depth (bi,sh) (nx,st):=by
   rw[fu,cO];exact KQ (by rw[hm,←Hc.o.2.2.2.1];exact hj) uA ta
  obtain⟨-,y1,y2⟩:=ra WG.cbx;have z0:=WG.nx.cell (j:=0) rfl;have zf:=WG.nx.free 0;have u0:=WG.bbx.cell (j:=0) rfl;rw[←hm,←fu] at z0;have i0:=Xh i;have i1:(i:Int)<m1:=by omega
  have Uk:=aa WG;rw[←hm,←cO] at Od;have HBT:=aa Od;have HF:=aa F6;have HE:=iJ eE pt aaY;have HX:=ank hm Yw fu cO (by rw[←Hc.o.2.2.2.1];omega:m+1≤c.ah.length) e8.1 e8.2 (by omega:vb<xb) (by omega:w.heap.size≤xb) (Qi ta) eD
  clear ec aaY pt hI dK hBT Od AS Ec cz hL aJ F0 b0 F1 hV0 UJ WG eE F6 jc eD hm hj hit ta JL hbi uA e8 hv l1 q1 fu cO Yw hl;by_cases hz:bi=0
  ·subst hz
   have Ng:=Hc.o.1.d8;have w8:IntKind.u8.wrap (dp:Int)=dp:=by unfold IntKind.wrap;simp[IntKind.signed,IntKind.bits];have:=Hc.o.2.1;omega
   have TA:=Uk.o.rg;rw[←HX.o.1,←HX.o.2.2.1] at TA;have w32:IntKind.u32.wrap nx=nx:=by unfold IntKind.wrap;simp[IntKind.signed,IntKind.bits];omega
   have y1d:=y1;have z0d:=z0;have FD:=HF.o;obtain⟨c0d,c1d⟩:=gh FD;obtain⟨f0d,f1d⟩:=fR2 FD;obtain⟨c0e,c1e⟩:=gh HF.o;obtain⟨f0e,f1e⟩:=fR2 HF.o;have hvx:=XO HX.o.2.2.2.2.2.2.2.1;have avK:=Xm hvx;have wU:¬(⟨xb,1,none⟩:Addr)=⟨xb,0,none⟩:=by simp
   have hX:=HX.o;have hL:=HL.o;obtain⟨W7,Eh⟩:=eX (((W6.setCell ⟨xb,0,none⟩ (.int .u8 dp)).setCell ⟨xb,1,none⟩ (.int .u32 nx)).drew);have q7:aG (fun y=>y=xb) W6 W7:=by
    rw[Eh];exact(((aG.refl (fun y=>y=xb) W6).setCell (p:=⟨xb,0,none⟩) (fun _=>rfl) _).setCell (p:=⟨xb,1,none⟩) (fun _=>rfl) _).drew
   have X7:aq W7 xb 92 [.int .u8 dp,.int .u32 nx,.slice A n cc]:=by rw[Eh];exact(HF.o.set 0 (.int .u8 dp)).set 1 (.int .u32 nx)
   have bt7:=HBT.o.aL (q7.mono fun y _ e=> .inr e);have nx7:=Uk.o.nx.aL q7 (XP hX.2.2.2.2.2.2.2.1);have bb7:=Uk.o.bbx.aL q7 (by omega);have cb7:=Uk.o.cbx.aL q7 (by omega);have ch7:=Uk.o.aL.iR q7 (fun _ _ e=>e) (fun y hy e=>by have e:y=xb:=e;omega)
   have es7:Es W7 W7.heap.size (.slice A n cc) sh.es:=⟨Sl.more (Sl.aL HE.o.1.1 q7 (Qg _) HE.o.2.1) q7.size,HE.o.1.2⟩;obtain⟨eL,tz⟩:=eX (encS ⟨c.depth,nx,sh.es⟩);have tF:aI (c.depth:Int):=⟨Xh _,by omega⟩;have jy:=LX ⟨c.depth,nx,sh.es⟩ tF HE.o.2.2;have hEn:=CS W7 ⟨c.depth,nx,sh.es⟩ (.slice A n cc) es7 tF ⟨TA.1,Int.lt_trans TA.2 (by decide)⟩;rw[←tz] at jy;have HEn:Af (Calls prog 71 #[.agg #[.int .u8 dp,.int .u32 nx,.slice A n cc]] W7 (Made W7 eL)):=by
    rw[Hc.o.2.1];refine hEn.mono fun e w' h=> ?_
    rcases h with⟨-,h⟩|⟨h,-⟩
    ·rw[tz];exact h
    ·rw[Hc.o.2.2.2.2.2.2 sh hX.2.2.2.2.2.2.2.2.2.1 nx TA.1 TA.2] at h;cases h
   obtain⟨r1,Wj⟩:=eX ((st.put eL).1);obtain⟨r2,ZL⟩:=eX ((st.put eL).2.1);obtain⟨Er,zh⟩:=eX ((st.put eL).2.2);have Uj:Af (∀(W8:Wo) (g:Nat),Below W7.heap.size W7 W8→dn W8 g eL→W7.heap.size≤g→Calls prog 72 #[.pointer (some ⟨I.b,0,none⟩),.slice (some ⟨g,0,none⟩) 128 128] W8 fun e w' =>e= .returned (.tuple #[.int .i64 r1,.int .i64 r2])∧cS (fun y=>(T y∨y=vb)∨y=xb) w' I Er∧aG (BS I) W8 w'):=fun W8 g hW ho hg=>by
    rw[Wj,ZL,zh];exact vE _ W8 I st (bt7.on hW) _ _ (tT ho jy.1 jy.2) (jD fun e=>absurd (bt7.at_.lt _ e) (XV.2 hg))
   have fc:ku s c (m+1)=(r1,Er):=by
    rw[hX.2.1,Wj,zh,tz];unfold nn;rw[Xo rfl]
   have ZH:=KP bt7.at_ eL;rw[←Wj] at ZH;have HW7:=aa Eh.symm;have H7:=hI7 q7 nx7 bb7 cb7 ch7 fc ZH;obtain⟨s0,s1,s2⟩:=ra X7;clear Ng TA hX hL Eh q7 X7 bt7 nx7 bb7 cb7 ch7 es7 tz tF jy hEn Wj ZL zh fc ZH
   gi_upto_region 7 with fail
   have hm:prog.follows .mixedOrders=true:=by kernel_rfl
   gi_region_with_o (fail)
   all_goals
    rw[HW7.o]
    gi_wp2_with (first
     |(refine⟨trivial,?_⟩;gi_at_call 71;refine(CallsIn.inRound l (callsIn_wide.2 HEn.o)).mono ?_;rintro e W8 ⟨g8,TD,rfl,o8,b8⟩;have abC:=aa (Uj.o W8 g8 b8 o8 TD);have B8:=aa b8;have ub8:=(H7.o.2.2.1.on b8).cell (j:=0) rfl;clear TD o8 b8)
     |(refine⟨trivial,?_⟩;gi_at_call 72;refine(CallsIn.inRound l (callsIn_wide.2 abC.o)).mono ?_;rintro e W9 ⟨rfl,bt9,c9⟩;have nb:∀y,w.heap.size≤y→¬BS I y:=(fun y hy e=>absurd (HL.o.2.2.2.2.2.1 y e) (XV.2 hy));have N9:=aa ((H7.o.2.1.on B8.o).aL c9 (nb _ (by have:=HL.o;omega)));have v9:=N9.o.cell (j:=0) rfl;have f9:=N9.o.free 0;have BT9:=aa bt9;have C9:=aa c9;clear bt9 c9 nb))
    have hL:=HL.o;have hX:=HX.o;have nb:∀y,w.heap.size≤y→¬BS I y:=fun y hy e=>absurd (hL.2.2.2.2.2.1 y e) (XV.2 hy)
    have c89:=(aG.aZ B8.o).trans C9.o;refine⟨?_,my.step hX.1 _ H7.o.2.2.2.2.2.1 H7.o.2.2.2.2.2.2 hX.2.2.2.2.1 (BT9.o.mono fun y hy=> .inl hy) N9.o ((H7.o.2.2.1.on B8.o).aL C9.o (nb _ (by omega))) ((H7.o.2.2.2.1.on B8.o).aL C9.o (nb _ (by omega))) (H7.o.2.2.2.2.1.trans c89) (by omega) (by omega) (by omega)⟩;refine aG.setCell ?_ (p:=⟨vb,0,none⟩) (fun _=> .inl (.inr rfl)) _;exact H7.o.1.iR c89 (fun y _ e=> .inr (Xg e.symm)) (fun y _ e=> .inl (.inl e))
  ·gi_wp2
   have hL:=HL.o;have hX:=HX.o;refine⟨((aG.refl _ W6).setCell (p:=⟨vb,0,none⟩) (fun _=> .inl (.inr rfl)) _),my.step hX.1 _ (by rw[hX.2.1];unfold nn;exact Xd hz) ⟨hX.2.2.2.2.2.1,hX.2.2.2.2.2.2.1⟩ hX.2.2.2.2.1 (HBT.o.mono fun y hy=> .inl hy) Uk.o.nx Uk.o.bbx Uk.o.cbx Uk.o.aL (by omega) (by omega) (by omega)⟩
 case done=>
  rintro D W pre hD dh hI hK;have hL:=HL.o;have bm:ku s c pre.length=qh s c:=by rw[dh,Hc.o.2.2.2.1];exact Qk s c
  obtain⟨rv,ZG⟩:=eX ((qh s c).1);have z0:=hI.nx.cell (j:=0) rfl;rw[bm,←ZG] at z0;have Hrv:=aa ZG;have hB2:=hI.base;rw[bm] at hB2;have hrg:=hI.rg;rw[bm] at hrg;have px:Af (cS T w I s→cS (fun y=>T y∨y=vb) W I (qh s c).2∧aG (BS I) w W):=fun _=>⟨hB2,hI.aL⟩
  have HRg:=aa hrg;have HD:=aa hD;have HK:=aa hK;clear hI hK hD dh hL hB2 bm ZG hrg;go_wp2_with fail;refine⟨by simp,.inl ⟨_,_,rfl,run_takeDeferred HK.o,?_⟩⟩;refine⟨_,results_tmp (t:=4) rfl _ _ _,by rw[←Hrv.o];rfl,?_,?_,HRg.o⟩
  ·exact((px.o HB.o).1.putObj HK.o rfl (fun e=>by have:=HL.o.2.2.2.2.2.1 _ e;have:=HL.o;have:=HD.o;omega) _).mono fun y hy=> .inl hy
  ·exact(px.o HB.o).2.iR (fY (fun x=>x=D) W D _ rfl) (fun _ _ e=>e) (fun x hx e=>by have e:x=D:=e;have:=HL.o;have:=HD.o;omega)
end
section
open Go.RowKit
attribute [local go_sem] Oper.semAt_some
theorem vQ (w:Wo) (v u:Va) (es fs:List Int) (h:Ns w w.heap.size .u16 v es) (h' :Ns w w.heap.size .u16 u fs) (hl:es.length≤100000):
  Calls prog 153 #[v,u] w fun r w' =>r= .returned (.bool (decide (es=fs)))∧Below w.heap.size w w' :=by
 obtain⟨A,c,rfl,-,-⟩:=h.form;obtain⟨A',d,rfl,-,-⟩:=h'.form;obtain⟨n,hn⟩:=eX es.length;obtain⟨n',sf⟩:=eX fs.length;rw[←hn,←sf];by_cases jX:n=n'
 ·subst jX;have H:=aa h;have H' :=aa h';have Hn:=iJ hn sf (by omega:n≤100000);clear h h' hl hn sf;go_enter func153,ntmps153;go_wp2_with fail;go_loopw [13] (fun iv wr=>∃k:Nat,iv= .int .i64 k∧Af (k≤n∧es.take k=fs.take k∧Below w.heap.size w wr)) (fun iv _=>n - (intOf iv).toNat)
  case atStart=>exact⟨0,rfl,⟨Qp _,rfl,Xj _ _⟩⟩
  case round=>
   obtain⟨k,rfl,HR⟩:=hrel;by_cases hk:k<n
   ·have bQ:k<es.length:=by rw[←Hn.o.1];exact hk
    have zk :k<fs.length:=by rw[←Hn.o.2.1];exact hk
    obtain⟨b,o,c',hv,-,-,bO,aH⟩:=H.o.cells (QO (Qp _) bQ);obtain rfl:A=some ⟨b,o,none⟩:=by injection hv
    obtain⟨b',o',d',mQ,-,-,tu,uR⟩:=H'.o.cells (QO (Qp _) zk);obtain rfl:A' =some ⟨b',o',none⟩:=by injection mQ
    have q0:=aH k bQ;have p0:=uR k zk;obtain⟨x,hx⟩:=eX (es.getD k 0);obtain⟨y,hy⟩:=eX (fs.getD k 0);have oP:es[k]? =some x:=by rw[hx,Qe,Qf bQ];rfl
    have Sz:fs[k]? =some y:=by rw[hy,Qe,Qf zk];rfl
    rw[←hx] at q0;rw[←hy] at p0;have z0:=(HR.o.2.2.cell (p:=⟨b,o+k,none⟩) bO).trans q0;have y0:=(HR.o.2.2.cell (p:=⟨b',o' +k,none⟩) tu).trans p0;have cU:=aa HR.o;have HX:=iJ oP Sz hk;obtain⟨u1,u2,u3⟩:=bR hk Hn.o.2.2 (by decide);have Hu:=aa u1;clear hv bO aH q0 hx oP HR hk bQ u1 mQ tu uR p0 hy Sz zk;by_cases M9:x=y
    ·have Hxy:=aa M9;subst M9;go_upto_region 6 with fail
     go_quiet (fail)
     have HD:Af (∀q,Below w.heap.size w (wr.drewN q)):=fun q=>cU.o.2.2.trans ((below_drewN (Xj wr.heap.size wr) q).mono cU.o.2.2.size)
     go_wp2_with fail;refine⟨⟨k+1,by first|rfl|(rw[Hu.o];rfl),HX.o.2.2,(uT cU.o.2.1 HX.o.1 HX.o.2.1).2 rfl,HD.o _⟩,by first|exact al HX.o.2.2|(rw[Hu.o];exact al HX.o.2.2)⟩
    ·have HT:Af (decide (es=fs)=false):=by
      refine Xe fun he=> ?_
      have h2:=HX.o.1;rw[he,HX.o.2.1] at h2;exact M9 (Qr h2).symm
     go_upto_region 6 with fail
     go_quiet (fail)
     have HD:Af (∀q,Below w.heap.size w (wr.drewN q)):=fun q=>cU.o.2.2.trans ((below_drewN (Xj wr.heap.size wr) q).mono cU.o.2.2.size)
     go_wp2_with fail
     all_goals(try rw[Qv])
     all_goals go_ret
     all_goals exact⟨by rw[HT.o];rfl,HD.o _⟩
   ·have cH:=QE HR.o.1 (QC hk);have HT:Af (decide (es=fs)=true):=by have h1:=HR.o.2.1;rw[cH,Qj (Xg Hn.o.1.symm),Qj (Xg Hn.o.2.1.symm)] at h1;exact Xa h1
    have HL:=aa HR.o.2.2;subst cH;clear HR hk;go_wp2_with fail
    try rw[Qv]
    go_ret;exact⟨by rw[HT.o];rfl,HL.o⟩
 ·have HT:Af (decide (es=fs)=false):=Xe fun he=>jX (by rw[hn,sf,he])
  have Wp:¬(n:Int)=n' :=fun h=>jX (Int.ofNat.inj h)
  clear h h' hl hn sf jX;go_enter func153,ntmps153;go_wp2_with fail
  all_goals(try rw[Qv])
  all_goals go_ret
  all_goals exact⟨by rw[HT.o];rfl,Xj _ _⟩
theorem Gm (w:Wo) (v:Va) (l:List Int) (h:Ns w w.heap.size .u16 v l) (hl:l.length≤100000) (x:Int):
  Calls prog 225 #[v,.int .u16 x] w fun r w' =>(∃i:Int,r= .returned (.int .i64 i)∧decide (0≤i)=l.contains x)∧Below w.heap.size w w' :=by
 obtain⟨A,c,rfl,-,-⟩:=h.form;obtain⟨n,hn⟩:=eX l.length;obtain⟨T,hT⟩:=eX (l.contains x);rw[←hT];have H:=aa h;have Hn:=iJ hn (by omega:n≤100000) hT;rw[←hn];clear h hl hn hT;go_enter func225,ntmps225;go_wp2_with fail;go_loopw [8] (fun iv wr=>∃k:Nat,iv= .int .i64 k∧Af (k≤n∧x∉l.take k∧Below w.heap.size w wr)) (fun iv _=>n - (intOf iv).toNat)
 case atStart=>exact⟨0,rfl,⟨Qp _,QV,Xj _ _⟩⟩
 case round=>
  obtain⟨k,rfl,HR⟩:=hrel;by_cases hk:k<n
  ·have bQ:k<l.length:=by rw[←Hn.o.1];exact hk
   obtain⟨b,o,c',hv,-,-,bO,aH⟩:=H.o.cells (QO (Qp _) bQ);obtain rfl:A=some ⟨b,o,none⟩:=by injection hv
   obtain⟨y,hy⟩:=eX (l.getD k 0);have Sz:l[k]? =some y:=by rw[hy,Qe,Qf bQ];rfl
   have q0:=aH k bQ;rw[←hy] at q0;have z0:=(HR.o.2.2.cell (p:=⟨b,o+k,none⟩) bO).trans q0;have cU:=aa HR.o;have HX:=dK Sz hk;obtain⟨u1,u2,u3⟩:=bR hk Hn.o.2.1 (by decide);have Hu:=aa u1;clear hv bO aH q0 hy Sz HR hk bQ u1;by_cases M9:x=y
   ·have HTt:Af (decide ((0:Int)≤k)=T):=by
     show _=_;rw[Hn.o.2.2,Xa (Xh k)];symm
     rw[List.contains_iff_mem];rw[M9];exact Qi HX.o.1
    subst M9;go_wp2_with fail
    all_goals(try rw[Qv])
    all_goals go_ret
    all_goals exact⟨⟨k,rfl,HTt.o⟩,cU.o.2.2⟩
   ·go_wp2_with fail;refine⟨⟨k+1,by first|rfl|(rw[Hu.o];rfl),⟨HX.o.2,fun hq=> ?_,cU.o.2.2⟩⟩,by first|exact al HX.o.2|(rw[Hu.o];exact al HX.o.2)⟩;rw[aA l k y HX.o.1] at hq;rcases Qz.1 hq with hq|hq
    ·exact cU.o.2.1 hq
    ·exact M9 (Qx.1 hq)
  ·have cH:=QE HR.o.1 (QC hk);have bm:=HR.o.2.1;rw[Qj (by rw[cH,Hn.o.1];exact Qg _)] at bm;have HTf:Af (decide ((0:Int)≤ -1)=T):=by
    show _=_;rw[Hn.o.2.2];symm
    show _=false;rw[Xf];intro ha;exact bm (by rw[List.contains_iff_mem] at ha;exact ha)
   have HL:=aa HR.o.2.2;subst cH;clear HR hk bm;go_wp2_with fail
   try rw[Qv]
   go_ret;exact⟨⟨-1,rfl,HTf.o⟩,HL.o⟩
theorem kE (w:Wo) (v:Va) (l:List Int) (h:Ns w w.heap.size .u16 v l) (hl:l.length≤100000) (x:Int):
  Calls prog 152 #[v,.int .u16 x] w fun r w' =>r= .returned (.bool (l.contains x))∧Below w.heap.size w w' :=by
 obtain⟨R,hR⟩:=eX (l.contains x);have HI:=Gm w v l h hl x;rw[←hR] at HI⊢;have HI:=aa HI;obtain⟨A,c,rfl,-,-⟩:=h.form;obtain⟨n,hn⟩:=eX l.length;rw[←hn] at HI⊢;clear h hl hn hR;go_enter func152,ntmps152;go_wp2_with(go_at_call 225;go_must(refine HI.o.mono ?_);rintro e W2 ⟨⟨i,rfl,hi⟩,b2⟩;have B2:=aa b2;clear b2);go_ret;exact⟨rfl,B2.o⟩
theorem rS (w:Wo) (v:Va) (l:List Int) (h:Ns w w.heap.size .u16 v l) (hl:l.length≤10000) (i:Nat) (hi:61*i<l.length):
  Calls prog 151 #[v,.int .i64 i] w fun e w' =>(∃v',e= .returned v'∧Ns w w.heap.size .u16 v' (bG l i))∧w=w' :=by
 obtain⟨A,c,rfl,jb,pk⟩:=h.form;obtain⟨q,hq⟩:=eX (min (61*i+61) l.length);obtain⟨b,o,rfl,hs⟩:=Fh h (61*i) q (by omega) (by omega) hi;have hp:(l.drop (61*i)).take (q - 61*i)=bG l i:=by
  unfold bG;by_cases h2:q=61*i+61
  ·rw[h2,Nat.add_sub_cancel_left]
  ·rw[Qj (by rw[Zt];omega),Qj (by rw[Zt];omega)]
 rw[hp] at hs;have HS:=aa hs;obtain⟨n,hn⟩:=eX l.length;rw[←hn] at jb⊢;obtain⟨p,tA⟩:=eX (61*i);rw[←tA] at HS;have w1:wrap64 ((i:Int)*61)=p:=by unfold wrap64;omega
 have w2:wrap64 ((i:Int)+1)=i+1:=by unfold wrap64;omega
 have w3:wrap64 (((i:Int)+1)*61)=(p:Int)+61:=by unfold wrap64;omega
 have hpq:min ((p:Int)+61) n=q:=by omega
 have h1:(0:Int)≤p:=by omega
 have h2:(p:Int)≤q:=by omega
 have h3:(q:Int)≤c:=by omega
 have h4:p≤q:=by omega
 have h5:q≤c:=by omega
 have h6:¬c=p:=by omega
 clear h hl hi pk hq hs hp hn tA jb;go_enter func151,ntmps151;go_wp2_with fail;go_ret;exact⟨⟨_,rfl,HS.o⟩,rfl⟩
end
section
open Go.RowKit
attribute [local go_sem] Oper.semAt_some
def ja (c:aM):List Va:=[.int .i64 c.block,.int .i64 c.depth,.int .i64 c.ao]
def ew (cells:List aM):List Va:=cells.flatMap ja
def di (cells:List aM) (dep:Nat) (sv pv gv:Va):List Va:=ew cells++[.int .u8 dep,sv,pv,gv]
theorem eU (cells:List aM):(ew cells).length=3*cells.length:=by
 unfold ew;rw[List.length_flatMap];have:(cells.map fun a=>(ja a).length)=cells.map fun _=>3:=Zj fun x _=>rfl
 rw[this];simp[List.map_const'];omega
theorem iD:∀(cells:List aM) (n:Nat) (c:aM),cells[n]? =some c→∀j,j<3→(ew cells)[n*3+j]? =(ja c)[j]?
 |[],_,_,h,_,_=>by simp at h
 |a::r,0,c,h,j,hj=>by
  simp at h;subst h;unfold ew;rw[Xz,QR,QH,QN (by simpa[ja] using hj)]
 |a::r,n+1,c,h,j,hj=>by
  have:=iD r n c (by simpa using h) j hj;unfold ew at this⊢;rw[QH,QM (by simp[ja];omega),←this]
  congr 1
  simp[ja];omega
theorem nB:∀(cells:List aM) (n:Nat) (c c' :aM) (j:Nat) (u:Va),cells[n]? =some c→(ja c).set j u=ja c'→j<3→(ew cells).set (n*3+j) u=ew (cells.set n c')
 |[],_,_,_,_,_,h,_,_=>by simp at h
 |a::r,0,c,c',j,u,h,he,hj=>by
  simp at h;subst h;unfold ew;rw[Xz,QR,QH,List.set_append_left _ _ (by simpa[ja] using hj),he,Qd,QH]
 |a::r,n+1,c,c',j,u,h,he,hj=>by
  have:=nB r n c c' j u (by simpa using h) he hj;unfold ew at this⊢;rw[QH,ZB _ _ (by simp[ja];omega),Qc,QH,←this]
  congr 2
  simp[ja];omega
section
variable {cells : List aM} {dep : Nat} {sv pv gv : Va}
theorem gT (n:Nat) (c:aM) (h:cells[n]? =some c) (j:Nat) (hj:j<3):(di cells dep sv pv gv)[n*3+j]? =(ja c)[j]? :=by
 have hn:=(Ql.1 h).1;unfold di;rw[QN (by rw[eU];omega),iD cells n c h j hj]
theorem bq (hl:cells.length=256) (j:Nat):(di cells dep sv pv gv)[768+j]? =[.int .u8 dep,sv,pv,gv][j]? :=by
 unfold di;rw[QM (by rw[eU];omega),eU,hl,show 768+j - 3*256=j by omega]
theorem il (n:Nat) (c c' :aM) (j:Nat) (u:Va) (h:cells[n]? =some c) (he:(ja c).set j u=ja c') (hj:j<3):(di cells dep sv pv gv).set (n*3+j) u=di (cells.set n c') dep sv pv gv:=by
 have hn:=(Ql.1 h).1;unfold di;rw[List.set_append_left _ _ (by rw[eU];omega),nB cells n c c' j u h he hj]
theorem fC (hl:cells.length=256) (j:Nat) (u:Va):(di cells dep sv pv gv).set (768+j) u=ew cells++[.int .u8 dep,sv,pv,gv].set j u:=by
 unfold di;rw[ZB _ _ (by rw[eU];omega),eU,hl,show 768+j - 3*256=j by omega]
end
structure ahq (w:Wo) (pb gb:Nat) (cells:List aM) (dep N:Nat) (pv gv:Va) (k:Nat) (wr:Wo):Prop where
 own:aq wr pb 152 (di cells dep (.slice (some ⟨gb,0,none⟩) N N) pv gv)
 row:aq wr gb 61 (((dS dep cells).take k++List.replicate (N - k) 0).map (.int .u16))
 aL:aG (fun x=>x=pb) w wr
theorem fe (dep:Nat) (cells:List aM):(dS dep cells).length=2^dep:=by simp[dS]
theorem C8 {w:Wo} {base g:Nat} {e:TypeId} {k:IntKind} {xs:List Int} (h:aq w g e (xs.map (.int k))) (hb:base≤g) (hm:xs.length≤maxLen):aB w base e k (.slice (some ⟨g,0,none⟩) xs.length xs.length) xs:=
 ⟨by simp,.inr ⟨g,xs.length,_,rfl,hb,h,Qg _,hm,by simp,by rw[Qj (by simp)]⟩⟩
theorem GH {dep N k:Nat} {cells:List aM} {m:Nat} {c:aM} (hN:N=2^dep) (hk:k<N) (hm:m=k*2^(8 - dep)) (hc:cells[m]? =some c):
  (((dS dep cells).take k++List.replicate (N - k) (0:Int)).map (Value.int .u16)).set k (.int .u16 c.block)=((dS dep cells).take (k+1)++List.replicate (N - (k+1)) (0:Int)).map (.int .u16):=by
 have hx:(dS dep cells)[k]? =some c.block:=by unfold dS;rw[Qt,List.getElem?_range (by rw[←hN];exact hk)];show some (cells.getD (k*2^(8 - dep)) _).block=_;rw[←hm,Qe,hc];rfl
 have hl:((dS dep cells).take k).length=k:=by rw[Qu,fe,←hN];omega
 rw[←List.map_set,aA _ _ _ hx,ZB _ _ (by rw[hl];exact Qg _),hl,XE,QY,show N - k=(N - (k+1))+1 by omega,List.replicate_succ];rfl
theorem yH (w:Wo) (pb:Nat) (cells:List aM) (dep:Nat) (sv pv gv:Va) (h:aq w pb 152 (di cells dep sv pv gv)) (hl:cells.length=256) (hd:dep≤8) (hb:∀c∈cells,0≤c.block∧c.block<65536):
  Calls prog 150 #[.pointer (some ⟨pb,0,none⟩)] w fun r w' =>∃tZ,r= .returned (.tuple #[])∧aq w' pb 152 (di cells dep tZ pv gv)∧aB w' w.heap.size 61 .u16 tZ (dS dep cells)∧aG (fun x=>x=pb) w w' :=by
 obtain⟨N,hN⟩:=eX (2^dep);have sG:N≤256:=by rw[hN];exact Nat.pow_le_pow_right (by decide) hd
 obtain⟨W1,aW⟩:=eX (w.alloc (.cells (List.replicate N (Value.int .u16 0)).toArray 61));obtain⟨gb,EA⟩:=eX w.heap.size;have yX:(Instr.makeSlice 84 (.int .i64 N) (.int .i64 N)).run prog w= .ok (.slice (some ⟨gb,0,none⟩) N N) W1:=by have:=eV underlying84 Jo (eC .u16 0) (by decide) N (by omega) w;rw[aW,EA];exact this
 have amL:=h.cell (bq hl 0);have Tp:min dep 64=dep:=Zh (by omega);have k1:wrap64 ((2:Int)^dep)=(N:Int):=by rw[show((2:Int)^dep)=((2^dep:Nat):Int) from(Int.natCast_pow 2 dep).symm,←hN];unfold wrap64;omega
 have d0:=Xh dep;have b1:Below w.heap.size w W1:=by rw[aW];exact aF _ _
 have X1:=h.on b1;have G1:aq W1 gb 61 (List.replicate N (Value.int .u16 0)):=by rw[aW,EA];exact ar w _ _
 have aaS:=X1.cell (bq hl 1);have anr:=X1.free 769;have tz:pb<gb:=by rw[EA];exact h.lt
 have X2:aq (W1.setCell ⟨pb,769,none⟩ (.slice (some ⟨gb,0,none⟩) N N)) pb 152 (di cells dep (.slice (some ⟨gb,0,none⟩) N N) pv gv):=by have:=X1.set 769 (.slice (some ⟨gb,0,none⟩) N N);rw[show(769:Nat)=768+1 from rfl,fC hl] at this;exact this
 have G2:=G1.az (p:=⟨pb,769,none⟩) (XO tz) (.slice (some ⟨gb,0,none⟩) N N);have c2:aG (fun x=>x=pb) w (W1.setCell ⟨pb,769,none⟩ (.slice (some ⟨gb,0,none⟩) N N)):=(aG.aZ (S:=fun x=>x=pb) b1).setCell (p:=⟨pb,769,none⟩) (fun _=>rfl) _;obtain⟨W2,cE⟩:=eX (W1.setCell ⟨pb,769,none⟩ (.slice (some ⟨gb,0,none⟩) N N));rw[←cE] at X2 G2 c2;have rj:Af (ahq w pb gb cells dep N pv gv 0 W2):=⟨X2,by rw[Zq,QZ,Nat.sub_zero,List.map_replicate];exact G2,c2⟩
 have af5:=X2.cell (bq hl 1);have Tb:=aa cE.symm;have Hg:=dK tz (by rw[EA];exact Qg _:w.heap.size≤gb);have HN:=Ba hN sG hl hd hb;obtain⟨E,hE⟩:=eX (8 - dep);have e1:wrap64 (8 - (dep:Int))=(E:Int):=by unfold wrap64;omega
 have e2:=Zh (by omega);have e3:=Xh E;have agk:N*2^E=256:=by rw[hN,hE,←Nat.pow_add,show dep+(8 - dep)=8 by omega]
 have HE:=dK hE agk;clear h hl hd hb hN sG aW EA b1 X1 G1 X2 G2 c2 cE tz hE agk;go_enter func150,ntmps150;go_upto_region 1 with fail
 rw[Tb.o];clear amL yX anr aaS k1 Tp;go_wp2_with fail;clear af5;go_loopw [20] (fun iv wr=>∃k:Nat,iv= .int .i64 k∧Af (k≤N∧ahq w pb gb cells dep N pv gv k wr)) (fun iv _=>N - (intOf iv).toNat)
 case atStart=>exact⟨0,rfl,Qp _,rj.o⟩
 case round=>
  obtain⟨k,rfl,HR⟩:=hrel;by_cases hk:k<N
  ·obtain⟨m,hm⟩:=eX (k*2^E);have ON:m<256:=by rw[hm,←HE.o.2];exact Nat.mul_lt_mul_of_pos_right hk (Nat.two_pow_pos _)
   have q1:wrap64 ((k:Int)*2^E)=(m:Int):=by rw[show((k:Int)*2^E)=((k*2^E:Nat):Int) by rw[Int.natCast_mul,Int.natCast_pow];rfl,←hm];unfold wrap64;omega
   obtain⟨v1,v2,v3,v4,v5⟩:=Pt (x:=k) HN.o.2.2.2.1 HE.o.1 hm ON;have q2:(m:Int)<256:=by omega
   have q3:=Xh m;obtain⟨c,hc⟩:∃c,cells[m]? =some c:=⟨_,Qf (by rw[HN.o.2.2.1];exact ON)⟩;have iI:=HN.o.2.2.2.2 c (Qi hc);obtain⟨bk,ej⟩:=eX c.block;have q4:IntKind.u16.wrap bk=bk:=by rw[ej];unfold IntKind.wrap;simp[IntKind.signed,IntKind.bits];omega
   have bN:=HR.o.2.own;obtain⟨Wd,dJ⟩:=eX wr.drew;have AG:=aa dJ.symm;have Uy:aq Wd pb 152 (di cells dep (.slice (some ⟨gb,0,none⟩) N N) pv gv):=by rw[dJ];exact bN
   have aaQ:aq Wd gb 61 (((dS dep cells).take k++List.replicate (N - k) 0).map (.int .u16)):=by rw[dJ];exact HR.o.2.row
   have avD:=Uy.cell (bq HN.o.2.2.1 0);have avC:=Uy.cell (bq HN.o.2.2.1 1);have zc:Wd.cell? ⟨pb,m*3,none⟩=some (.int .i64 bk):=by rw[ej];exact Uy.cell (gT m c hc 0 (by decide))
   have zf:=aaQ.free k;have zg:Wd.cell? ⟨gb,k,none⟩=some (.int .u16 0):=aaQ.cell (by rw[Qt,QM (by rw[Qu,fe,←HN.o.1];omega),Zr,Xo (by rw[Qu,fe,←HN.o.1];omega)];rfl)
   have cU:=aa HR.o.2;have HX:=kH hk hc ej hm;have Nt:=HN.o.2.1;obtain⟨u1,u2,u3⟩:=bR hk Nt (by decide);have Hu:=aa u1;clear hm ON hc iI ej bN HR hk u1 Nt dJ Uy aaQ;go_upto_region 4 with fail
   refine wp_region_still_tail 23 (by kernel_rfl) (by kernel_rfl) ?_;simp only[Zw,Zq,Zk,Zl];change wpStill _ _ (World.drew wr) (fun a' =>wpList _ _ _ _ a' (World.drew wr)) _ _;rw[AG.o]
   repeat still_step
   refine wpStill_nil ?_;go_wp2_with fail;refine⟨⟨k+1,by first|rfl|(rw[Hu.o];rfl),HX.o.1,?_⟩,by first|exact al HX.o.1|(rw[Hu.o];exact al HX.o.1)⟩;have o1:aq Wd pb 152 (di cells dep (.slice (some ⟨gb,0,none⟩) N N) pv gv):=by rw[←AG.o];exact cU.o.own
   have o2:aq Wd gb 61 (((dS dep cells).take k++List.replicate (N - k) 0).map (.int .u16)):=by rw[←AG.o];exact cU.o.row
   have o3:aG (fun x=>x=pb) w Wd:=by rw[←AG.o];exact cU.o.aL.drew
   have o4:=o2.set k (.int .u16 bk);rw[HX.o.2.2.1,GH HN.o.1 HX.o.1 (by rw[←HE.o.1];exact HX.o.2.2.2) HX.o.2.1] at o4;rw[HX.o.2.2.1];exact⟨o1.az (p:=⟨gb,k,none⟩) (XP Hg.o.1) _,o4,o3.setCell (p:=⟨gb,k,none⟩) (fun h=>absurd h (XV.2 Hg.o.2)) _⟩
  ·have cH:=QE HR.o.1 (QC hk);have cU:=aa HR.o.2;subst cH;clear HR hk;go_wp2_with fail;go_end0;have h1:=cU.o.row;rw[XE,List.replicate_zero,Zi,Qj (by rw[fe,←HN.o.1];exact Qg _)] at h1;have h2:=C8 h1 Hg.o.2 (by rw[fe,←HN.o.1];have:=HN.o.2.1;unfold maxLen;omega);rw[fe,←HN.o.1] at h2;exact⟨_,rfl,cU.o.own,h2,cU.o.aL⟩
end
section
open Go.RowKit
attribute [local go_sem] Oper.semAt_some
variable {k n : Nat} {l : List aM} {c : aM}
theorem xS (dep:Nat):∀(ae:List (Nat×Int)) (j:Nat) (s:Nat×Int),ae[j]? =some s→∀i,i<s.1→(uH dep ae)[aC ae j+i]? =some ⟨s.2,dep - s.1.log2,0⟩
 |[],_,_,h,_,_=>by simp at h
 |a::r,0,s,h,i,hi=>by
  simp at h;subst h;unfold uH;rw[QH,qS,QR,QN (by simpa using hi),Zr,Xo hi]
 |a::r,j+1,s,h,i,hi=>by
  have ih:=xS dep r j s (by simpa using h) i hi;have e:aC (a::r) (j+1)=a.1+aC r j:=by unfold aC;simp
  unfold uH at ih⊢;rw[QH,e,QM (by rw[QK];omega),QK,←ih]
  congr 1
  omega
theorem cX (dep:Nat) (ae:List (Nat×Int)):(bc dep ae).length=256:=by simp[bc]
theorem G0 {dep:Nat} {ae:List (Nat×Int)} {j i e:Nat} {s:Nat×Int} (hn:n<256) (hs:ae[j]? =some s) (hi:i<s.1) (he:s.1=2^e) (hq:n/2^(8 - dep)=aC ae j+i):(bc dep ae)[n]? =some ⟨s.2,dep - e,0⟩:=by
 unfold bc;rw[Qt,List.getElem?_range hn];show some ((uH dep ae).getD (n/2^(8 - dep)) _)=_;rw[hq,Qe,xS dep ae j s hs i hi,he,Nat.log2_two_pow];rfl
def BB:aM:=⟨0,0,0⟩
def qw (l:List aM) (k:Nat):List aM:=l.take k++List.replicate (256 - k) BB
theorem GN (l:List aM):qw l 0=List.replicate 256 BB:=rfl
theorem Ma (h:l.length=256):qw l 256=l:=by
 unfold qw;rw[XE,List.replicate_zero,Zi,Qj (Xg h)]
theorem yK (h:l.length=256) (hk:k<256):(qw l k)[k]? =some BB:=by
 unfold qw;have hl:(l.take k).length=k:=by rw[Qu,h];omega
 rw[QM (by rw[hl];exact Qg _),hl,XE,Zr,Xo (by omega)]
theorem LZ (h:l.length=256) (hk:k<256) (hc:l[k]? =some c):(qw l k).set k c=qw l (k+1):=by
 unfold qw;have hl:(l.take k).length=k:=by rw[Qu,h];omega
 rw[ZB _ _ (by rw[hl];exact Qg _),hl,XE,aA l k c hc,QY,show 256 - k=(256 - (k+1))+1 by omega,List.replicate_succ];rfl
theorem KI (h:l[n]? =some c) (b:Int) (d q:Nat):(((ew l).set (n*3) (.int .i64 b)).set (n*3+1) (.int .i64 d)).set (n*3+2) (.int .i64 q)=ew (l.set n ⟨b,d,q⟩):=by
 have hn:=(Ql.1 h).1;have h1:(ew l).set (n*3) (.int .i64 b)=ew (l.set n {c with block:=b}):=nB l n c _ 0 _ h rfl (by decide);rw[h1,nB (l.set n {c with block:=b}) n {c with block:=b} ⟨b,d,c.ao⟩ 1 _ (by rw[List.getElem?_set_self hn]) rfl (by decide),List.set_set,nB (l.set n ⟨b,d,c.ao⟩) n ⟨b,d,c.ao⟩ ⟨b,d,q⟩ 2 _ (by rw[List.getElem?_set_self hn]) rfl (by decide),List.set_set]
theorem KH:ew (List.replicate 256 BB)=List.replicate 768 (.int .i64 0):=by
 refine List.eq_replicate_iff.2 ⟨by rw[eU,QK],fun b hb=> ?_⟩;unfold ew at hb;obtain⟨c,hc,hb⟩:=QT.1 hb;rw[QJ hc] at hb;simp[ja,BB] at hb;exact hb
theorem PZ (l:List aM):∀u∈ew l,u.oneCell' =true:=by
 intro u hu;unfold ew at hu;obtain⟨c,-,hu⟩:=QT.1 hu;simp[ja] at hu;rcases hu with rfl|rfl|rfl<;>rfl
theorem acd:(prog.info? 150).map (fun i=>(i.zero,i.size))=some (some (.agg (List.replicate 768 (Value.int .i64 0)).toArray),(List.replicate 768 (Value.int .i64 0)).toArray.size):=by kernel_rfl
theorem Fi:(prog.info? 150).map (·.size)=some 768:=by kernel_rfl
structure aht (w:Wo) (l:List aM) (db rb ob:Nat) (dc:List Va) (k:Nat) (wr:Wo):Prop where
 own:aq wr ob 150 (ew (qw l k))
 res:aq wr rb 150 (List.replicate 768 (Value.int .i64 0))
 dir:aq wr db 133 dc
 low:Below w.heap.size w wr
theorem G8 (w:Wo) (dep:Nat) (ae:List (Nat×Int)) (hs:eQ dep ae) (v:Va) (hv:Ns w w.heap.size .u16 v (expand ae)):
  Calls prog 146 #[.agg #[.int .u8 dep,v]] w fun r w' =>r= .returned (.agg (ew (bc dep ae)).toArray)∧Below w.heap.size w w' :=by
 have kO:0<(expand ae).length:=by rw[hs.sum];exact Nat.two_pow_pos _
 obtain⟨bd,od,cd,rfl,-,-,tF,aH⟩:=hv.cells kO;obtain⟨M,hM⟩:∃M,M=(expand ae).length:=⟨_,rfl⟩;have TN:=hs.len;rw[←hM] at TN⊢;obtain⟨Z,hZ⟩:∃Z,Z=(List.replicate 768 (Value.int .i64 0)).toArray:=⟨_,rfl⟩;have HZi:Af ((prog.info? 150).map (fun i=>(i.zero,i.size))=some (some (.agg Z),Z.size)):=by rw[hZ];exact acd
 have HZ0:Af (Tryz.zeroCells150=Z):=by show _=_;rw[hZ];kernel_rfl
 obtain⟨W0,aY⟩:∃y,y=w.alloc (.cells #[.int .u8 dep,.slice (some ⟨bd,od,none⟩) M cd] 133):=⟨_,rfl⟩;have X0:aq W0 w.heap.size 133 [.int .u8 dep,.slice (some ⟨bd,od,none⟩) M cd]:=by rw[aY];exact ar w [_,_] _
 have B0:Below w.heap.size w W0:=by rw[aY];exact aF _ _
 obtain⟨W1,aW⟩:∃y,y=W0.alloc (.cells Z 150):=⟨_,rfl⟩;have Y1:aq W1 W0.heap.size 150 (List.replicate 768 (Value.int .i64 0)):=by rw[aW,hZ];exact ar W0 _ _
 have B1:Below W0.heap.size W0 W1:=by rw[aW];exact aF _ _
 obtain⟨W2,cE⟩:∃y,y=W1.alloc (.cells Z 150):=⟨_,rfl⟩;have Y2:aq W2 W1.heap.size 150 (List.replicate 768 (Value.int .i64 0)):=by rw[cE,hZ];exact ar W1 _ _
 have B2:Below W1.heap.size W1 W2:=by rw[cE];exact aF _ _
 obtain⟨db,iU⟩:∃y,y=w.heap.size:=⟨_,rfl⟩;obtain⟨rb,ft⟩:∃y,y=W0.heap.size:=⟨_,rfl⟩;obtain⟨ob,Ty⟩:∃y,y=W1.heap.size:=⟨_,rfl⟩;have fI:=B0.trans (B1.mono B0.size);have rj:Af (aht w (bc dep ae) db rb ob [.int .u8 dep,.slice (some ⟨bd,od,none⟩) M cd] 0 W2):=⟨by rw[GN,KH,Ty];exact Y2,by rw[ft];exact Y1.on B2,by rw[iU];exact(X0.on B1).on B2,fI.trans (B2.mono fI.size)⟩;have fq:Af (w.heap.size≤db∧db<rb∧rb<ob):=⟨by rw[iU];exact Qg _,by rw[iU,ft];exact X0.lt,by rw[ft,Ty];exact Y1.lt⟩;have HW:Af (w.alloc (.cells #[.int .u8 dep,.slice (some ⟨bd,od,none⟩) M cd] 133)=W0∧W0.alloc (.cells Z 150)=W1∧W1.alloc (.cells Z 150)=W2∧w.heap.size=db∧W0.heap.size=rb∧W1.heap.size=ob):=⟨aY.symm,aW.symm,cE.symm,iU.symm,ft.symm,Ty.symm⟩;have AO:Ns w w.heap.size .u16 (.slice (some ⟨bd,od,none⟩) M cd) (expand ae):=by rw[hM];exact hv
 have HV:=aa AO;have HS:Af (eQ dep ae∧M=(expand ae).length∧M≤256∧bd<w.heap.size∧∀j,j<M→w.cell? ⟨bd,od+j,none⟩=some (.int .u16 ((expand ae).getD j 0))):=⟨hs,hM,TN,tF,by rw[hM];exact aH⟩;obtain⟨T,hT⟩:∃T,T=(ew (bc dep ae)).toArray:=⟨_,rfl⟩;have HT:=aa hT;rw[←hT];obtain⟨E,hE⟩:∃E,E=8 - dep:=⟨_,rfl⟩;have HE:=aa hE;have e2:min E 64=E:=Zh (by omega);have e3:(0:Int)≤E:=Xh E;have qc:=hs.d8;have e4:IntKind.i64.wrap (dep:Int)=dep:=by simp only[XN];omega
 have e5:IntKind.i64.wrap (8 - (dep:Int))=E:=by simp only[XN];omega
 have e6:wrap64 (8 - (dep:Int))=E:=by unfold wrap64;omega
 clear hs hv AO hM TN hZ aY X0 B0 aW Y1 B1 cE Y2 B2 fI iU ft Ty hT tF aH kO hE qc;go_enter func146,ntmps146;go_wp2_with(rw[HW.o.1,HW.o.2.2.2.1];refine wl_alloc_arr Z HZi.o ?_;go_must(rw[HW.o.2.1,HW.o.2.2.2.2.1]));rw[HZ0.o,HW.o.2.2.1,HW.o.2.2.2.2.2];go_loopw [8] (fun iv wr=>∃k:Nat,iv= .int .i64 k∧Af (k≤256∧aht w (bc dep ae) db rb ob [.int .u8 dep,.slice (some ⟨bd,od,none⟩) M cd] k wr)) (fun iv _=>256 - (intOf iv).toNat)
 case atStart=>exact⟨0,rfl,Qp _,rj.o⟩
 case round=>
  obtain⟨k,rfl,HR⟩:=hrel;by_cases hk:k<256
  ·obtain⟨q,hq⟩:∃q,q=k/2^E:=⟨_,rfl⟩;have hqM:q<M:=by rw[HS.o.2.1,HS.o.1.sum,hq];refine(Nat.div_lt_iff_lt_mul (Nat.two_pow_pos _)).2 ?_;rw[←Nat.pow_add,HE.o,show dep+(8 - dep)=8 by have:=HS.o.1.d8;omega];exact hk
   have q1:((k:Int)/2^E)=(q:Int):=by rw[show((2:Int)^E)=((2^E:Nat):Int) from(Int.natCast_pow 2 E).symm,←Int.natCast_ediv,←hq]
   obtain⟨j,sg,i,lA,hi,Wk⟩:=lo ae q (by rw[←HS.o.2.1];exact hqM);obtain⟨e,he8,he,-⟩:=HS.o.1.two j sg lA;have jq:=HS.o.1.Ej sg (Qi lA);obtain⟨bk,ej⟩:∃y,y=sg.2:=⟨_,rfl⟩;have w4:IntKind.i64.wrap bk=bk:=by rw[ej];exact qR ⟨Int.le_of_lt jq.1,jq.2⟩
   have aU:=HR.o.2.low;have tF:=HS.o.2.2.2.1;have y0:wr.cell? ⟨bd,od+q,none⟩=some (.int .u16 bk):=(aU.cell (p:=⟨bd,od+q,none⟩) tF).trans (by rw[HS.o.2.2.2.2 q hqM,Wk,Qe,eh ae j sg lA i hi,ej];rfl)
   have d0:wr.cell? ⟨db,0,none⟩=some (.int .u8 dep):=HR.o.2.dir.cell rfl;have d1:wr.cell? ⟨db,1,none⟩=some (.slice (some ⟨bd,od,none⟩) M cd):=HR.o.2.dir.cell rfl;have HB:=nT wr dep ae HS.o.1 (.slice (some ⟨bd,od,none⟩) M cd) (Sl.more (Sl.below HV.o aU) aU.size) j i e sg lA hi he;rw[←Wk] at HB;obtain⟨fj,hfj⟩:∃y,y=aC ae j:=⟨_,rfl⟩;obtain⟨dk,hdk⟩:∃y,y=dep - e:=⟨_,rfl⟩;rw[←hfj,←hdk] at HB;have HB:=aa HB;have HX:Af (k<256∧(bc dep ae)[k]? =some ⟨bk,dk,0⟩):=⟨hk,by rw[ej,hdk];exact G0 hk lA hi he (by rw[←HE.o,←hq];exact Wk)⟩;have cU:=aa HR.o.2;have bN:=HR.o.2.own;have HF:Af (∀W,Below wr.heap.size wr W→(W.cell? ⟨bd,od+q,none⟩=some (.int .u16 bk)∧W.cell? ⟨db,0,none⟩=some (.int .u8 dep)∧W.cell? ⟨db,1,none⟩=some (.slice (some ⟨bd,od,none⟩) M cd))∧(W.cell? ⟨ob,k*3,none⟩=some (.int .i64 0)∧W.cell? ⟨ob,k*3+1,none⟩=some (.int .i64 0)∧W.cell? ⟨ob,k*3+2,none⟩=some (.int .i64 0))∧W.frozen? ⟨ob,k*3,none⟩=false∧W.frozen? ⟨ob,k*3+1,none⟩=false∧W.frozen? ⟨ob,k*3+2,none⟩=false):=fun W hW=>by have o1:=cU.o.own.on hW;have z:=yK (cX dep ae) HX.o.1;refine⟨⟨?_,(cU.o.dir.on hW).cell rfl,(cU.o.dir.on hW).cell rfl⟩,⟨o1.cell (iD _ k _ z 0 (by decide)),o1.cell (iD _ k _ z 1 (by decide)),o1.cell (iD _ k _ z 2 (by decide))⟩,o1.free _,o1.free _,o1.free _⟩;exact(hW.cell (p:=⟨bd,od+q,none⟩) (Qn HS.o.2.2.2.1 cU.o.low.size)).trans y0
   have k0:(0:Int)≤k:=Xh k;have k1:(k:Int)<256:=by omega
   have q0:(0:Int)≤q:=Xh q;have q2:(q:Int)<M:=by omega
   have w1:wrap64 ((k:Int)+1)=(k:Int)+1:=by unfold wrap64;omega
   have Hw:=aa w1;clear hq hqM lA hi Wk he8 he jq ej aU tF hfj hdk HR bN hk w1;go_upto_region 6 with fail
   go_upto_region 7 with(go_at_call 123;go_must(refine HB.o.mono ?_);rintro e W6 ⟨rfl,b6⟩;have f6:=HF.o W6 b6;have B6:=aa b6;clear b6)
   obtain⟨⟨g0,g1,g2⟩,⟨h0,h1,h2⟩,r0,r1,r2⟩:=f6;clear y0 d0 d1;go_wp2_with fail;refine⟨⟨k+1,by first|rfl|(rw[Hw.o];rfl),HX.o.1,?_⟩,by first|exact al HX.o.1|(rw[Hw.o];exact al HX.o.1)⟩;have o6:=(((cU.o.own.on B6.o).set (k*3) (.int .i64 bk)).set (k*3+1) (.int .i64 dk)).set (k*3+2) (.int .i64 0);have hz:(((0:Nat):Int))=0:=rfl;rw[←hz,KI (yK (cX dep ae) HX.o.1),LZ (cX dep ae) HX.o.1 HX.o.2] at o6;have wU:=fq.o;have e1:ob≠rb:=XO wU.2.2;have e2:ob≠db:=XO (Nat.lt_trans wU.2.1 wU.2.2);have e3:w.heap.size≤ob:=Qh wU.1 (QX (Nat.lt_trans wU.2.1 wU.2.2));exact⟨o6,(((cU.o.res.on B6.o).az (p:=⟨ob,k*3,none⟩) (Xm e1) _).az (p:=⟨ob,k*3+1,none⟩) (Xm e1) _).az (p:=⟨ob,k*3+2,none⟩) (Xm e1) _,
    (((cU.o.dir.on B6.o).az (p:=⟨ob,k*3,none⟩) (Xm e2) _).az (p:=⟨ob,k*3+1,none⟩) (Xm e2) _).az (p:=⟨ob,k*3+2,none⟩) (Xm e2) _,
    (((cU.o.low.trans (B6.o.mono cU.o.low.size)).setCell (p:=⟨ob,k*3,none⟩) e3 _).setCell (p:=⟨ob,k*3+1,none⟩) e3 _).setCell (p:=⟨ob,k*3+2,none⟩) e3 _⟩
  ·have cH:k=256:=QE HR.o.1 (QC hk);have cO:=HR.o.2;rw[cH] at cO;have bN:=cO.own;rw[Ma (cX dep ae)] at bN;have hl:(ew (bc dep ae)).length=768:=by rw[eU,cX]
   have xF:=aa (fN (P:=prog) bN underlying150 (by rw[hl];exact Fi));have HSt:=aa (jo (P:=prog) (new:=ew (bc dep ae)) cO.res (by rw[hl];exact Fi) (by rw[hl];simp) (PZ _));have oL:=lZ cO.res (ew (bc dep ae));obtain⟨W9,ED⟩:∃y,y=wr.setRow rb (ew (bc dep ae)).toArray:=⟨_,rfl⟩;have aU:=below_setRow cO.low (Qh fq.o.1 (QX fq.o.2.1)) (ew (bc dep ae)).toArray;rw[←ED] at HSt oL aU;have On:=aa (fN (P:=prog) oL underlying150 (by rw[hl];exact Fi));have NN:=aa aU;rw[←HT.o] at xF HSt On;subst cH;clear HR hk cO bN hl oL ED aU;go_wp2_with(first
    |((with_reducible refine wl_load (.pointer (some ⟨ob,0,none⟩)) (.agg T) ?_ xF.o ?_);go_must((·rfl);skip))
    |((with_reducible refine wl_store (.pointer (some ⟨rb,0,none⟩)) (.agg T) ?_ ?_ HSt.o ?_);go_must((·rfl);(·rfl);skip)))
   refine bodyPost_ret (v:= .agg T) ?_ rfl ⟨rfl,NN.o⟩;refine rQ (a:=⟨rb,0,none⟩) rfl rfl ?_;have h1:=On.o;simpa[Instr.loadAt,Instr.sureAddr,Result.andThen] using h1
end
end Go.Proofs.YthgdhacopamklaaGreat

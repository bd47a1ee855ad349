/- What HashNone asks, part 22 of 41: parts of the walks and laws, each true as it stands. -/
import Derived.Test.YthgdhacopamklaaGreatTAU
set_option maxHeartbeats 16000000
set_option maxRecDepth 100000
set_option linter.unusedVariables false
set_option linter.unusedSimpArgs false
namespace Go.Proofs.YthgdhacopamklaaGreat
open Go.Proofs.Tryz
section
open Go.RowKit
attribute [local go_sem] Oper.semAt_some
variable {W W' w w' : Wo} {bv lv sv v : Va} {ps : List (ay × Va)} {S : Nat → Prop} {c : ak} {base cb g0 g2 rb sb : Nat} {c4 s3 : List Va} {blocks : List Int} {l : List aD} {T : TypeId} {s : ay}
structure iP (w:Wo) (S:Nat→Prop) (v:Va) (ps:List (ay×Va)):Prop where
 s:mP w w.heap.size v ps
 a:Ap S v
 e:∀p∈ps,Ap S p.2
structure jw (w:Wo) (S:Nat→Prop) (v:Va) (c:ak):Prop where
 ex:∃bv sv ps,v= .agg #[.int .i64 c.ax,.int .i64 c.depth,bv,sv]∧Ns w w.heap.size .i64 bv c.blocks∧Ap S bv∧iP w S sv ps∧ps.map Prod.fst=c.ah
theorem mP.on (h:mP w w.heap.size v ps) (hb:Below w.heap.size w w'):mP w' w'.heap.size v ps:=(h.below hb).more hb.size
theorem dU {k:IntKind} {xs:List Int} (h:Ns w w.heap.size k v xs) (hb:Below w.heap.size w w'):Ns w' w'.heap.size k v xs:=Sl.more (Sl.below h hb) hb.size
theorem gA {es:List aD} (h:Es w w.heap.size v es) (hb:Below w.heap.size w w'):Es w' w'.heap.size v es:=(h.below hb).more hb.size
theorem iP.on (h:iP w S v ps) (hb:Below w.heap.size w w'):iP w' S v ps:=⟨h.s.on hb,h.a,h.e⟩
theorem jw.on (h:jw w S v c) (hb:Below w.heap.size w w'):jw w' S v c:=by
 obtain⟨bv,sv,ps,e,h1,h2,h3,h4⟩:=h.ex;exact⟨bv,sv,ps,e,dU h1 hb,h2,h3.on hb,h4⟩
theorem jw.chn (h:jw w S v c):Uq w w.heap.size v c:=by
 obtain⟨bv,sv,ps,e,h1,h2,h3,h4⟩:=h.ex;exact⟨bv,sv,ps,e,h1,h3.s,h4⟩
theorem jG {e sz n:Nat} {xs:List Va} (h:w.ownsRow base e sz v n xs) (hS:∀x,S x→x<base):Ap S v:=by
 intro b o n' c' _ hv hs;rcases h.2 with⟨rfl,_⟩|⟨g,cap,cur,rfl,h1,_⟩
 ·cases hv
 ·cases hv
  have:=hS _ hs;omega
theorem rl.cha {m:tL} (h:rl w base m) (hS:∀x,S x→x<base):jw w S (.agg #[.int .i64 m.c.ax,.int .i64 m.c.depth,m.bv,m.sv]) m.c:=
 ⟨m.bv,m.sv,m.ps,rfl,h.b.ns,jG h.b hS,⟨h.s.Wa,jG h.s.row hS,fun p hp=>jG (h.s.es p hp).1 hS⟩,h.p⟩
theorem kP.on (h:kP w base v ps) (hb:Below w.heap.size w w'):kP w' base v ps:=aS h hb
structure Ti (w:Wo) (W:Wo) (cb sb rb:Nat) (c4 s3:List Va) (bv sv lv:Va) (blocks:List Int) (ps:List (ay×Va)) (l:List aD):Prop where
 c:aq W cb 50 c4
 s:aq W sb 92 s3
 r:aq W rb 50 [.int .i64 0,.int .i64 0,.slice none 0 0,.slice none 0 0]
 bn:Ns W W.heap.size .i64 bv blocks
 sn:mP W W.heap.size sv ps
 en:Es W W.heap.size lv l
 low:Below w.heap.size w W
theorem Ti.on (h:Ti w W cb sb rb c4 s3 bv sv lv blocks ps l) (hb:Below W.heap.size W W'):Ti w W' cb sb rb c4 s3 bv sv lv blocks ps l:=
 ⟨h.c.on hb,h.s.on hb,h.r.on hb,dU h.bn hb,h.sn.on hb,gA h.en hb,h.low.trans (hb.mono h.low.size)⟩
theorem Vt {x:Int} (X0:aq W g0 3 [.int .i64 x]) (hb:Ns W W.heap.size .i64 bv blocks) (X2:aq W g2 T [.slice (some ⟨g0,0,none⟩) 1 1,bv]):NsL W (.slice (some ⟨g2,0,none⟩) 2 2) [(.slice (some ⟨g0,0,none⟩) 1 1,[x]),(bv,blocks)]:=
 ⟨X2.sl (o:=0) (n:=2) (sz:=1) (c:=2) (by simp) (Qg _) (by unfold maxLen;decide),fun p hp=>by
  rcases QA.1 hp with rfl|hp
  ·exact X0.sl (o:=0) (n:=1) (sz:=1) (c:=1) (by simp) (Qg _) (by unfold maxLen;decide)
  ·rw[Qx] at hp
   subst hp;exact hb⟩
theorem Vd {g:Nat} (X:aq W g 92 [.int .u8 s.depth,.int .u32 s.next,lv]) (he:Es W W.heap.size lv s.es) (ho:pC s):mP W W.heap.size (.slice (some ⟨g,0,none⟩) 1 1) [(s,lv)]:=
 ⟨X.sl (o:=0) (n:=1) (sz:=3) (c:=1) (by simp) (Qg _) (by unfold maxLen;decide),fun p hp=>by
  rw[Qx] at hp;subst hp;exact⟨he,ho⟩⟩
theorem Vb (X0:aq W g0 92 [.int .u8 s.depth,.int .u32 s.next,lv]) (he:Es W W.heap.size lv s.es) (ho:pC s) (hs:mP W W.heap.size sv ps) (X2:aq W g2 T [.slice (some ⟨g0,0,none⟩) 1 1,sv]):SsL W (.slice (some ⟨g2,0,none⟩) 2 2) [(.slice (some ⟨g0,0,none⟩) 1 1,[(s,lv)]),(sv,ps)]:=
 ⟨X2.sl (o:=0) (n:=2) (sz:=1) (c:=2) (by simp) (Qg _) (by unfold maxLen;decide),fun p hp=>by
  rcases QA.1 hp with rfl|hp
  ·exact Vd X0 he ho
  ·rw[Qx] at hp
   subst hp;exact hs⟩
theorem Vg (h:kP W base v ps) (he:∀p∈ps,Es W W.heap.size p.2 p.1.es∧pC p.1):mP W W.heap.size v ps:=⟨Sl.bU h,he⟩
theorem Su (h:Ti w W cb sb rb c4 s3 bv sv lv blocks ps l) (h1:sb≠cb) (h2:sb≠rb) (h3:w.heap.size≤sb) (WB:Ns w w.heap.size .i64 bv blocks) (Wh:mP w w.heap.size sv ps) (hen:Es w w.heap.size lv l) (j:Nat) (u:Va):Ti w (W.setCell ⟨sb,j,none⟩ u) cb sb rb c4 (s3.set j u) bv sv lv blocks ps l:=by
 have aU:=h.low.setCell (p:=⟨sb,j,none⟩) h3 u;exact⟨h.c.az (p:=⟨sb,j,none⟩) (Xm h1) u,h.s.set j u,h.r.az (p:=⟨sb,j,none⟩) (Xm h2) u,dU WB aU,Wh.on aU,gA hen aU,aU⟩
structure AhC (w W:Wo) (cb rb:Nat) (c4:List Va) (bv:Va) (blocks:List Int) (sv:Va) (ps:List (ay×Va)):Prop where
 c:aq W cb 50 c4
 r:aq W rb 50 [.int .i64 0,.int .i64 0,.slice none 0 0,.slice none 0 0]
 b:aB W w.heap.size 3 .i64 bv blocks
 s:kP W w.heap.size sv ps
 low:Below w.heap.size w W
theorem AhC.set (h:AhC w W cb rb c4 bv blocks sv ps) (bT:rb≠cb) (hle:w.heap.size≤cb) (j:Nat) (u:Va):AhC w (W.setCell ⟨cb,j,none⟩ u) cb rb (c4.set j u) bv blocks sv ps:=
 ⟨h.c.set j u,h.r.az (p:=⟨cb,j,none⟩) bT u,aB.aT (T:=50) h.b h.c (by decide) j u,ie h.s h.c (by decide) j u,h.low.setCell (p:=⟨cb,j,none⟩) hle u⟩
def Ah2 (T1 T2:TypeId) (c1:List Va) (v:Va) (R:Wo→Va→Prop) (W:Wo) (x y z:Va):Nat→Prop
 |0=>True
 |1=>∃g,x= .slice (some ⟨g,0,none⟩) 1 1∧aq W g T1 c1
 |2=>∃g h,y= .slice (some ⟨h,0,none⟩) 2 2∧aq W g T1 c1∧aq W h T2 [.slice (some ⟨g,0,none⟩) 1 1,v]
 |_=>(∃A n c,z= .slice A n c)∧R W z
theorem Ah2.on {T1 T2:TypeId} {c1:List Va} {x y z:Va} {R:Wo→Va→Prop}:∀{i:Nat},Ah2 T1 T2 c1 v R W x y z i→(R W z→R W' z)→Below W.heap.size W W'→Ah2 T1 T2 c1 v R W' x y z i
 |0,_,_,_=>trivial
 |1,⟨g,e,h⟩,_,b=>⟨g,e,h.on b⟩
 |2,⟨g,h,e,h1,h2⟩,_,b=>⟨g,h,e,h1.on b,h2.on b⟩
 |_+3,⟨e,h⟩,hR,_=>⟨e,hR h⟩
theorem pR (w:Wo) (S:Nat→Prop) (hS:∀x,S x→x<w.heap.size) (ax dep:Nat) (l:List aD) (blocks:List Int) (ps:List (ay×Va)) (lv bv sv:Va) (hd:dep≤8) (hl:Es w w.heap.size lv l) (hla:Ap S lv) (hl9:l.length≤9)
  (hb:Ns w w.heap.size .i64 bv blocks) (pq:Ap S bv) (hs:iP w S sv ps) (fg:blocks.length=ps.length) (cC:blocks.length≤4096) (e8:∀x∈blocks,0≤x∧x<4096):
  Calls prog 135 #[.int .i64 ax,.int .i64 dep,lv,bv,sv] w fun e w' =>∃v,e= .returned v∧jw w' S v (bZ ax dep l blocks (ps.map Prod.fst))∧Below w.heap.size w w' :=by
 obtain⟨Al,cl,rfl,-,-⟩:=hl.1.form;obtain⟨Ab,fQ,rfl,-,-⟩:=hb.form;obtain⟨As,gq,rfl⟩:=hs.s.form;obtain⟨nl,oc⟩:∃y,y=l.length:=⟨_,rfl⟩;obtain⟨nb,gZ⟩:=eX blocks.length;have pT:ps.length=nb:=by rw[gZ,fg]
 rw[←oc,←gZ,pT];rw[←oc] at hl hla;rw[←gZ] at hb pq;rw[pT] at hs;have HI:Af ((∀x,S x→x<w.heap.size)∧Es w w.heap.size (.slice Al nl cl) l∧Ap S (.slice Al nl cl)∧Ns w w.heap.size .i64 (.slice Ab nb fQ) blocks∧Ap S (.slice Ab nb fQ)∧iP w S (.slice As nb gq) ps∧nl=l.length∧nl≤9∧nb=blocks.length∧nb=ps.length∧nb≤4096∧dep≤8∧∀x∈blocks,0≤x∧x<4096):=
  ⟨hS,hl,hla,hb,pq,hs,oc,by omega,gZ,pT.symm,by omega,hd,e8⟩
 obtain⟨W0,aY⟩:∃y,y=w.alloc (.cells #[.int .i64 0,.int .i64 0,.slice none 0 0,.slice none 0 0] 50):=⟨_,rfl⟩;have R0:aq W0 w.heap.size 50 [.int .i64 0,.int .i64 0,.slice none 0 0,.slice none 0 0]:=by rw[aY];exact ar w [_,_,_,_] _
 have B0:Below w.heap.size w W0:=by rw[aY];exact aF _ _
 have lz:W0.heap.size=w.heap.size+1:=by rw[aY];simp
 obtain⟨W1,aW,C1,B1⟩:=nW W0 [.int .i64 ax,.int .i64 dep,.slice Ab nb fQ,.slice As nb gq] 50;have fI:=B0.trans (B1.mono B0.size);have R1:=R0.on B1;obtain⟨cb,iI⟩:=eX W0.heap.size;rw[←iI] at C1;have Hcb:Af (w.heap.size<cb):=by show _<_;rw[iI,lz];exact XL _
 have fD:=aa aY.symm;have gB:=dK aW.symm iI.symm;have su:=aa C1;have pX:=aa R1;have wP:=aa fI;have HS0:=aa (lz.symm.trans iI.symm);clear hS hd hl hla hl9 hb pq hs fg cC e8 oc gZ pT aY R0 B0 lz aW C1 B1 fI R1 iI;go_enter func135,ntmps135;go_upto_region 1 with fail
 rw[fD.o];go_upto_region 2 with fail
 rw[gB.o.1]
 try rw[gB.o.2]
 try rw[HS0.o]
 by_cases sF:nl=0∧0<nb
 ·have AE:bZ ax dep l blocks (ps.map Prod.fst)=⟨ax,dep,blocks,ps.map Prod.fst⟩:=by
   unfold bZ;rw[Xo ⟨List.length_eq_zero_iff.1 (HI.o.2.2.2.2.2.2.1.symm.trans sF.1),fun h=>by
    have h1:=HI.o.2.2.2.2.2.2.2.2.1;rw[h] at h1;have:=sF.2;simp at h1;omega⟩]
  obtain⟨h0,h1⟩:=sF;subst h0;have k1:(0:Int)<nb:=Xi.2 h1;obtain⟨c0,c1,c2,c3⟩:=mm su.o;obtain⟨r0,r1,r2,r3⟩:=mm pX.o;obtain⟨f0,f1,f2,f3⟩:=WI pX.o;have Hav:=aa AE;clear h1 AE;go_wp2_with fail;refine bodyPost_ret (lj rfl rfl (eY (oW pX.o _ _ _ _))) rfl ?_;rw[Hav.o];have bw:=(((wP.o.setCell (p:=⟨w.heap.size,0,none⟩) (Qg _) (.int .i64 ax)).setCell (p:=⟨w.heap.size,1,none⟩) (Qg _) (.int .i64 dep)).setCell (p:=⟨w.heap.size,2,none⟩) (Qg _) (.slice Ab nb fQ)).setCell (p:=⟨w.heap.size,3,none⟩) (Qg _) (.slice As nb gq);exact⟨_,rfl,⟨_,_,ps,rfl,dU HI.o.2.2.2.1 bw,HI.o.2.2.2.2.1,HI.o.2.2.2.2.2.1.on bw,rfl⟩,bw⟩
 ·have AE:bZ ax dep l blocks (ps.map Prod.fst)=⟨ax,dep,0::blocks,⟨dep,blocks.headD 0,l⟩::ps.map Prod.fst⟩:=by
   unfold bZ;rw[Xd];rintro⟨h1,h2⟩;refine sF ⟨by rw[HI.o.2.2.2.2.2.2.1,h1];rfl,?_⟩
   rw[HI.o.2.2.2.2.2.2.2.2.1];exact List.length_pos_iff.2 h2
  have Hav:=aa AE;have YT:=aa sF;clear AE sF;go_cut [25] from 18 to 25 (fun v25 W=>v25= .bool false∧Af (W=W1))
  case first=>
   rcases XG nl with h0|h0
   ·have jU:nb=0:=Nat.eq_zero_of_not_pos fun h=>YT.o ⟨h0,h⟩
    subst h0;clear YT;subst jU;go_wp2_with fail;go_meet;exact⟨rfl,rfl⟩
   ·have k0:((nl:Int)==0)=false:=Xc (by omega)
    clear h0;go_wp2_with fail;go_meet;exact⟨rfl,rfl⟩
  case rest=>
   obtain⟨rfl,hw⟩:=hcut;have hw:=hw.o;subst hw;have hdw:IntKind.u8.wrap (dep:Int)=dep:=by
    have h1:=HI.o.2.2.2.2.2.2.2.2.2.2.2.1;unfold IntKind.wrap;simp only[IntKind.signed,IntKind.bits];simp;omega
   go_upto_region 5 with fail
   obtain⟨W5,j6,S5,b5⟩:=nW wc [.int .u8 dep,.int .u32 0,.slice Al nl cl] 92;obtain⟨sb,jq⟩:∃z,z=wc.heap.size:=⟨_,rfl⟩;rw[←j6];rw[←jq] at S5⊢;obtain⟨hd,hhd⟩:∃y,y=blocks.headD 0:=⟨_,rfl⟩;have fq:Af (sb≠cb∧w.heap.size≠cb∧w.heap.size≤cb∧w.heap.size≤sb∧sb≠w.heap.size):=⟨by rw[jq];exact XO su.o.lt,XP Hcb.o,QX Hcb.o,by rw[jq];exact wP.o.size,by rw[jq];exact XO pX.o.lt⟩
   have L5:=wP.o.trans (b5.mono wP.o.size);have A5:Ti w W5 cb sb w.heap.size [.int .i64 ax,.int .i64 dep,.slice Ab nb fQ,.slice As nb gq] [.int .u8 dep,.int .u32 0,.slice Al nl cl] (.slice Ab nb fQ) (.slice As nb gq) (.slice Al nl cl) blocks ps l:=
    ⟨su.o.on b5,S5,pX.o.on b5,dU HI.o.2.2.2.1 L5,HI.o.2.2.2.2.2.1.s.on L5,gA HI.o.2.1 L5,L5⟩
   have HA5:=aa A5;have s1:=S5.cell (j:=1) rfl;have g1:=S5.free 1;have Hhd:=aa hhd;clear j6 jq b5 S5 L5 A5 hhd hdw;obtain⟨k33,agz⟩:∃k:Bool,k=decide (0<nb):=⟨_,rfl⟩;have abA:Af (k33=decide (0<nb)):=agz;clear agz;go_cut [33] from 31 to 33 (fun v33 W=>v33= .bool k33∧Af (Ti w W cb sb w.heap.size [.int .i64 ax,.int .i64 dep,.slice Ab nb fQ,.slice As nb gq] [.int .u8 dep,.int .u32 0,.slice Al nl cl] (.slice Ab nb fQ) (.slice As nb gq) (.slice Al nl cl) blocks ps l))
   case first=>
    go_wp2_with fail;go_meet;exact⟨by rw[abA.o],HA5.o⟩
   case rest=>
   obtain⟨rfl,HA5⟩:=hcut;have s1:=HA5.o.s.cell (j:=1) rfl;have g1:=HA5.o.s.free 1;go_upto_if 33 with fail
   go_cut [38] from 34 to 38 (fun v38 W=>Af (Ti w W cb sb w.heap.size [.int .i64 ax,.int .i64 dep,.slice Ab nb fQ,.slice As nb gq] [.int .u8 dep,.int .u32 hd,.slice Al nl cl] (.slice Ab nb fQ) (.slice As nb gq) (.slice Al nl cl) blocks ps l))
   case first=>
    cases k33
    ·have hh:Af (hd=0):=by
      have h0:nb=0:=by
       have h1:=of_decide_eq_false abA.o.symm;omega
      show _=_;rw[Hhd.o,List.length_eq_zero_iff.1 (HI.o.2.2.2.2.2.2.2.2.1.symm.trans h0)];rfl
     go_wp2_with fail;go_meet;show Ti _ _ _ _ _ _ _ _ _ _ _ _ _;rw[hh.o];exact HA5.o
    ·have h0:0<nb:=by
      have h1:=XQ abA.o.symm;omega
     obtain⟨b,o,c',hv,-,-,bO,aH⟩:=HA5.o.bn.cells (by rw[←HI.o.2.2.2.2.2.2.2.2.1];exact h0)
     have mQ :Value.slice Ab nb fQ= .slice (some ⟨b,o,none⟩) blocks.length c' :=hv;obtain rfl:Ab=some ⟨b,o,none⟩:=by injection mQ
     have pV:=aH 0 (by rw[←HI.o.2.2.2.2.2.2.2.2.1];exact h0)
     have hhe:blocks.getD 0 0=hd:=by rw[Hhd.o];cases blocks<;>rfl
     rw[hhe,XC] at pV;have k1:(0:Int)<nb:=Xi.2 h0;have UG:hd∈blocks:=by
      rw[Hhd.o];have h1:=HI.o.2.2.2.2.2.2.2.2.1
      cases blocks with
      |nil=>simp at h1;omega
      |cons x r=>exact Qm ..
     have hr:=HI.o.2.2.2.2.2.2.2.2.2.2.2.2 hd UG;have hw:IntKind.u32.wrap hd=hd:=by
      unfold IntKind.wrap;simp only[IntKind.signed,IntKind.bits];simp;omega
     clear hv mQ bO aH h0 hhe UG hr;go_wp2_with fail;go_meet;exact Su HA5.o fq.o.1 fq.o.2.2.2.2 fq.o.2.2.2.1 HI.o.2.2.2.1 HI.o.2.2.2.2.2.1.s HI.o.2.1 1 (.int .u32 hd)
   case rest=>
    have HA6:=hcut;have HSk:Af (pC ⟨dep,hd,l⟩):=by
     have h1:=HI.o;have hr:0≤hd∧hd<4096:=by
      rw[Hhd.o]
      cases ej:blocks with
      |nil=>exact⟨Int.le_refl _,by decide⟩
      |cons x r=>exact h1.2.2.2.2.2.2.2.2.2.2.2.2 x (by rw[ej];exact Qm ..)
     have qc:=h1.2.2.2.2.2.2.2.2.2.2.2.1;have hl9:=h1.2.2.2.2.2.2.2.1;have hl:=h1.2.2.2.2.2.2.1;refine⟨⟨by show(0:Int)≤dep;omega,by show(dep:Int)<256;omega⟩,⟨hr.1,by show hd<4294967296;omega⟩,by show l.length≤9;omega⟩
    clear s1 g1;go_upto_region 7 with fail
    go_cut [42] from 39 to 49 (fun v42 W=>Af (∃NC tZ,AhC w W cb w.heap.size [.int .i64 ax,.int .i64 dep,NC,tZ] NC (0::blocks) tZ ((⟨dep,hd,l⟩,.slice Al nl cl)::ps)))
    case first=>
     refine bL (fun j=>[10,11,12].contains j) (fun W=>aq W cb 50 [.int .i64 ax,.int .i64 dep,.slice Ab nb fQ,.slice As nb gq]∧aq W sb 92 [.int .u8 dep,.int .u32 hd,.slice Al nl cl]) (by kernel_rfl) ?_;have HP7:=aa (HA6.o.on (W' :=wc.drew) (below_drewN (Xj _ _) 1));obtain⟨Wd,dJ⟩:∃y,y=wc.drew:=⟨_,rfl⟩;rw[←dJ] at HP7⊢;clear dJ;have AH:=HP7.o;refine aK (i:=1) (some 40) (v:= .slice Ab nb fQ) rfl rfl (by kernel_rfl) (fP (by kernel_rfl)) (fun _ _ _ h=>h) (Or.inl ⟨by rfl,fun W hW=>by go_simp⟩) ⟨AH.c,AH.s⟩ ?_
     try simp only[Act.put,Qb,Qc,Qd]
     refine aK (i:=4) (some 43) (v:= .agg #[.int .u8 dep,.int .u32 hd,.slice Al nl cl]) rfl rfl (by kernel_rfl) (fP (by kernel_rfl)) (fun _ _ _ h=>h) (Or.inl ⟨by rfl,fun W hW=>by have hx:=hW.2.cell (j:=0) rfl;have hy:=hW.2.cell (j:=1) rfl;have hz:=hW.2.cell (j:=2) rfl;go_simp⟩) ⟨AH.c,AH.s⟩ ?_
     try simp only[Act.put,Qb,Qc,Qd]
     refine aK (i:=6) (some 45) (v:= .slice As nb gq) rfl rfl (by kernel_rfl) (fP (by kernel_rfl)) (fun _ _ _ h=>h) (Or.inl ⟨by rfl,fun W hW=>by go_simp⟩) ⟨AH.c,AH.s⟩ ?_
     try simp only[Act.put,Qb,Qc,Qd]
     refine gR [0,2,3,9] [5,7,8] (fun a0 i j a W=>∃x0 x2 x3 x9 x5 x7 x8,a=((((((a0.put (some 39) x0).put (some 41) x2).put (some 42) x3).put (some 48) x9).put (some 44) x5).put (some 46) x7).put (some 47) x8∧Ti w W cb sb w.heap.size [.int .i64 ax,.int .i64 dep,.slice Ab nb fQ,.slice As nb gq] [.int .u8 dep,.int .u32 hd,.slice Al nl cl] (.slice Ab nb fQ) (.slice As nb gq) (.slice Al nl cl) blocks ps l∧
      Ah2 3 34 [.int .i64 0] (.slice Ab nb fQ) (fun W z=>aB W w.heap.size 3 .i64 z (0::blocks)) W x0 x2 x3 i∧(4≤i→x9= .pointer (some ⟨cb,2,none⟩))∧Ah2 92 48 [.int .u8 dep,.int .u32 hd,.slice Al nl cl] (.slice As nb gq) (fun W z=>kP W w.heap.size z ((⟨dep,hd,l⟩,.slice Al nl cl)::ps)) W x5 x7 x8 j) 3 rfl (by kernel_rfl) ⟨undef,undef,undef,undef,undef,undef,undef,rfl,AH,trivial,fun h=>absurd h (by decide),trivial⟩ ⟨?_,?_,?_,?_,trivial⟩ ⟨?_,?_,?_,trivial⟩ ?_
     all_goals clear AH
     ·rintro j a W ⟨x0,x2,x3,x9,x5,x7,x8,rfl,AH,-,-,HB⟩
      refine bJ rfl (fun K hK=> ?_);obtain⟨V,hV,X,b⟩:=nW W [.int .i64 0] 3;simp only[Act.put,Qb,Qc,Qd];go_simp;rw[←hV];refine hK.out _ _ ⟨fun _=>⟨(AH.on b).c,(AH.on b).s⟩,.slice (some ⟨W.heap.size,0,none⟩) 1 1,x2,x3,x9,x5,x7,x8,?_,AH.on b,⟨_,rfl,X⟩,fun h=>absurd h (by decide),HB.on (fun h=>kP.on h b) b⟩;simp only[Act.put,Qb,Qc,Qd]
     ·rintro j a W ⟨x0,x2,x3,x9,x5,x7,x8,rfl,AH,⟨g,rfl,X0⟩,-,HB⟩
      refine bJ rfl (fun K hK=> ?_);obtain⟨V,hV,X,b⟩:=nW W [.slice (some ⟨g,0,none⟩) 1 1,.slice Ab nb fQ] 34;simp only[Act.put,Qb,Qc,Qd];go_simp;rw[←hV];refine hK.out _ _ ⟨fun _=>⟨(AH.on b).c,(AH.on b).s⟩,.slice (some ⟨g,0,none⟩) 1 1,.slice (some ⟨W.heap.size,0,none⟩) 2 2,x3,x9,x5,x7,x8,?_,AH.on b,⟨g,_,rfl,X0.on b,X⟩,fun h=>absurd h (by decide),HB.on (fun h=>kP.on h b) b⟩;simp only[Act.put,Qb,Qc,Qd]
     ·rintro j a W ⟨x0,x2,x3,x9,x5,x7,x8,rfl,AH,⟨g,h,rfl,X0,X2⟩,-,HB⟩
      refine bJ rfl (fun K hK=> ?_);have HC:=nQ W _ _ (Vt X0 AH.bn X2) (show 2≤10000 by decide) (by show([(0:Int)]++(blocks++[])).length≤100000;have:=HI.o.2.2.2.2.2.2.2.2.1;have:=HI.o.2.2.2.2.2.2.2.2.2.2.1;simp;omega)
      simp only[Act.put,Qb,Qc,Qd];go_simp;go_at_call 119;refine Calls.mono HC ?_;rintro e V ⟨v,rfl,o,b⟩;obtain⟨A3,n3,c3,rfl⟩:=o.bu;go_simp;refine hK.out _ _ ⟨fun _=>⟨(AH.on b).c,(AH.on b).s⟩,x0,.slice (some ⟨h,0,none⟩) 2 2,.slice A3 n3 c3,x9,x5,x7,x8,?_,AH.on b,⟨⟨_,_,_,rfl⟩,by simpa using o.low (show w.heap.size≤_ from AH.low.size)⟩,fun h=>absurd h (by decide),HB.on (fun h=>kP.on h b) b⟩;simp only[Act.put,Qb,Qc,Qd]
     ·rintro j a W ⟨x0,x2,x3,x9,x5,x7,x8,rfl,AH,HA,-,HB⟩
      refine bJ rfl (fun K hK=> ?_);simp only[Act.put,Qb,Qc,Qd];go_simp;refine hK.out _ _ ⟨fun _=>⟨AH.c,AH.s⟩,x0,x2,x3,.pointer (some ⟨cb,2,none⟩),x5,x7,x8,?_,AH,HA,fun _=>rfl,HB⟩;simp only[Act.put,Qb,Qc,Qd]
     ·rintro i a W ⟨x0,x2,x3,x9,x5,x7,x8,rfl,AH,HA,H9,-⟩
      refine bJ rfl (fun K hK=> ?_);obtain⟨V,hV,X,b⟩:=nW W [.int .u8 dep,.int .u32 hd,.slice Al nl cl] 92;simp only[Act.put,Qb,Qc,Qd];go_simp;rw[←hV];refine hK.out _ _ ⟨fun _=>⟨(AH.on b).c,(AH.on b).s⟩,x0,x2,x3,x9,.slice (some ⟨W.heap.size,0,none⟩) 1 1,x7,x8,?_,AH.on b,HA.on (fun h=>aB.on h b) b,H9,⟨_,rfl,X⟩⟩;simp only[Act.put,Qb,Qc,Qd]
     ·rintro i a W ⟨x0,x2,x3,x9,x5,x7,x8,rfl,AH,HA,H9,⟨g,rfl,X0⟩⟩
      refine bJ rfl (fun K hK=> ?_);obtain⟨V,hV,X,b⟩:=nW W [.slice (some ⟨g,0,none⟩) 1 1,.slice As nb gq] 48;simp only[Act.put,Qb,Qc,Qd];go_simp;rw[←hV];refine hK.out _ _ ⟨fun _=>⟨(AH.on b).c,(AH.on b).s⟩,x0,x2,x3,x9,.slice (some ⟨g,0,none⟩) 1 1,.slice (some ⟨W.heap.size,0,none⟩) 2 2,x8,?_,AH.on b,HA.on (fun h=>aB.on h b) b,H9,⟨g,_,rfl,X0.on b,X⟩⟩;simp only[Act.put,Qb,Qc,Qd]
     ·rintro i a W ⟨x0,x2,x3,x9,x5,x7,x8,rfl,AH,HA,H9,⟨g,h,rfl,X5,X7⟩⟩
      refine bJ rfl (fun K hK=> ?_);have HC:=DP W _ _ (Vb (s:=⟨dep,hd,l⟩) X5 AH.en HSk.o AH.sn X7) (show 2≤10000 by decide) (by show([_]++(ps++[])).length≤100000;have:=HI.o.2.2.2.2.2.2.2.2.2.1;have:=HI.o.2.2.2.2.2.2.2.2.2.2.1;simp;omega)
      simp only[Act.put,Qb,Qc,Qd];go_simp;go_at_call 212;refine Calls.mono HC ?_;rintro e V ⟨v,rfl,o,b⟩;obtain⟨A8,n8,c8,rfl⟩:=o.form;go_simp;have h1:kP V w.heap.size _ _:=fB o (show w.heap.size≤_ from AH.low.size);refine hK.out _ _ ⟨fun _=>⟨(AH.on b).c,(AH.on b).s⟩,x0,x2,x3,x9,x5,.slice (some ⟨h,0,none⟩) 2 2,.slice A8 n8 c8,?_,AH.on b,HA.on (fun h=>aB.on h b) b,H9,⟨⟨_,_,_,rfl⟩,by simpa using h1⟩⟩;simp only[Act.put,Qb,Qc,Qd]
     ·rintro a V8 ⟨x0,x2,x3,x9,x5,x7,x8,rfl,AH,⟨⟨A3,n3,c3,rfl⟩,O3⟩,H9,⟨⟨A8,n8,c8,rfl⟩,O8⟩⟩
      obtain rfl:=H9 (by decide);simp only[Act.put,Qb,Qc,Qd];have K9:AhC w V8 cb w.heap.size [.int .i64 ax,.int .i64 dep,.slice Ab nb fQ,.slice As nb gq] (.slice A3 n3 c3) (0::blocks) (.slice A8 n8 c8) ((⟨dep,hd,l⟩,.slice Al nl cl)::ps):=⟨AH.c,AH.r,O3,O8,AH.low⟩;clear AH O3 O8 H9;refine ju 10 rfl (by kernel_rfl) fun K hK=> ?_
      have z2:=K9.c.cell (j:=2) rfl;have f2:=K9.c.free 2;go_simp;obtain⟨ND,Oc⟩:=eX (V8.setCell ⟨cb,2,none⟩ (.slice A3 n3 c3));have WQ:=K9.set fq.o.2.1 fq.o.2.2.1 2 (.slice A3 n3 c3);rw[←Oc] at WQ⊢;clear Oc z2 f2;refine hK.out _ _ (fun h=>absurd h (by decide)) ?_;clear hK K
      try simp only[Act.put,Qb,Qc,Qd]
      refine ju 11 rfl (by kernel_rfl) fun K hK=> ?_
      go_simp;refine hK.out _ _ (fun h=>absurd h (by decide)) ?_;clear hK K
      try simp only[Act.put,Qb,Qc,Qd]
      refine ju 12 rfl (by kernel_rfl) fun K hK=> ?_
      have z3:=WQ.c.cell (j:=3) rfl;have f3:=WQ.c.free 3;go_simp;obtain⟨V12,ag0⟩:=eX (ND.setCell ⟨cb,3,none⟩ (.slice A8 n8 c8));have K12:=WQ.set fq.o.2.1 fq.o.2.2.1 3 (.slice A8 n8 c8);rw[←ag0] at K12⊢;clear ag0 z3 f3;refine hK.out _ _ (fun h=>absurd h (by decide)) ?_;clear hK K
      try simp only[Act.put,Qb,Qc,Qd]
      refine bD (by kernel_rfl) ?_ _;go_wp2_with fail;go_meet;exact⟨_,_,K12⟩
    case rest=>
     obtain⟨NC,tZ,hR⟩:=hcut.o;obtain⟨A3,n3,c3,rfl⟩:=aB.bu hR.b;obtain⟨A8,n8,c8,rfl⟩:=kP.form hR.s;obtain⟨c0,c1,c2,c3'⟩:=mm hR.c;obtain⟨r0,r1,r2,r3⟩:=mm hR.r;obtain⟨f0,f1,f2,f3⟩:=WI hR.r;have HR:=aa hR;clear hR;go_wp2_with fail;refine bodyPost_ret (lj rfl rfl (eY (oW HR.o.r _ _ _ _))) rfl ?_;rw[Hav.o];have q1:=HR.o.r;have q2:=q1.set 0 (.int .i64 ax);have q3:=q2.set 1 (.int .i64 dep);have q4:=q3.set 2 (.slice A3 n3 c3);have bw:=(((HR.o.low.setCell (p:=⟨w.heap.size,0,none⟩) (Qg _) (.int .i64 ax)).setCell (p:=⟨w.heap.size,1,none⟩) (Qg _) (.int .i64 dep)).setCell (p:=⟨w.heap.size,2,none⟩) (Qg _) (.slice A3 n3 c3)).setCell (p:=⟨w.heap.size,3,none⟩) (Qg _) (.slice A8 n8 c8);have ob:=aB.aT (aB.aT (aB.aT (aB.aT HR.o.b q1 (by decide) 0 (.int .i64 ax)) q2 (by decide) 1 (.int .i64 dep)) q3 (by decide) 2 (.slice A3 n3 c3)) q4 (by decide) 3 (.slice A8 n8 c8);have os:=ie (ie (ie (ie HR.o.s q1 (by decide) 0 (.int .i64 ax)) q2 (by decide) 1 (.int .i64 dep)) q3 (by decide) 2 (.slice A3 n3 c3)) q4 (by decide) 3 (.slice A8 n8 c8);refine⟨_,rfl,⟨_,_,(⟨dep,hd,l⟩,.slice Al nl cl)::ps,rfl,ob.ns,jG ob HI.o.1,⟨Vg os ?_,jG os HI.o.1,?_⟩,?_⟩,bw⟩
     ·intro p hp
      rcases QA.1 hp with rfl|hp
      ·exact⟨gA HI.o.2.1 bw,HSk.o⟩
      ·exact((HI.o.2.2.2.2.2.1.s.on bw).es p hp)
     ·intro p hp
      rcases QA.1 hp with rfl|hp
      ·exact HI.o.2.2.1
      ·exact HI.o.2.2.2.2.2.1.e p hp
     ·rw[Zs,Hhd.o]
end
section
open Go.RowKit
attribute [local go_sem] Oper.semAt_some
variable {h n : Nat}
theorem VV (hn:n<256):bits .and .i64 (n:Int) (h:Int)=((n&&&h%2^64:Nat):Int):=by
 have h1:(BitVec.ofInt 64 (n:Int)).toNat=n:=by rw[BitVec.ofInt_natCast,BitVec.toNat_ofNat];exact Nat.mod_eq_of_lt (by omega)
 have h2:(BitVec.ofInt 64 (h:Int)).toNat=h%2^64:=by rw[BitVec.ofInt_natCast,BitVec.toNat_ofNat]
 show IntKind.i64.wrap ((BitVec.ofInt 64 (n:Int)&&&BitVec.ofInt 64 (h:Int)).toNat:Int)=_;rw[BitVec.toNat_and,h1,h2];have h3:n&&&h%2^64≤n:=Nat.and_le_left;generalize n&&&h%2^64=z at*;simp[IntKind.wrap,IntKind.bits,IntKind.signed];omega
theorem De (hn:n<256) (hh:h<256):bits .and .i64 (n:Int) (h:Int)=((n&&&h:Nat):Int):=by
 rw[VV hn,Nat.mod_eq_of_lt (by omega)]
def jz (e:aD):Va:= .agg #[.int .u64 e.print,.int .u32 e.block]
theorem Ln (w:Wo) (e:aD) (hu:bI e.print) (hb fb half ax:Nat) (h1:aq w hb 3 [.int .i64 half]) (h2:aq w fb 3 [.int .i64 ax]) (hh:half<256) (hf:ax<256):
  Calls prog 216 #[jz e,.pointer (some ⟨hb,0,none⟩),.pointer (some ⟨fb,0,none⟩)] w fun r w' =>r= .returned (.bool (cI half ax e))∧Below w.heap.size w w' :=by
 obtain⟨pr,bk⟩:=e;unfold jz;dsimp only at hu⊢;obtain⟨N,hN⟩:∃N:Nat,pr/2^56=(N:Int):=⟨(pr/2^56).toNat,(Xp (gQ hu).1).symm⟩;have sG:N<256:=by have:=(gQ hu).2.1;rw[hN] at this;omega
 have mG:bz ⟨pr,bk⟩=N:=by unfold bz;show(pr/2^56).toNat=N;rw[hN];exact Xt N
 have hm:cI half ax ⟨pr,bk⟩=(N&&&half==ax&&&half):=by unfold cI;rw[mG]
 rw[hm];obtain⟨a,ha⟩:=eX (N&&&half);obtain⟨c,hc⟩:=eX (ax&&&half);have k1:bits .and .i64 (N:Int) (half:Int)=(a:Int):=by rw[De sG hh,ha]
 have k2:bits .and .i64 (ax:Int) (half:Int)=(c:Int):=by rw[De hf hh,hc]
 rw[←ha,←hc];obtain⟨W0,aY,X0,B0⟩:=nW w [.int .u64 pr,.int .u32 bk] 68;have fD:=aa aY.symm;have x0:=X0.cell (j:=0) rfl;have y1:=(h1.on B0).cell (j:=0) rfl;have y2:=(h2.on B0).cell (j:=0) rfl;have mV:=aa B0;have HBg:Af (∀q,Calls prog 141 #[.int .u64 pr] (W0.drewN q) fun e w' =>e= .returned (.int .i64 N)∧∃m,w' =W0.drewN m):=fun q=>Calls.quiet_of_same ((lr (W0.drewN q) pr hu).mono fun e w' h=>by rw[hN] at h;exact⟨h.1,h.2.symm⟩)
 have HEq:Af (((a:Int)==(c:Int))=(a==c)):=by show _=_;rw[XD,beq_iff_eq,beq_iff_eq];exact Int.natCast_inj
 clear hu hN sG mG hm ha hc aY X0 B0 h1 h2 hh hf;go_enter func216,ntmps216;go_upto_region 1 with fail
 rw[fD.o];go_quiet ((go_at_call 141;with_reducible exact HBg.o _));go_wp2_with fail;go_ret;exact⟨by rw[←HEq.o];rfl,below_drewN mV.o _⟩
def eG (mb:Nat):Va:= .func (.func 217) #[] #[.pointer (some ⟨mb,0,none⟩)]
def II (hb fb:Nat):Va:= .func (.func 216) #[] #[.pointer (some ⟨hb,0,none⟩),.pointer (some ⟨fb,0,none⟩)]
structure ql (w:Wo) (hb fb mb half ax:Nat):Prop where
 h:aq w hb 3 [.int .i64 half]
 f:aq w fb 3 [.int .i64 ax]
 m:aq w mb 166 [II hb fb]
 hh:half<256
 hf:ax<256
theorem ql.on {w w' :Wo} {hb fb mb half ax:Nat} (h:ql w hb fb mb half ax) (EB :Below w.heap.size w w'):ql w' hb fb mb half ax:=⟨h.h.on EB,h.f.on EB,h.m.on EB,h.hh,h.hf⟩
theorem vG (w:Wo) (e:aD) (hu:bI e.print) (hb fb mb half ax:Nat) (h:ql w hb fb mb half ax):
  Calls prog 217 #[jz e,.pointer (some ⟨mb,0,none⟩)] w fun r w' =>r= .returned (.bool (!cI half ax e))∧Below w.heap.size w w' :=by
 obtain⟨R,hR⟩:=eX (cI half ax e);have HM0:=fun W0=>Ln W0 e hu hb fb half ax
 rw[←hR] at HM0⊢;obtain⟨pr,bk⟩:=e;unfold jz at HM0⊢;dsimp only at hu HM0⊢;obtain⟨W0,aY,X0,B0⟩:=nW w [.int .u64 pr,.int .u32 bk] 68;have HM:=aa (HM0 W0 (h.h.on B0) (h.f.on B0) h.hh h.hf);have fD:=aa aY.symm;obtain⟨x0,x1⟩:=gh X0;have y:=(h.m.on B0).cell (j:=0) rfl;have mV:=aa B0;unfold II at y;clear aY X0 B0 h hu hR HM0;go_enter func217,ntmps217;go_upto_region 1 with fail
 rw[fD.o];go_wp2_with(go_at_call 216;go_must(refine HM.o.mono ?_);rintro e W2 ⟨rfl,b2⟩;have B2:=aa b2;clear b2);go_ret;exact⟨rfl,mV.o.trans (B2.o.mono mV.o.size)⟩
end
section
open Go.RowKit
attribute [local go_sem] Oper.semAt_some
theorem vL (w:Wo) (v:Va) (es:List aD) (h:Es w w.heap.size v es) (hl:es.length≤100000) (hu:∀e∈es,bI e.print) (hb fb mb half ax:Nat) (hs:ql w hb fb mb half ax):
  Calls prog 248 #[v,eG mb] w fun r w' =>((∃k:Nat,k<es.length∧r= .returned (.int .i64 k)∧(∃e,es[k]? =some e∧cI half ax e=false)∧(∀e∈es.take k,cI half ax e=true))∨r= .returned (.int .i64 (-1))∧∀e∈es,cI half ax e=true)∧Below w.heap.size w w' :=by
 obtain⟨A,c,rfl,-,-⟩:=h.1.form;obtain⟨n,hn⟩:=eX es.length;have H:=aa h;have HS:=aa hs;have Hn:=iJ hn (by omega:n≤100000) hu;rw[←hn];clear h hl hu hn hs;go_enter func248,ntmps248;go_wp2_with fail;go_loopw [8] (fun iv wr=>∃k:Nat,iv= .int .i64 k∧Af (k≤n∧(∀e∈es.take k,cI half ax e=true)∧Below w.heap.size w wr)) (fun iv _=>n - (intOf iv).toNat)
 case atStart=>exact⟨0,rfl,⟨Qp _,fun e he=>(by cases he),Xj _ _⟩⟩
 case round=>
  obtain⟨k,rfl,HR⟩:=hrel;by_cases hk:k<n
  ·have bQ:k<es.length:=by rw[←Hn.o.1];exact hk
   obtain⟨b,o,c',hv,-,-,bO,aH⟩:=H.o.cells (QO (Qp _) bQ);obtain rfl:A=some ⟨b,o,none⟩:=by injection hv
   obtain⟨q0,q1⟩:=aH k bQ;obtain⟨x,hx⟩:=eX (es[k]);have oP:es[k]? =some x:=by rw[hx];exact Qf bQ
   rw[←hx] at q0 q1;have z0:=(HR.o.2.2.cell (p:=⟨b,o+k*2,none⟩) bO).trans q0;have z1:=(HR.o.2.2.cell (p:=⟨b,o+k*2+1,none⟩) bO).trans q1;have HO:=vG wr x (Hn.o.2.2 x (Qi oP)) hb fb mb half ax ⟨HS.o.h.on HR.o.2.2,HS.o.f.on HR.o.2.2,HS.o.m.on HR.o.2.2,HS.o.hh,HS.o.hf⟩;unfold jz at HO;obtain⟨R,hR⟩:=eX (cI half ax x);rw[←hR] at HO;obtain⟨pr,gY⟩:=eX x.print;obtain⟨bk,ej⟩:=eX x.block;rw[←gY,←ej] at HO;rw[←gY] at z0;rw[←ej] at z1;have HO:=aa HO;have cU:=aa HR.o;have HX:=iJ oP hR hk;obtain⟨u1,u2,u3⟩:=bR hk Hn.o.2.1 (by decide);have Hu:=aa u1;unfold eG;clear hv bO aH q0 q1 hx oP hR gY ej HR hk bQ u1;cases R
   ·have HF:=aa (fun (W9:Wo) (b9:Below wr.heap.size wr W9)=>cU.o.2.2.trans (b9.mono cU.o.2.2.size));go_wp2_with(go_at_call 217;go_must(refine HO.o.mono ?_);rintro e W2 ⟨rfl,b2⟩;have B2:=aa b2;clear b2)
    all_goals(try rw[Qv])
    all_goals go_ret
    all_goals exact⟨.inl ⟨k,HX.o.2.2,rfl,⟨x,HX.o.1,HX.o.2.1.symm⟩,cU.o.2.1⟩,HF.o _ B2.o⟩
   ·go_wp2_with(go_at_call 217;go_must(refine HO.o.mono ?_);rintro e W2 ⟨rfl,b2⟩;have B2:=aa b2;clear b2);refine⟨⟨k+1,by first|rfl|(rw[Hu.o];rfl),HX.o.2.2,fun e he=> ?_,cU.o.2.2.trans (B2.o.mono cU.o.2.2.size)⟩,by first|exact al HX.o.2.2|(rw[Hu.o];exact al HX.o.2.2)⟩;rw[aA es k x HX.o.1] at he;rcases Qz.1 he with he|he
    ·exact cU.o.2.1 e he
    ·rw[Qx] at he;rw[he];exact HX.o.2.1.symm
  ·have cH:=QE HR.o.1 (QC hk);have bm:=HR.o.2.1;rw[Qj (by rw[cH,Hn.o.1];exact Qg _)] at bm;have HA:=aa bm;have HL:=aa HR.o.2.2;subst cH;clear HR hk bm;go_wp2_with fail
   try rw[Qv]
   go_ret;exact⟨.inr ⟨rfl,HA.o⟩,HL.o⟩
theorem xm (w:Wo) (v:Va) (es:List aD) (h:Es w w.heap.size v es) (hl:es.length≤100000) (hu:∀e∈es,bI e.print) (hb fb mb half ax:Nat) (hs:ql w hb fb mb half ax):
  Calls prog 220 #[v,eG mb] w fun r w' =>r= .returned (.bool (es.any fun e=> !cI half ax e))∧Below w.heap.size w w' :=by
 obtain⟨R,hR⟩:=eX (es.any fun e=> !cI half ax e);have HI:Af (Calls prog 248 #[v,eG mb] w fun r w' =>∃i:Int,r= .returned (.int .i64 i)∧decide (0≤i)=R∧Below w.heap.size w w'):=(vL w v es h hl hu hb fb mb half ax hs).mono fun r w' ⟨h1,h2⟩=>by
  rcases h1 with⟨k,hk,h3,⟨e,h4,h5⟩,-⟩|⟨h3,h4⟩
  ·refine⟨k,h3,?_,h2⟩;rw[hR,Xa (Xh k)];symm
   exact Xb.2 ⟨e,Qi h4,by rw[h5];rfl⟩
  ·refine⟨-1,h3,?_,h2⟩;rw[hR];symm
   show _=false;rw[Xf];intro ha;obtain⟨e,he,h5⟩:=Xb.1 ha;rw[h4 e he] at h5;cases h5
 obtain⟨A,c,rfl,-,-⟩:=h.1.form;obtain⟨n,hn⟩:=eX es.length;rw[←hn] at HI⊢;rw[←hR];unfold eG at HI⊢;clear h hl hu hs hn hR;go_enter func220,ntmps220;go_wp2_with(go_at_call 248;go_must(refine HI.o.mono ?_);rintro e W2 ⟨i,rfl,hi,b2⟩;have B2:=aa b2;clear b2);go_ret;exact⟨rfl,B2.o⟩
theorem Gc (w:Wo) (s:ay) (ev:Va) (h:Es w w.heap.size ev s.es) (hl:s.es.length≤9) (hu:∀e∈s.es,bI e.print) (hb fb mb ob half ax:Nat) (hs:ql w hb fb mb half ax) (ho:aq w ob 166 [eG mb]):
  Calls prog 219 #[.agg #[.int .u8 s.depth,.int .u32 s.next,ev],.pointer (some ⟨ob,0,none⟩)] w fun r w' =>r= .returned (.bool (s.es.any fun e=> !cI half ax e))∧Below w.heap.size w w' :=by
 obtain⟨R,hR⟩:=eX (s.es.any fun e=> !cI half ax e);obtain⟨W0,aY,X0,B0⟩:=nW w [.int .u8 s.depth,.int .u32 s.next,ev] 92;have HC:=xm W0 ev s.es ((h.below B0).more B0.size) (by omega) hu hb fb mb half ax (hs.on B0);rw[←hR] at HC⊢;obtain⟨A,c,rfl,-,-⟩:=h.1.form;obtain⟨n,hn⟩:=eX s.es.length;rw[←hn] at HC X0 aY⊢;obtain⟨d,hd⟩:=eX s.depth;obtain⟨nx,fu⟩:=eX s.next;rw[←hd,←fu] at X0 aY⊢;have HC:=aa HC;have x2:=X0.cell (j:=2) rfl;have y:=(ho.on B0).cell (j:=0) rfl;unfold eG at HC y;have fD:=aa aY.symm;have mV:=aa B0;clear h hl hu hs ho hR aY X0 B0 hn hd fu;go_enter func219,ntmps219;go_upto_region 1 with fail
 rw[fD.o];go_wp2_with(go_at_call 220;go_must(refine HC.o.mono ?_);rintro e W2 ⟨rfl,b2⟩;have B2:=aa b2;clear b2);go_ret;exact⟨rfl,mV.o.trans (B2.o.mono mV.o.size)⟩
def qG (ob:Nat):Va:= .func (.func 219) #[] #[.pointer (some ⟨ob,0,none⟩)]
theorem Gp (w:Wo) (v:Va) (ps:List (ay×Va)) (h:mP w w.heap.size v ps) (hl:ps.length≤100000) (hu:∀p∈ps,∀e∈p.1.es,bI e.print) (hb fb mb ob half ax:Nat) (hs:ql w hb fb mb half ax) (ho:aq w ob 166 [eG mb]):
  Calls prog 128 #[v,qG ob] w fun r w' =>(∃i:Int,r= .returned (.int .i64 i)∧decide (0≤i)=ps.any fun p=>p.1.es.any fun e=> !cI half ax e)∧Below w.heap.size w w' :=by
 obtain⟨A,c,rfl⟩:=h.form;obtain⟨n,hn⟩:=eX ps.length;obtain⟨T,hT⟩:=eX (ps.any fun p=>p.1.es.any fun e=> !cI half ax e);rw[←hT];have H:=aa h;have HS:=aa hs;have HO:=aa ho;have Hn:=kH hn (by omega:n≤100000) hu hT;rw[←hn];unfold qG;clear h hl hu hn hs ho hT;go_enter func128,ntmps128;go_wp2_with fail;go_loopw [8] (fun iv wr=>∃k:Nat,iv= .int .i64 k∧Af (k≤n∧(∀p∈ps.take k,(p.1.es.any fun e=> !cI half ax e)=false)∧Below w.heap.size w wr)) (fun iv _=>n - (intOf iv).toNat)
 case atStart=>exact⟨0,rfl,⟨Qp _,fun e he=>(by cases he),Xj _ _⟩⟩
 case round=>
  obtain⟨k,rfl,HR⟩:=hrel;by_cases hk:k<n
  ·obtain⟨p,hp⟩:∃p,ps[k]? =some p:=⟨_,Qf (by rw[←Hn.o.1];exact hk)⟩;have hS:=H.o.below HR.o.2.2;obtain⟨b,o,c',hv,bO,z0,z1,z2⟩:=hS.cells hp;obtain rfl:A=some ⟨b,o,none⟩:=by injection hv
   have eE:=hS.es p (Qi hp);have AZ:=Gc wr p.1 p.2 (eE.1.more HR.o.2.2.size) eE.2.2.2 (Hn.o.2.2.1 p (Qi hp)) hb fb mb ob half ax (HS.o.on HR.o.2.2) (HO.o.on HR.o.2.2);obtain⟨R,hR⟩:=eX (p.1.es.any fun e=> !cI half ax e);rw[←hR] at AZ;obtain⟨Ae,ce,hU,-,-⟩:=eE.1.1.form;obtain⟨L,hL⟩:=eX p.1.es.length;rw[←hL] at hU;rw[hU] at z2 AZ;obtain⟨d,hd⟩:=eX p.1.depth;obtain⟨nx,fu⟩:=eX p.1.next;rw[←hd] at z0 AZ;rw[←fu] at z1 AZ;have WY:=aa AZ;have cU:=aa HR.o;have HX:=iJ hp hR hk;obtain⟨u1,u2,u3⟩:=bR hk Hn.o.2.1 (by decide);have Hu:=aa u1;clear hv bO hS hp eE AZ hR hU hL hd fu HR hk u1;cases R
   ·go_wp2_with(go_at_call 219;go_must(refine WY.o.mono ?_);rintro e W2 ⟨rfl,b2⟩;have B2:=aa b2;clear b2);refine⟨⟨k+1,by first|rfl|(rw[Hu.o];rfl),⟨HX.o.2.2,fun q hq=> ?_,cU.o.2.2.trans (B2.o.mono cU.o.2.2.size)⟩⟩,by first|exact al HX.o.2.2|(rw[Hu.o];exact al HX.o.2.2)⟩;rw[aA ps k p HX.o.1] at hq;rcases Qz.1 hq with hq|hq
    ·exact cU.o.2.1 q hq
    ·rw[Qx] at hq;rw[hq];exact HX.o.2.1.symm
   ·have HTt:Af (decide ((0:Int)≤k)=T):=by
     show _=_;rw[Hn.o.2.2.2,Xa (Xh k)];symm
     exact Xb.2 ⟨p,Qi HX.o.1,HX.o.2.1.symm⟩
    go_wp2_with(go_at_call 219;go_must(refine WY.o.mono ?_);rintro e W2 ⟨rfl,b2⟩;have B2:=aa b2;clear b2)
    all_goals(try rw[Qv])
    all_goals go_ret
    all_goals exact⟨⟨k,rfl,HTt.o⟩,cU.o.2.2.trans (B2.o.mono cU.o.2.2.size)⟩
  ·have cH:=QE HR.o.1 (QC hk);have bm:=HR.o.2.1;rw[Qj (by rw[cH,Hn.o.1];exact Qg _)] at bm;have HTf:Af (decide ((0:Int)≤ -1)=T):=by
    show _=_;rw[Hn.o.2.2.2];symm
    show _=false;rw[Xf];intro ha;obtain⟨p,hp,h5⟩:=Xb.1 ha;rw[bm p hp] at h5;cases h5
   have HL:=aa HR.o.2.2;subst cH;clear HR hk bm;go_wp2_with fail
   try rw[Qv]
   go_ret;exact⟨⟨-1,rfl,HTf.o⟩,HL.o⟩
theorem xj (w:Wo) (v:Va) (ps:List (ay×Va)) (h:mP w w.heap.size v ps) (hl:ps.length≤100000) (hu:∀p∈ps,∀e∈p.1.es,bI e.print) (hb fb mb ob half ax:Nat) (hs:ql w hb fb mb half ax) (ho:aq w ob 166 [eG mb]):
  Calls prog 61 #[v,qG ob] w fun r w' =>r= .returned (.bool (ps.any fun p=>p.1.es.any fun e=> !cI half ax e))∧Below w.heap.size w w' :=by
 obtain⟨R,hR⟩:=eX (ps.any fun p=>p.1.es.any fun e=> !cI half ax e);have HI:=Gp w v ps h hl hu hb fb mb ob half ax hs ho;rw[←hR] at HI⊢;have HI:=aa HI;obtain⟨A,c,rfl⟩:=h.form;obtain⟨n,hn⟩:=eX ps.length;rw[←hn] at HI⊢;unfold qG at HI⊢;clear h hl hu hs hn hR ho;go_enter func61,ntmps61;go_wp2_with(go_at_call 128;go_must(refine HI.o.mono ?_);rintro e W2 ⟨⟨i,rfl,hi⟩,b2⟩;have B2:=aa b2;clear b2);go_ret;exact⟨rfl,B2.o⟩
end
end Go.Proofs.YthgdhacopamklaaGreat

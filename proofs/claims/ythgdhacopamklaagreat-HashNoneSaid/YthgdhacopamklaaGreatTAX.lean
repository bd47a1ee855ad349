/- What HashNone asks, part 24 of 41: parts of the walks and laws, each true as it stands. -/
import Derived.Test.YthgdhacopamklaaGreatTAW
set_option maxHeartbeats 16000000
set_option maxRecDepth 100000
set_option linter.unusedVariables false
set_option linter.unusedSimpArgs false
namespace Go.Proofs.YthgdhacopamklaaGreat
open Go.Proofs.Tryz
section
open Go.RowKit
attribute [local go_sem] Oper.semAt_some
variable {w : Wo}
theorem Vh {P:Program} {fn:Func} {t u:TypeId} {p q:Tmp} {a b:Addr} {tmps:Array Va} {x y:Va} (h:fn.results= #[.cell p t,.cell q u]) (hp:tmps.getD p undef= .pointer (some a)) (hq:tmps.getD q undef= .pointer (some b)) (hl:(loadVar t a).run P w= .ok x w) (hm:(loadVar u b).run P w= .ok y w):
  (results fn tmps).run P w= .ok (.tuple #[x,y]) w:=by
 simp only[results,h];simp only[Array.getD_eq_getD_getElem?] at hp hq;simp[Result.andThen,hp,hq,hl,hm,asAddr]
theorem vw {g:Nat} {e:TypeId} {cs:List Va} (h:aq w g e cs) {p:Nat} (bT:g≠p) (y0 y1 y2 y3:Va):aq ((((w.setCell ⟨p,0,none⟩ y0).setCell ⟨p,1,none⟩ y1).setCell ⟨p,2,none⟩ y2).setCell ⟨p,3,none⟩ y3) g e cs:=
 (((h.az (p:=⟨p,0,none⟩) bT y0).az (p:=⟨p,1,none⟩) bT y1).az (p:=⟨p,2,none⟩) bT y2).az (p:=⟨p,3,none⟩) bT y3
theorem VF (c:ak):dj c<256∧0<dj c:=by
 unfold dj;constructor
 ·exact QO (Nat.pow_le_pow_right (by decide) (show 7 - c.depth≤7 from Nat.sub_le _ _)) (by decide)
 ·exact Nat.pow_pos (by decide)
theorem FA (w:Wo) (S:Nat→Prop) (hS:∀x,S x→x<w.heap.size) (c:ak) (hc:ur c) (qc:c.depth<8) (v:Va) (h:jw w S v c) (cC:c.blocks.length≤4096):
  Calls prog 139 #[v] w fun e w' =>∃v1 v2,e= .returned (.tuple #[v1,v2])∧jw w' S v1 (dQ c)∧jw w' S v2 (dd c)∧Below w.heap.size w w' :=by
 obtain⟨bv,sv,ps,rfl,hb,pq,hs,fc⟩:=h.ex;obtain⟨hh,hh0⟩:=VF c;obtain⟨g1,g2',g3',g4,g5,g6⟩:=qO qc hc.ok.f256 hc.ok.mod;obtain⟨ax,eo⟩:=eX c.ax;obtain⟨dep,eK⟩:=eX c.depth;obtain⟨half,hhf⟩:=eX (dj c);obtain⟨Ab,cb,rfl,-,-⟩:=hb.form;obtain⟨As,cs,rfl⟩:=hs.s.form;obtain⟨n,hn⟩:=eX c.blocks.length;obtain⟨n',sf⟩:=eX ps.length;rw[←hn,←sf,←eo,←eK];rw[←hn] at hb pq;rw[←sf] at hs;obtain⟨W0,aY,X0,B0⟩:=nW w [.int .i64 ax,.int .i64 dep,.slice Ab n cb,.slice As n' cs] 50;obtain⟨W1,aW,R1,B1⟩:=nW W0 [.int .i64 0,.int .i64 0,.slice none 0 0,.slice none 0 0] 50;obtain⟨W2,cE,Q2,B2⟩:=nW W1 [.int .i64 0,.int .i64 0,.slice none 0 0,.slice none 0 0] 50;have s0:W0.heap.size=w.heap.size+1:=by rw[aY];simp
 have s1:W1.heap.size=w.heap.size+1+1:=by rw[aW];simp[s0]
 have fI:=B0.trans (B1.mono B0.size);have Uu:=fI.trans (B2.mono fI.size);have X2:=(X0.on B1).on B2;have R2:=R1.on B2;obtain⟨g2,jY⟩:=eX (w.heap.size+1);obtain⟨g3,qa⟩:=eX (w.heap.size+1+1);rw[s0,←jY] at R2;rw[s1,←qa] at Q2;have HG:Af (w.heap.size≤g2∧w.heap.size≤g3∧g3≠g2∧g2≠g3):=⟨by omega,by omega,by omega,by omega⟩;have HW:=Ba aY.symm aW.symm cE.symm qa.symm jY.symm;have HI:=anj hS hc qc (by omega:n≤4096) eo eK hhf hn sf (by omega:half<256) (by unfold dj at hhf;omega:ax+half<256) (by have:=hc.ok.f256;omega:ax<256);have AF:=aa X2;have fF:=aa R2;have IC:=aa Q2;have px:=aa Uu;have wE:=kH hb pq hs fc;have x1:=X2.cell (j:=1) rfl;have dw:IntKind.i64.wrap (7 - (dep:Int))=((7 - dep:Nat):Int):=by simp only[XN];omega
 have dm:min (7 - dep) 64=7 - dep:=Zh (by omega);have d0:(0:Int)≤((7 - dep:Nat):Int):=Xh _;have dp:IntKind.i64.wrap ((2:Int)^(7 - dep))=(half:Int):=by rw[show((2:Int)^(7 - dep))=((2^(7 - dep):Nat):Int) from(Int.natCast_pow 2 _).symm,hhf,eK];unfold dj;have:2^(7 - c.depth)<256:=hh;simp only[XN];omega
 obtain⟨E7,hE7⟩:∃E,E=7 - dep:=⟨_,rfl⟩;rw[←hE7] at dw dm d0 dp;clear hS hc qc h cC hb pq hs fc hh hh0 g1 g2' g3' g4 g5 g6 eo eK hhf hn sf aY X0 B0 aW R1 B1 cE Q2 B2 s0 s1 fI Uu X2 R2 jY qa hE7;go_enter func139,ntmps139;go_upto_region 1 with fail
 rw[HW.o.1,HW.o.2.1,HW.o.2.2.1]
 try rw[HW.o.2.2.2.1]
 try rw[HW.o.2.2.2.2]
 go_upto_region 3 with fail
 obtain⟨W3,cD,H3,b3⟩:=nW W2 [.int .i64 half] 3;obtain⟨hb,hhb⟩:=eX W2.heap.size;rw[←cD];rw[←hhb] at H3⊢;have xC:=below_drewN (Xj W3.heap.size W3) 1;have bd:=b3.trans (xC.mono b3.size);obtain⟨Wd,dJ⟩:=eX W3.drew;have b2d:Below W2.heap.size W2 Wd:=by rw[dJ];exact bd
 have AK:=aa (px.o.trans (b2d.mono px.o.size));have hX:=AF.o.on b2d;have hH:aq Wd hb 3 [.int .i64 half]:=by rw[dJ];exact H3.on xC
 have fF:=aa (fF.o.on b2d);have IC:=aa (IC.o.on b2d);have x0:=hX.cell (j:=0) rfl;have h0:=hH.cell (j:=0) rfl;have j8:xJ Wd (fun x=>S x∨x=g2∨x=g3) w.heap.size hb half (.slice Ab n cb) (.slice As n' cs) c ps:=by
  have hT:∀x,(S x∨x=g2∨x=g3)→S x∨w.heap.size≤x:=fun x hx=>by
   rcases hx with hx|hx|hx
   ·exact Or.inl hx
   ·rw[hx];exact Or.inr HG.o.1
   ·rw[hx];exact Or.inr HG.o.2.1
  refine⟨?_,hH,dU wE.o.1 AK.o,Sl.apart wE.o.1 wE.o.2.1 hT,(wE.o.2.2.1.apart hT).on AK.o,wE.o.2.2.2⟩;rw[←HI.o.2.2.2.2.1,←HI.o.2.2.2.2.2.1];exact hX
 have hSd:∀W,Below Wd.heap.size Wd W→∀x,(S x∨x=g2∨x=g3)→x<W.heap.size:=fun W hW x hx=>by
  refine Qn ?_ hW.size;rcases hx with hx|hx|hx
  ·exact Qn (HI.o.1 x hx) AK.o.size
  ·rw[hx];exact fF.o.lt
  ·rw[hx];exact IC.o.lt
 have hhe:=HI.o.2.2.2.2.2.2.1;have HL:Af (∀W,Below Wd.heap.size Wd W→Calls prog 215 #[.int .i64 ax,.pointer (some ⟨hb,0,none⟩),.pointer (some ⟨w.heap.size,0,none⟩)] W fun e w' =>∃v,e= .returned v∧jw w' (fun x=>S x∨x=g2∨x=g3) v (dQ c)∧Below W.heap.size W w'):=fun W hW=>by have h1:=xT W _ (hSd W hW) c HI.o.2.1 HI.o.2.2.1 w.heap.size hb half ax _ _ ps (j8.on hW) (by rw[←HI.o.2.2.2.2.2.2.2.1];exact HI.o.2.2.2.1) HI.o.2.2.2.2.2.2.2.2.2.1 HI.o.2.2.2.2.2.2.2.2.2.2.2;unfold dQ;rw[←hhe,←HI.o.2.2.2.2.1];exact h1
 have HR:Af (∀W,Below Wd.heap.size Wd W→Calls prog 215 #[.int .i64 (ax+half:Nat),.pointer (some ⟨hb,0,none⟩),.pointer (some ⟨w.heap.size,0,none⟩)] W fun e w' =>∃v,e= .returned v∧jw w' (fun x=>S x∨x=g2∨x=g3) v (dd c)∧Below W.heap.size W w'):=fun W hW=>by have h1:=xT W _ (hSd W hW) c HI.o.2.1 HI.o.2.2.1 w.heap.size hb half (ax+half) _ _ ps (j8.on hW) (by rw[←HI.o.2.2.2.2.2.2.2.1];exact HI.o.2.2.2.1) HI.o.2.2.2.2.2.2.2.2.2.1 HI.o.2.2.2.2.2.2.2.2.2.2.1;unfold dd;rw[←hhe,←HI.o.2.2.2.2.1];exact h1
 have fw:IntKind.i64.wrap ((ax:Int)+(half:Int))=((ax+half:Nat):Int):=by have:=HI.o.2.2.2.2.2.2.2.2.2.2.1;simp only[XN];omega
 clear b3 H3 cD hhb xC bd b2d hX hH j8 hSd hhe x1 dw dm d0 dp px AF;refine bL (fun j=>[10,11].contains j) (fun W=>Below Wd.heap.size Wd W) (by kernel_rfl) ?_;rw[←dJ];clear dJ;refine tK 0 11 (.func (.func 215) #[] #[.pointer (some ⟨hb,0,none⟩),.pointer (some ⟨w.heap.size,0,none⟩)]) rfl rfl rfl (by kernel_rfl) (fun _ _ _ h=>h) (fun W hW=>by go_simp) (Xj _ _) ?_
 try simp only[Act.put,Qb,Qc,Qd]
 refine tK 1 12 (.pointer (some ⟨w.heap.size,0,none⟩)) rfl rfl rfl (by kernel_rfl) (fun _ _ _ h=>h) (fun W hW=>by go_simp) (Xj _ _) ?_
 try simp only[Act.put,Qb,Qc,Qd]
 refine tK 2 13 (.int .i64 ax) rfl rfl rfl (by kernel_rfl) (fun _ _ _ h=>h) (fun W hW=>by have hx:=(hW.cell (XX x0)).trans x0;go_simp) (Xj _ _) ?_
 try simp only[Act.put,Qb,Qc,Qd]
 refine tK 4 15 (.func (.func 215) #[] #[.pointer (some ⟨hb,0,none⟩),.pointer (some ⟨w.heap.size,0,none⟩)]) rfl rfl rfl (by kernel_rfl) (fun _ _ _ h=>h) (fun W hW=>by go_simp) (Xj _ _) ?_
 try simp only[Act.put,Qb,Qc,Qd]
 refine tK 5 16 (.pointer (some ⟨w.heap.size,0,none⟩)) rfl rfl rfl (by kernel_rfl) (fun _ _ _ h=>h) (fun W hW=>by go_simp) (Xj _ _) ?_
 try simp only[Act.put,Qb,Qc,Qd]
 refine tK 6 17 (.int .i64 ax) rfl rfl rfl (by kernel_rfl) (fun _ _ _ h=>h) (fun W hW=>by have hx:=(hW.cell (XX x0)).trans x0;go_simp) (Xj _ _) ?_
 try simp only[Act.put,Qb,Qc,Qd]
 refine tK 7 18 (.int .i64 half) rfl rfl rfl (by kernel_rfl) (fun _ _ _ h=>h) (fun W hW=>by have hx:=(hW.cell (XX h0)).trans h0;go_simp) (Xj _ _) ?_
 try simp only[Act.put,Qb,Qc,Qd]
 refine tK 8 19 (.int .i64 (ax+half:Nat)) rfl rfl rfl (by kernel_rfl) (fun _ _ _ h=>h) (fun W hW=>by go_simp) (Xj _ _) ?_
 try simp only[Act.put,Qb,Qc,Qd]
 refine ju 3 rfl (by kernel_rfl) fun K hK=> ?_
 go_simp;go_at_call 215;refine Calls.mono (HL.o Wd (Xj _ _)) ?_;rintro e V3 ⟨v3,rfl,c3,b3⟩;obtain⟨bv3,sv3,ps3,rfl,q1,q2,q3,q4⟩:=c3.ex;obtain⟨A3,k3,rfl,-,-⟩:=q1.form;obtain⟨As3,ks3,rfl⟩:=q3.s.form;clear q1 q2 q3 q4;have L3:=b3;go_simp;refine hK.out _ _ (fun _=>L3) ?_;clear hK K
 try simp only[Act.put,Qb,Qc,Qd]
 refine ju 9 rfl (by kernel_rfl) fun K hK=> ?_
 go_simp;go_at_call 215;refine Calls.mono (HR.o V3 L3) ?_;rintro e V9 ⟨v9,rfl,c9,b9⟩;obtain⟨bv9,sv9,Eu,rfl,q1,q2,q3,q4⟩:=c9.ex;obtain⟨A9,k9,rfl,-,-⟩:=q1.form;obtain⟨As9,ks9,rfl⟩:=q3.s.form;clear q1 q2 q3 q4;have c3' :=c3.on b9;have L9:=b3.trans (b9.mono b3.size);go_simp;refine hK.out _ _ (fun _=>L9) ?_;clear hK K
 try simp only[Act.put,Qb,Qc,Qd]
 refine ju 10 rfl (by kernel_rfl) fun K hK=> ?_
 have r9:=fF.o.on L9;obtain⟨z0,z1,z2,z3⟩:=mm r9;obtain⟨f0,f1,f2,f3⟩:=WI r9;go_simp;have r9' :=IC.o.on L9;have r10:=oW r9 (.int .i64 (dQ c).ax) (.int .i64 (dQ c).depth) (.slice A3 (dQ c).blocks.length k3) (.slice As3 ps3.length ks3);have s10:=vw r9' (p:=g2) HG.o.2.2.1 (.int .i64 (dQ c).ax) (.int .i64 (dQ c).depth) (.slice A3 (dQ c).blocks.length k3) (.slice As3 ps3.length ks3);have MM:=vj V9 g2 (.int .i64 (dQ c).ax) (.int .i64 (dQ c).depth) (.slice A3 (dQ c).blocks.length k3) (.slice As3 ps3.length ks3);have D3:=c3'.aL MM (fun x hx=>Or.inr (Or.inl hx));have D9:=c9.aL MM (fun x hx=>Or.inr (Or.inl hx));obtain⟨ND,Oc⟩:=eX ((((V9.setCell ⟨g2,0,none⟩ (.int .i64 (dQ c).ax)).setCell ⟨g2,1,none⟩ (.int .i64 (dQ c).depth)).setCell ⟨g2,2,none⟩ (.slice A3 (dQ c).blocks.length k3)).setCell ⟨g2,3,none⟩ (.slice As3 ps3.length ks3));have l10:=(((AK.o.trans (L9.mono AK.o.size)).setCell (p:=⟨g2,0,none⟩) HG.o.1 (.int .i64 (dQ c).ax)).setCell (p:=⟨g2,1,none⟩) HG.o.1 (.int .i64 (dQ c).depth)).setCell (p:=⟨g2,2,none⟩) HG.o.1 (.slice A3 (dQ c).blocks.length k3);have l10:=l10.setCell (p:=⟨g2,3,none⟩) HG.o.1 (.slice As3 ps3.length ks3);rw[←Oc] at r10 s10 D3 D9 l10⊢;clear Oc z0 z1 z2 z3 f0 f1 f2 f3 MM;refine hK.out _ _ (fun h=>absurd h (by decide)) ?_;clear hK K
 try simp only[Act.put,Qb,Qc,Qd]
 refine ju 11 rfl (by kernel_rfl) fun K hK=> ?_
 obtain⟨z0,z1,z2,z3⟩:=mm s10;obtain⟨f0,f1,f2,f3⟩:=WI s10;go_simp;have h11:=vj ND g3 (.int .i64 (dd c).ax) (.int .i64 (dd c).depth) (.slice A9 (dd c).blocks.length k9) (.slice As9 Eu.length ks9);have r11:=vw r10 (p:=g3) HG.o.2.2.2 (.int .i64 (dd c).ax) (.int .i64 (dd c).depth) (.slice A9 (dd c).blocks.length k9) (.slice As9 Eu.length ks9);have s11:=oW s10 (.int .i64 (dd c).ax) (.int .i64 (dd c).depth) (.slice A9 (dd c).blocks.length k9) (.slice As9 Eu.length ks9);have E3:=D3.aL h11 (fun x hx=>Or.inr (Or.inr hx));have E9:=D9.aL h11 (fun x hx=>Or.inr (Or.inr hx));have l11:=((l10.setCell (p:=⟨g3,0,none⟩) HG.o.2.1 (.int .i64 (dd c).ax)).setCell (p:=⟨g3,1,none⟩) HG.o.2.1 (.int .i64 (dd c).depth)).setCell (p:=⟨g3,2,none⟩) HG.o.2.1 (.slice A9 (dd c).blocks.length k9);have l11:=l11.setCell (p:=⟨g3,3,none⟩) HG.o.2.1 (.slice As9 Eu.length ks9);obtain⟨V11,ag1⟩:=eX ((((ND.setCell ⟨g3,0,none⟩ (.int .i64 (dd c).ax)).setCell ⟨g3,1,none⟩ (.int .i64 (dd c).depth)).setCell ⟨g3,2,none⟩ (.slice A9 (dd c).blocks.length k9)).setCell ⟨g3,3,none⟩ (.slice As9 Eu.length ks9));rw[←ag1] at r11 s11 E3 E9 l11⊢;clear ag1 z0 z1 z2 z3 f0 f1 f2 f3 h11;refine hK.out _ _ (fun h=>absurd h (by decide)) ?_;clear hK K
 try simp only[Act.put,Qb,Qc,Qd]
 refine bD (by kernel_rfl) ?_ _;go_wp2_with fail;refine bodyPost_ret (Vh rfl rfl rfl (eY r11) (eY s11)) rfl ?_;exact⟨_,_,rfl,E3.mono (fun x hx=>Or.inl hx),E9.mono (fun x hx=>Or.inl hx),l11⟩
end
section
open Go.RowKit
attribute [local go_sem] Oper.semAt_some
variable {i : Nat}
theorem vH (w:Wo) (a b:aD):
  Calls prog 131 #[.agg #[.int .u64 a.print,.int .u32 a.block],.agg #[.int .u64 b.print,.int .u32 b.block]] w fun e w' =>e= .returned (.int .i64 (fO a b))∧Below w.heap.size w w' :=by
 obtain⟨p,u⟩:=a;obtain⟨q,v⟩:=b;simp only;obtain⟨W1,aW⟩:=eX ((w.alloc (.cells #[.int .u64 p,.int .u32 u] 68)).alloc (.cells #[.int .u64 q,.int .u32 v] 68));have R1:Af (aq W1 w.heap.size 68 [.int .u64 p,.int .u32 u]):=by show _=_;rw[aW];exact dx w _ _
 have R2:Af (aq W1 (w.heap.size+1) 68 [.int .u64 q,.int .u32 v]):=by show _=_;rw[aW];exact cL w _ _
 have B1:Af (Below w.heap.size w W1):=by rw[aW];exact(aF _ _).alloc (by simp) _
 have SR:=aW.symm;obtain⟨x0,x1⟩:=gh R1.o;obtain⟨y0,y1⟩:=gh R2.o;have C1:=aa (fun W=>yN W p q);have C2:=aa (fun W=>yO W u v);have ho:=aa (Jf ⟨p,u⟩ ⟨q,v⟩);simp only at ho;generalize mK p q=c1 at*;generalize mK u v=c2 at*;have HOr:Af (∀W:Wo,Calls prog 132 #[.slice (some ⟨W.heap.size,0,none⟩) 2 2] (W.alloc (.cells #[.int .i64 c1,.int .i64 c2] 3)) fun e w' =>e= .returned (.int .i64 (Sx c1 c2))∧W.alloc (.cells #[.int .i64 c1,.int .i64 c2] 3)=w'):=fun W=>by have hb:=ar W [.int .i64 c1,.int .i64 c2] 3;exact zw _ _ c1 c2 (hb.cell (j:=0) rfl) (hb.cell (j:=1) rfl)
 have HOd:Af (∀W:Wo,Calls prog 132 #[.slice (some ⟨W.heap.size,0,none⟩) 2 2] (W.alloc (.cells #[.int .i64 c1,.int .i64 c2] 3)).drew fun e w' =>e= .returned (.int .i64 (Sx c1 c2))∧(W.alloc (.cells #[.int .i64 c1,.int .i64 c2] 3)).drew=w'):=fun W=>by have hb:=ar W [.int .i64 c1,.int .i64 c2] 3;exact zw _ _ c1 c2 (hb.cell (j:=0) rfl) (hb.cell (j:=1) rfl)
 clear aW;go_enter func131,ntmps131;go_upto_region 1 with fail
 go_region_held3 (fun W=>W.cell? ⟨w.heap.size,0,none⟩=some (.int .u64 p)∧W.cell? ⟨w.heap.size,1,none⟩=some (.int .u32 u)∧W.cell? ⟨w.heap.size+1,0,none⟩=some (.int .u64 q)∧W.cell? ⟨w.heap.size+1,1,none⟩=some (.int .u32 v)) (first|with_reducible exact⟨x0,x1,y0,y1⟩|go_keep)
  (first
   |((go_at_call 133);(with_reducible refine(C1.o _).mono ?_);rintro e W3 ⟨rfl,rfl⟩)
   |((go_at_call 134);(with_reducible refine(C2.o _).mono ?_);rintro e W3 ⟨rfl,rfl⟩)
   |((go_at_call 132);(with_reducible refine(HOr.o _).mono ?_);rintro e W3 ⟨rfl,rfl⟩)
   |((go_at_call 132);(with_reducible refine(HOd.o _).mono ?_);rintro e W3 ⟨rfl,rfl⟩))
 all_goals
  go_wp2_with fail;go_ret;exact⟨by rw[ho.o];rfl,B1.o.trans (((aF W1 _).mono B1.o.size).drew)⟩
theorem VC {l:List aD} {e:aD} (hi:i≤l.length) (h1:∀q x,q<i→l[q]? =some x→fO x e<0) (h2:∀x,l[i]? =some x→¬fO x e<0):tr l e=i:=by
 induction l generalizing i with
 |nil=>simp at hi;subst hi;rfl
 |cons a r ih=>
  cases i with
  |zero=>
   unfold tr;rw[List.takeWhile_cons_of_neg (by have:=h2 a rfl;simpa using this)];rfl
  |succ i=>
   unfold tr;rw[List.takeWhile_cons_of_pos (by have:=h1 0 a (Nat.succ_pos i) rfl;simpa using this),QF];congr 1
   exact ih (by simpa using hi) (fun q x hq hx=>h1 (q+1) x (by omega) (by simpa using hx)) (fun x hx=>h2 x (by simpa using hx))
theorem aco {j n h:Nat} (wJ:i<j) (hj:j≤n) (hn:n≤9) (hh:h=(i+j)/2):IntKind.i64.wrap ((i:Int)+j)=(i:Int)+j∧IntKind.u64.wrap ((i:Int)+j)=(i:Int)+j∧((i:Int)+j)/2=(h:Int)∧IntKind.i64.wrap (h:Int)=(h:Int)∧h<j∧i≤h∧IntKind.i64.wrap ((h:Int)+1)=(h:Int)+1:=by
 refine⟨by simp only[XN];omega,?_,by omega,by simp only[XN];omega,by omega,by omega,by simp only[XN];omega⟩;unfold IntKind.wrap;simp only[IntKind.signed,IntKind.bits];simp;omega
theorem An (w:Wo) (v:Va) (l:List aD) (e:aD) (h:Es w w.heap.size v l) (hl:l.length≤9) (hr:dV l=true):
  Calls prog 130 #[v,jz e,.func (.func 131) #[] #[]] w fun r w' =>∃found,r= .returned (.tuple #[.int .i64 (tr l e),.bool found])∧Below w.heap.size w w' :=by
 obtain⟨A,c,rfl,-,-⟩:=h.1.form;obtain⟨n,hn⟩:=eX l.length;rw[←hn];have hp:=(nP l).1 hr;have H:=aa h;have Hn:=iJ hn (by omega:n≤9) hp;obtain⟨I0,Iv⟩:=eX (tr l e);have ID:=aa Iv;rw[←Iv];obtain⟨er,pU⟩:=eX e.print;obtain⟨ek,mF⟩:=eX e.block;unfold jz;rw[←pU,←mF];have He:=dK pU mF;obtain⟨W0,aY,X0,B0⟩:=nW w [.int .u64 er,.int .u32 ek] 68;have fD:=aa aY.symm;have HX0:=aa X0;have mV:=aa B0;clear h hl hr hn hp pU mF aY X0 B0 Iv;go_enter func130,ntmps130;go_upto_region 1 with fail
 rw[fD.o];go_wp2_with fail;go_loopw [9,10] (fun iv jv wr=>∃i j:Nat,iv= .int .i64 i∧jv= .int .i64 j∧Af (i≤j∧j≤n∧(∀q x,q<i→l[q]? =some x→fO x e<0)∧(∀q x,j≤q→l[q]? =some x→¬fO x e<0)∧Below W0.heap.size W0 wr)) (fun iv jv _=>(intOf jv).toNat - (intOf iv).toNat)
 case atStart=>exact⟨0,n,rfl,rfl,⟨Qp _,Qg _,fun q x hq=>absurd hq (Nat.not_lt_zero q),fun q x hq hx=>by have:=(Ql.1 hx).1;have:=Hn.o.1;omega,Xj _ _⟩⟩
 case round=>
  obtain⟨i,j,rfl,rfl,HR⟩:=hrel;by_cases wJ:i<j
  ·obtain⟨h,hh⟩:=eX ((i+j)/2);obtain⟨m1,m2,m3,m4,m5,m6,nZ⟩:=aco wJ HR.o.2.1 Hn.o.2.1 hh;have ZV:h<l.length:=by have:=HR.o.2.1;have:=Hn.o.1;omega
   have HEw:=H.o.below (mV.o.trans (HR.o.2.2.2.2.mono mV.o.size));obtain⟨b,o,c',hv,-,-,bO,aH⟩:=HEw.cells (by omega);obtain rfl:A=some ⟨b,o,none⟩:=by injection hv
   obtain⟨z0,z1⟩:=aH h ZV;obtain⟨x,hx⟩:=eX (l[h]);have oP:l[h]? =some x:=by rw[hx];exact Qf ZV
   rw[←hx] at z0 z1;obtain⟨pr,gY⟩:=eX x.print;obtain⟨bk,ej⟩:=eX x.block;obtain⟨cm,oS⟩:=eX (fO x e);have HCm:Af (∀W,Calls prog 131 #[.agg #[.int .u64 pr,.int .u32 bk],.agg #[.int .u64 er,.int .u32 ek]] W fun e w' =>e= .returned (.int .i64 cm)∧Below W.heap.size W w'):=fun W=>by rw[gY,ej,He.o.1,He.o.2,oS];exact vH W x e
   rw[←gY] at z0;rw[←ej] at z1;obtain⟨x0,x1⟩:=gh (HX0.o.on HR.o.2.2.2.2);have HX:=Nv oP oS m6 m5 (by rw[Hn.o.1];exact ZV:h<n) wJ;have cU:=aa HR.o;have h0:=Xh h;have hN:(h:Int)<n:=by have:=Hn.o.1;omega
   have avO :=Xi.2 wJ;clear HEw hv bO aH hx oP gY ej oS HR wJ ZV m5 m6 hh;go_upto_region 5 with fail
   go_cut [31] from 24 to 31 (fun v31 W=>v31= .bool (decide (cm<0))∧Af (Below wr.heap.size wr W))
   case first=>
    have xC:=below_drewN (Xj wr.heap.size wr) 1;obtain⟨Wd,dJ⟩:=eX wr.drew;have z0:Wd.cell? ⟨b,o+h*2,none⟩=some (.int .u64 pr):=by rw[dJ];exact z0
    have z1:Wd.cell? ⟨b,o+h*2+1,none⟩=some (.int .u32 bk):=by rw[dJ];exact z1
    have x0:Wd.cell? ⟨w.heap.size,0,none⟩=some (.int .u64 er):=by rw[dJ];exact x0
    have x1:Wd.cell? ⟨w.heap.size,1,none⟩=some (.int .u32 ek):=by rw[dJ];exact x1
    have uk:Af (Below wr.heap.size wr Wd):=by rw[dJ];exact xC
    refine bL (fun j=>[].contains j) (fun W=>Below Wd.heap.size Wd W) (by kernel_rfl) ?_;rw[←dJ];clear dJ;refine tK 0 24 (.func (.func 131) #[] #[]) rfl rfl rfl (by kernel_rfl) (fun _ _ _ h=>h) (fun W hW=>by go_simp) (Xj _ _) ?_
    try simp only[Act.put,Qb,Qc,Qd]
    refine tK 1 25 (.slice (some ⟨b,o,none⟩) n c) rfl rfl rfl (by kernel_rfl) (fun _ _ _ h=>h) (fun W hW=>by go_simp) (Xj _ _) ?_
    try simp only[Act.put,Qb,Qc,Qd]
    refine tK 2 26 (.int .i64 h) rfl rfl rfl (by kernel_rfl) (fun _ _ _ h=>h) (fun W hW=>by go_simp) (Xj _ _) ?_
    try simp only[Act.put,Qb,Qc,Qd]
    refine tK 3 27 (.pointer (some ⟨b,o+h*2,none⟩)) rfl rfl rfl (by kernel_rfl) (fun _ _ _ h=>h) (fun W hW=>by go_simp) (Xj _ _) ?_
    try simp only[Act.put,Qb,Qc,Qd]
    refine tK 4 28 (.agg #[.int .u64 pr,.int .u32 bk]) rfl rfl rfl (by kernel_rfl) (fun _ _ _ h=>h) (fun W hW=>by have hx:=(hW.cell (XX z0)).trans z0;have hy:=(hW.cell (XX z1)).trans z1;go_simp) (Xj _ _) ?_
    try simp only[Act.put,Qb,Qc,Qd]
    refine tK 5 29 (.agg #[.int .u64 er,.int .u32 ek]) rfl rfl rfl (by kernel_rfl) (fun _ _ _ h=>h) (fun W hW=>by have hx:=(hW.cell (XX x0)).trans x0;have hy:=(hW.cell (XX x1)).trans x1;go_simp) (Xj _ _) ?_
    try simp only[Act.put,Qb,Qc,Qd]
    refine ju 6 rfl (by kernel_rfl) fun K hK=> ?_
    go_simp;go_at_call 131;refine Calls.mono (HCm.o Wd) ?_;rintro e V6 ⟨rfl,b6⟩;have L6:=b6;go_simp;refine hK.out _ _ (fun _=>L6) ?_;clear hK K
    try simp only[Act.put,Qb,Qc,Qd]
    refine tK 7 31 (.bool (decide (cm<0))) rfl rfl rfl (by kernel_rfl) (fun _ _ _ h=>h) (fun W hW=>by go_simp) L6 ?_
    try simp only[Act.put,Qb,Qc,Qd]
    refine bD (by kernel_rfl) ?_ _;go_wp2_with fail;go_meet;exact⟨rfl,uk.o.trans (L6.mono uk.o.size)⟩
   case rest=>
    obtain⟨rfl,B6⟩:=hcut;have NO:=aa (cU.o.2.2.2.2.trans (B6.o.mono cU.o.2.2.2.2.size));clear z0 z1 x0 x1 m1 m2 m3 m4;by_cases aJ:cm<0
    ·have Nt:h+1≤j∧j≤n∧(∀q x,q<h+1→l[q]? =some x→fO x e<0)∧(∀q x,j≤q→l[q]? =some x→¬fO x e<0)∧Below W0.heap.size W0 wc:=⟨HX.o.2.2.2.1,cU.o.2.1,fun q y hq hy=>by
      rcases Nat.lt_or_ge q h with h1|h1
      ·have h2:=(List.pairwise_iff_getElem.1 Hn.o.2.2) q h (Ql.1 hy).1 (Ql.1 HX.o.1).1 h1;rw[(Ql.1 hy).2,(Ql.1 HX.o.1).2] at h2;exact pM h2 (by rw[←HX.o.2.1];exact aJ)
      ·have:q=h:=by omega
       subst this;rw[HX.o.1] at hy;cases hy
       rw[←HX.o.2.1];exact aJ,cU.o.2.2.2.1,NO.o⟩
     have Te:=aa Nt;have Hm:=dK HX.o.2.2.2.1 HX.o.2.2.1;clear Nt;go_wp2_with fail;refine⟨⟨h+1,j,by first|rfl|(rw[Int.natCast_succ]),rfl,Te.o⟩,?_⟩;have:=Hm.o;simp[intOf];omega
    ·have Nt:i≤h∧h≤n∧(∀q x,q<i→l[q]? =some x→fO x e<0)∧(∀q x,h≤q→l[q]? =some x→¬fO x e<0)∧Below W0.heap.size W0 wc:=⟨HX.o.2.2.1,QX HX.o.2.2.2.2.1,cU.o.2.2.1,fun q y hq hy ags =>by
      rcases Nat.lt_or_ge h q with h1|h1
      ·have h2:=(List.pairwise_iff_getElem.1 Hn.o.2.2) h q (Ql.1 HX.o.1).1 (Ql.1 hy).1 h1;rw[(Ql.1 hy).2,(Ql.1 HX.o.1).2] at h2;exact aJ (by rw[HX.o.2.1];exact pM h2 ags)
      ·have:q=h:=by omega
       subst this;rw[HX.o.1] at hy;cases hy
       exact aJ (by rw[HX.o.2.1];exact ags),NO.o⟩
     have Te:=aa Nt;have Hm:=dK HX.o.2.2.2.1 HX.o.2.2.1;clear Nt;go_wp2_with fail;refine⟨⟨i,h,rfl,rfl,Te.o⟩,?_⟩;have:=Hm.o;simp[intOf];omega
  ·have hie:=QE HR.o.1 (QC wJ);have oL:I0=i:=by rw[ID.o];exact VC (by rw[←Hn.o.1];exact Qh HR.o.1 HR.o.2.1) HR.o.2.2.1 (fun x hx=>HR.o.2.2.2.1 i x (by omega) hx)
   have zv:=aa oL;have Bv:Af (∀W,Below wr.heap.size wr W→Below w.heap.size w W):=fun W hW=>mV.o.trans ((HR.o.2.2.2.2.trans (hW.mono HR.o.2.2.2.2.size)).mono mV.o.size)
   have i0:=Xh i;have Wp:¬(i:Int)<j:=by omega
   by_cases ph:i<n
   ·have ZV:i<l.length:=by rw[←Hn.o.1];exact ph
    have HEw:=H.o.below (mV.o.trans (HR.o.2.2.2.2.mono mV.o.size));obtain⟨b,o,c',hv,-,-,bO,aH⟩:=HEw.cells (by omega);obtain rfl:A=some ⟨b,o,none⟩:=by injection hv
    obtain⟨z0,z1⟩:=aH i ZV;obtain⟨x,hx⟩:=eX (l[i]);rw[←hx] at z0 z1;obtain⟨pr,gY⟩:=eX x.print;obtain⟨bk,ej⟩:=eX x.block;obtain⟨cm,oS⟩:=eX (fO x e);have HCm:Af (∀W,Calls prog 131 #[.agg #[.int .u64 pr,.int .u32 bk],.agg #[.int .u64 er,.int .u32 ek]] W fun e w' =>e= .returned (.int .i64 cm)∧Below W.heap.size W w'):=fun W=>by rw[gY,ej,He.o.1,He.o.2,oS];exact vH W x e
    rw[←gY] at z0;rw[←ej] at z1;obtain⟨x0,x1⟩:=gh (HX0.o.on HR.o.2.2.2.2);have hN:=Xi.2 ph;subst hie;clear HEw hv bO aH hx gY ej oS HR wJ ZV oL ph;go_upto_region 8 with fail
    have xC:=below_drewN (Xj wr.heap.size wr) 1;obtain⟨Wd,dJ⟩:=eX wr.drew;have z0:Wd.cell? ⟨b,o+i*2,none⟩=some (.int .u64 pr):=by rw[dJ];exact z0
    have z1:Wd.cell? ⟨b,o+i*2+1,none⟩=some (.int .u32 bk):=by rw[dJ];exact z1
    have x0:Wd.cell? ⟨w.heap.size,0,none⟩=some (.int .u64 er):=by rw[dJ];exact x0
    have x1:Wd.cell? ⟨w.heap.size,1,none⟩=some (.int .u32 ek):=by rw[dJ];exact x1
    have uk:Af (Below wr.heap.size wr Wd):=by rw[dJ];exact xC
    refine bL (fun j=>[].contains j) (fun W=>Below Wd.heap.size Wd W) (by kernel_rfl) ?_;rw[←dJ];clear dJ;refine tK 0 35 (.int .i64 i) rfl rfl rfl (by kernel_rfl) (fun _ _ _ h=>h) (fun W hW=>by go_simp) (Xj _ _) ?_
    try simp only[Act.put,Qb,Qc,Qd]
    refine tK 1 36 (.int .i64 i) rfl rfl rfl (by kernel_rfl) (fun _ _ _ h=>h) (fun W hW=>by go_simp) (Xj _ _) ?_
    try simp only[Act.put,Qb,Qc,Qd]
    refine tK 2 37 (.int .i64 n) rfl rfl rfl (by kernel_rfl) (fun _ _ _ h=>h) (fun W hW=>by go_simp) (Xj _ _) ?_
    try simp only[Act.put,Qb,Qc,Qd]
    refine tK 3 38 (.bool true) rfl rfl rfl (by kernel_rfl) (fun _ _ _ h=>h) (fun W hW=>by go_simp) (Xj _ _) ?_
    try simp only[Act.put,Qb,Qc,Qd]
    refine tK 4 39 (.bool true) rfl rfl rfl (by kernel_rfl) (fun _ _ _ h=>h) (fun W hW=>by go_simp) (Xj _ _) ?_
    try simp only[Act.put,Qb,Qc,Qd]
    refine tK 5 40 (.func (.func 131) #[] #[]) rfl rfl rfl (by kernel_rfl) (fun _ _ _ h=>h) (fun W hW=>by go_simp) (Xj _ _) ?_
    try simp only[Act.put,Qb,Qc,Qd]
    refine tK 6 41 (.slice (some ⟨b,o,none⟩) n c) rfl rfl rfl (by kernel_rfl) (fun _ _ _ h=>h) (fun W hW=>by go_simp) (Xj _ _) ?_
    try simp only[Act.put,Qb,Qc,Qd]
    refine tK 7 42 (.int .i64 i) rfl rfl rfl (by kernel_rfl) (fun _ _ _ h=>h) (fun W hW=>by go_simp) (Xj _ _) ?_
    try simp only[Act.put,Qb,Qc,Qd]
    refine tK 8 43 (.pointer (some ⟨b,o+i*2,none⟩)) rfl rfl rfl (by kernel_rfl) (fun _ _ _ h=>h) (fun W hW=>by go_simp) (Xj _ _) ?_
    try simp only[Act.put,Qb,Qc,Qd]
    refine tK 9 44 (.agg #[.int .u64 pr,.int .u32 bk]) rfl rfl rfl (by kernel_rfl) (fun _ _ _ h=>h) (fun W hW=>by have hx:=(hW.cell (XX z0)).trans z0;have hy:=(hW.cell (XX z1)).trans z1;go_simp) (Xj _ _) ?_
    try simp only[Act.put,Qb,Qc,Qd]
    refine tK 10 45 (.agg #[.int .u64 er,.int .u32 ek]) rfl rfl rfl (by kernel_rfl) (fun _ _ _ h=>h) (fun W hW=>by have hx:=(hW.cell (XX x0)).trans x0;have hy:=(hW.cell (XX x1)).trans x1;go_simp) (Xj _ _) ?_
    try simp only[Act.put,Qb,Qc,Qd]
    refine ju 11 rfl (by kernel_rfl) fun K hK=> ?_
    go_simp;go_at_call 131;refine Calls.mono (HCm.o Wd) ?_;rintro e V11 ⟨rfl,b6⟩;have L6:=b6;go_simp;refine hK.out _ _ (fun _=>L6) ?_;clear hK K
    try simp only[Act.put,Qb,Qc,Qd]
    refine tK 12 47 (.bool (cm==0)) rfl rfl rfl (by kernel_rfl) (fun _ _ _ h=>h) (fun W hW=>by go_simp) L6 ?_
    try simp only[Act.put,Qb,Qc,Qd]
    refine tK 13 48 (.bool (cm==0)) rfl rfl rfl (by kernel_rfl) (fun _ _ _ h=>h) (fun W hW=>by go_simp) L6 ?_
    try simp only[Act.put,Qb,Qc,Qd]
    refine ju 14 rfl (by kernel_rfl) fun K hK=> ?_
    go_simp;refine hK.out _ _ (fun _=>L6) ?_;clear hK K
    try simp only[Act.put,Qb,Qc,Qd]
    refine ju 15 rfl (by kernel_rfl) fun K hK=> ?_
    go_simp;refine hK.out _ _ (fun _=>L6) ?_;clear hK K
    try simp only[Act.put,Qb,Qc,Qd]
    refine bD (by kernel_rfl) ?_ _;go_wp2_with fail
    try rw[Qv]
    go_ret2;exact⟨by simp[zv.o];exact(Decidable.em _).symm,Bv.o _ (uk.o.trans (L6.mono uk.o.size))⟩
   ·have anh:i=n:=by have:=HR.o.1;have:=HR.o.2.1;omega
    have hN:¬(i:Int)<n:=by omega
    subst hie;have HB:=aa HR.o.2.2.2.2;subst anh;clear HR wJ oL ph;go_upto_region 8 with fail
    go_quiet (fail)
    go_wp2_with fail
    try rw[Qv]
    go_ret2;exact⟨by first|exact zv.o.symm|exact zv.o|simp[zv.o],Bv.o _ (below_drewN (Xj _ _) _)⟩
end
section
open Go.RowKit
attribute [local go_sem] Oper.semAt_some
variable {α : Type}
theorem gS (L:List α) (off:Nat) (cs:List α) (h:off+cs.length≤L.length) (j:Nat):
  (splice L off cs)[j]? =if j<off then L[j]? else if j<off+cs.length then cs[j - off]? else L[j]? :=by
 unfold splice;by_cases h1:j<off
 ·rw[Xo h1,QN (by simp;omega),Ze,Xo h1]
 ·rw[Xd h1,QM (by simp;omega)];have e:(L.take off).length=off:=by simp;omega
  rw[e];by_cases h2:j<off+cs.length
  ·rw[Xo h2,QN (by omega)]
  ·rw[Xd h2,QM (by omega),Zb];congr 1;omega
theorem CH (Xs:List α) (i:Nat) (ms:List α) (hi:i≤Xs.length) (j:Nat):
  (Xs.take i++(ms++Xs.drop i))[j]? =if j<i then Xs[j]? else if j<i+ms.length then ms[j - i]? else Xs[j - ms.length]? :=by
 have e:(Xs.take i).length=i:=by simp;omega
 by_cases h1:j<i
 ·rw[Xo h1,QN (by omega),Ze,Xo h1]
 ·rw[Xd h1,QM (by omega),e];by_cases h2:j<i+ms.length
  ·rw[Xo h2,QN (by omega)]
  ·rw[Xd h2,QM (by omega),Zb];congr 1;omega
theorem Lx (L Xs:List α) (i n:Nat) (ms:List α) (hn:Xs.length=n) (hL:L.take n=Xs) (hi:i≤n) (hl:n+ms.length≤L.length):
  (splice (splice L (i+ms.length) (Xs.drop i)) i ms).take (n+ms.length)=Xs.take i++(ms++Xs.drop i):=by
 have e1:(splice L (i+ms.length) (Xs.drop i)).length=L.length:=length_splice _ _ _ (by rw[Zt];omega);have iO:∀j,j<n→L[j]? =Xs[j]? :=fun j hj=>by rw[←hL,Ze,Xo hj]
 apply List.ext_getElem?;intro j;rw[CH _ _ _ (by omega),Ze];by_cases h0:j<n+ms.length
 ·rw[Xo h0,gS _ _ _ (by rw[e1];omega)];by_cases h1:j<i
  ·rw[Xo h1,Xo h1,gS _ _ _ (by simp;omega),Xo (by omega)];exact iO j (by omega)
  ·rw[Xd h1,Xd h1];by_cases h2:j<i+ms.length
   ·rw[Xo h2,Xo h2]
   ·rw[Xd h2,Xd h2,gS _ _ _ (by simp;omega),Xd (by omega),Xo (by simp;omega),Zb];congr 1;omega
 ·rw[Xd h0,Xd (by omega),Xd (by omega),QQ (by omega)]
theorem Ly (L Xs:List α) (i n:Nat) (ms:List α) (hn:Xs.length=n) (hL:L.take i=Xs.take i) (hi:i≤n) (hl:n+ms.length≤L.length):
  (splice (splice L i ms) (i+ms.length) (Xs.drop i)).take (n+ms.length)=Xs.take i++(ms++Xs.drop i):=by
 have e1:(splice L i ms).length=L.length:=length_splice _ _ _ (by omega);have iO:∀j,j<i→L[j]? =Xs[j]? :=fun j hj=>by have:=XF (fun l=>l[j]?) hL;simpa[Ze,hj] using this
 apply List.ext_getElem?;intro j;rw[CH _ _ _ (by omega),Ze];by_cases h0:j<n+ms.length
 ·rw[Xo h0,gS _ _ _ (by rw[e1,Zt];omega)];by_cases h1:j<i
  ·rw[Xo (by omega),Xo h1,gS _ _ _ (by omega),Xo (by omega)];exact iO j (by omega)
  ·rw[Xd h1];by_cases h2:j<i+ms.length
   ·rw[Xo (by omega),Xo h2,gS _ _ _ (by omega),Xd h1,Xo h2]
   ·rw[Xd (by omega),Xd h2,Xo (by simp;omega),Zb];congr 1;omega
 ·rw[Xd h0,Xd (by omega),Xd (by omega),QQ (by omega)]
theorem qV (w:Wo) (g:Nat) (cs:Array Va):w.grownBy (w.setRow g cs) (some g):=
 ⟨rfl,rfl,rfl,by show w.heap.size≤(w.heap.modify g _).size;rw[Array.size_modify];exact Qg _,fun k _ hk=>setRow_other w g k _ (fun e=>hk (by rw[e]))⟩
theorem xU (w:Wo) (ty:TypeId) (g o qj wW:Nat) (a:Addr) (pA uw:Nat) (L:List Va) (t:TypeId) (cs:List Va) (n:Nat)
  (hg:w.heap[g]? =some (.cells L.toArray t (0,0))) (hm:n=Nat.min pA qj) (hn:cs.length=n*2)
  (EU:∀j v,cs[j]? =some v→w.cell? (a.add j)=some v) (jy:o+cs.length≤L.length) (h1:∀v∈cs,v.oneCell' =true):
  (Builtin.copy_ #[90,90] ty #[.slice (some ⟨g,o,none⟩) qj wW,.slice (some a) pA uw]).run prog w=
   .ok (goInt n) (w.setRow g (splice L o cs).toArray):=by
 have hl:=run_firstCells_some (P:=prog) w 2 n a pA uw cs hn EU;have cO:=run_storeCells_at (P:=prog) g o t cs 0 L.toArray w hg (by simpa using jy) h1;obtain⟨i0,hi,oI,mM,xw⟩:=info_parts IL;simp only[XC] at cO;simp[Builtin.copy_,run_underlying underlying90,Builtin.lenOf,sizeOf,typeInfo,hi,mM,←hm,hl,cO,splice]
section
variable {ops : Array Oper} {w : Wo} {Q : Exit → Act → Wo → Prop} {a : Act} {rest : List Oper} {o : Oper}
theorem wl_copyE (hgd:o.guard=none) (d s:Operand)
  (ho:o.op= .call {callee:= .builtin .copy,args:= #[d,s],argTypes:= #[90,90]})
  (ad:Addr) (qj wW pA uw g off:Nat) (hd:a.eval d= .slice (some ⟨g,off,none⟩) qj wW) (hs:a.eval s= .slice (some ad) pA uw)
  (L:List Va) (t:TypeId) (hg:w.heap[g]? =some (.cells L.toArray t (0,0))) (cs:List Va) (n:Nat) (hm:n=Nat.min pA qj) (hn:cs.length=n*2)
  (EU:∀j v,cs[j]? =some v→w.cell? (ad.add j)=some v) (jy:off+cs.length≤L.length) (h1:∀v∈cs,v.oneCell' =true)
  (h:∀w',Af (w'.heap[g]? =some (.cells (splice L off cs).toArray t (0,0)))→w.grownBy w' (some g)→wpList prog ops Q rest (a.put o.dst (goInt n)) w'):
  wpList prog ops Q (o::rest) a w:=by
 refine wpList_plain hgd fun K hK=> ?_
 have iq:=xU w o.type g off qj wW ad pA uw L t cs n hg hm hn EU jy h1;unfold Oper.wp;simp[execOp,ho,resolve,invoke,builtin,hd,hs,iq,Result.andThen];exact hK _ _ (h _ (setRow_heap w g _ _ t _ hg) (qV w g _))
theorem vr {K:Act→Wo→Prop} {E:Prop} (hgd:o.guard=none) (d s:Operand)
  (ho:o.op= .call {callee:= .builtin .copy,args:= #[d,s],argTypes:= #[90,90]})
  (ad:Addr) (qj wW pA uw g off:Nat) (hd:a.eval d= .slice (some ⟨g,off,none⟩) qj wW) (hs:a.eval s= .slice (some ad) pA uw)
  (L:List Va) (t:TypeId) (hg:w.heap[g]? =some (.cells L.toArray t (0,0))) (cs:List Va) (n:Nat) (hm:n=Nat.min pA qj) (hn:cs.length=n*2)
  (EU:∀j v,cs[j]? =some v→w.cell? (ad.add j)=some v) (jy:off+cs.length≤L.length) (h1:∀v∈cs,v.oneCell' =true)
  (h:∀w',Af (w'.heap[g]? =some (.cells (splice L off cs).toArray t (0,0)))→w.grownBy w' (some g)→K (a.put o.dst (goInt n)) w'):
  if Region.wanted o (yielded ops a.tmps)=true then Oper.wp prog o a w K Q else E:=by
 have hw:Region.wanted o (yielded ops a.tmps)=true:=by simp[Region.wanted,hgd]
 rw[Xo hw];have iq:=xU w o.type g off qj wW ad pA uw L t cs n hg hm hn EU jy h1;unfold Oper.wp;simp[execOp,ho,resolve,invoke,builtin,hd,hs,iq,Result.andThen];exact h _ (setRow_heap w g _ _ t _ hg) (qV w g _)
end
theorem LV (es:List aD) (i:Nat):(es.flatMap dC).drop (i*2)=(es.drop i).flatMap dC:=by
 induction es generalizing i with
 |nil=>simp
 |cons a r ih=>
  cases i with
  |zero=>simp
  |succ i=>
   rw[Zk,QH,←ih i,show(i+1)*2=i*2+1+1 by omega];rfl
theorem CP (es:List aD) (i:Nat) (x:aD):(es.take i++x::es.drop i).flatMap dC=(es.flatMap dC).take (i*2)++(dC x++(es.flatMap dC).drop (i*2)):=by
 rw[QP,QH,←rZ,←LV]
theorem La {w:Wo} {base e sz n:Nat} {v:Va} {xs:List Va} (h:w.ownsRow base e sz v n xs) (hn:0<n):
  ∃g c L,v= .slice (some ⟨g,0,none⟩) n c∧base≤g∧w.heap[g]? =some (.cells (List.toArray L) e (0,0))∧n≤c∧c≤maxLen∧L.length=c*sz∧L.take (n*sz)=xs:=by
 obtain⟨hl,⟨-,h2⟩|⟨g,c,cur,hv,hg,hh,hc,hm,hs,ht⟩⟩:=h
 ·omega
 ·exact⟨g,c,cur.toList,hv,hg,by simpa using hh,hc,hm,by simpa using hs,ht⟩
theorem PK (w:Wo):(Go.sizeOf 68).run prog w= .ok 2 w:=by
 obtain⟨i0,hi,oI,mM,xw⟩:=info_parts IL;simp[sizeOf,typeInfo,hi,mM]
theorem DG (w:Wo) (base vb:Nat) (s:Va) (xs:List aD) (i:Nat) (x:aD) (hs:cV w base s xs) (ey:base≤w.heap.size) (hi:i≤xs.length) (hl:xs.length≤10000)
  (oQ:vb<w.heap.size) (bT:s.ownBlock≠some vb) (hv:aq w vb 68 (dC x)) (hx:eR x):
  Calls prog 136 #[s,.int .i64 i,.slice (some ⟨vb,0,none⟩) 1 1] w fun e w' =>∃v',e= .returned v'∧cV w' base v' (xs.take i++x::xs.drop i)∧w.grownBy w' s.ownBlock:=by
 have Hx:Af (Es w w.heap.size (.slice (some ⟨vb,0,none⟩) 1 1) [x]):=⟨kT rfl (Qg _) (by unfold maxLen;omega) ⟨oQ,fun j u hu=>by
  rw[QR];exact hv.cell (by simpa using hu)⟩,by simpa using hx⟩
 have Hs:=aa hs;have YU:=aa ey;have Hl:=aa hl;have Hvb:=aa oQ;have Hv:=aa hv;have fq:=aa bT;clear hv bT hx;by_cases ph:i=xs.length
 ·subst ph
  obtain⟨A,c,rfl,hc,hm⟩:=(Sl.bU hs).form;clear hs hl ey oQ hm;go_enter func136,ntmps136;go_wp2_with((with_reducible refine wl_append_e (os:= .tmp 23) (ox:= .tmp 24) (base:=base) (xs:=xs) Hs.o Hx.o ?_ ?_ ?_ ?_ ?_);go_must((·have:=Hl.o;simp;omega);(·exact YU.o);(·rfl);(·rfl);intro v3 w3 sD qa;have H3:=aa sD;have G3:=aa qa;clear sD qa))
  all_goals(go_ret;exact⟨_,rfl,by simpa using H3.o,by first|exact G3.o|(cases A<;>exact G3.o)⟩)
 ·have avN :i<xs.length:=by omega
  obtain⟨g,c,L,rfl,hg,hh,hc,hm,cz,ht⟩:=La hs (by omega);have gZ:vb≠g:=fun e=>fq.o (by rw[e];rfl)
  have Hnb:=aa gZ;have Hg:=aa hg;have Hh:=aa hh;have uk:=aa cz;obtain⟨C,hC⟩:=eX (xs.flatMap dC);rw[←hC] at ht;have HC:=aa hC;have je:Af (C.length=xs.length*2):=by rw[hC];exact RU xs
  have Ht:=aa ht;have Hm:=aa hm;have Hgl:Af (g<w.heap.size):=(Qy.1 hh).1;obtain⟨X1,hX1⟩:∃X1:List Va,X1=C.drop (i*2):=⟨_,rfl⟩;have tl:=aa hX1;have agW:X1.length=(xs.length - i)*2:=by rw[hX1,Zt,je.o];omega
  have ahd:Af (∀u∈X1,u.oneCell' =true):=fun u hu=>by rw[hX1,hC] at hu;exact yJ xs u (Q6 hu)
  have HXc:Af (∀W:Wo,W.heap[g]? =w.heap[g]?→∀j v,X1[j]? =some v→W.cell? ((⟨g,i*2,none⟩:Addr).add j)=some v):=by
   intro W hW j v hj;rw[dP,cell_of_row W g (i*2+j) _ _ _ (hW.trans Hh.o)];rw[tl.o,Zb] at hj;have e:=XF (fun l=>l[i*2+j]?) Ht.o;simp only[Ze] at e;have aJ:i*2+j<xs.length*2:=by
    have:=(Ql.1 hj).1;rw[je.o] at this;exact this
   rw[Xo aJ,hj] at e;simpa using e
  have Kf:=aa agW;clear hh cz ht hs hg hX1 hC agW gZ;have hci:¬(c=i):=by omega
  have hp1:(0:Int)≤(i:Int)+1:=by omega
  have Tx:(i:Int)+1≤(xs.length:Int):=by omega
  have Wn:(i:Int)≤(xs.length:Int):=by omega
  have hp4:(i:Int)≤(xs.length:Int)+1:=by omega
  have nZ:IntKind.i64.wrap ((xs.length:Int)+1)=(xs.length:Int)+1:=by rw[XN];omega
  have fp:IntKind.i64.wrap ((i:Int)+1)=(i:Int)+1:=by rw[XN];omega
  have YD :(xs.take i++x::xs.drop i).length=xs.length+1:=by simp;omega
  have YS :=aa YD;have HE:Af (∀W j v,aq W vb 68 (dC x)→(dC x)[j]? =some v→W.cell? ((⟨vb,0,none⟩:Addr).add j)=some v):=fun W j v hW hj=>by
   rw[dP,QR];exact hW.cell hj
  clear ey oQ hm YD;by_cases BH:xs.length+1≤c
  ·have avR:¬(c=i+1):=by omega
   have TA:¬((c:Int)<(xs.length:Int)+1):=by omega
   have Hov:Af (∀lb cb,(callFunc 213 #[.slice (some ⟨vb,0,none⟩) 1 1,.slice (some ⟨g,(i+1)*2,none⟩) lb cb]).run prog w= .ok (.value (.bool false)) w):=fun lb cb=>by
    have Zx:=Hv.o;unfold aq at Zx;rw[run_callFunc_extern func213 (by kernel_rfl) (by kernel_rfl) (by kernel_rfl) (e:=Extern.SlicesOverlaps.overlaps #[90,90] #[4]) (by kernel_rfl),
     Lib.run_overlaps_apart w 90 4 68 underlying90 2 PK ⟨vb,0,none⟩ ⟨g,(i+1)*2,none⟩ 1 1 lb cb Hnb.o 68 68 2 L.length (by simp[World.shape?,Zx,dC]) (by simp[World.shape?,Hh.o]) (by have:=uk.o;omega) (by simp[World.frozen?,Zx]) (by simp[World.frozen?,Zx])]
    rfl
   have hov:=Hov.o;clear Hov;go_enter func136,ntmps136;go_wp2_with(simp only[hov]);have G2:=aa Hh.o;have j2:=aa (HXc.o w.drew rfl);have YG:(i+1)*2+X1.length≤L.length:=by rw[Kf.o,uk.o];omega
   have BU:=aa YG;clear YG;go_region_law (refine vr rfl (.tmp 73) (.tmp 76) rfl ⟨g,i*2,none⟩ (xs.length - i) (c - (i+1)) (xs.length+1 - i) (c - i) g ((i+1)*2) (by simp[Act.eval,Act.put]) (by simp[Act.eval,Act.put]) L 68 G2.o X1 (xs.length - i) ?_ Kf.o j2.o BU.o ahd.o ?_;go_must((·simp only[Nat.min_def];split<;>omega);intro w3 qa jW;have B3:=aa ((ga ((Xj w.heap.size w).drew) (some g)).trans jW);clear jW))
   have Ff:Af ((splice L ((i+1)*2) X1).length=c*2):=by
    show _=_;rw[length_splice _ _ _ BU.o];exact uk.o
   obtain⟨L3,Z9⟩:∃L3:List Va,L3=splice L ((i+1)*2) X1:=⟨_,rfl⟩;rw[←Z9] at qa Ff;have Xk:=aa Z9;clear Z9 j2 G2;have HV3:Af (∀j v,(dC x)[j]? =some v→w3.cell? ((⟨vb,0,none⟩:Addr).add j)=some v):=fun j v hj=>HE.o w3 j v (Hv.o.grown B3.o (fun e=>Hnb.o (Qr e))) hj
   have BT:Af (i*2+(dC x).length≤L3.length):=by show i*2+2≤_;rw[Ff.o];omega
   go_wp2_with(refine wl_copyE rfl (.tmp 80) (.tmp 81) rfl ⟨vb,0,none⟩ _ _ _ _ g (i*2) rfl rfl L3 68 qa.o (dC x) 1 ?_ rfl HV3.o BT.o (qQ _ _) ?_;go_must((·simp only[Nat.min_def];split<;>omega);intro w4 og sm;have B4:=aa (B3.o.trans sm);clear sm))
   go_ret;have hX:=Lx L C (i*2) (xs.length*2) (dC x) je.o Ht.o (by omega) (by rw[uk.o];show _+2≤_;omega)
   rw[←tl.o,show i*2+(dC x).length=(i+1)*2 by show i*2+2=_;omega,←Xk.o] at hX
   refine⟨_,rfl,?_,B4.o⟩;unfold cV;rw[CP,←HC.o,YS.o,←tl.o];refine⟨by rw[Qo,Qo,Qu,je.o,Kf.o];show _+(2+_)=_;omega,.inr ⟨g,c,_,rfl,Hg.o,og.o,BH,Hm.o,?_,?_⟩⟩
   ·rw[QW,length_splice _ _ _ BT.o];exact Ff.o
   ·rw[←hX]
    show List.take _ (splice L3 (i*2) (dC x))=List.take _ _
    congr 1
    show(xs.length+1)*2=xs.length*2+2;omega
  ·have TJ :c=xs.length:=by omega
   subst TJ;obtain⟨k,hk⟩:=eX (xs.length+1 - i);have AA:i+k=xs.length+1:=by omega
   have Bu:Af (∀ty,(Builtin.append_ #[90,3] ty #[.slice (some ⟨g,0,none⟩) i xs.length,.int .i64 k]).run prog w= .ok (.slice (some ⟨w.heap.size,0,none⟩) (i+k) (grownCap w (i+k) xs.length 68))
     (w.drew.alloc (.cells ((C.take (i*2)).toArray++Builtin.zeroCells #[.int .u64 0,.int .u32 0] k++Builtin.zeroCells #[.int .u64 0,.int .u32 0] (grownCap w (i+k) xs.length 68 - (i+k))) 68))):=by
    intro ty;obtain⟨i0,ml,hz,lz,hb⟩:=info_parts IL;have hl' :=Hl.o;refine Lib.run_append_grow_zeros w 90 3 ty 68 i0 _ .i64 .i64 underlying90 underlying3 ml hz _ i xs.length _ ?_ k (by omega) (by omega) (by omega) (by omega) (by rw[hb];omega) (by rw[hb];exact growslice_fits (by omega) (by omega))
    rw[lz];refine run_firstCells_some w.drew 2 i _ i _ _ (by rw[Qu,je.o];omega) (fun j v hj=> ?_)
    rw[dP,QR];show w.cell? _=_;rw[cell_of_row w g j _ _ _ Hh.o];have e:=XF (fun l=>l[j]?) Ht.o;rw[Ze] at hj;split at hj
    ·simp only[Ze] at e
     rw[Xo (by omega)] at e;simpa[hj] using e
    ·cases hj
   have pj:i+k≤grownCap w (i+k) xs.length 68:=grownCap_ge _ _ _ _;have hle:=aa (grownCap_le_maxLen w (i+k) xs.length 68 (by have:=Hl.o;unfold maxLen;omega))
   generalize AB:grownCap w (i+k) xs.length 68=c2 at*;clear AB;obtain⟨L2,hL2⟩:∃L2:List Va,L2.toArray=(C.take (i*2)).toArray++Builtin.zeroCells #[.int .u64 0,.int .u32 0] k++Builtin.zeroCells #[.int .u64 0,.int .u32 0] (c2 - (i+k)):=⟨Array.toList _,rfl⟩;have abD:Af (L2.length=c2*2):=by
    have:=XF Array.size hL2;simp[size_zeroCells,je.o] at this;show _=_;omega
   have an2:Af (L2.take (i*2)=C.take (i*2)):=by
    have:=XF Array.toList hL2;simp only[Array.toList_append] at this;show _=_;rw[show L2=_ from this,QY,List.take_append_of_le_length (by simp[je.o];omega),Qj (by simp;omega)]
   have YQ:Af (∀ty,(Builtin.append_ #[90,3] ty #[.slice (some ⟨g,0,none⟩) i xs.length,.int .i64 ((xs.length+1 - i:Nat):Int)]).run prog w= .ok (.slice (some ⟨w.heap.size,0,none⟩) (xs.length+1) c2) (w.drew.alloc (.cells L2.toArray 68))):=by
    rw[hL2,←hk,←AA];exact Bu.o
   clear hL2 Bu;rw[AA] at pj;obtain⟨W2,cE⟩:=eX (w.drew.alloc (.cells L2.toArray 68));rw[←cE] at YQ;have anX:Af (W2.heap[w.heap.size]? =some (.cells L2.toArray 68 (0,0))):=by rw[cE];exact heap_alloc_new w.drew _
   have abB:Af (Below w.heap.size w W2):=by rw[cE];exact⟨rfl,rfl,rfl,by simp,fun k hk=>heap_alloc_old w.drew _ hk⟩
   clear cE;have anW:Af (∀j v,(dC x)[j]? =some v→W2.cell? ((⟨vb,0,none⟩:Addr).add j)=some v):=fun j v hj=>HE.o W2 j v (Hv.o.on abB.o) hj
   have BU:Af (i*2+(dC x).length≤L2.length):=by show i*2+2≤_;rw[abD.o];omega
   have avS:¬(c2=i):=by omega
   have ar1 :¬(c2=i+1):=by omega
   have DZ:IntKind.i64.wrap ((xs.length:Int)+1 - i)=((xs.length+1 - i:Nat):Int):=by rw[XN];omega
   clear AA;subst hk;have bT:=ph;go_enter func136,ntmps136;go_wp2_with(first|(at_builtin;refine Lib.wpList_append_run _ rfl _ _ _ _ rfl _ _ rfl rfl _ _ (YQ.o _) ?_)|(refine wl_copyE rfl (.tmp 43) (.tmp 44) rfl ⟨vb,0,none⟩ _ _ _ _ w.heap.size (i*2) rfl rfl L2 68 anX.o (dC x) 1 ?_ rfl anW.o BU.o (qQ _ _) ?_;go_must((·simp only[Nat.min_def];split<;>omega);intro w3 qa jW;have B3:=aa (abB.o.grown jW abB.o.size (fun k hk=>by cases(Qr hk);exact Qg _));clear jW)))
   have G3:=aa qa;have Ff:Af ((splice L2 (i*2) (dC x)).length=c2*2):=by
    show _=_;rw[length_splice _ _ _ BU.o];exact abD.o
   obtain⟨L3,Z9⟩:∃L3:List Va,L3=splice L2 (i*2) (dC x):=⟨_,rfl⟩;rw[←Z9] at G3 Ff;have Xk:=aa Z9;clear Z9 qa;have anV:=aa (HXc.o w3.drew (B3.o.block g Hgl.o));have B3d:=aa B3.o.drew;have YF:(i+1)*2+X1.length≤L3.length:=by rw[Kf.o,Ff.o];omega
   have BT:=aa YF;clear YF;go_region_law (refine vr rfl (.tmp 50) (.tmp 53) rfl ⟨g,i*2,none⟩ (xs.length - i) (c2 - (i+1)) (xs.length - i) (xs.length - i) w.heap.size ((i+1)*2) (by simp[Act.eval,Act.put]) (by simp[Act.eval,Act.put]) L3 68 G3.o X1 (xs.length - i) ?_ Kf.o anV.o BT.o ahd.o ?_;go_must((·simp only[Nat.min_def];split<;>omega);intro w4 og sm;have B4:=aa (B3d.o.grown sm B3d.o.size (fun k hk=>by cases(Qr hk);exact Qg _));clear sm))
   go_wp2_with fail;go_ret;have hX:=Ly L2 C (i*2) (xs.length*2) (dC x) je.o an2.o (by omega) (by rw[abD.o];show _+2≤_;omega)
   rw[←tl.o,show i*2+(dC x).length=(i+1)*2 by show i*2+2=_;omega,←Xk.o] at hX
   refine⟨_,rfl,?_,ga B4.o _⟩;unfold cV;rw[CP,←HC.o,YS.o,←tl.o];refine⟨by rw[Qo,Qo,Qu,je.o,Kf.o];show _+(2+_)=_;omega,.inr ⟨w.heap.size,c2,_,rfl,YU.o,og.o,pj,hle.o,?_,?_⟩⟩
   ·rw[QW,length_splice _ _ _ BT.o];exact Ff.o
   ·rw[←hX]
    show List.take _ (splice L3 ((i+1)*2) X1)=List.take _ _
    congr 1
    show(xs.length+1)*2=xs.length*2+2;omega
end
end Go.Proofs.YthgdhacopamklaaGreat

/- What HashNone asks, part 40 of 41: parts of the walks and laws, each true as it stands. -/
import Derived.Test.YthgdhacopamklaaGreatTBL
import Derived.Test.YthgdhacopamklaaGreatTBM
set_option maxHeartbeats 16000000
set_option maxRecDepth 100000
set_option linter.unusedVariables false
set_option linter.unusedSimpArgs false
namespace Go.Proofs.YthgdhacopamklaaGreat
open Go.Proofs.Tryz
section
open Go.RowKit
attribute [local go_sem] Oper.semAt_some
variable {w : Wo} {v : Va}
structure Ox (w:Wo) (v:Va) (x:Int):Prop where
 rd:qC w v x
 add:∀W,Below w.heap.size w W→∀p k,Calls prog 16 #[v,.int .u64 p,.int .u32 k] W fun e w' =>e= .returned (.int .i64 x)∧Below W.heap.size W w'
 swp:∀W,Below w.heap.size w W→∀a b,Calls prog 17 #[v,a,b] W fun e w' =>e= .returned (.int .i64 x)∧Below W.heap.size W w'
theorem Ox.on {w' :Wo} {x:Int} (h:Ox w v x) (hb:Below w.heap.size w w'):Ox w' v x:=⟨h.rd.on hb,fun W hW=>h.add W (hb.trans (hW.mono hb.size)),fun W hW=>h.swp W (hb.trans (hW.mono hb.size))⟩
theorem Jx (h:JQ w v) (hl:∀b,v= .pointer (some ⟨b,0,none⟩)→b<w.heap.size):Ox w v 1:=⟨P9 h hl,fun W hW p k=>VX W v (h.on hl hW) p k,fun W hW a b=>PF W v (h.on hl hW) a b⟩
theorem Mp {I:bF} {s:aX} (h:cR w I s) (hb:s.broken=false) (h0:∀i,3≤i→i<8→s.root i=0):Ox w (.pointer (some ⟨I.b,0,none⟩)) 180:=⟨pK h h0,fun W hW p k=>Mx W I s (h.on hW) hb h0 p k,fun W hW a b=>Fy W I s (h.on hW) hb h0 a b⟩
theorem ab6 {n:Int} (h:(Lit.int .u32 n).wf=true):bX n:=by
 simp[Lit.wf,IntKind.min,IntKind.max,IntKind.signed,IntKind.bits] at h;unfold bX;omega
theorem LC {W W4:Wo} {cs:List Va} {t1 t2:TypeId} {b:Nat} (hc:cs[1]? =some (.pointer none)) (h:(W.alloc (.cells cs.toArray t1)).alloc (.cells [.pointer none,.pointer (some ⟨W.heap.size,0,none⟩),.pointer (some ⟨b,0,none⟩)].toArray t2)=W4):
  Below W.heap.size W W4∧JQ W4 (.pointer (some ⟨W.heap.size,0,none⟩))∧W.heap.size<W4.heap.size∧aq W4 (W.heap.size+1) t2 [.pointer none,.pointer (some ⟨W.heap.size,0,none⟩),.pointer (some ⟨b,0,none⟩)]:=by
 have hs:(W.alloc (.cells cs.toArray t1)).heap.size=W.heap.size+1:=by simp
 have B1:=ar W cs t1;have B2:=B1.on (aF (W.alloc (.cells cs.toArray t1)) (.cells [.pointer none,.pointer (some ⟨W.heap.size,0,none⟩),.pointer (some ⟨b,0,none⟩)].toArray t2));have B3:=ar (W.alloc (.cells cs.toArray t1)) [.pointer none,.pointer (some ⟨W.heap.size,0,none⟩),.pointer (some ⟨b,0,none⟩)] t2;rw[hs] at B3;rw[h] at B2 B3;refine⟨?_,.inr ⟨_,rfl,B2.cell hc⟩,B2.lt,B3⟩;rw[←h];exact(aF W _).trans ((aF _ _).mono (by rw[hs];omega))
theorem VE (w:Wo) (p q:Int):Calls prog 3 #[.int .u64 p,.int .u32 q] w fun e w' =>e= .returned (.bool true)∧Below w.heap.size w w' :=by
 have HN:=aa (Cx w 16 (by decide) (by decide));go_enter func3,ntmps3;go_upto_region 2 with(go_at_call 10;go_must(refine HN.o.mono ?_);rintro e W1 ⟨d,pl,rfl,d1,hd,hp,b1⟩;have D1:=aa (And.intro d1 (And.intro hd (And.intro hp b1)));clear d1 hd hp b1)
 have HF:=aa (CN W1 d pl 16 Uw.1 D1.o.1);clear HN;go_upto_region 4 with(go_at_call 11;go_must(refine HF.o.mono ?_);rintro e W2 ⟨rfl,d2,c2⟩;have D2:=aa (And.intro d2 c2);clear d2 c2)
 have HO:=aa (Ct W2 d pl 16 D2.o.1 Uw.2.1);clear HF;go_upto_region 5 with(go_at_call 12;go_must(refine HO.o.mono ?_);rintro e W3 ⟨I,rfl,h3,n3,b3⟩;have H3:=aa (And.intro h3 (And.intro n3 b3));clear h3 n3 b3)
 clear HO;have NB:=D2.o.2.below D1.o.2.2.2.size (fun x hx e=>by rcases e with e|e<;>(rw[e] at hx;have:=D1.o.2.1;have:=D1.o.2.2.1;omega));have zj:=Jh H3.o.2.1 (B:=w.heap.size) (Qh D1.o.2.2.2.size NB.size) D1.o.2.1 D1.o.2.2.1;have EF:=(D1.o.2.2.2.trans NB).trans (H3.o.2.2.mono (Qh D1.o.2.2.2.size NB.size));have HA0:=aa (And.intro H3.o.1 (And.intro zj EF));clear NB zj EF D1 D2 H3;obtain⟨W4,j7⟩:=eX ((W3.alloc (.cells #[.pointer none,.pointer none,.pointer none,.slice none 0 0,.slice none 0 0,.map none,.int .u64 0,.int .u32 0,.int .u32 0,.int .u32 0,.int .u32 0,.int .u32 0,.int .u32 0,.int .u32 0,.int .u32 0,.int .u32 0,.int .u64 0,.int .u64 0,.int .u64 0,.int .u64 0,.int .u64 0,.int .u64 0,.int .u64 0,.int .u64 0,.int .u64 0,.int .u32 0,.int .u32 0,.int .u32 0,.int .u32 0,.int .u32 0,.int .u32 0,.int .u32 0,.int .u32 0,.int .u32 0,.int .u64 0,.int .u64 0,.int .u64 0,.int .u64 0,.int .u64 0,.int .u64 0,.int .u64 0,.int .u64 0,.int .i64 0,.bool false] 43)).alloc (.cells #[.pointer none,.pointer (some ⟨W3.heap.size,0,none⟩),.pointer (some ⟨I.b,0,none⟩)] 29));have Bh:=aa j7.symm;have HX:=aa (LC (cs:=[.pointer none,.pointer none,.pointer none,.slice none 0 0,.slice none 0 0,.map none,.int .u64 0,.int .u32 0,.int .u32 0,.int .u32 0,.int .u32 0,.int .u32 0,.int .u32 0,.int .u32 0,.int .u32 0,.int .u32 0,.int .u64 0,.int .u64 0,.int .u64 0,.int .u64 0,.int .u64 0,.int .u64 0,.int .u64 0,.int .u64 0,.int .u64 0,.int .u32 0,.int .u32 0,.int .u32 0,.int .u32 0,.int .u32 0,.int .u32 0,.int .u32 0,.int .u32 0,.int .u32 0,.int .u64 0,.int .u64 0,.int .u64 0,.int .u64 0,.int .u64 0,.int .u64 0,.int .u64 0,.int .u64 0,.int .i64 0,.bool false]) rfl j7.symm);clear j7;go_upto_region 9 with fail
 rw[Bh.o];clear Bh;go_loopw [43] (fun iv wr=>∃k:Nat,iv= .int .i64 k∧Af (k≤3∧Below W4.heap.size W4 wr)) (fun iv _=>3 - (intOf iv).toNat)
 case atStart=>exact⟨0,rfl,by decide,Xj _ _⟩
 case round=>
  obtain⟨k,rfl,HR⟩:=hrel;obtain⟨R,hR⟩:=eX (W3.heap.size+1);have G:=aa (HX.o.2.2.2.on HR.o.2);rw[←hR] at G⊢;have hk4:k=0∨k=1∨k=2∨k=3:=by have:=HR.o.1;omega
  rcases hk4 with hk|hk|hk|hk
  ·have e0:(k:Int)=0:=by omega
   have V0:=aa (And.intro (Jx (w:=wr) (.inl rfl) (fun b e=>by cases e)) HR.o.2);have HA:=aa (vl wr _ 1 V0.o.1.rd (by decide));have g0:=G.o.cell (j:=0) rfl;have f0:=G.o.free 0;have Hk:=aa hk;clear hk hR;simp only[e0];go_wp2_with(first
    |(go_at_call 13;go_must(refine HA.o.mono ?_);rintro e W5 ⟨rfl,b5⟩;have V5:=aa (And.intro (V0.o.1.on b5) (V0.o.2.trans (b5.mono V0.o.2.size)));have HB:=aa (iF W5 _ 1 V5.o.1.rd (by decide) p);clear b5)
    |(go_at_call 14;go_must(refine HB.o.mono ?_);rintro e W6 ⟨rfl,b6⟩;have V6:=aa (And.intro ((V5.o.1.on b6).on (aF W6 (.cells #[.int .i64 0,.int .i64 0,.slice none 0 0,.slice none 0 0] 50))) ((V5.o.2.trans (b6.mono V5.o.2.size)).trans ((aF W6 (.cells #[.int .i64 0,.int .i64 0,.slice none 0 0,.slice none 0 0] 50)).mono (Qh V5.o.2.size b6.size))));have HF:=aa (rY _ _ 1 V6.o.1.rd (by decide) p);clear b6)
    |(go_at_call 15;go_must(refine HF.o.mono ?_);rintro e W7 ⟨rfl,b7⟩;have V7:=aa (And.intro (V6.o.1.on b7) (V6.o.2.trans (b7.mono V6.o.2.size)));have r3:=((ar W6 [.int .i64 0,.int .i64 0,.slice none 0 0,.slice none 0 0] 50).on b7).cell (j:=3) rfl;have HAd:=aa (V7.o.1.add W7 (Xj _ _) p q);clear b7)
    |(go_at_call 16;go_must(refine HAd.o.mono ?_);rintro e W8 ⟨rfl,b8⟩;have V8:=aa (And.intro (V7.o.1.on b8) (V7.o.2.trans (b8.mono V7.o.2.size)));have HSw:=aa (V8.o.1.swp W8 (Xj _ _) (.slice none 0 0) (.slice none 0 0));clear b8)
    |(go_at_call 17;go_must(refine HSw.o.mono ?_);rintro e W9 ⟨rfl,b9⟩;have V9:=aa (And.intro (V8.o.1.on b9) (V8.o.2.trans (b9.mono V8.o.2.size)));have HMk:=aa (CC W9 (.pointer none) (.inl rfl));clear b9)
    |(go_at_call 18;go_must(refine HMk.o.mono ?_);rintro e uh ⟨rfl,wC⟩;have ND:=aa (V9.o.2.trans (wC.mono V9.o.2.size));clear wC))
   all_goals exact⟨⟨1,by first|rfl|trivial,by decide,ND.o⟩,by first|decide|(rw[Hk.o];decide)|(simp only[e0];decide)⟩
  ·have e1:(k:Int)=1:=by omega
   have V0:=aa (And.intro ((Jx HX.o.2.1 (fun b e=>by injection e with e;injection e with e;injection e with e;rw[←e];exact HX.o.2.2.1)).on HR.o.2) HR.o.2);have HA:=aa (vl wr _ 1 V0.o.1.rd (by decide));have g0:=G.o.cell (j:=1) rfl;have f0:=G.o.free 1;have Hk:=aa hk;clear hk hR;simp only[e1];go_wp2_with(first
    |(go_at_call 13;go_must(refine HA.o.mono ?_);rintro e W5 ⟨rfl,b5⟩;have V5:=aa (And.intro (V0.o.1.on b5) (V0.o.2.trans (b5.mono V0.o.2.size)));have HB:=aa (iF W5 _ 1 V5.o.1.rd (by decide) p);clear b5)
    |(go_at_call 14;go_must(refine HB.o.mono ?_);rintro e W6 ⟨rfl,b6⟩;have V6:=aa (And.intro ((V5.o.1.on b6).on (aF W6 (.cells #[.int .i64 0,.int .i64 0,.slice none 0 0,.slice none 0 0] 50))) ((V5.o.2.trans (b6.mono V5.o.2.size)).trans ((aF W6 (.cells #[.int .i64 0,.int .i64 0,.slice none 0 0,.slice none 0 0] 50)).mono (Qh V5.o.2.size b6.size))));have HF:=aa (rY _ _ 1 V6.o.1.rd (by decide) p);clear b6)
    |(go_at_call 15;go_must(refine HF.o.mono ?_);rintro e W7 ⟨rfl,b7⟩;have V7:=aa (And.intro (V6.o.1.on b7) (V6.o.2.trans (b7.mono V6.o.2.size)));have r3:=((ar W6 [.int .i64 0,.int .i64 0,.slice none 0 0,.slice none 0 0] 50).on b7).cell (j:=3) rfl;have HAd:=aa (V7.o.1.add W7 (Xj _ _) p q);clear b7)
    |(go_at_call 16;go_must(refine HAd.o.mono ?_);rintro e W8 ⟨rfl,b8⟩;have V8:=aa (And.intro (V7.o.1.on b8) (V7.o.2.trans (b8.mono V7.o.2.size)));have HSw:=aa (V8.o.1.swp W8 (Xj _ _) (.slice none 0 0) (.slice none 0 0));clear b8)
    |(go_at_call 17;go_must(refine HSw.o.mono ?_);rintro e W9 ⟨rfl,b9⟩;have V9:=aa (And.intro (V8.o.1.on b9) (V8.o.2.trans (b9.mono V8.o.2.size)));have HMk:=aa (CC W9 (.pointer (some ⟨W3.heap.size,0,none⟩)) (HX.o.2.1.on (fun b e=>by injection e with e;injection e with e;injection e with e;rw[←e];exact HX.o.2.2.1) V9.o.2));clear b9)
    |(go_at_call 18;go_must(refine HMk.o.mono ?_);rintro e uh ⟨rfl,wC⟩;have ND:=aa (V9.o.2.trans (wC.mono V9.o.2.size));clear wC))
   all_goals exact⟨⟨2,by first|rfl|trivial,by decide,ND.o⟩,by first|decide|(rw[Hk.o];decide)|(simp only[e1];decide)⟩
  ·have e2:(k:Int)=2:=by omega
   have V0:=aa (And.intro (((Mp HA0.o.1 (rfl:(Tl 16).broken=false) (fun i h1 h2=>Uw.2.2.1 i h2 h1)).on HX.o.1).on HR.o.2) HR.o.2);have HA:=aa (vl wr _ 180 V0.o.1.rd (by decide));have g0:=G.o.cell (j:=2) rfl;have f0:=G.o.free 2;have Hk:=aa hk;clear hk hR;simp only[e2];go_wp2_with(first
    |(go_at_call 13;go_must(refine HA.o.mono ?_);rintro e W5 ⟨rfl,b5⟩;have V5:=aa (And.intro (V0.o.1.on b5) (V0.o.2.trans (b5.mono V0.o.2.size)));have HB:=aa (iF W5 _ 180 V5.o.1.rd (by decide) p);clear b5)
    |(go_at_call 14;go_must(refine HB.o.mono ?_);rintro e W6 ⟨rfl,b6⟩;have V6:=aa (And.intro ((V5.o.1.on b6).on (aF W6 (.cells #[.int .i64 0,.int .i64 0,.slice none 0 0,.slice none 0 0] 50))) ((V5.o.2.trans (b6.mono V5.o.2.size)).trans ((aF W6 (.cells #[.int .i64 0,.int .i64 0,.slice none 0 0,.slice none 0 0] 50)).mono (Qh V5.o.2.size b6.size))));have HF:=aa (rY _ _ 180 V6.o.1.rd (by decide) p);clear b6)
    |(go_at_call 15;go_must(refine HF.o.mono ?_);rintro e W7 ⟨rfl,b7⟩;have V7:=aa (And.intro (V6.o.1.on b7) (V6.o.2.trans (b7.mono V6.o.2.size)));have r3:=((ar W6 [.int .i64 0,.int .i64 0,.slice none 0 0,.slice none 0 0] 50).on b7).cell (j:=3) rfl;have HAd:=aa (V7.o.1.add W7 (Xj _ _) p q);clear b7)
    |(go_at_call 16;go_must(refine HAd.o.mono ?_);rintro e W8 ⟨rfl,b8⟩;have V8:=aa (And.intro (V7.o.1.on b8) (V7.o.2.trans (b8.mono V7.o.2.size)));have HSw:=aa (V8.o.1.swp W8 (Xj _ _) (.slice none 0 0) (.slice none 0 0));clear b8)
    |(go_at_call 17;go_must(refine HSw.o.mono ?_);rintro e W9 ⟨rfl,b9⟩;have V9:=aa (And.intro (V8.o.1.on b9) (V8.o.2.trans (b9.mono V8.o.2.size)));clear b9))
   all_goals exact⟨⟨3,by first|rfl|trivial,by decide,V9.o.2⟩,by first|decide|(rw[Hk.o];decide)|(simp only[e2];decide)⟩
  ·subst hk;have B3:=(HA0.o.2.2.trans (HX.o.1.mono HA0.o.2.2.size)).trans (HR.o.2.mono (Qh HA0.o.2.2.size HX.o.1.size));have hm:=CD wr I 16 ((HA0.o.1.on HX.o.1).on HR.o.2) Uw.2.2;have HM:=aa hm;have H3:=aa B3;clear hm B3 hR;go_wp2_with(first
    |(go_at_call 18;go_must(refine HM.o.mono ?_);rintro e W5 ⟨rfl,h5,c5⟩;have H5:=aa (H3.o.trans (c5.below H3.o.size fun x hx e=>absurd (HA0.o.2.1 x e) (Nat.not_le.2 hx)));have HAw:=aa (Ms W5);clear h5 c5)
    |(go_at_call 19;go_must(refine HAw.o.mono ?_);rintro e W6 ⟨rfl,b6⟩;have H6:=aa (H5.o.trans (b6.mono H5.o.size));clear b6))
   go_ret;exact⟨rfl,H6.o⟩
theorem xh (W:Wo) (a0:Int) (_:bI a0) (a1:Int) (_:bX a1):Calls prog 3 #[.int .u64 a0,.int .u32 a1] W fun e w' =>e= .returned (.bool true)∧Below W.heap.size W w' :=VE W a0 a1
end
end Go.Proofs.YthgdhacopamklaaGreat

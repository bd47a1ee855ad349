/- What HashNone asks, part 38 of 41: parts of the walks and laws, each true as it stands. -/
import Derived.BigGuard
import Derived.Test.YthgdhacopamklaaGreatTBK
set_option maxHeartbeats 16000000
set_option maxRecDepth 100000
set_option linter.unusedVariables false
set_option linter.unusedSimpArgs false
namespace Go.Proofs.YthgdhacopamklaaGreat
open Go.Proofs.Tryz
section
open Go.RowKit
attribute [local go_sem] Oper.semAt_some
variable {W W' w : Wo} {I : bF} {sh : Bool × Nat} {base k : Nat} {v : Va} {ms : List tL}
theorem Dc (h:cR W I (stB 200)):uu I (false,0) W∧uu I (true,0) W:=⟨⟨by decide,h⟩,⟨by decide,h⟩⟩
structure IG (w:Wo) (I:bF) (sh:Bool×Nat) (W:Wo):Prop where
 aw:uu I sh W
 new:∀x,BS I x→w.heap.size≤x
 low:Below w.heap.size w W
theorem IG.on (h:IG w I sh W) (hb:Below W.heap.size W W'):IG w I sh W' :=⟨h.aw.on hb,h.new,h.low.trans (hb.mono h.low.size)⟩
theorem IG.step {sh' :Bool×Nat} (h:IG w I sh W) (h2:uu I sh' W') (hc:aG (BS I) W W'):IG w I sh' W' :=⟨h2,h.new,h.low.trans (hc.below h.low.size fun x hx e=>absurd (h.new x e) (Nat.not_le.2 hx))⟩
theorem Mu (hk:k<10) (h:uu I (false,k+1) W):
  Calls prog 75 #[.pointer (some ⟨I.b,0,none⟩),.int .u64 ((k:Int)*1152921504606846976),.slice (some ⟨W.heap.size,0,none⟩) 1 1] (W.alloc (.cells #[.int .u32 5] 23)) fun e w' =>e= .returned (.bool true)∧Below (W.alloc (.cells #[.int .u32 5] 23)).heap.size (W.alloc (.cells #[.int .u32 5] 23)) w' :=by
 refine vk (h.on (aF _ _)) _ (zx false hk).1 [5] [5] (anp k hk) (by decide) _ ?_ (List.Perm.refl _) (by simp);exact(ar W [.int .u32 5] 23).rw.sl (n:=1) (sz:=1) rfl (Qg _) (by decide)
theorem acw (hk:k<9) (h:jA w base v ms) (hs:iS (ms.map (·.c))=Im (false,k+1)):
  ∃b o c b2 o2 c2 Ae ce,v= .slice (some ⟨b,o,none⟩) 1 c∧w.cell? ⟨b,o,none⟩=some (.int .i64 0)∧w.cell? ⟨b,o+1,none⟩=some (.int .i64 0)∧w.cell? ⟨b,o+3,none⟩=some (.slice (some ⟨b2,o2,none⟩) 1 c2)∧w.cell? ⟨b2,o2+2,none⟩=some (.slice Ae (k+1) ce):=by
 have e:Im (false,k+1)=[(0,0,[(List.range (k+1)).map (MN false)])]:=by unfold Im shX;rw[Xo (by show k+1≤9;omega)]
 rw[e] at hs;obtain⟨b,o,c,b2,o2,c2,Ae,ce,g1,g2,g3,g4,g5⟩:=lU h hs (j:=0) rfl;rw[Xz,XC] at g2 g3 g4;rw[Qq,List.length_range] at g5;exact⟨b,o,c,b2,o2,c2,Ae,ce,g1,g2,g3,g4,g5⟩
theorem VR (h:jA w base v ms) (hs:iS (ms.map (·.c))=Im (false,10)):
  ∃b o c b2 o2 c2 Ae ce,v= .slice (some ⟨b,o,none⟩) 2 c∧w.cell? ⟨b,o,none⟩=some (.int .i64 0)∧w.cell? ⟨b,o+3,none⟩=some (.slice (some ⟨b2,o2,none⟩) 1 c2)∧w.cell? ⟨b2,o2+2,none⟩=some (.slice Ae 8 ce)∧w.cell? ⟨b,o+4,none⟩=some (.int .i64 128)∧w.cell? ⟨b,o+5,none⟩=some (.int .i64 1):=by
 have e:Im (false,10)=[(0,1,[(List.range 8).map MO]),(128,1,[[MO 8,MO 9]])]:=rfl;rw[e] at hs;obtain⟨b,o,c,b2,o2,c2,Ae,ce,g1,g2,-,g4,g5⟩:=lU h hs (j:=0) rfl;obtain⟨b',o',c',-,-,-,-,-,k1,k2,k3,-,-⟩:=lU h hs (j:=1) rfl;rw[g1] at k1;injection k1 with k1 _ _
 injection k1 with k1
 injection k1 with k1 k1'
 subst k1 k1';rw[Xz,XC] at g2 g4;exact⟨b,o,c,b2,o2,c2,Ae,ce,g1,g2,g4,g5,k2,k3⟩
theorem acv (h:jA w base v ms) (hs:iS (ms.map (·.c))=Im (true,10)):
  ∃b o c b2 o2 c2 Ae ce,v= .slice (some ⟨b,o,none⟩) 1 c∧w.cell? ⟨b,o+1,none⟩=some (.int .i64 0)∧w.cell? ⟨b,o+3,none⟩=some (.slice (some ⟨b2,o2,none⟩) 2 c2)∧w.cell? ⟨b2,o2+2,none⟩=some (.slice Ae 1 ce):=by
 have e:Im (true,10)=[(0,0,[[TR 9],(List.range 9).map TR])]:=rfl;rw[e] at hs;obtain⟨b,o,c,b2,o2,c2,Ae,ce,g1,-,g3,g4,g5⟩:=lU h hs (j:=0) rfl;rw[Xz,XC] at g3 g4;exact⟨b,o,c,b2,o2,c2,Ae,ce,g1,g3,g4,g5⟩
theorem Ih (h:uu I (true,10) W):
  Calls prog 75 #[.pointer (some ⟨I.b,0,none⟩),.int .u64 7,.slice (some ⟨W.heap.size,0,none⟩) 10 10] (W.alloc (.cells #[.int .u32 1,.int .u32 2,.int .u32 3,.int .u32 4,.int .u32 5,.int .u32 6,.int .u32 7,.int .u32 8,.int .u32 9,.int .u32 10] 23)) fun e w' =>e= .returned (.bool true)∧Below (W.alloc (.cells #[.int .u32 1,.int .u32 2,.int .u32 3,.int .u32 4,.int .u32 5,.int .u32 6,.int .u32 7,.int .u32 8,.int .u32 9,.int .u32 10] 23)).heap.size (W.alloc (.cells #[.int .u32 1,.int .u32 2,.int .u32 3,.int .u32 4,.int .u32 5,.int .u32 6,.int .u32 7,.int .u32 8,.int .u32 9,.int .u32 10] 23)) w' :=by
 refine vk (h.on (aF _ _)) _ (by unfold bI;decide) [10,1,2,3,4,5,6,7,8,9] [1,2,3,4,5,6,7,8,9,10] ano (by decide) _ ?_ (by decide) (by decide);exact(ar W [.int .u32 1,.int .u32 2,.int .u32 3,.int .u32 4,.int .u32 5,.int .u32 6,.int .u32 7,.int .u32 8,.int .u32 9,.int .u32 10] 23).rw.sl (n:=10) (sz:=1) rfl (Qg _) (by decide)
theorem Mt (h:uu I (true,10) W):
  Calls prog 75 #[.pointer (some ⟨I.b,0,none⟩),.int .u64 8,.slice none 0 0] W fun e w' =>e= .returned (.bool true)∧Below W.heap.size W w' :=
 vk h _ (by unfold bI;decide) [] [] ann (by decide) _ (O0 _ _ _) (List.Perm.refl _) List.Pairwise.nil
theorem amW (h:k<10):IntKind.u32.wrap ((k:Int)+1)=(k:Int)+1:=by simp only[IntKind.wrap,IntKind.bits,IntKind.signed];simp;omega
theorem IG.re {wr:Wo} (h:IG wr I sh W) (hb:Below w.heap.size w wr):IG w I sh W:=⟨h.aw,fun x hx=>Qh hb.size (h.new x hx),hb.trans (h.low.mono hb.size)⟩
theorem ab2 (h:k<10):10 - (intOf (.int .u32 ((k:Int)+1))).toNat<10 - (intOf (.int .u32 (k:Int))).toNat:=by
 simp only[intOf];omega
theorem Cc {b:Bool} {P:Prop} (h:some undef=some (Value.bool b)):P:=by
 unfold undef at h;cases h
theorem Pl (h:k<10):10 - (intOf (.int .u64 ((k:Int)+1))).toNat<10 - (intOf (.int .u64 (k:Int))).toNat:=by
 simp only[intOf];omega
theorem anu (h:k<9):Int.tdiv (k:Int) 9=0:=Int.tdiv_eq_zero_of_lt (by omega) (by omega)
theorem Ms (w:Wo):Calls prog 19 #[] w fun e w' =>e= .returned (.bool true)∧Below w.heap.size w w' :=by
 have HB:=aa (yT w 200 (by decide) (by decide) Yo);go_enter func19,ntmps19;go_upto_region 2 with(go_at_call 20;go_must(refine HB.o.mono ?_);rintro e W1 ⟨I,rfl,h1,n1,l1⟩;have H1:=aa (IG.mk (w:=w) (Dc h1).1 n1 l1);clear h1 n1 l1)
 clear HB;have HM:=aa (VQ H1.o.aw);go_upto_region 4 with(first
  |(go_at_call 18;go_must(refine HM.o.mono ?_);rintro e W2 ⟨rfl,b2⟩;have H2:=aa (H1.o.on b2);have HA:=aa (Pv H2.o.aw 1 0 (by unfold bI;decide) (by unfold bX;decide) (.inl rfl));clear b2)
  |((go_at_call 16;with_reducible refine HA.o.mono ?_);go_must(skip);rintro e W3 ⟨rfl,h3,c3⟩;have H3:=aa (H2.o.step h3 c3);have HA' :=aa (Pv H3.o.aw 1 200 (by unfold bI;decide) (by unfold bX;decide) (.inr (by decide)));clear h3 c3)
  |((go_at_call 16;with_reducible refine HA'.o.mono ?_);go_must(skip);rintro e W4 ⟨rfl,h4,c4⟩;have H4:=aa (H3.o.step h4 c4);have HN:=aa (Lk W4);clear h4 c4)
  |(go_at_call 25;go_must(refine HN.o.mono ?_);rintro e W5 ⟨rfl,rfl⟩))
 clear HM HA HA' HN;have H0:=aa H4.o;clear H1 H2 H3 H4;go_wp2_with fail;go_loopw [35] (fun iv wr=>∃k:Nat,iv= .int .u64 k∧Af (k≤10∧IG w I (false,k) wr)) (fun iv _=>10 - (intOf iv).toNat)
 case atStart=>exact⟨0,rfl,by decide,H0.o⟩
 case round=>
  obtain⟨k,rfl,HR⟩:=hrel;by_cases hk:k<10
  ·have Tp:(k:Int)<10:=by omega
   have Hk:=aa hk;have HA:=aa (VT hk HR.o.2.aw);clear hk;go_upto_region 7 with fail
   go_upto_region 9 with(first
    |((go_at_call 16;with_reducible refine HA.o.mono ?_);go_must(skip);rintro e W5 ⟨rfl,h5,c5⟩;have S5:=aa (HR.o.2.step h5 c5);have IF:=aa (Sr Hk.o S5.o.aw);clear h5 c5)
    |((go_at_call 16;with_reducible refine IF.o.mono ?_);go_must(skip);rintro e W6 ⟨rfl,h6,c6⟩;have S6:=aa (S5.o.step h6 c6);have HF:=aa (Mu Hk.o S6.o.aw);clear h6 c6)
    |((go_at_call 75;with_reducible refine HF.o.mono ?_);go_must(skip);rintro e W7 ⟨rfl,b7⟩;have S7:=aa ((S6.o.on (aF W6 (.cells #[.int .u32 5] 23))).on b7);clear b7))
   have JX:=aa (Pw S7.o.aw);clear HA IF HF;by_cases ZS:k<9
   ·have tE:=anu ZS;have k9:(k:Int)<9:=by omega
    have k9b:((k:Int)==9)=false:=Xc (by omega);have kw:wrap64 ((k:Int)+1)=(k:Int)+1:=by unfold wrap64;omega
    have kwk:wrap64 (k:Int)=(k:Int):=by unfold wrap64;omega
    have avI:IntKind.u64.wrap ((k:Int)+1)=(k:Int)+1:=by simp only[IntKind.wrap,IntKind.bits,IntKind.signed];simp;omega
    have Hk9:=aa ZS;clear ZS;go_upto_region 10 with(go_at_call 13;go_must(refine JX.o.mono ?_);rintro e W8 ⟨v,ms,rfl,o8,s8,b8⟩;obtain⟨b,o,c,b2,o2,c2,Ae,ce,rfl,g1,g2,g3,g4⟩:=acw Hk9.o o8 s8;have S8:=aa (S7.o.on b8);clear o8 s8 b8)
    dsimp only[List.append];go_wp2_with fail
    all_goals try(exact Cc (by assumption))
    all_goals exact⟨⟨k+1,by first|rfl|trivial,Hk.o,S8.o⟩,by first|exact Pl Hk.o|(simp[intOf];omega)⟩
   ·have agy :k=9:=by have:=Hk.o;omega
    obtain⟨SH,hSH⟩:=eX (false,k+1);rw[←hSH] at JX S7;have HSH:=dK hSH agy;have e9:(k:Int)=9:=by omega
    clear ZS agy hSH HR S5 S6;simp only[e9];go_upto_region 10 with(go_at_call 13;go_must(refine JX.o.mono ?_);rintro e W8 ⟨v,ms,rfl,o8,s8,b8⟩;obtain⟨b,o,c,b2,o2,c2,Ae,ce,rfl,g1,g2,g3,g4,g5⟩:=VR o8 (s8.trans (XF Im (HSH.o.1.trans (by rw[HSH.o.2]))));have S8:=aa (S7.o.on b8);clear o8 s8 b8)
    dsimp only[List.append];go_wp2_with fail
    all_goals try(exact Cc (by assumption))
    all_goals exact⟨⟨k+1,by rw[HSH.o.2];first|rfl|trivial,Hk.o,by rw[←HSH.o.1];exact S8.o⟩,by first|(simp only[e9];decide)|exact Pl Hk.o|(simp[intOf];omega)⟩
  ·have cH:=QE HR.o.1 (QC hk);subst cH;have HL:=aa HR.o.2.low;have px:=aa (yT wr 200 (by decide) (by decide) Yo);clear HR hk;go_upto_region 16 with(go_at_call 20;go_must(refine px.o.mono ?_);rintro e W9 ⟨I2,rfl,h9,n9,l9⟩;have H9:=aa (IG.re (IG.mk (w:=wr) (Dc h9).2 n9 l9) HL.o);clear h9 n9 l9)
   clear px HL;go_wp2_with fail;go_loopw [142] (fun iv wz=>∃k:Nat,iv= .int .u32 k∧Af (k≤10∧IG w I2 (true,k) wz)) (fun iv _=>10 - (intOf iv).toNat)
   case atStart=>exact⟨0,rfl,by decide,H9.o⟩
   case round=>
    obtain⟨k,rfl,HR⟩:=hrel;by_cases hk:k<10
    ·have Tp:(k:Int)<10:=by omega
     have kw:=amW hk;have HA:=aa (VS hk HR.o.2.aw);have Hk:=aa hk;clear hk;go_wp2_with((go_at_call 16;with_reducible refine HA.o.mono ?_);go_must(skip);rintro e W5 ⟨rfl,h5,c5⟩;have S5:=aa (HR.o.2.step h5 c5);clear h5 c5)
     all_goals exact⟨⟨k+1,by first|rfl|trivial,Hk.o,S5.o⟩,ab2 Hk.o⟩
    ·have cH:=QE HR.o.1 (QC hk);subst cH;have JX:=aa (Pw HR.o.2.aw);have R:=aa HR.o.2;clear HR hk;go_upto_region 23 with(go_at_call 13;go_must(refine JX.o.mono ?_);rintro e W8 ⟨v,ms,rfl,o8,s8,b8⟩;obtain⟨b,o,c,b2,o2,c2,Ae,ce,rfl,g1,g2,g3⟩:=acv o8 s8;have S8:=aa (R.o.on b8);have HF:=aa (Ih S8.o.aw);clear o8 s8 b8)
     try dsimp only[List.append]
     go_wp2_with(first
      |((go_at_call 75;with_reducible refine HF.o.mono ?_);go_must(skip);rintro e W9 ⟨rfl,b9⟩;have S9:=aa ((S8.o.on (aF W8 (.cells #[.int .u32 1,.int .u32 2,.int .u32 3,.int .u32 4,.int .u32 5,.int .u32 6,.int .u32 7,.int .u32 8,.int .u32 9,.int .u32 10] 23))).on b9);have HF8:=aa (Mt S9.o.aw);clear b9)
      |((go_at_call 75;with_reducible refine HF8.o.mono ?_);go_must(skip);rintro e uh ⟨rfl,wC⟩;have MS:=aa (S9.o.on wC);clear wC))
     go_ret;exact⟨rfl,MS.o.low⟩
end
end Go.Proofs.YthgdhacopamklaaGreat

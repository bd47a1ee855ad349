/- What HashNone asks, part 3 of 41: parts of the walks and laws, each true as it stands. -/
import Derived.Test.YthgdhacopamklaaGreatTAB
set_option maxHeartbeats 16000000
set_option maxRecDepth 100000
set_option linter.unusedVariables false
set_option linter.unusedSimpArgs false
namespace Go.Proofs.YthgdhacopamklaaGreat
open Go.Proofs.Tryz
section
open Go.RowKit
variable {k : Int} {body : List Int}
theorem yj (w:Wo) (b o c:Nat) (hc:128≤c):
  Calls prog 171 #[.slice (some ⟨b,o,none⟩) 128 c] w fun e w' =>e= .returned (.tuple #[.slice (some ⟨b,o,none⟩) 124 124,.slice (some ⟨b,o+124,none⟩) 4 4])∧Below w.heap.size w w' :=by
 have h1:(128:Int)≤c:=by omega
 have h2:(124:Int)≤c:=by omega
 go_enter func171,ntmps171;go_wp2_with fail;go_quiet (fail);go_wp2_with fail;go_ret2;exact⟨rfl,below_drewN (Xj _ _) _⟩
theorem vz (hk:aI k) (hb:∀x∈body,aI x):∀x∈nf k body,aI x:=by
 intro x hx;unfold nf at hx;rcases QA.1 hx with rfl|hx
 ·exact hk
 ·rcases Qz.1 hx with h|h
  ·exact hb x h
  ·rw[QJ h];exact⟨by decide,by decide⟩
theorem lP (hk:aI k) (hb:∀x∈body,aI x):∀x∈oX k body,aI x:=by
 intro x hx;unfold oX at hx;rcases Qz.1 hx with h|h
 ·exact vz hk hb x h
 ·exact eW _ _ x h
theorem Dk (k:Int) (body:List Int) (h:body.length≤123):splice ((List.replicate 128 (Value.int .u8 0)).set 0 (.int .u8 k)) 1 (body.map (.int .u8))=(nf k body++List.replicate 4 0).map (.int .u8):=by
 have e:(List.replicate 128 (Value.int .u8 0)).set 0 (.int .u8 k)= .int .u8 k::List.replicate 127 (.int .u8 0):=rfl;rw[e];unfold splice nf;simp only[Zw,Zq,Qq,Zs,QL,List.map_replicate,List.cons_append,QZ];rw[show 1+body.length=body.length+1 by omega,Zk,List.drop_replicate,QY,List.replicate_append_replicate];rw[show 127 - body.length=123 - body.length+4 by omega]
theorem PQ (k:Int) (body:List Int) (h:body.length≤123):lB (nf k body++List.replicate 4 0) 124 4 (j3 (nf k body))=oX k body:=by
 have hl:=rJ k body h;unfold lB oX;rw[←hl,List.take_left,Zu (by simp),Zi]
theorem tP:(prog.info? 5).map (·.size)=some 1:=by kernel_rfl
theorem uY (w:Wo) (k:Int) (v:Va) (body:List Int) (hk:aI k) (h:Bs w w.heap.size v body) (hl:body.length≤123):
  Calls prog 107 #[.int .u8 k,v] w fun e w' =>e= .returned (.tuple #[.slice (some ⟨w.heap.size,0,none⟩) 128 128,.int .i64 0])∧dn w' w.heap.size (oX k body)∧Below w.heap.size w w' :=by
 obtain⟨A,c,rfl,AB,xA⟩:=h.1.form;obtain⟨m,hm⟩:=eX body.length;have H:=aa h;rw[←hm] at H⊢;have Hm:=dK hm (by omega:m≤123);have Hk:=aa hk;obtain⟨g,hg⟩:=eX w.heap.size;obtain⟨W1,aW⟩:=eX (w.alloc (.cells (List.replicate 128 (Value.int .u8 0)).toArray 5));have yX:(Instr.makeSlice 87 (.int .i64 128) (.int .i64 128)).run prog w= .ok (.slice (some ⟨g,0,none⟩) 128 128) W1:=by have:=eV underlying87 rD (eC .u8 0) (by decide) 128 (by decide) w;rw[aW,hg];exact this
 have yZ:aq W1 g 5 (List.replicate 128 (.int .u8 0)):=by rw[aW,hg];exact ar _ _ _
 have z0:=yZ.cell (j:=0) (u:= .int .u8 0) rfl;have zf:=yZ.free 0;have B1:Af (Below g w W1):=by rw[aW,hg];exact aF _ _
 have G:=aa hg;have hB2:=aa (yZ.set 0 (.int .u8 k));have B2:Af (Below g w (W1.setCell ⟨g,0,none⟩ (.int .u8 k))):=B1.o.setCell (Qg _) _;have oc:¬(123:Int)<m:=by have:=Hm.o;omega
 rw[←hg];clear h hl hm hk hg aW yZ AB xA;go_enter func107,ntmps107;go_upto_region 5 with fail
 clear yX z0 zf;generalize W1.setCell ⟨g,0,none⟩ (.int .u8 k)=W2 at*;obtain⟨cs,iH⟩:=eX (body.map (Value.int .u8));have WS:=aa iH;have oJ:cs.length=m:=by rw[iH,Qq];exact Hm.o.1.symm
 have tk:=aa oJ;have uE:Af (0<cs.length→∃ad,A=some ad∧∀j u,cs[j]? =some u→W2.cell? (ad.add j)=some u):=fun hp=>by
  obtain⟨b,o,c',hv,-,-,hr⟩:=H.o.1.row (by have:=Hm.o;omega);cases hv
  refine⟨_,rfl,fun j u hj=> ?_⟩;rw[dP,B2.o.cell (by rw[G.o];exact hr.1)];exact hr.2 j u (by rw[←iH];exact hj)
 clear iH oJ;go_upto_region 6 with(refine wpList_copy_splice rfl (.tmp 17) (.tmp 18) 87 87 rfl 5 underlying87 tP _ _ _ _ _ _ rfl rfl g 1 ((List.replicate 128 (Value.int .u8 0)).set 0 (.int .u8 k)) 5 hB2.o cs ?_ ?_ ?_ ?_ g w B2.o (Qg _) ?_;go_must((·have:=Hm.o;have:=tk.o;simp only[Nat.min_def];split<;>omega);(·intro hp;obtain⟨ad,h1,h2⟩:=uE.o hp;exact⟨rfl,ad,h1,h2⟩);(·have:=Hm.o;have:=tk.o;simp;omega);(·intro u hu;rw[WS.o] at hu;exact dW .u8 body u hu);(intro W3 qa jW;have B3:=aa jW;clear jW)))
 obtain⟨sd,Eb⟩:=eX (nf k body);have O3:Af (dn W3 g (sd++List.replicate 4 0)):=by have h1:=qa.out;rw[WS.o,Dk k body (by have:=Hm.o;omega),←Eb] at h1;exact aq.JZ h1
 have kr:sd.length=124:=by rw[Eb];exact rJ k body (by have:=Hm.o;omega)
 have jq:∀x∈sd,aI x:=by rw[Eb];exact vz Hk.o H.o.2
 have Ug:=iJ Eb kr jq;have HP:=yj W3 g 0 128 (by decide);simp only[QR] at HP;have tp:=aa HP;clear qa Eb kr jq HP uE hB2 B2;go_upto_region 7 with(go_at_call 171;go_must(refine tp.o.mono ?_);rintro e W4 ⟨rfl,h4⟩;have O4:=aa (O3.o.on h4);have B4:=aa (B3.o.trans (h4.mono (by rw[G.o];exact B3.o.size)));clear h4)
 have uz:=lN sd;have lz:=uz.1;have Ip:j3 sd<18446744073709551616:=by omega
 have HS:=aa (I6 W4 W4.heap.size (.slice (some ⟨g,0,none⟩) 124 124) sd (by
  have h1:=O4.o.bs (o:=0) (n:=124) (c:=124) (by simp;have:=Ug.o.2.1;omega) (by decide) (by decide) (by
   intro x hx;rcases Qz.1 hx with h|h
   ·exact Ug.o.2.2 x h
   ·rw[QJ h];exact⟨by decide,by decide⟩)
  rw[Zl,←Ug.o.2.1,List.take_left] at h1;rw[Ug.o.2.1] at h1;exact h1) (by have:=Ug.o.2.1;omega) (by have:=Ug.o.2.1;omega))
 have Uj:=aa (jM W4 g 124 4 4 0 4 (sd++List.replicate 4 0) (j3 sd) O4.o (by simp;have:=Ug.o.2.1;omega) (by decide) (by decide) (by simp;have:=Ug.o.2.1;omega) ⟨lz,by omega⟩);have hw:IntKind.u64.wrap (j3 sd)=j3 sd:=by simp[IntKind.wrap,IntKind.signed,IntKind.bits];omega
 obtain⟨n,hn⟩:=eX (j3 sd);have Hn:=aa hn;rw[←hn] at HS Uj hw lz Ip;clear uz hn;go_wp2_with(first
  |(go_at_call 173;go_must(refine HS.o.mono ?_);rintro e W5 ⟨rfl,rfl⟩)
  |(go_at_call 106;go_must(refine Uj.o.mono ?_);rintro e W6 ⟨rfl,o6,g6,s6⟩;have O6:=aa o6;have G6:=aa g6;clear o6 g6 s6))
 go_ret2;refine⟨rfl,?_,?_⟩
 ·have h1:=O6.o;rw[XC,Hn.o,Ug.o.1,PQ k body (by have:=Hm.o;omega)] at h1;exact h1
 ·exact B4.o.grown G6.o (by rw[G.o];exact B4.o.size) (by intro k' ZT;cases ZT;exact Qg _)
theorem kR.low {w:Wo} {b b' :Nat} {v:Va} {xs:List Int} (h:kR w b v xs) (hb:b'≤b):kR w b' v xs:=by
 refine⟨h.1,?_⟩;rcases h.2 with h1|⟨g,cap,cur,h1,h2,h3⟩
 ·exact .inl h1
 ·exact .inr ⟨g,cap,cur,h1,Qh hb h2,h3⟩
def ahQ (w:Wo) (p:List Int) (e:Ending) (w' :Wo):Prop:=
 Below w.heap.size w w'∧((dy p=none∧e= .returned (.tuple #[.int .u8 0,.slice none 0 0,.int .i64 10]))∨∃k body v,dy p=some (k,body)∧e= .returned (.tuple #[.int .u8 k,v,.int .i64 0])∧kR w' w.heap.size v body)
theorem Dt {p:List Int} (hl:p.length=128) (h:j4 (p.drop 124)=j3 (p.take 124)):dy p=some (p.headD 0,(p.take 124).drop 1):=by unfold dy;rw[Xo ⟨hl,h⟩]
theorem qM (w:Wo) (v:Va) (p:List Int) (h:Bs w w.heap.size v p):
  Calls prog 90 #[v] w (ahQ w p):=by
 obtain⟨A,c,rfl,AB,xA⟩:=h.1.form;obtain⟨m,hm⟩:=eX p.length;have H:=aa h;rw[←hm] at H⊢;by_cases ag2:m=128
 ·subst ag2;obtain⟨b,o,c',hv,-,-,hr⟩:=H.o.1.row (by omega);injection hv with e1 e2 e3
  subst e1;subst e3;clear e2;have dh:=hm.symm;have HP:=aa (yj w b o c (by omega));have h1:Bs w w.heap.size (.slice (some ⟨b,o,none⟩) 124 124) (p.take 124):=by
   refine⟨?_,fun x hx=>H.o.2 x (Za hx)⟩;have hl:(p.take 124).length=124:=by simp;omega
   rw[hl];exact kT (by simp;omega) (by omega) (by decide) ⟨hr.1,fun j u hu=>by
    rw[List.map_take,Ze] at hu;split at hu
    ·exact hr.2 j u hu
    ·cases hu⟩
  have h2:Bs w w.heap.size (.slice (some ⟨b,o+124,none⟩) 4 4) (p.drop 124):=by
   refine⟨?_,fun x hx=>H.o.2 x (Q6 hx)⟩;have hl:(p.drop 124).length=4:=by simp;omega
   rw[hl];exact kT (by simp;omega) (by omega) (by decide) ⟨hr.1,fun j u hu=>by rw[List.map_drop,Zb] at hu;rw[XB];exact hr.2 (124+j) u hu⟩
  have pV:w.cell? ⟨b,o,none⟩=some (.int .u8 (p.headD 0)):=by
   have:=hr.2 0 (.int .u8 (p.headD 0)) (by
    cases p with
    |nil=>simp at dh
    |cons x r=>simp)
   simpa using this
  have Hb1:=aa h1;have Hb2:=aa h2;have Uh:=dK hr.1 pV;have anJ:=aa hr;have za:=aa dh;have jb:(128:Int)≤c:=by omega
  clear h hm hr h1 h2 pV dh AB xA;go_enter func90,ntmps90;go_upto_region 4 with(go_at_call 171;go_must(refine HP.o.mono ?_);rintro e W2 ⟨rfl,h2⟩;have B2:=aa h2;clear h2)
  have b1:Bs W2 W2.heap.size (.slice (some ⟨b,o,none⟩) 124 124) (p.take 124):=⟨(Hb1.o.1.below B2.o).more B2.o.size,Hb1.o.2⟩;have b2:Bs W2 W2.heap.size (.slice (some ⟨b,o+124,none⟩) 4 4) (p.drop 124):=⟨(Hb2.o.1.below B2.o).more B2.o.size,Hb2.o.2⟩;have HG:=aa (lf W2 W2.heap.size (.slice (some ⟨b,o+124,none⟩) 4 4) (p.drop 124) b2 0 4 (by decide) (by have:=za.o;simp;omega) (by have:=za.o;simp;omega));have HS:=aa (I6 W2 W2.heap.size (.slice (some ⟨b,o,none⟩) 124 124) (p.take 124) b1 (by have:=za.o;simp;omega) (by have:=za.o;simp;omega));have AU:cK (p.drop 124) 0 4=j4 (p.drop 124):=by unfold cK;rw[Zl,Qj (by have:=za.o;simp;omega)]
  rw[AU] at HG;obtain⟨s0,s1⟩:=lN (p.take 124);obtain⟨x,hx⟩:=eX (j3 (p.take 124));obtain⟨y,hy⟩:=eX (j4 (p.drop 124));have HX:=aa hx;have HY:=aa hy;rw[←hx] at HS s0 s1;rw[←hy] at HG;have hxw:IntKind.u64.wrap x=x:=by simp[IntKind.wrap,IntKind.signed,IntKind.bits];omega
  clear b1 b2 AU hx hy s0 s1 HP;by_cases M9:y=x
  ·have Hop:=aa (Dt za.o (by rw[←HX.o,←HY.o,M9]));subst M9;obtain⟨hd,hhd⟩:=eX (p.headD 0);rw[←hhd] at Uh Hop;have aH:=(B2.o.cell Uh.o.1).trans Uh.o.2;have oJ:∀W:Wo,W.heap=W2.heap→W.cell? ⟨b,o,none⟩=some (.int .u8 hd):=fun W hW=>by rw[World.cell?_of_block (w:=W2) (by rw[hW])];exact aH
   have je:Af (∀W,Below W2.heap.size W2 W→Calls prog 174 #[.slice (some ⟨b,o+1,none⟩) 123 123] W fun e w' =>∃v',e= .returned v'∧kR w' W.heap.size v' ((p.take 124).drop 1)∧Below W.heap.size W w'):=fun W hW=>by
    have hl:((p.take 124).drop 1).length=123:=by have:=za.o;simp;omega
    have h:=Tryz.bytes_Clone_at ⟨b,o+1,none⟩ 123 123 ((p.take 124).drop 1) W hl (by decide) (fun i hi=>by rw[dP,hW.cell (Qn Uh.o.1 B2.o.size),B2.o.cell Uh.o.1,XB];refine anJ.o.2 (1+i) _ ?_;rw[Qt,Qe,Zb,Ze,Xo (by omega),Qf (by have:=za.o;omega)];rfl)
    refine h.mono ?_;rintro e w' ⟨v',rfl,h1,-,h3⟩;exact⟨v',rfl,by unfold kR;rw[hl];exact h1,h3⟩
   clear hhd;go_upto_region 7 with(first
    |(go_at_call 172;go_must(refine HG.o.mono ?_);rintro e W3 ⟨rfl,rfl⟩)
    |(go_at_call 173;go_must(refine HS.o.mono ?_);rintro e W4 ⟨rfl,rfl⟩))
   go_region_held3 (fun W=>W.cell? ⟨b,o,none⟩=some (.int .u8 hd)) (first|with_reducible exact aH|with_reducible exact q3|go_keep)
    (first
     |((go_at_call 174);(with_reducible refine(je.o _ (Xj _ _)).mono ?_);rintro e W3 ⟨v3,rfl,o3,b3⟩;have q3:=(b3.cell (p:=⟨b,o,none⟩) (Qn Uh.o.1 B2.o.size)).trans aH;have O3:=aa o3;have B3:=aa b3;clear o3 b3)
     |((go_at_call 174);(with_reducible refine(je.o _ (Xj _ _).drew).mono ?_);rintro e W3 ⟨v3,rfl,o3,b3⟩;have q3:=(b3.cell (p:=⟨b,o,none⟩) (Qn Uh.o.1 B2.o.size)).trans aH;have O3:=aa o3;have B3:=aa (xp b3);clear o3 b3))
   all_goals
    go_wp2_with fail;go_ret3;exact⟨B2.o.trans (B3.o.mono B2.o.size),.inr ⟨_,_,_,Hop.o,rfl,kR.low O3.o B2.o.size⟩⟩
  ·have Hop:Af (dy p=none):=by show _=_;unfold dy;rw[Xd (fun h=>M9 (by rw[HX.o,HY.o];exact h.2))]
   go_wp2_with(first
    |(go_at_call 172;go_must(refine HG.o.mono ?_);rintro e W3 ⟨rfl,rfl⟩)
    |(go_at_call 173;go_must(refine HS.o.mono ?_);rintro e W4 ⟨rfl,rfl⟩))
   go_ret3;exact⟨B2.o,.inl ⟨Hop.o,rfl⟩⟩
 ·have h1:¬((m:Int)=128):=by omega
  have ho:dy p=none:=by unfold dy;rw[Xd (by omega)]
  clear h AB xA H hm ag2;go_enter func90,ntmps90;go_wp2_with fail;go_ret3;exact⟨Xj _ _,.inl ⟨ho,rfl⟩⟩
end
section
open Go.RowKit
def J8 (pl n:Nat) (wv:Va):List Va:=[.slice (some ⟨pl,0,none⟩) n n,wv,.int .i64 (-1),.bool false]
structure cF (w:Wo) (d pl:Nat) (bl:List (List Int)):Prop where
 own:aq w d 110 (J8 pl bl.length (.slice none 0 0))
 eP:aq w pl 213 (bl.flatten.map (.int .u8))
 ne:d≠pl
 size:∀b∈bl,b.length=128
 byte:∀b∈bl,∀x∈b,aI x
 n0:16≤bl.length
 n1:bl.length≤4096
theorem zN (w:Wo) (d pl n:Nat) (wv:Va) (h:aq w d 110 (J8 pl n wv)):
  Calls prog 39 #[.pointer (some ⟨d,0,none⟩)] w fun e w' =>e= .returned (.int .i64 n)∧w=w' :=by
 have x0:=h.cell (j:=0) rfl;clear h;go_enter func39,ntmps39;go_wp2_with fail;go_ret;exact⟨rfl,rfl⟩
theorem zL (w:Wo) (d pl n:Nat) (wv:Va) (h:aq w d 110 (J8 pl n wv)):
  Calls prog 110 #[.pointer (some ⟨d,0,none⟩)] w fun e w' =>e= .returned (.int .i64 0)∧w=w' :=by
 obtain⟨x0,-,-,x3⟩:=mm h;have q:=fun (w:Wo) (a:Option Addr) (n c:Nat)=>Lib.run_eql_slice_nil (P:=prog) w 103 213 a n c 0 0 underlying103
 clear h;go_enter func110,ntmps110;go_wp2_with fail;go_ret;exact⟨rfl,rfl⟩
theorem yg (w:Wo) (d pl n:Nat) (wv:Va) (h:aq w d 110 (J8 pl n wv)):
  Calls prog 111 #[.pointer (some ⟨d,0,none⟩)] w fun e w' =>e= .returned (.int .i64 0)∧w=w' :=by
 have x0:=h.cell (j:=2) rfl;clear h;go_enter func111,ntmps111;go_wp2_with fail;go_ret;exact⟨rfl,rfl⟩
theorem Rx (k:Nat) (hk:0<k) (v:Va) (m:Nat):madeCells (List.replicate k v).toArray m=(List.replicate m v).toArray:=by
 apply Array.ext';apply List.ext_getElem
 ·simp[madeCells]
 ·intro i h1 h2;have h3:i%k<k:=Nat.mod_lt _ hk;simp[madeCells,h3]
theorem Vw (n:Nat):madeCells (Value.agg (List.replicate 128 (Value.int .u8 0)).toArray).cells (n*128)=(List.replicate (n*128) (Value.int .u8 0)).toArray:=Rx 128 (by decide) _ _
def iy:List Int:=List.replicate 128 0
theorem Fq (n:Nat):(List.replicate n iy).flatten.map (Value.int .u8)=List.replicate (n*128) (Value.int .u8 0):=by
 induction n with
 |zero=>rfl
 |succ n ih=>
  rw[List.replicate_succ,List.flatten_cons,QL,ih,Nat.add_mul,Nat.one_mul,Nat.add_comm (n*128) 128,←List.replicate_append_replicate];unfold iy;rw[List.map_replicate]
theorem ahM:(prog.info? 213).map (fun i=>(i.zero,i.size,i.bytes))=some (some (.agg (List.replicate 128 (Value.int .u8 0)).toArray),128,128):=by kernel_rfl
theorem Dy (n:Nat) (hn:n≤4096) (w:Wo):(Instr.makeSlice 103 (.int .i64 n) (.int .i64 n)).run prog w= .ok (.slice (some ⟨w.heap.size,0,none⟩) n n) (w.alloc (.cells (List.replicate (n*128) (Value.int .u8 0)).toArray 213)):=by
 obtain⟨i0,hi,oI,mM,xw⟩:=info_parts ahM;have h:=run_makeSlice (P:=prog) w 103 213 i0 _ underlying103 hi oI .i64 .i64 n n (by omega) (Int.le_refl _) (by rw[mM,Xt];omega) (by rw[xw];omega) (by omega);rw[mM,Xt,Vw] at h;exact h
theorem Cx (w:Wo) (n:Nat) (h0:16≤n) (h1:n≤4096):
  Calls prog 10 #[.int .i64 n] w fun e w' =>∃d pl,e= .returned (.tuple #[.pointer (some ⟨d,0,none⟩),.int .i64 0])∧cF w' d pl (List.replicate n iy)∧w.heap.size≤d∧w.heap.size≤pl∧Below w.heap.size w w' :=by
 obtain⟨W1,aW⟩:=eX (w.alloc (.cells (List.replicate (n*128) (Value.int .u8 0)).toArray 213));obtain⟨pl,dh⟩:=eX w.heap.size;have yX:(Instr.makeSlice 103 (.int .i64 n) (.int .i64 n)).run prog w= .ok (.slice (some ⟨pl,0,none⟩) n n) W1:=by rw[aW,dh];exact Dy n h1 w
 have P1:Af (aq W1 pl 213 (List.replicate (n*128) (.int .u8 0))):=by show aq _ _ _ _;rw[aW,dh];exact ar _ _ _
 have B1:Af (Below w.heap.size w W1):=by rw[aW];exact aF _ _
 have HP:=aa dh;have H:=dK h0 h1;have g0:¬(n:Int)<16:=by omega
 have g1:¬(4096:Int)<n:=by omega
 clear aW dh h0 h1;go_enter func10,ntmps10;go_wp2_with fail;go_ret2;have hb:=aF W1 (.cells #[.slice (some ⟨pl,0,none⟩) n n,.slice none 0 0,.int .i64 (-1),.bool false] 110);have hB:=B1.o.trans (hb.mono B1.o.size);refine⟨_,rfl,pl,⟨?_,?_,?_,?_,?_,?_,?_⟩,B1.o.size,by rw[HP.o];exact Qg _,hB⟩
 ·rw[QK];exact ar W1 [_,_,_,_] _
 ·rw[Fq];exact P1.o.on hb
 ·have:=P1.o.lt;omega
 ·intro b hb;rw[QJ hb];simp[iy]
 ·intro b hb x hx;rw[QJ hb] at hx;unfold iy at hx;rw[QJ hx];exact⟨by decide,by decide⟩
 ·rw[QK];exact H.o.1
 ·rw[QK];exact H.o.2
theorem nE (A:List Int) (m s:Nat) (n:Int) (p:Nat) (hp:p=A.length):lB (A++List.replicate m 0) p s n=(A++mH s n)++List.replicate (m - s) 0:=by
 subst hp;unfold lB;rw[List.take_left,←List.drop_drop,List.drop_left,List.drop_replicate]
theorem abo (n:Int) (h0:0≤n) (h1:n<256):mH 1 n=[n]:=by
 simp only[mH];rw[show(256:Int)^0=1 from rfl,Int.ediv_one,Int.emod_eq_of_lt h0 h1]
theorem YL (l:List Int):(l.flatMap (mH 2)).length=2*l.length:=by
 induction l with
 |nil=>rfl
 |cons x r ih=>rw[QH,Qo,ih,de,QF];omega
theorem GD (s:Nat) (l:List Int):∀x∈l.flatMap (mH s),aI x:=fun x hx=>by
 obtain⟨y,_,h⟩:=QT.1 hx;exact eW _ _ _ h
theorem sY (l:List Int) (h:l.length≤61):∀x∈qy l,aI x:=by
 intro x hx;unfold qy at hx;rcases QA.1 hx with rfl|hx
 ·exact⟨by omega,by omega⟩
 ·exact GD 2 l x hx
def kY (l:List Int) (k:Nat):List Int:=((l.length:Int)::(l.take k).flatMap (mH 2))++List.replicate (2*(l.length - k)) 0
theorem oG (l:List Int) (k:Nat) (h:k≤l.length):(kY l k).length=1+2*l.length:=by
 unfold kY;rw[Qo,QF,YL,Qu,QK,Zh h];omega
theorem Ic (l:List Int) (h:l.length≤61):lB (List.replicate (1+2*l.length) 0) 0 1 l.length=kY l 0:=by
 have:=nE [] (1+2*l.length) 1 l.length 0 rfl;rw[QZ] at this;rw[this,abo _ (by omega) (by omega)];unfold kY;simp
theorem Ie (l:List Int) (k:Nat) (h:k<l.length):lB (kY l k) (1+2*k) 2 l[k]=kY l (k+1):=by
 unfold kY;rw[nE _ _ 2 _ _ (by rw[QF,YL,Qu,Zh (by omega)];omega)];rw[XJ h,QP];rw[show 2*(l.length - k) - 2=2*(l.length - (k+1)) by omega];simp
theorem yQ (l:List Int):kY l l.length=qy l:=by
 unfold kY qy;simp
theorem rN (w:Wo) (k:Int) (hk:k=4∨k=5):Calls prog 158 #[.int .u8 k] w fun e w' =>e= .returned (.bool true)∧w=w' :=by
 rcases hk with rfl|rfl
 ·go_enter func158,ntmps158;go_wp2_with fail;go_ret;exact⟨rfl,rfl⟩
 ·go_enter func158,ntmps158;go_wp2_with fail;go_ret;exact⟨rfl,rfl⟩
theorem dY (w:Wo) (n:Int) (h0:0≤n) (h1:n≤100000):Calls prog 36 #[.int .i64 n] w fun e w' =>e= .returned (.int .i64 (aR n))∧w=w' :=by
 by_cases hn:n<1
 ·have e:aR n=0:=by unfold aR;rw[Xo hn]
  rw[e];go_enter func36,ntmps36;go_wp2_with fail;go_ret;exact⟨rfl,rfl⟩
 ·have e:aR n=(n - 1)/61+1:=by unfold aR;rw[Xd hn]
  have nZ:wrap64 (n - 1)=n - 1:=by unfold wrap64;omega
  have hq:(n - 1).tdiv 61=(n - 1)/61:=Int.tdiv_eq_ediv_of_nonneg (by omega);have fp:wrap64 ((n - 1)/61)=(n - 1)/61:=by unfold wrap64;omega
  have DZ:wrap64 ((n - 1)/61+1)=(n - 1)/61+1:=by unfold wrap64;omega
  rw[e];clear h0 h1 e;go_enter func36,ntmps36;go_wp2_with fail;go_ret;exact⟨rfl,rfl⟩
def Made (w:Wo) (eL:List Int) (e:Ending) (w' :Wo):Prop:=
 ∃g,w.heap.size≤g∧e= .returned (.tuple #[.slice (some ⟨g,0,none⟩) 128 128,.int .i64 0])∧dn w' g eL∧Below w.heap.size w w'
theorem lX (w:Wo) (k:Int) (hk:k=4∨k=5) (v:Va) (l:List Int) (h:Ns w w.heap.size .u16 v l) (hl:l.length≤61) (hb:∀x∈l,0≤x∧x<65536):
  Calls prog 73 #[.int .u8 k,v] w (Made w (encI k l)):=by
 obtain⟨A,c,rfl,AB,xA⟩:=h.form;obtain⟨m,hm⟩:=eX l.length;have H:=aa h;rw[←hm] at H⊢;have Hm:=dK hm (by omega:m≤61);have HR:=aa (rN w k hk);have Hb:=aa hb;have Hk:Af (aI k):=by rcases hk with rfl|rfl<;>exact⟨by decide,by decide⟩
 obtain⟨g,hg⟩:=eX w.heap.size;obtain⟨W1,aW⟩:=eX (w.alloc (.cells (List.replicate (1+2*m) (Value.int .u8 0)).toArray 5));have yX:(Instr.makeSlice 87 (.int .i64 (1+2*(m:Int))) (.int .i64 (1+2*(m:Int)))).run prog w= .ok (.slice (some ⟨g,0,none⟩) (1+2*m) (1+2*m)) W1:=by have:=eV underlying87 rD (eC .u8 0) (by decide) (1+2*m) (by have:=Hm.o;omega) w;rw[show((1+2*m:Nat):Int)=1+2*(m:Int) by omega] at this;rw[aW,hg];exact this
 have O1:Af (dn W1 g (List.replicate (1+2*m) 0)):=by
  have h1:aq W1 g 5 (List.replicate (1+2*m) (.int .u8 0)):=by rw[aW,hg];exact ar _ _ _
  have h2:=aq.JZ (bs:=List.replicate (1+2*m) 0) (w:=W1) (g:=g) (by rw[List.map_replicate];exact h1);exact h2
 have B1:Af (Below g w W1):=by rw[aW,hg];exact aF _ _
 have G:=aa hg;have oc:¬(61:Int)<m:=by have:=Hm.o;omega
 have xB:(0:Int)≤m:=by omega
 have nZ:wrap64 (2*(m:Int))=2*(m:Int):=by have:=Hm.o;unfold wrap64;omega
 have fp:wrap64 (1+2*(m:Int))=1+2*(m:Int):=by have:=Hm.o;unfold wrap64;omega
 have DZ:IntKind.u64.wrap (m:Int)=m:=by have:=Hm.o;simp[IntKind.wrap,IntKind.signed,IntKind.bits];omega
 have HP:=aa (jM W1 g 0 (1+2*m) (1+2*m) 0 1 (List.replicate (1+2*m) 0) m O1.o (by simp) (by decide) (by omega) (by have:=Hm.o;simp;omega) ⟨xB,by have:=Hm.o;simp;omega⟩);have ej:lB (List.replicate (1+2*m) 0) (0+0) 1 m=kY l 0:=by rw[Hm.o.1];exact Ic l (by have:=Hm.o;omega)
 rw[ej] at HP;clear h hl hb hm hk hg aW AB xA ej;go_enter func73,ntmps73;go_wp2_with(first
  |(go_at_call 158;go_must(refine HR.o.mono ?_);rintro e W2 ⟨rfl,rfl⟩)
  |(go_at_call 106;go_must(refine HP.o.mono ?_);rintro e W2 ⟨rfl,o2,g2,s2⟩;have O2:=aa o2;have B2:=aa (B1.o.grown g2 (by rw[G.o];exact B1.o.size) (by intro k' ZT;cases ZT;exact Qg _));clear o2 g2 s2))
 clear yX nZ fp DZ;go_loopw [28] (fun i wr=>∃j:Nat,j≤m∧i= .int .i64 j∧Af (dn wr g (kY l j)∧Below g w wr)) (fun i _=>m - (intOf i).toNat)
 case atStart=>exact⟨0,Qp _,rfl,O2.o,B2.o⟩
 case round=>
  obtain⟨j,hj,rfl,hK⟩:=hrel;have O3:=aa hK.o.1;have B3:=aa hK.o.2;clear hK O2 B2;by_cases aJ:j<m
  ·have hj0:(0:Int)≤j:=by omega
   have JK:(j:Int)<m:=by omega
   have wI:j<l.length:=by have:=Hm.o;omega
   have nZ:wrap64 (2*(j:Int))=2*(j:Int):=by have:=Hm.o;unfold wrap64;omega
   have fp:wrap64 (1+2*(j:Int))=1+2*(j:Int):=by have:=Hm.o;unfold wrap64;omega
   obtain⟨b,o,c',hv,-,-,hbB,iH⟩:=H.o.cells (by omega);injection hv with e1 e2 e3
   subst e1;subst e3;clear e2;have hc:=(B3.o.cell (p:=⟨b,o+j,none⟩) (by rw[G.o];exact hbB)).trans (iH j wI);rw[Qe,Qf wI,Option.getD_some] at hc;have hx:=Hb.o _ (QI wI);have HP:=jM wr g 0 (1+2*m) (1+2*m) (1+2*j) 2 (kY l j) l[j] O3.o (by rw[oG l j (by omega)];have:=Hm.o;omega) (by decide) (by omega) (by rw[oG l j (by omega)];have:=Hm.o;omega) ⟨hx.1,by have:=hx.2;simp;omega⟩;rw[show((1+2*j:Nat):Int)=1+2*(j:Int) by omega,QR,Ie l j wI] at HP;have tp:=aa HP;obtain⟨gd,xx⟩:=hx;generalize l[j]=x at*;have DZ:IntKind.u64.wrap x=x:=by simp[IntKind.wrap,IntKind.signed,IntKind.bits];omega
   have bj:=aa aJ;clear HP iH aJ hj hbB wI;go_wp2_with(go_at_call 106;go_must(refine tp.o.mono ?_);rintro e W4 ⟨rfl,o4,g4,s4⟩;have O4:=aa o4;have B4:=aa (B3.o.grown g4 (by rw[G.o];exact B3.o.size) (by intro k' ZT;cases ZT;exact Qg _));clear o4 g4 s4);go_roundw
   case rel=>exact⟨j+1,bj.o,by go_num,O4.o,B4.o⟩
   case measure=>have:=bj.o;simp[intOf];omega
  ·obtain rfl:j=m:=by omega
   have h1:=O3.o.bs (o:=0) (n:=1+2*j) (c:=1+2*j) (by rw[oG l j (by have:=Hm.o;omega)];have:=Hm.o;omega) (Qg _) (by have:=Hm.o;unfold maxLen;omega) (by rw[Hm.o.1,yQ];exact sY l (by have:=Hm.o;omega));rw[Zl,Qj (by rw[oG l j (by have:=Hm.o;omega)];have:=Hm.o;omega),show kY l j=qy l by rw[Hm.o.1];exact yQ l] at h1;have HS:=aa (uY wr k _ (qy l) Hk.o h1 (by rw[yR];have:=Hm.o;omega));clear h1 aJ hj;go_wp2_with(go_at_call 107;go_must(refine HS.o.mono ?_);rintro e W4 ⟨rfl,o4,b4⟩;have O4:=aa o4;have B4:=aa (B3.o.trans (b4.mono (by rw[G.o];exact B3.o.size)));clear o4 b4);go_ret2;exact⟨wr.heap.size,by rw[G.o] at B3;exact B3.o.size,rfl,O4.o,by rw[←G.o];exact B4.o⟩
end
section
open Go.RowKit Go.Shelf
attribute [local go_sem] Oper.semAt_some
variable {bs : List Int}
def kx (body:List Int):List (Int×Int):=(List.range 61).map fun (i:Nat)=>((i:Int),cK body (1+2*i) 2)
theorem jP (body:List Int):(kx body).length=61:=by simp[kx]
theorem Cu (body:List Int) (k:Nat) (hk:k<(kx body).length):(kx body)[k]=((k:Int),cK body (1+2*k) 2):=by simp[kx]
theorem KT {a b:Nat} (h:a≤b):(256:Int)^a≤256^b:=by
 obtain⟨d,rfl⟩:=Nat.le.dest h;rw[Int.pow_add];have h1:(0:Int)<256^d:=Int.pow_pos (by decide);have h2:(0:Int)<256^a:=Int.pow_pos (by decide);have:=Int.mul_le_mul_of_nonneg_left (show(1:Int)≤256^d by omega) (Int.le_of_lt h2);rwa[Int.mul_one] at this
theorem cW (hb:∀x∈bs,aI x) (p s:Nat):0≤cK bs p s∧cK bs p s<256^s:=by
 have h:=lR ((bs.drop p).take s) (fun x hx=>hb x (Q6 (Za hx)));refine⟨h.1,Int.lt_of_lt_of_le h.2 ?_⟩;rw[Qu,Zt];exact KT (Nat.min_le_left _ _)
theorem Bs.acs {w w' :Wo} {n x:Nat} {v:Va} (h:Bs w n v bs) (hb:fo n x w w'):Bs w' n v bs:=
 ⟨h.1.keep fun _ hp=>hb.cell (.inl hp),h.2⟩
theorem Dv (w:Wo) (A:Option Addr) (m c:Nat):Calls prog 170 #[.slice A m c] w fun e w' =>e= .returned (.func (.func 234) #[] #[.pointer (some ⟨w.heap.size,0,none⟩)])∧w' =w.alloc (.cells #[.slice A m c] 87):=by
 go_enter func170,ntmps170;go_wp2_with fail;go_ret;exact⟨rfl,rfl⟩
theorem Dw (n:Nat) (hn:1≤n) (l n0 Bx:Nat) (A:Option Addr) (c:Nat) (body:List Int) (hl:body.length=123) (J:List (Int×Int)→Wo→Prop)
  (hY:∀k (hk:k<(kx body).length) W1,J ((kx body).take k) W1→YieldAt Fence.wide (n - 1) prog l #[.int .i64 (kx body)[k].1,.int .u16 (kx body)[k].2] W1 fun e W' =>e= .returned (.bool true)∧J ((kx body).take (k+1)) W'∧fo n0 Bx W1 W')
  (W:Wo) (jU:n0≤W.heap.size) (aH:W.cell? ⟨Bx,0,none⟩=some (.slice A 123 c)) (hb:Bs W n0 (.slice A 123 c) body) (h0:J [] W):
  CallsIn Fence.wide n prog 234 #[.func (.yield l) #[] #[],.pointer (some ⟨Bx,0,none⟩)] W fun e W' =>(∃v,e= .returned v)∧J (kx body) W' :=by
 refine callsIn_of_wp func234 rfl trivial ?_ rfl;simp only[ntmps234,QW,QF,Xq,Nat.reduceAdd,Nat.reduceSub,Xv,Xw,Xx,Xy,QZ,List.cons_append]
 gi_wp2
 gi_loopw [6] (fun i wr=>∃k:Nat,k≤61∧i= .int .i64 k∧wr.cell? ⟨Bx,0,none⟩=some (.slice A 123 c)∧Af (Bs wr n0 (.slice A 123 c) body∧n0≤wr.heap.size∧J ((kx body).take k) wr)) (fun i _=>61 - (intOf i).toNat)
 case atStart=>exact⟨0,by decide,rfl,aH,hb,jU,h0⟩
 case round=>
  obtain⟨k,hk,rfl,hc,hK⟩:=hrel;have HB:=aa hK.o.1;have HN:=aa hK.o.2.1;have HJ:=aa hK.o.2.2;have Hl:=aa hl;clear hK aH hb h0 hl jU;by_cases aJ:k<61
  ·have SK:(0:Int)≤k:=by omega
   have hk1:(k:Int)<61:=by omega
   have nZ:wrap64 (2*(k:Int))=2*(k:Int):=by unfold wrap64;omega
   have fp:wrap64 (1+2*(k:Int))=1+2*(k:Int):=by unfold wrap64;omega
   have hG:=lf wr n0 (.slice A 123 c) body HB.o (1+2*k) 2 (by decide) (by have:=Hl.o;omega) (by have:=Hl.o;omega)
   rw[show((1+2*k:Nat):Int)=1+2*(k:Int) by omega] at hG;have HG:=aa hG;obtain⟨x0,x1⟩:=cW HB.o.2 (1+2*k) 2;have hy:=hY k (by rw[jP];exact aJ) wr HJ.o
   rw[Cu] at hy;obtain⟨x,hx⟩:=eX (cK body (1+2*k) 2);rw[←hx] at HG x0 x1;simp only[←hx] at hy;have DZ:IntKind.u16.wrap x=x:=by simp[IntKind.wrap,IntKind.signed,IntKind.bits];simp at x1;omega
   have HY:=aa hy;have bj:=aa aJ;clear hG hx hy aJ hk x1
   gi_upto_region 4 with(refine⟨trivial,?_⟩;gi_at_call 172;refine(callsIn_wide.2 HG.o).mono ?_;rintro e w' ⟨rfl,rfl⟩)
   obtain⟨fn,tmps,assign,bd,hy,Nr⟩:=HY.o
   gi_wp2
   refine Nr.mono ?_;rintro e W3 ⟨rfl,Nu,jW⟩;have Hc3:=(jW.cell (p:=⟨Bx,0,none⟩) (.inr rfl)).trans hc;have HJ3:=aa Nu;have pw:=aa jW;clear hy Nr Nu jW hc
   gi_wp2
   go_roundw
   case rel=>exact⟨k+1,bj.o,by go_num,Hc3,HB.o.acs pw.o,Qh HN.o pw.o.size,HJ3.o⟩
   case measure=>have:=bj.o;simp[intOf];omega
  ·obtain rfl:k=61:=by omega
   have h1:=HJ.o;rw[Qj (by rw[jP];exact Qg _)] at h1
   have H1:=aa h1;clear h1 aJ hk
   gi_wp2
   go_end0
   exact⟨⟨_,rfl⟩,H1.o⟩
end
section
open Go.RowKit Go.Shelf
variable {w : Wo} {e t t' : TypeId} {body p : List Int} {b g : Nat} {u v x y : Va} {k : Int}
theorem lQ {P:Program} {fn:Func} {p q:Tmp} {a b:Addr} {tmps:Array Va} (h:fn.results= #[.cell p t,.cell q t']) (hp:tmps.getD p undef= .pointer (some a)) (hq:tmps.getD q undef= .pointer (some b))
  (hl:(loadVar t a).run P w= .ok x w) (rf:(loadVar t' b).run P w= .ok y w):(results fn tmps).run P w= .ok (.tuple #[x,y]) w:=by
 simp only[results,h];simp only[Array.getD_eq_getD_getElem?] at hp hq;simp[Result.andThen,hp,hq,hl,rf,asAddr]
theorem oE (h:w.cell? ⟨b,0,none⟩=some x):(loadVar 84 ⟨b,0,none⟩).run prog w= .ok x w:=by simp[go_sem,h]
theorem lT (h:w.cell? ⟨b,0,none⟩=some x):(loadVar 25 ⟨b,0,none⟩).run prog w= .ok x w:=by simp[go_sem,h]
theorem Fj (h:aq w g e [u]) (v:Va):aq (w.setCell ⟨g,0,none⟩ v) g e [v]:=h.set 0 v
theorem aq.cell0 (h:aq w g e [u]):w.cell? ⟨g,0,none⟩=some u:=h.cell rfl
def abH (w:Wo) (k:Int) (p:List Int) (e:Ending) (w' :Wo):Prop:=
 Below w.heap.size w w'∧((pB k p=none∧e= .returned (.tuple #[.slice none 0 0,.int .i64 50]))∨∃l v,pB k p=some l∧e= .returned (.tuple #[v,.int .i64 0])∧aB w' w.heap.size 61 .u16 v l)
theorem tN {a:Nat} (ha:aq w a t [x]) (hb:aq w b t' [y]) (bT:a≠b):
  ((w.setCell ⟨a,0,none⟩ u).setCell ⟨b,0,none⟩ v).cell? ⟨a,0,none⟩=some u∧((w.setCell ⟨a,0,none⟩ u).setCell ⟨b,0,none⟩ v).cell? ⟨b,0,none⟩=some v:=
 ⟨((Fj ha u).az bT v).cell0,(Fj (hb.az (Xm bT) u) v).cell0⟩
theorem jO (h:dy p=some (k,body)) (hb:∀x∈p,aI x):body.length=123∧aI k∧∀x∈body,aI x:=by
 unfold dy at h;split at h
 ·rename_i h1
  have h2:=Qr h;have e1:p.headD 0=k:=XF Prod.fst h2;have e2:(p.take 124).drop 1=body:=XF Prod.snd h2;refine⟨by rw[←e2];simp;omega,?_,fun x hx=>hb x (Za (Q6 (e2▸hx)))⟩;rw[←e1];cases p with
  |nil=>simp at h1
  |cons x r=>exact hb x (by simp)
 ·cases h
theorem nH (h:Bs w w.heap.size v p) (ho:dy p=some (k,body)):
  Calls prog 90 #[v] w fun e w' =>∃A c,e= .returned (.tuple #[.int .u8 k,.slice A 123 c,.int .i64 0])∧kR w' w.heap.size (.slice A 123 c) body∧Bs w' w'.heap.size (.slice A 123 c) body∧Below w.heap.size w w' :=by
 refine(qM w v p h).mono ?_;rintro e w' ⟨b1,⟨h3,_⟩|⟨k',YP,v1,h3,rfl,h4⟩⟩
 ·rw[ho] at h3;cases h3
 ·rw[ho] at h3;have h5:=Qr h3;obtain⟨rfl,rfl⟩:=Prod.mk.inj h5;obtain⟨hl,-,hb⟩:=jO ho h.2;obtain⟨A,n,c,rfl⟩:=h4.bu;obtain rfl:n=123:=h4.len.trans hl;exact⟨A,c,rfl,h4,⟨Sl.bU h4,hb⟩,b1⟩
theorem Jr (w:Wo) (k:Int) (hk:k=4∨k=5) (v:Va) (p:List Int) (h:Bs w w.heap.size v p) (eJ:dy p=none∨∃k' body,dy p=some (k',body)∧(k'≠k∨61<body.headD 0)):
  Calls prog 88 #[.int .u8 k,v] w (abH w k p):=by
 have hd:Af (pB k p=none):=by
  show _=_;unfold pB;rcases eJ with h1|⟨k',body,h1,h2⟩
  ·rw[h1]
  ·rw[h1];simp only;rw[Xd];rintro⟨rfl,-,h3,-⟩;rcases h2 with h2|h2
   ·exact h2 rfl
   ·omega
 obtain⟨A,c,rfl,-,-⟩:=h.1.form;obtain⟨W0,aY⟩:=eX ((w.alloc (.cells #[.slice none 0 0] 84)).alloc (.cells #[.int .i64 0] 25));have R1:Af (aq W0 w.heap.size 84 [.slice none 0 0]):=by show _=_;rw[aY];exact dx w _ _
 have R2:Af (aq W0 (w.heap.size+1) 25 [.int .i64 0]):=by show _=_;rw[aY];exact cL w _ _
 have B0:Af (Below w.heap.size w W0):=by rw[aY];exact(aF _ _).alloc (by simp) _
 have HR:=aa (fun W=>rN W k hk);have jr:Bs W0 W0.heap.size (.slice A p.length c) p:=⟨(h.1.below B0.o).more B0.o.size,h.2⟩;have hO:=qM W0 _ p jr;obtain⟨m,hm⟩:=eX p.length;rw[←hm] at hO⊢;have SR:=aY.symm;have oN:Af (∀W2,Below W0.heap.size W0 W2→abH w k p (.returned (.tuple #[.slice none 0 0,.int .i64 50])) ((W2.setCell ⟨w.heap.size,0,none⟩ (.slice none 0 0)).setCell ⟨w.heap.size+1,0,none⟩ (.int .i64 50))):=fun W2 h2=>⟨((B0.o.trans (h2.mono B0.o.size)).setCell (Qg _) _).setCell (Q0 _) _,.inl ⟨hd.o,rfl⟩⟩
 rcases eJ with h1|⟨k',body,h1,h2⟩
 ·have HO:Af (Calls prog 90 #[.slice A m c] W0 fun e w' =>e= .returned (.tuple #[.int .u8 0,.slice none 0 0,.int .i64 10])∧Below W0.heap.size W0 w'):=by
   refine Calls.mono hO ?_;rintro e w' ⟨b1,⟨-,rfl⟩|⟨_,_,_,h3,_⟩⟩
   ·exact⟨rfl,b1⟩
   ·rw[h1] at h3;cases h3
  clear h hk aY hm hO h1 jr hd HR;go_enter func88,ntmps88;go_upto_region 2 with(go_at_call 90;go_must(refine HO.o.mono ?_);rintro e W1 ⟨rfl,b1⟩;have B1:=aa b1;clear b1)
  obtain⟨W2,cE⟩:=eX (W1.alloc (.cells #[.slice none 0 0] 87));rw[←cE];have B2:Af (Below W0.heap.size W0 W2):=by rw[cE];exact B1.o.trans ((aF W1 _).mono B1.o.size)
  have S1:=aa (R1.o.on B2.o);have S2:=aa (R2.o.on B2.o);have y1:=S1.o.cell0;have y2:=S2.o.cell0;have f1:=S1.o.free 0;have f2:=S2.o.free 0;clear cE;go_wp2_with fail;obtain⟨r1,r2⟩:=tN (u:= .slice none 0 0) (v:= .int .i64 50) S1.o S2.o (XP (XL _));refine bodyPost_ret (lQ rfl rfl rfl (oE r1) (lT r2)) rfl ?_;exact oN.o _ B2.o
 ·obtain⟨fg,-,bO⟩:=jO h1 h.2;have HO:=aa (nH jr h1);rw[←hm] at HO;have Ta:=aa fg;by_cases hkk:k' =k
  ·subst hkk;have Ny:(61:Int)<body.headD 0:=by
    rcases h2 with h2|h2
    ·exact absurd rfl h2
    ·exact h2
   have jr:body[0]? =some (body.headD 0):=by
    cases body with
    |nil=>simp at fg
    |cons x r=>rfl
   have Hb0:=aa jr;obtain⟨x,hx⟩:=eX (body.headD 0);rw[←hx] at Ny Hb0;clear h hk aY hm hO h1 h2 jr hd fg bO hx;go_enter func88,ntmps88;go_upto_region 2 with(go_at_call 90;go_must(refine HO.o.mono ?_);rintro e W1 ⟨A1,c1,rfl,o1,s1,b1⟩;have S3:=aa s1;have B1:=aa b1;clear o1 s1 b1)
   obtain⟨b,o,c',hv,-,-,hr⟩:=S3.o.1.row (by have:=Ta.o;omega);injection hv with e1 e2 e3
   subst e1;subst e3;clear e2;have pV:W1.cell? ⟨b,o,none⟩=some (.int .u8 x):=by have:=hr.2 0 (.int .u8 x) (by rw[Qt,Hb0.o];rfl);simpa using this
   have J3:=hr.1;clear hr;obtain⟨W2,cE⟩:=eX (W1.alloc (.cells #[.slice (some ⟨b,o,none⟩) 123 c1] 87));rw[←cE];have B2:Af (Below W0.heap.size W0 W2):=by rw[cE];exact B1.o.trans ((aF W1 _).mono B1.o.size)
   have WA:W2.cell? ⟨W1.heap.size,0,none⟩=some (.slice (some ⟨b,o,none⟩) 123 c1):=by rw[cE];exact(ar W1 [_] _).cell0
   have jb:W2.cell? ⟨b,o,none⟩=some (.int .u8 x):=by rw[cE,(aF W1 _).cell (p:=⟨b,o,none⟩) J3];exact pV
   have S1:=aa (R1.o.on B2.o);have S2:=aa (R2.o.on B2.o);have y1:=S1.o.cell0;have y2:=S2.o.cell0;have f1:=S1.o.free 0;have f2:=S2.o.free 0;clear cE J3 pV SR;go_wp2_with(go_at_call 158;go_must(refine(HR.o _).mono ?_);rintro e W3 ⟨rfl,rfl⟩);obtain⟨r1,r2⟩:=tN (u:= .slice none 0 0) (v:= .int .i64 50) S1.o S2.o (XP (XL _));refine bodyPost_ret (lQ rfl rfl rfl (oE r1) (lT r2)) rfl ?_;exact oN.o _ B2.o
  ·have cH:(k' !=k)=true:=by rw[bne,Xc hkk];rfl
   clear h hk aY hm hO h1 h2 jr hd fg bO HR;go_enter func88,ntmps88;go_upto_region 2 with(go_at_call 90;go_must(refine HO.o.mono ?_);rintro e W1 ⟨A1,c1,rfl,o1,s1,b1⟩;have B1:=aa b1;clear o1 s1 b1)
   obtain⟨W2,cE⟩:=eX (W1.alloc (.cells #[.slice A1 123 c1] 87));rw[←cE];have B2:Af (Below W0.heap.size W0 W2):=by rw[cE];exact B1.o.trans ((aF W1 _).mono B1.o.size)
   have S1:=aa (R1.o.on B2.o);have S2:=aa (R2.o.on B2.o);have y1:=S1.o.cell0;have y2:=S2.o.cell0;have f1:=S1.o.free 0;have f2:=S2.o.free 0;clear cE SR;go_wp2_with fail;obtain⟨r1,r2⟩:=tN (u:= .slice none 0 0) (v:= .int .i64 50) S1.o S2.o (XP (XL _));refine bodyPost_ret (lQ rfl rfl rfl (oE r1) (lT r2)) rfl ?_;exact oN.o _ B2.o
end
end Go.Proofs.YthgdhacopamklaaGreat

/- What HashNone asks, part 5 of 41: parts of the walks and laws, each true as it stands. -/
import Derived.Maps.OwnIn
import Derived.Sort.OwnSortedInts
import Derived.Test.YthgdhacopamklaaGreatTAD
set_option maxHeartbeats 16000000
set_option maxRecDepth 100000
set_option linter.unusedVariables false
set_option linter.unusedSimpArgs false
namespace Go.Proofs.YthgdhacopamklaaGreat
open Go.Proofs.Tryz
section
open Go.RowKit
variable {V : Type} {a b : Nat} {e : TypeId} {cs : List Va}
theorem mo {x:Int} (h: -9223372036854775808≤x∧x≤9223372036854775807):(Lit.int .i64 x).wf=true:=by
 simp[Lit.wf,IntKind.min,IntKind.max,IntKind.signed,IntKind.bits];omega
def uj:MK Int Int where
 mt:=185
 kt:=3
 vt:=61
 xz:=underlying185
 keyed:=Maps.int_keyed underlying3
 kv:= .int .i64
 kl:= .int .i64
 qY:=fun x=>(Lit.int .i64 x).wf=true
 ir:=fun x h=>Maps.keyOf_int_mk underlying3 h
 Bn:=fun x y h=>by simpa using h
 sB:=fun v l h=>by
  obtain⟨y,e1,e2,e3⟩:=Maps.keyOf_int_inv underlying3 h;exact⟨y,e3,e1⟩
 vv:= .int .u16
 Ix:=fun y=> .lit (.int .u16 y)
 R:=RI .u16
 MZ:=IU .u16
 Bm:=zy .u16
 zo:=zz .u16
 zero:=0
 hz:=fun w=>by kernel_rfl
def du {V:Type} (l:List (Option V)):Int→Option V:=fun x=>if 0≤x then l.getD x.toNat none else none
theorem gN (l:List (Option V)) (b:Nat):du l b=l.getD b none:=by simp[du]
theorem yy (l:List (Option V)) (b:Nat) (hb:b<l.length) (y:V):eM (du l) (b:Int) y=du (l.set b (some y)):=by
 funext x
 unfold eM du;by_cases h:x=b
 ·subst h;rw[Xo rfl,Xo (by omega),Xt,Qe,List.getElem?_set_self hb];rfl
 ·rw[Xd h];split
  ·rename_i h0
   rw[Qe,Qe,List.getElem?_set_ne (by omega)]
  ·rfl
theorem yz (l:List (Option V)) (b:Nat):mX (du l) (b:Int)=du (l.set b none):=by
 funext x
 unfold mX du;by_cases h:x=b
 ·subst h;rw[Xo rfl,Xo (by omega),Xt,Qe,List.getElem?_set];simp;split<;>rfl
 ·rw[Xd h];split
  ·rename_i h0
   rw[Qe,Qe,List.getElem?_set_ne (by omega)]
  ·rfl
theorem ko (n:Nat):(fun _=>none:Int→Option V)=du (List.replicate n none):=by
 funext x
 unfold du;split
 ·rw[Qe,Zr];split<;>rfl
 ·rfl
def nS {V:Type} (l:List (Option V)):Nat:=l.countP fun o=>o.isSome
theorem zH (y:V):∀(l:List (Option V)) (b:Nat),b<l.length→nS (l.set b (some y))=if(l.getD b none).isSome then nS l else nS l+1
 |[],_,h=>by simp at h
 |o::r,0,_=>by cases o<;>simp[nS]
 |o::r,b+1,h=>by
  have ih:=zH y r b (by simpa using h);unfold nS at ih⊢;rw[Qc,List.countP_cons,List.countP_cons,ih,List.getD_cons_succ];split<;>omega
theorem zI:∀(l:List (Option V)) (b:Nat),nS (l.set b none)=nS l - if(l.getD b none).isSome then 1 else 0
 |[],b=>by simp[nS]
 |o::r,0=>by cases o<;>simp[nS]
 |o::r,b+1=>by
  have ih:=zI r b;have hle:(r.getD b none).isSome=true→1≤nS r:=fun h=>by
   rw[Qe] at h
   cases hg:r[b]? with
   |none=>rw[hg] at h;simp at h
   |some o' =>
    rw[hg] at h;exact List.countP_pos_iff.2 ⟨o',Qi hg,h⟩
  unfold nS at ih hle⊢;rw[Qc,List.countP_cons,List.countP_cons,ih,List.getD_cons_succ];split
  ·rename_i h;have:=hle h;omega
  ·omega
theorem Yq (l:List (Option V)):nS l≤l.length:=List.countP_le_length
theorem qN (n:Nat):nS (List.replicate n (none:Option V))=0:=List.countP_eq_zero.2 fun o ho=>by rw[QJ ho];simp
def wQ (cv mv:Va) (fr wt:Int):List Va:=[cv,mv,.int .i64 fr,.int .i64 wt]
structure bf (w:Wo) (tb cb mb:Nat) (t:aE):Prop where
 own:aq w tb 187 (wQ (.slice (some ⟨cb,0,none⟩) t.len t.len) (.map (some mb)) t.cY t.waits)
 counts:aq w cb 61 (t.counts.map (.int .u16))
 kept:MG uj w mb (du t.kept) (nS t.kept)
 ok:t.Ok
theorem aq.ne {w:Wo} {e' :TypeId} {ks :List Va} (h:aq w a e cs) (k:aq w b e' ks) (he:e≠e'):a≠b:=by
 rintro rfl;have h1:=Eq.trans (Eq.symm h) k;injection h1 with h2
 injection h2 with h3 h4
 exact he h4
theorem aq.bS {K:Type} [DecidableEq K] {M:MK K V} {w:Wo} {m s:Nat} {f:K→Option V} (h:aq w a e cs) (k:MG M w m f s):a≠m:=by
 rintro rfl;obtain⟨D,⟨es,clock,h0,_⟩,_⟩:=k;have h1:=Eq.trans (Eq.symm h) h0;injection h1 with h2
 cases h2
section
variable {w w' : Wo} {tb cb mb : Nat} {t : aE}
theorem bf.tc (h:bf w tb cb mb t):tb≠cb:=h.own.ne h.counts (by decide)
theorem bf.tm (h:bf w tb cb mb t):tb≠mb:=h.own.bS h.kept
theorem bf.cm (h:bf w tb cb mb t):cb≠mb:=h.counts.bS h.kept
theorem bf.aL {S:Nat→Prop} (h:bf w tb cb mb t) (hc:aG S w w') (h1:¬S tb) (h2:¬S cb) (h3:¬S mb):bf w' tb cb mb t:=⟨h.own.aL hc h1,h.counts.aL hc h2,h.kept.aL hc h3,h.ok⟩
theorem bf.on (h:bf w tb cb mb t) (hb:Below w.heap.size w w'):bf w' tb cb mb t:=⟨h.own.on hb,h.counts.on hb,h.kept.on hb,h.ok⟩
theorem bf.x0 (h:bf w tb cb mb t):w.cell? ⟨tb,0,none⟩=some (.slice (some ⟨cb,0,none⟩) t.len t.len):=h.own.cell (j:=0) rfl
theorem bf.x1 (h:bf w tb cb mb t):w.cell? ⟨tb,1,none⟩=some (.map (some mb)):=h.own.cell (j:=1) rfl
theorem bf.at_ (h:bf w tb cb mb t) (hb:b<t.len):w.cell? ⟨cb,b,none⟩=some (.int .u16 (t.get b)):=h.counts.cell (by rw[Qt,aE.Fk hb];rfl)
theorem bf.look (h:bf w tb cb mb t) (hb:b<t.len):(Instr.lookup 185 (.map (some mb)) (.int .i64 b) true).run prog w= .ok (.tuple #[.int .u16 ((t.kept.getD b none).getD 0),.bool (t.kept.getD b none).isSome]) w:=by
 have h1:=h.kept.look (x:=(b:Int)) (mo (by have:=h.ok.n1;omega));rw[gN] at h1;exact h1
end
theorem cn (w:Wo) (tb n:Nat) (A:Option Addr) (c:Nat) (h:w.cell? ⟨tb,0,none⟩=some (.slice A n c)):
  Calls prog 98 #[.pointer (some ⟨tb,0,none⟩)] w fun e w' =>e= .returned (.int .i64 n)∧w=w' :=by
 go_enter func98,ntmps98;go_wp2_with fail;go_ret;exact⟨rfl,rfl⟩
theorem tW (w:Wo) (tb n:Nat) (A:Option Addr) (c:Nat) (h:w.cell? ⟨tb,0,none⟩=some (.slice A n c)) (b:Int):
  Calls prog 178 #[.pointer (some ⟨tb,0,none⟩),.int .i64 b] w fun e w' =>e= .returned (.bool (decide (0≤b∧b<n)))∧w=w' :=by
 have HB:=aa (cn w tb n A c h);by_cases h0:0≤b
 ·by_cases h1:b<n
  ·have e:decide (0≤b∧b<(n:Int))=true:=Xa ⟨h0,h1⟩;rw[e];go_enter func178,ntmps178;go_wp2_with(go_at_call 98;go_must(refine HB.o.mono ?_);rintro e W2 ⟨rfl,rfl⟩);go_ret;exact⟨rfl,rfl⟩
  ·have e:decide (0≤b∧b<(n:Int))=false:=Xe (fun h=>h1 h.2);have h2:=h1;rw[e];go_enter func178,ntmps178;go_wp2_with(go_at_call 98;go_must(refine HB.o.mono ?_);rintro e W2 ⟨rfl,rfl⟩);go_ret;exact⟨XF (fun x=>Ending.returned (Value.bool x)) (Xe (Int.not_lt.2 h2)),rfl⟩
 ·have e:decide (0≤b∧b<(n:Int))=false:=Xe (fun h=>h0 h.1);rw[e];go_enter func178,ntmps178;go_wp2_with fail;go_ret;exact⟨rfl,rfl⟩
theorem I5 (w:Wo) (tb cb mb:Nat) (t:aE) (h:bf w tb cb mb t) (b:Nat) (hb:b<t.len):
  Calls prog 229 #[.pointer (some ⟨tb,0,none⟩),.int .i64 b] w fun e w' =>e= .returned (.int .u16 (t.mE b))∧w=w' :=by
 have x0:=h.x0;have x1:=h.x1;have x2:=h.at_ hb;have x3:=h.look hb;have h0:(0:Int)≤b:=by omega
 have h1:(b:Int)<t.len:=by omega
 unfold aE.mE;generalize t.get b=c at*;generalize t.len=n at*;cases hk:t.kept.getD b none with
 |none=>
  rw[hk] at x3;simp only[Option.getD_none,Option.isSome_none] at x3⊢;clear h hk hb;go_enter func229,ntmps229;go_wp2_with fail;go_ret;exact⟨rfl,rfl⟩
 |some y=>
  rw[hk] at x3;simp only[Option.getD_some,Option.isSome_some] at x3⊢;clear h hk hb;go_enter func229,ntmps229;go_wp2_with fail;go_ret;exact⟨rfl,rfl⟩
theorem qH (w:Wo) (tb cb mb:Nat) (t:aE) (h:bf w tb cb mb t) (b:Int):
  Calls prog 95 #[.pointer (some ⟨tb,0,none⟩),.int .i64 b] w fun e w' =>e= .returned (.int .i64 (if 0≤b then t.get b.toNat else 0))∧w=w' :=by
 have HH:=aa (tW w tb t.len _ _ h.x0 b);by_cases hb:0≤b∧b<t.len
 ·obtain⟨h0,h1⟩:=hb;obtain⟨b,rfl⟩:=Int.eq_ofNat_of_zero_le h0;have x0:=h.x0;have x2:=h.at_ (b:=b) (by omega);have g:=aE.ll h.ok b;rw[Xa ⟨h0,h1⟩] at HH;rw[Xo h0,Xt];have hw:IntKind.i64.wrap (t.get b)=t.get b:=by unfold IntKind.wrap;simp[IntKind.signed,IntKind.bits];omega
  generalize t.get b=c at*;generalize t.len=n at*;clear h g;go_enter func95,ntmps95;go_wp2_with(go_at_call 178;go_must(refine HH.o.mono ?_);rintro e W2 ⟨rfl,rfl⟩);go_ret;exact⟨rfl,rfl⟩
 ·rw[Xe hb] at HH;have e:(if 0≤b then t.get b.toNat else 0)=0:=by
   split
   ·rename_i h0
    unfold aE.get;rw[Qe,QQ (by unfold aE.len at hb;omega)];rfl
   ·rfl
  rw[e];clear h hb e;go_enter func95,ntmps95;go_wp2_with(go_at_call 178;go_must(refine HH.o.mono ?_);rintro e W2 ⟨rfl,rfl⟩);go_ret;exact⟨rfl,rfl⟩
theorem yC (w:Wo) (tb cb mb:Nat) (t:aE) (h:bf w tb cb mb t) (b:Nat):
  Calls prog 161 #[.pointer (some ⟨tb,0,none⟩),.int .i64 b] w fun e w' =>e= .returned (.bool (t.free b))∧w=w' :=by
 have HH:=aa (tW w tb t.len _ _ h.x0 b);by_cases hb:b<t.len
 ·have h0:(0:Int)≤b:=by omega
  have h1:(b:Int)<t.len:=by omega
  have x0:=h.x0;have x2:=h.at_ hb;have HW:=aa (I5 w tb cb mb t h b hb);rw[Xa ⟨h0,h1⟩] at HH;have e:t.free b=(decide (t.get b=0)&&decide (t.mE b=0)):=by unfold aE.free;rw[Xa hb,Bool.true_and];rfl
  rw[e];generalize t.get b=c at*;generalize t.mE b=c' at*;generalize t.len=n at*;clear h e hb;by_cases hc:c=0
  ·subst hc;by_cases TJ :c' =0
   ·subst TJ;go_enter func161,ntmps161;go_wp2_with(first|(go_at_call 178;go_must(refine HH.o.mono ?_);rintro e W2 ⟨rfl,rfl⟩)|(go_at_call 229;go_must(refine HW.o.mono ?_);rintro e W2 ⟨rfl,rfl⟩));go_ret;exact⟨rfl,rfl⟩
   ·have EB :=Xc TJ;rw[Xe TJ];go_enter func161,ntmps161;go_wp2_with(first|(go_at_call 178;go_must(refine HH.o.mono ?_);rintro e W2 ⟨rfl,rfl⟩)|(go_at_call 229;go_must(refine HW.o.mono ?_);rintro e W2 ⟨rfl,rfl⟩));go_ret;exact⟨rfl,rfl⟩
  ·have EB :=Xc hc;rw[Xe hc,Bool.false_and];go_enter func161,ntmps161;go_wp2_with(first|(go_at_call 178;go_must(refine HH.o.mono ?_);rintro e W2 ⟨rfl,rfl⟩)|(go_at_call 229;go_must(refine HW.o.mono ?_);rintro e W2 ⟨rfl,rfl⟩));go_ret;exact⟨rfl,rfl⟩
 ·rw[Xe (by omega)] at HH;have e:t.free b=false:=by unfold aE.free;rw[Xe hb];rfl
  rw[e];clear h hb e;go_enter func161,ntmps161;go_wp2_with(go_at_call 178;go_must(refine HH.o.mono ?_);rintro e W2 ⟨rfl,rfl⟩);go_ret;exact⟨rfl,rfl⟩
theorem LJ (w:Wo) (tb cb mb:Nat) (t:aE) (h:bf w tb cb mb t):
  Calls prog 160 #[.pointer (some ⟨tb,0,none⟩)] w fun e w' =>e= .returned (.int .i64 t.cY)∧w=w' :=by
 have x0:=h.own.cell (j:=2) rfl;clear h;go_enter func160,ntmps160;go_wp2_with fail;go_ret;exact⟨rfl,rfl⟩
end
section
open Go.RowKit
theorem Pu (w:Wo) (tb wb xb:Nat) (cv mv:Va) (t:aE) (ws count one:Int) (h:aq w tb 187 (wQ cv mv t.cY t.waits)) (hw:aq w wb 61 [.int .u16 ws]) (hx:aq w xb 32 [.pointer (some ⟨tb,0,none⟩)])
  (hf: -10≤t.cY∧t.cY≤5000) (hv: -10≤t.waits∧t.waits≤5000) (ho:one=1∨one= -1):
  Calls prog 235 #[.int .u16 count,.int .i64 one,.pointer (some ⟨wb,0,none⟩),.pointer (some ⟨xb,0,none⟩)] w fun e w' =>(∃v,e= .returned v)∧aq w' tb 187 (wQ cv mv (t.Iy ws count one).cY (t.Iy ws count one).waits)∧aG (fun x=>x=tb) w w'∧w'.heap.size=w.heap.size:=by
 have H:=aa h;obtain⟨-,-,x2,x3⟩:=mm h;obtain⟨-,-,f2,f3⟩:=WI h;have y0:=hw.cell (j:=0) rfl;have z0:=hx.cell (j:=0) rfl;have w2:wrap64 (t.cY+one)=t.cY+one:=by unfold wrap64;omega
 have w3:wrap64 (t.waits+one)=t.waits+one:=by unfold wrap64;omega
 unfold aE.Iy;clear h hw hx hf hv ho;by_cases hc:0<count
 ·rw[Xo hc]
  go_enter func235,ntmps235;go_wp2_with fail;go_end0;exact⟨⟨_,rfl⟩,H.o,aG.refl _ _,rfl⟩
 ·rw[Xd hc]
  by_cases hs:0<ws
  ·rw[Xo hs]
   go_enter func235,ntmps235;go_wp2_with fail;go_end0;refine⟨⟨_,rfl⟩,H.o.set 3 _,aG.setCell (S:=fun x=>x=tb) (aG.refl _ w) (fun _=>rfl) _,by simp⟩
  ·rw[Xd hs]
   go_enter func235,ntmps235;go_wp2_with fail;go_end0;refine⟨⟨_,rfl⟩,H.o.set 2 _,aG.setCell (S:=fun x=>x=tb) (aG.refl _ w) (fun _=>rfl) _,by simp⟩
def TS (tb cb mb:Nat):Nat→Prop:=fun x=>x=tb∨x=cb∨x=mb
theorem Mi (t:aE) (ws c one:Int) (ho:one=1∨one= -1) (hf:0≤t.cY∧t.cY≤4096) (hv:0≤t.waits∧t.waits≤4096):
  (-10≤(t.Iy ws c one).cY∧(t.Iy ws c one).cY≤5000)∧(-10≤(t.Iy ws c one).waits∧(t.Iy ws c one).waits≤5000):=by
 unfold aE.Iy;split
 ·omega
 ·split<;>simp<;>omega
theorem map_set {b:Nat} (l:List Int) (n:Int):(l.map (Value.int .u16)).set b (.int .u16 n)=(l.set b n).map (.int .u16):=by rw[List.map_set]
theorem Ch (w:Wo) (tb cb mb:Nat) (t:aE) (h:bf w tb cb mb t) (b:Nat) (hb:b<t.len) (n:Int) (hn:0≤n∧n≤65535):
  Calls prog 179 #[.pointer (some ⟨tb,0,none⟩),.int .i64 b,.int .u16 n] w fun e w' =>(∃v,e= .returned v)∧bf w' tb cb mb (t.set b n)∧aG (TS tb cb mb) w w' :=by
 obtain⟨W1,aW⟩:=eX (w.alloc (.cells #[.pointer (some ⟨tb,0,none⟩)] 32));obtain⟨xb,eD⟩:=eX w.heap.size;have X1:Af (aq W1 xb 32 [.pointer (some ⟨tb,0,none⟩)]):=by show aq _ _ _ _;rw[aW,eD];exact ar _ [_] _
 have B1:Af (Below w.heap.size w W1):=by rw[aW];exact aF _ _
 have T1:=aa (h.on B1.o);obtain⟨W3,cD,-,Bk3⟩:=nW W1 [.int .u16 (t.mE b)] 61;obtain⟨wb,hwb⟩:=eX W1.heap.size;have hX:xb<wb:=by rw[hwb];exact X1.o.lt
 have V3:Af (aq W3 wb 61 [.int .u16 (t.mE b)]):=by show aq _ _ _ _;rw[cD,hwb];exact ar _ [_] _
 have X3:=aa (X1.o.on Bk3);have T3:=aa (T1.o.on Bk3);have B3:=aa (B1.o.trans (Bk3.mono B1.o.size));have HW:=aa (I5 W1 tb cb mb t T1.o b hb);have qe:=aa h.ok;have bj:=aa hb;have Hn:=aa hn;have htl:tb<w.heap.size∧cb<w.heap.size∧mb<w.heap.size:=⟨h.own.lt,h.counts.lt,h.kept.lt⟩;have fq:=hI8 (by omega:tb<xb) (by omega:cb<xb) (by omega:mb<xb) hX eD h.tc h.tm h.cm;have gB:=aa aW.symm;have mT:=aa cD.symm;have Hwb:=aa hwb.symm;have xD:=aa eD.symm;clear aW cD hwb eD hX Bk3 htl h hb hn;go_enter func179,ntmps179;go_upto_region 1 with fail
 rw[gB.o,xD.o];have x0:=X1.o.cell (j:=0) rfl;go_upto_region 2 with(go_at_call 229;go_must(refine HW.o.mono ?_);rintro e W9 ⟨rfl,rfl⟩)
 rw[mT.o,Hwb.o];obtain⟨t1,Ex⟩:=eX (t.Iy (t.mE b) (t.get b) (-1));obtain⟨t2,ht2⟩:=eX (t1.Iy (t.mE b) n 1);have hfw:=qe.o.frees_le;have hww:=qe.o.waits_le;have C1:=aa (Pu W3 tb wb xb _ _ t (t.mE b) (t.get b) (-1) T3.o.own V3.o X3.o (by omega) (by omega) (.inr rfl));rw[←Ex] at C1;have C2:Af (∀W,aG (fun x=>x=tb) W3 W→aq W tb 187 (wQ (.slice (some ⟨cb,0,none⟩) t.len t.len) (.map (some mb)) t1.cY t1.waits)→Calls prog 235 #[.int .u16 n,.int .i64 1,.pointer (some ⟨wb,0,none⟩),.pointer (some ⟨xb,0,none⟩)] W fun e w' =>(∃v,e= .returned v)∧aq w' tb 187 (wQ (.slice (some ⟨cb,0,none⟩) t.len t.len) (.map (some mb)) t2.cY t2.waits)∧aG (fun x=>x=tb) W w'∧w'.heap.size=W.heap.size):=by intro W hc hb;have tF:=Mi t (t.mE b) (t.get b) (-1) (.inr rfl) hfw hww;rw[←Ex] at tF;have h1:=Pu W tb wb xb _ _ t1 (t.mE b) n 1 hb (V3.o.aL hc (by have:=fq.o;omega)) (X3.o.aL hc (by have:=fq.o;omega)) tF.1 tF.2 (.inl rfl);rw[←ht2] at h1;exact h1
 have y0:=X3.o.cell (j:=0) rfl;have y1:=T3.o.x0;have y2:=T3.o.at_ bj.o;have h0:(0:Int)≤b:=by omega
 have h1:(b:Int)<t.len:=by have:=bj.o;omega
 have Htl:Af (t.len=t.len):=rfl;clear hfw hww x0 HW gB mT;go_upto_region 4 with(go_at_call 235;go_must(refine C1.o.mono ?_);rintro e W4 ⟨⟨v4,rfl⟩,k4,c4,s4⟩;have K4:=aa k4;have Q4:=aa c4;have S4:Af (W4.heap.size=W3.heap.size):=s4;clear k4 c4 s4)
 go_upto_region 5 with(go_at_call 235;go_must(refine(C2.o W4 Q4.o K4.o).mono ?_);rintro e W5 ⟨⟨v5,rfl⟩,k5,c5,s5⟩;have K5:=aa k5;have Q5:=aa (Q4.o.trans c5);have S5:Af (W5.heap.size=W3.heap.size):=s5.trans S4.o;clear k5 c5 s5)
 have zm:Af (∀W,aG (fun x=>x=mb) (W5.setCell ⟨cb,b,none⟩ (.int .u16 n)) W→MG uj W mb (du (t.set b n).kept) (nS (t.set b n).kept)→bf W tb cb mb (t.set b n)∧aG (TS tb cb mb) w W):=by
  intro W hc hm;have bT:=fq.o;have e1:(t.set b n).cY=t2.cY:=by rw[ht2,Ex];rfl
  have e2:(t.set b n).waits=t2.waits:=by rw[ht2,Ex];rfl
  have k0:=T3.o.counts.aL Q5.o (by omega);have k1:=(k0.set b (.int .u16 n)).aL hc (by omega);rw[map_set] at k1;refine⟨⟨?_,k1,hm,qe.o.set bj.o Hn.o.1 Hn.o.2⟩,?_⟩
  ·rw[aE.tU,e1,e2];exact(K5.o.az (by show tb≠cb;omega) _).aL hc (by omega)
  ·have c1:aG (TS tb cb mb) w W3:=aG.aZ B3.o;have c2:aG (TS tb cb mb) W3 W5:=Q5.o.mono fun x _ h=> .inl h
   have c3:aG (TS tb cb mb) W5 (W5.setCell ⟨cb,b,none⟩ (.int .u16 n)):=(aG.refl _ _).setCell (fun _=> .inr (.inl rfl)) _;exact((c1.trans c2).trans c3).trans (hc.mono fun x _ h=> .inr (.inr h))
 have Hkl:Af (b<t.kept.length):=by show _<_;rw[qe.o.J0];exact bj.o
 have mY:Af ((Lit.int .i64 (b:Int)).wf=true):=mo (by have:=qe.o.n1;have:=bj.o;omega);have HM:Af (MG uj (W5.setCell ⟨cb,b,none⟩ (.int .u16 n)) mb (du t.kept) (nS t.kept)):=
  (T3.o.kept.aL Q5.o (by have:=fq.o;omega)).az (by show mb≠cb;have:=fq.o;omega) _
 have HnS:Af (nS t.kept≤100000):=by have h1:=Yq t.kept;rw[qe.o.J0] at h1;exact Qh h1 (by have:=qe.o.n1;omega)
 have X5:=aa (X3.o.aL Q5.o (by have:=fq.o;omega));have V5:=aa (V3.o.aL Q5.o (by have:=fq.o;omega));have z0:=X5.o.cell (j:=0) rfl;obtain⟨z1,z4⟩:=gh K5.o;have z5:=V5.o.cell (j:=0) rfl;have z2:=(T3.o.counts.aL Q5.o (by have:=fq.o;omega)).free b;have z3:=(Q5.o.cell (p:=⟨cb,b,none⟩) T3.o.counts.lt (by have:=fq.o;show ¬cb=tb;omega)).trans (T3.o.at_ bj.o);clear C1 C2 K4 Q4 S4 y0 y1 y2 Ex ht2;go_upto_region 6 with fail
 have z0:(W5.setCell ⟨cb,b,none⟩ (.int .u16 n)).cell? ⟨xb,0,none⟩=some (.pointer (some ⟨tb,0,none⟩)):=(X5.o.az (by show xb≠cb;have:=fq.o;omega) _).cell (j:=0) rfl;have z4:(W5.setCell ⟨cb,b,none⟩ (.int .u16 n)).cell? ⟨tb,1,none⟩=some (.map (some mb)):=(K5.o.az (by show tb≠cb;have:=fq.o;omega) _).cell (j:=1) rfl;have z5:(W5.setCell ⟨cb,b,none⟩ (.int .u16 n)).cell? ⟨wb,0,none⟩=some (.int .u16 (t.mE b)):=(V5.o.az (by show wb≠cb;have:=fq.o;omega) _).cell (j:=0) rfl;obtain⟨W6,jc⟩:=eX (W5.setCell ⟨cb,b,none⟩ (.int .u16 n));rw[←jc] at HM zm z0 z4 z5⊢;clear jc z1 z2 z3;obtain⟨ws,Ev⟩:=eX (t.mE b);rw[←Ev] at z5⊢;by_cases hnw:n=ws
 ·have Hws:=aa (hnw.trans Ev);subst hnw;clear Ev;go_upto_region 7 with fail
  go_wp2_with(refine wl_cut uj rfl rfl HM.o (b:Int) mY.o rfl rfl ?_;go_must(intro W7 Nd ti;have WZ:=aa Nd;have XZ:=aa ti;clear Nd ti));go_end0
  refine⟨⟨_,rfl⟩,zm.o _ (aG.dH XZ.o (fun x _ e=>(Qr e).symm)) ?_⟩;have h1:=WZ.o;have e3:(t.set b n).kept=t.kept.set b none:=by unfold aE.set;simp only;rw[Xo Hws.o]
  rw[e3,zI,←yz];rw[gN] at h1;exact h1
 ·have Hws:=dK (by rw[←Ev];exact hnw:¬n=t.mE b) Ev;clear Ev;go_upto_region 8 with fail
  refine wp_region_still_tail 6 (by kernel_rfl) (by kernel_rfl) ?_;simp only[Zw,Zq,Zk,Zl];change wpStill _ _ (World.drew W6) (fun a' =>wpList _ _ _ _ a' (World.drew W6)) _ _
  repeat still_step
  refine wpStill_nil ?_;refine wl_put uj (m:=mb) (f:=du t.kept) (s:=nS t.kept) rfl (show MG uj W6.drew mb _ _ from HM.o) HnS.o (b:Int) ws mY.o rfl rfl rfl ?_;intro W7 Nd ti;have WZ:=aa Nd;have XZ:=aa ti;clear Nd ti;go_wp2_with fail;go_end0;refine⟨⟨_,rfl⟩,zm.o _ ((aG.refl _ W6).drew.trans (aG.dH XZ.o (fun x _ e=>(Qr e).symm))) ?_⟩;have h1:=WZ.o;have e3:(t.set b n).kept=t.kept.set b (some ws):=by unfold aE.set;simp only;rw[Xd Hws.o.1,Hws.o.2]
  rw[e3,zH _ _ _ Hkl.o,←yy _ _ Hkl.o];rw[gN] at h1;exact h1
theorem U2 (w:Wo) (tb cb mb:Nat) (t:aE) (h:bf w tb cb mb t) (b:Nat):
  Calls prog 228 #[.pointer (some ⟨tb,0,none⟩),.int .i64 b] w fun e w' =>e= .returned (.int .i64 (t.up b).1)∧bf w' tb cb mb (t.up b).2∧aG (TS tb cb mb) w w' :=by
 have HB:=aa (cn w tb t.len _ _ h.x0);have HH:=aa (tW w tb t.len _ _ h.x0 b);have jU:=h.ok.n0;have j5:((t.len:Int)==0)=false:=Xc (by omega);have H:=aa h;unfold aE.up;by_cases hb:t.len≤b
 ·rw[Xo hb];rw[Xe (by omega)] at HH;generalize t.len=n at*;clear h jU hb;go_enter func228,ntmps228;go_wp2_with(first|(go_at_call 98;go_must(refine HB.o.mono ?_);rintro e W2 ⟨rfl,rfl⟩)|(go_at_call 178;go_must(refine HH.o.mono ?_);rintro e W2 ⟨rfl,rfl⟩));go_ret;exact⟨rfl,H.o,aG.refl _ _⟩
 ·rw[Xd hb];have sq:b<t.len:=by omega
  have x0:=h.x0;have x1:=h.at_ sq;have g:=aE.ll h.ok b;have h0:(0:Int)≤b:=by omega
  have h1:(b:Int)<t.len:=by omega
  rw[Xa ⟨h0,h1⟩] at HH;by_cases hc:t.get b=65535
  ·rw[Xo hc];rw[hc] at x1;generalize t.len=n at*;clear h jU hb g;go_enter func228,ntmps228;go_wp2_with(first|(go_at_call 98;go_must(refine HB.o.mono ?_);rintro e W2 ⟨rfl,rfl⟩)|(go_at_call 178;go_must(refine HH.o.mono ?_);rintro e W2 ⟨rfl,rfl⟩));go_ret;exact⟨rfl,H.o,aG.refl _ _⟩
  ·rw[Xd hc];have HS:=aa (Ch w tb cb mb t h b sq (t.get b+1) (by omega));have hw:IntKind.u16.wrap (t.get b+1)=t.get b+1:=by unfold IntKind.wrap;simp[IntKind.signed,IntKind.bits];omega
   have iI:=Xc hc;generalize t.len=n at*;clear h jU hb g;go_enter func228,ntmps228;go_wp2_with(first|(go_at_call 98;go_must(refine HB.o.mono ?_);rintro e W2 ⟨rfl,rfl⟩)|(go_at_call 178;go_must(refine HH.o.mono ?_);rintro e W2 ⟨rfl,rfl⟩)|(go_at_call 179;go_must(refine HS.o.mono ?_);rintro e W2 ⟨⟨v2,rfl⟩,t2,c2⟩;have T2:=aa t2;have C2:=aa c2;clear t2 c2));go_ret;exact⟨rfl,T2.o,C2.o⟩
theorem sa (w:Wo) (tb cb mb:Nat) (t:aE) (h:bf w tb cb mb t) (b:Nat):
  Calls prog 182 #[.pointer (some ⟨tb,0,none⟩),.int .i64 b] w fun e w' =>e= .returned (.int .i64 (t.down b).1)∧bf w' tb cb mb (t.down b).2∧aG (TS tb cb mb) w w' :=by
 have HB:=aa (cn w tb t.len _ _ h.x0);have HH:=aa (tW w tb t.len _ _ h.x0 b);have jU:=h.ok.n0;have j5:((t.len:Int)==0)=false:=Xc (by omega);have H:=aa h;unfold aE.down;by_cases hb:t.len≤b
 ·rw[Xo hb];rw[Xe (by omega)] at HH;generalize t.len=n at*;clear h jU hb;go_enter func182,ntmps182;go_wp2_with(first|(go_at_call 98;go_must(refine HB.o.mono ?_);rintro e W2 ⟨rfl,rfl⟩)|(go_at_call 178;go_must(refine HH.o.mono ?_);rintro e W2 ⟨rfl,rfl⟩));go_ret;exact⟨rfl,H.o,aG.refl _ _⟩
 ·rw[Xd hb];have sq:b<t.len:=by omega
  have x0:=h.x0;have x1:=h.at_ sq;have g:=aE.ll h.ok b;have h0:(0:Int)≤b:=by omega
  have h1:(b:Int)<t.len:=by omega
  rw[Xa ⟨h0,h1⟩] at HH;by_cases hc:t.get b=0
  ·rw[Xo hc];rw[hc] at x1;generalize t.len=n at*;clear h jU hb g;go_enter func182,ntmps182;go_wp2_with(first|(go_at_call 98;go_must(refine HB.o.mono ?_);rintro e W2 ⟨rfl,rfl⟩)|(go_at_call 178;go_must(refine HH.o.mono ?_);rintro e W2 ⟨rfl,rfl⟩));go_ret;exact⟨rfl,H.o,aG.refl _ _⟩
  ·rw[Xd hc];have HS:=aa (Ch w tb cb mb t h b sq (t.get b - 1) (by omega));have hw:IntKind.u16.wrap (t.get b - 1)=t.get b - 1:=by unfold IntKind.wrap;simp[IntKind.signed,IntKind.bits];omega
   have iI:=Xc hc;generalize t.len=n at*;clear h jU hb g;go_enter func182,ntmps182;go_wp2_with(first|(go_at_call 98;go_must(refine HB.o.mono ?_);rintro e W2 ⟨rfl,rfl⟩)|(go_at_call 178;go_must(refine HH.o.mono ?_);rintro e W2 ⟨rfl,rfl⟩)|(go_at_call 179;go_must(refine HS.o.mono ?_);rintro e W2 ⟨⟨v2,rfl⟩,t2,c2⟩;have T2:=aa t2;have C2:=aa c2;clear t2 c2));go_ret;exact⟨rfl,T2.o,C2.o⟩
theorem Jo:(prog.info? 61).map (fun i=>(i.zero,i.size,i.bytes))=some (some (.int .u16 0),1,2):=by kernel_rfl
theorem IZ (n:Nat):(aE.new n).counts.map (Value.int .u16)=List.replicate n (.int .u16 0):=by simp[aE.new]
theorem Cv (w:Wo) (n:Nat) (h0:1≤n) (h1:n≤4096):
  Calls prog 40 #[.int .i64 n] w fun e w' =>∃tb cb mb,e= .returned (.tuple #[.pointer (some ⟨tb,0,none⟩),.int .i64 0])∧bf w' tb cb mb (aE.new n)∧w.heap.size≤tb∧w.heap.size≤cb∧w.heap.size≤mb∧Below w.heap.size w w' :=by
 obtain⟨W1,aW⟩:=eX (w.alloc (.cells (List.replicate n (Value.int .u16 0)).toArray 61));obtain⟨cb,iI⟩:=eX w.heap.size;have yX:(Instr.makeSlice 84 (.int .i64 n) (.int .i64 n)).run prog w= .ok (.slice (some ⟨cb,0,none⟩) n n) W1:=by have:=eV underlying84 Jo (eC .u16 0) (by decide) n (by omega) w;rw[aW,iI];exact this
 have P1:Af (aq W1 cb 61 (List.replicate n (.int .u16 0))):=by show aq _ _ _ _;rw[aW,iI];exact ar _ _ _
 have B1:Af (Below w.heap.size w W1):=by rw[aW];exact aF _ _
 have HC:=aa iI;have H:=dK h0 h1;have g0:¬(n:Int)<1:=by omega
 have g1:¬(4096:Int)<n:=by omega
 have M2:Af (MG uj (W1.alloc (.map #[] 0)) W1.heap.size (fun _=>none) 0):=MG.made W1;have P2:=aa (P1.o.alloc (.map #[] 0));have B2:=aa (B1.o.trans ((aF W1 (.map #[] 0)).mono B1.o.size));have xA:= @run_makeMap prog;clear aW iI h0 h1;go_enter func40,ntmps40;go_wp2_with fail;go_ret2;obtain⟨W2,cE⟩:=eX (W1.alloc (.map #[] 0));rw[←cE] at M2 P2 B2⊢;have hs:W2.heap.size=W1.heap.size+1:=by rw[cE];simp
 have hb:=aF W2 (.cells (wQ (.slice (some ⟨cb,0,none⟩) n n) (.map (some W1.heap.size)) n 0).toArray 187);have hT:bf (W2.alloc (.cells (wQ (.slice (some ⟨cb,0,none⟩) n n) (.map (some W1.heap.size)) n 0).toArray 187)) (W1.heap.size+1) cb W1.heap.size (aE.new n):=by
  refine⟨?_,?_,?_,aE.ab0 H.o.1 H.o.2⟩
  ·have e:(aE.new n).len=n:=by simp[aE.new,aE.len]
   rw[e,←hs];exact ar W2 [_,_,_,_] _
  ·rw[IZ];exact P2.o.on hb
  ·have e:nS (aE.new n).kept=0:=qN n;have e2:du (aE.new n).kept=fun _=>none:=(ko n).symm
   rw[e,e2];exact M2.o.on hb
 exact⟨_,rfl,cb,W1.heap.size,hT,XK B1.o.size,by rw[HC.o];exact Qg _,B1.o.size,B2.o.trans (hb.mono B2.o.size)⟩
theorem DO (p:Int→Bool) (l:List Int):(List.range l.length).countP (fun b=>p (l.getD b 0))=l.countP p:=by
 have e:l=(List.range l.length).map fun b=>l.getD b 0:=by apply List.ext_getElem (by simp);intro i h1 h2;simp[Qe,h1]
 conv=>rhs;rw[e]
 rw[List.countP_map];rfl
theorem aE.ahB (l:List Int) (h0:1≤l.length) (h1:l.length≤4096) (hr:∀c∈l,0≤c∧c≤65535):(aE.of l).Ok:=by
 have k:∀b,(aE.of l).kept.getD b none=none:=fun b=>by unfold aE.of;simp only[Qe,Zr];split<;>rfl
 have ws:∀b,(aE.of l).mE b=l.getD b 0:=fun b=>by unfold aE.mE;rw[k b];rfl
 refine⟨h0,h1,by simp[aE.of,aE.len],hr,fun c hc=>(by cases QJ hc),?_,?_⟩
 ·have h2:(List.range l.length).countP (aE.of l).free=(List.range l.length).countP (fun b=>(fun c=> !decide (0<c)) (l.getD b 0)):=List.countP_congr fun b hb=>by
   have hb:=Zm.1 hb;unfold aE.free;rw[ws b];have hl:(aE.of l).len=l.length:=rfl;have hg:(aE.of l).get b=l.getD b 0:=rfl;rw[hl,hg,Xa hb,Bool.true_and,Bool.and_self];have:0≤l.getD b 0:=by rw[Qe,Qf hb];exact(hr _ (QI hb)).1
   generalize l.getD b 0=c at*;simp;omega
  show(l.length:Int) - _=((List.range l.length).countP (aE.of l).free:Nat);rw[h2,DO (fun c=> !decide (0<c)) l];have h3:=List.length_eq_countP_add_countP (fun c:Int=>decide (0<c)) (l:=l);simp only[Bool.not_eq_true,Bool.decide_eq_false] at h3;omega
 ·show(0:Int)=((List.range l.length).countP (aE.of l).pD:Nat);have:(List.range l.length).countP (aE.of l).pD=0:=List.countP_eq_zero.2 fun b hb=>by unfold aE.pD;rw[ws b];have hg:(aE.of l).get b=l.getD b 0:=rfl;rw[hg];cases(l.getD b 0==0)<;>simp
  rw[this];rfl
theorem Vr (l:List Int) (k:Nat) (x:Int) (hx:l[k]? =some x):(l.take (k+1)).countP (fun c=>decide (0<c))=(l.take k).countP (fun c=>decide (0<c))+if 0<x then 1 else 0:=by
 rw[List.take_add_one,hx,List.countP_append];simp[List.countP_cons]
theorem LS (l:List Int) (k:Nat) (x:Int) (hx:l[k]? =some x):((l.take k).map (Value.int .u16)++List.replicate (l.length - k) (Value.int .u16 0)).set k (.int .u16 x)=(l.take (k+1)).map (Value.int .u16)++List.replicate (l.length - (k+1)) (Value.int .u16 0):=by
 have hk:=(Ql.1 hx).1;have e:l.length - k=(l.length - (k+1))+1:=by omega
 have hl:((l.take k).map (Value.int .u16)).length=k:=by rw[Qq,Qu];omega
 rw[e,List.replicate_succ,ZB _ _ (by rw[hl];exact Qg _),hl,XE,Qd,List.take_add_one,hx,QL];simp
theorem Vs (w:Wo) (B:Nat) (hB:B≤w.heap.size) (v:Va) (l:List Int) (h:Ns w B .u16 v l) (h0:1≤l.length) (h1:l.length≤4096) (hr:∀c∈l,0≤c∧c≤65535):
  Calls prog 52 #[v] w fun e w' =>∃tb cb mb,e= .returned (.tuple #[.pointer (some ⟨tb,0,none⟩),.int .i64 0])∧bf w' tb cb mb (aE.of l)∧w.heap.size≤tb∧w.heap.size≤cb∧w.heap.size≤mb∧Below w.heap.size w w' :=by
 obtain⟨b,o,c,rfl,jb,pk,hbB,aH⟩:=h.cells (by omega);have HN:=aa (Cv w l.length h0 h1);have qe:=aa (aE.ahB l h0 h1 hr);have Hc:Af (∀W,Below w.heap.size w W→∀j,j<l.length→W.cell? ⟨b,o+j,none⟩=some (.int .u16 (l.getD j 0))):=fun W hW j hj=>(hW.cell (p:=⟨b,o+j,none⟩) (show b<w.heap.size by omega)).trans (aH j hj)
 obtain⟨n,hn⟩:=eX l.length;have Hn:=iJ hn (by omega:1≤n) (by omega:n≤4096);rw[←hn] at HN⊢;have j5:(n:Int)≤4096:=by omega
 clear h h0 h1 hr hn aH jb pk hbB hB;go_enter func52,ntmps52;go_wp2_with(go_at_call 40;go_must(refine HN.o.mono ?_);rintro e W1 ⟨tb,cb,mb,rfl,t1,b1,b2,b3,b4⟩;have T1:=aa t1;have B1:=aa b4;have Hlo:Af (w.heap.size≤tb∧w.heap.size≤cb∧w.heap.size≤mb):=⟨b1,b2,b3⟩;clear t1 b1 b2 b3 b4);clear HN;go_loopw [19] (fun i wr=>∃k:Nat,i= .int .i64 k∧Af (k≤n∧aq wr tb 187 (wQ (.slice (some ⟨cb,0,none⟩) n n) (.map (some mb)) ((n:Int) - (l.take k).countP (fun c=>decide (0<c))) 0)∧aq wr cb 61 ((l.take k).map (.int .u16)++List.replicate (l.length - k) (Value.int .u16 0))∧MG uj wr mb (fun _=>none) 0∧Below w.heap.size w wr)) (fun i _=>n - (intOf i).toNat)
 case atStart=>
  have e:(aE.new n).len=n:=by simp[aE.new,aE.len]
  refine⟨0,rfl,Qp _,?_,?_,?_,B1.o⟩
  ·have h:=T1.o.own;rw[e] at h;have h2:aq W1 tb 187 (wQ (.slice (some ⟨cb,0,none⟩) n n) (.map (some mb)) (n:Int) 0):=h;simpa using h2
  ·have h:=T1.o.counts;rw[IZ,Hn.o.1] at h;simpa using h
  ·have h:=T1.o.kept;rw[show nS (aE.new n).kept=0 from qN n,show du (aE.new n).kept=fun _=>none from(ko n).symm] at h;exact h
 case round=>
  obtain⟨k,rfl,HR⟩:=hrel;by_cases aJ:k<n
  ·have hi:(k:Int)<n:=by omega
   have ml:(0:Int)≤k:=by omega
   have bQ:k<l.length:=by have:=Hn.o;omega
   obtain⟨x,hx⟩:=eX (l.getD k 0);have pf:l[k]? =some x:=by rw[hx,Qe,Qf bQ];rfl
   have y0:=Hc.o wr HR.o.2.2.2.2 k bQ;rw[←hx] at y0;obtain⟨x0,-,x2⟩:=ra HR.o.2.1;have xf:=HR.o.2.1.free 2;have hs:=LS l k x pf;have ho:=Vr l k x pf;obtain⟨u,hu⟩:∃u,((l.take k).map (Value.int .u16)++List.replicate (l.length - k) (Value.int .u16 0))[k]? =some u:=⟨_,Qf (by rw[Qo,Qq,Qu,QK];omega)⟩;have z0:=HR.o.2.2.1.cell hu;have zf:=HR.o.2.2.1.free k;have C1:=HR.o.2.2.1.set k (.int .u16 x);rw[hs] at C1;have su:=aa C1;have fq:=iJ (HR.o.2.1.ne HR.o.2.2.1 (by decide)) (HR.o.2.1.bS HR.o.2.2.2.1) (HR.o.2.2.1.bS HR.o.2.2.2.1);have hle:=List.countP_le_length (p:=fun c:Int=>decide (0<c)) (l:=l.take k);rw[Qu] at hle;have nZ:wrap64 ((n:Int) - ((l.take k).countP (fun c=>decide (0<c)):Nat) - 1)=(n:Int) - ((l.take k).countP (fun c=>decide (0<c)):Nat) - 1:=by unfold wrap64;omega
   have fp:wrap64 ((k:Int)+1)=(k:Int)+1:=by unfold wrap64;omega
   obtain⟨q,hq⟩:∃q:Int,q=(n:Int) - ((l.take k).countP (fun c=>decide (0<c)):Nat):=⟨_,rfl⟩;rw[←hq] at nZ x2;have K2:Af (aq (wr.setCell ⟨cb,k,none⟩ (.int .u16 x)) tb 187 (wQ (.slice (some ⟨cb,0,none⟩) n n) (.map (some mb)) q 0)):=by have h:=HR.o.2.1;rw[←hq] at h;exact h.az fq.o.1 _
   have K3:Af (MG uj (wr.setCell ⟨cb,k,none⟩ (.int .u16 x)) mb (fun _=>none) 0):=HR.o.2.2.2.1.az (Xm fq.o.2.2) _;have K4:Af (Below w.heap.size w (wr.setCell ⟨cb,k,none⟩ (.int .u16 x))):=HR.o.2.2.2.2.setCell Hlo.o.2.1 _;have Ho:=aa ho;have Hq:=aa hq;have bj:=aa aJ;have eu:=aa fp;clear hx pf hs ho hu C1 hle hq aJ bQ HR T1;by_cases gd:0<x
   ·have Hx0:=aa gd;have e1:Af (q - 1=(n:Int) - ((l.take (k+1)).countP (fun c=>decide (0<c)):Nat)):=by show _=_;rw[Ho.o,Xo Hx0.o,Hq.o];push_cast;omega
    have k0:=K2.o.cell (j:=2) rfl;have kf:=K2.o.free 2;go_wp2_with fail;go_roundw
    case rel=>refine⟨k+1,by first|rfl|(rw[eu.o];rfl),bj.o,?_,su.o.az (Xm fq.o.1) _,K3.o.az (Xm fq.o.2.1) _,K4.o.setCell Hlo.o.1 _⟩;rw[←e1.o];exact K2.o.set 2 _
    case measure=>first|exact al bj.o|(rw[eu.o];exact al bj.o)
   ·have Hx0:=aa gd;have e1:Af (q=(n:Int) - ((l.take (k+1)).countP (fun c=>decide (0<c)):Nat)):=by show _=_;rw[Ho.o,Xd Hx0.o,Hq.o];push_cast;omega
    go_wp2_with fail;go_roundw
    case rel=>refine⟨k+1,by first|rfl|(rw[eu.o];rfl),bj.o,?_,su.o,K3.o,K4.o⟩;rw[←e1.o];exact K2.o
    case measure=>first|exact al bj.o|(rw[eu.o];exact al bj.o)
  ·obtain rfl:k=n:=by have:=HR.o.1;omega
   go_wp2_with fail;go_ret2;have e1:l.take k=l:=Qj (by have:=Hn.o;omega);have hb:=HR.o;rw[e1] at hb;refine⟨tb,cb,mb,rfl,⟨?_,?_,?_,qe.o⟩,Hlo.o.1,Hlo.o.2.1,Hlo.o.2.2,hb.2.2.2.2⟩
   ·have h:=hb.2.1;have e2:(aE.of l).len=k:=Hn.o.1.symm;rw[e2];rw[show(aE.of l).cY=(k:Int) - ((l.countP fun c=>decide (0<c)):Nat) by rw[Hn.o.1];rfl];exact h
   ·have h:=hb.2.2.1;rw[←Hn.o.1,XE,List.replicate_zero,Zi] at h;exact h
   ·have e3:nS (aE.of l).kept=0:=qN _;have e4:du (aE.of l).kept=fun _=>none:=(ko _).symm
    rw[e3,e4];exact hb.2.2.2.1
end
section
open Go.RowKit Go.Shelf
attribute [local go_sem] Oper.semAt_some
theorem Dn {P:Program} {k:TypeId} {R:Va→Option (DataW Unit×List MemPlace)} {w w' :Wo} {b r n:Nat} {D:DataW Unit} {left:Lit→Bool} {cnt:Nat} (h:w.ranges P k R b r n D left cnt) (hb:KeepsOthers w w'):w'.ranges P k R b r n D left cnt:=by
 obtain⟨es,clock,since,seen,c0,e1,e2,e3,e4,e5,e6⟩:=h;exact⟨es,clock,since,seen,c0,hb.same _ _ e1 rfl,e2,e3,e4,hb.same _ _ e5 rfl,e6⟩
def OkK {K V:Type} (f:K→Option V) (pre:List K) (x:K):Prop:=(x∉pre∧(f x).isSome=true)∧pre.Nodup∧∀z∈pre,(f z).isSome=true
def sL {K V:Type} (f:K→Option V) (pre:List K):Prop:=pre.Nodup∧∀x,x∈pre↔(f x).isSome=true
theorem Lu (w:Wo) (m:Nat):Calls prog 166 #[.map (some m)] w fun e w' =>e= .returned (.func (.func 231) #[] #[.pointer (some ⟨w.heap.size,0,none⟩)])∧w' =w.alloc (.cells #[.map (some m)] 185):=by
 go_enter func166,ntmps166;go_wp2_with fail;go_ret;exact⟨rfl,rfl⟩
theorem RF (n:Nat) (hn:1≤n) (l n0 Bx m s:Nat) (f:Int→Option Int) (J:List Int→Wo→Prop) (W:Wo) (jU:n0≤W.heap.size) (j8:Bx<W.heap.size)
  (hJ:∀pre A C (r:Option Nat),J pre A→A.grownBy C r→(∀j o,r=some j→A.heap[j]? =some o→o.isCells=false∧W.heap.size≤j)→J pre C)
  (hY:∀pre x,OkK f pre x→∀W1,J pre W1→YieldAt Fence.wide (n - 1) prog l #[.int .i64 x] W1 fun e W' =>e= .returned (.bool true)∧J (pre++[x]) W'∧fo n0 Bx W1 W'∧KeepsOthers W1 W')
  (aH:W.cell? ⟨Bx,0,none⟩=some (.map (some m))) (hm:MG uj W m f s) (h0:J [] W):
  CallsIn Fence.wide n prog 231 #[.func (.yield l) #[] #[],.pointer (some ⟨Bx,0,none⟩)] W fun e W' =>(∃v,e= .returned v)∧∃pre,sL f pre∧J pre W' :=by
 obtain⟨D,bN,cz,hD⟩:=hm;have zt:=aa bN;have HD:=aa hD;have HJ:=aa hJ;have HY:=aa hY;have H0:=aa h0;have Hb:=dK jU j8;clear bN hD hJ hY h0 cz jU j8;refine callsIn_of_wp func231 rfl trivial ?_ rfl;simp only[ntmps231,QW,QF,Xq,Nat.reduceAdd,Nat.reduceSub,Xv,Xw,Xx,Xy,QZ,List.cons_append]
 gi_wp2_with (first|(gi_at_range;refine wpListIn_range_own _ rfl _ 185 rfl 3 61 uj.keyed underlying185 _ m s D rfl zt.o ?_;intro w0 agi AV lz))
 go_frame
 have anL:=aa agi;have HJ0:=aa (HJ.o _ _ _ none H0.o AV (fun j o h=>by cases h));have Hs0:=aa lz;clear agi AV lz aH
 gi_loopw [3] (fun _ wr=>∃(pre:List Int) (left:Lit→Bool) (cnt:Nat),Af (wr.ranges prog 3 uj.R m W.heap.size s D left cnt∧pre.Nodup∧(∀x∈pre,(f x).isSome=true)∧(∀x,uj.qY x→left (.int .i64 x)=((f x).isSome&& !pre.contains x))∧J pre wr)) (fun _ wr=>wr.rangeLeft m W.heap.size)
 case atStart=>
  refine⟨[],_,_,anL.o,List.nodup_nil,fun x hx=>(by cases hx),fun x hx=> ?_,HJ0.o⟩;rw[show Maps.has D (.int .i64 x)=_ from HD.o.has x hx];simp
 case round=>
  obtain⟨pre,left,cnt,HR⟩:=hrel;have HRg:=aa HR.o.1
  gi_wp2_with (first|(gi_at_next;refine wpListIn_next_ranges _ rfl _ rfl 3 uj.keyed uj.R (Value.int .i64) (Value.int .u16) (fun key kl hk=>by obtain⟨x,_,e⟩:=uj.sB key kl hk;exact⟨x,e⟩) (fun v y hv=>by obtain⟨c,e,_⟩:=uj.Bm v y hv;exact⟨c,e⟩) m W.heap.size s D _ _ rfl HRg.o ?_ ?_))
  ·intro _ bm
   have Fe:=aa bm;clear bm
   gi_wp2
   go_end0
   refine⟨⟨_,rfl⟩,pre,⟨HR.o.2.1,fun x=>⟨HR.o.2.2.1 x,fun hx=> ?_⟩⟩,HR.o.2.2.2.2⟩;obtain⟨c,hc⟩:=Option.isSome_iff_exists.1 hx;have ec:=HD.o.dom x c hc;have h1:=HR.o.2.2.2.1 x ec;rw[Fe.o,hx] at h1;simpa using h1
  ·intro x c kl y ps w1 avU ir SG hv kJ agh aJ SN Ip hen
   have ec:uj.qY x:=by
    obtain⟨x',We,e⟩:=uj.sB _ _ ir;have e2:=uj.Bn x x' e;rw[e2];exact We
   obtain rfl:kl= .int .i64 x:=Qr (ir.symm.trans (uj.ir x ec));have xx:=HR.o.2.2.2.1 x ec;rw[SG] at xx;have hx2:(f x).isSome=true∧x∉pre:=by
    have h:=xx.symm;rw[XR] at h;exact⟨h.1,by simpa using h.2⟩
   have hJ1:J pre w1:=HJ.o _ _ _ (some W.heap.size) HR.o.2.2.2.2 SN (fun j o hj ho=>by
    cases hj
    obtain⟨es,clock,since,seen,c0,e1,e2,e3,e4,e5,e6⟩:=HRg.o;rw[e5] at ho
    cases ho
    exact⟨rfl,Qg _⟩)
   have Hy:=aa (HY.o pre x ⟨⟨hx2.2,hx2.1⟩,HR.o.2.1,HR.o.2.2.1⟩ w1 hJ1);have anK:=aa agh;have bj:=aa aJ;have Hx:=aa hx2;clear ir SG hv kJ agh aJ SN Ip ec xx hx2 hJ1
   gi_upto_region 3 with fail
   obtain⟨fn,tmps,assign,bd,hy,Nr⟩:=Hy.o
   gi_wp2
   refine Nr.mono ?_;rintro e W3 ⟨rfl,Nu,jW,hk3⟩;have HJ3:=aa Nu;have ag8:=aa (Dn anK.o hk3);clear hy Nr Nu jW hk3 hen
   gi_wp2
   go_roundw
   case rel=>
    refine⟨pre++[x],_,_,ag8.o,?_,fun z hz=> ?_,fun z hz=> ?_,HJ3.o⟩
    ·rw[List.nodup_append]
     exact⟨HR.o.2.1,by simp,fun a ha b hb=>by rw[Qx] at hb;subst hb;exact fun e=>Hx.o.2 (e▸ha)⟩
    ·rcases Qz.1 hz with h|h
     ·exact HR.o.2.2.1 z h
     ·rw[Qx] at h;subst h;exact Hx.o.1
    ·rw[HR.o.2.2.2.1 z hz]
     by_cases hzx:z=x
     ·subst hzx
      rw[show(Lit.int .i64 z).sameKey (.int .i64 z)=true from WideAt.sameKey_self (uj.isKey hz)];simp
     ·have h1:(Lit.int .i64 z).sameKey (.int .i64 x)=false:=by
       cases hs:(Lit.int .i64 z).sameKey (.int .i64 x)
       ·rfl
       ·exact absurd (WideAt.sameKey_eq hs) (fun e=>hzx (by simpa using e))
      rw[h1];simp[hzx]
   case measure=>rw[ag8.o.left_eq,HRg.o.left_eq];exact bj.o
end
section
open Go.RowKit Go.Shelf Go.Sort
attribute [local go_sem] Oper.semAt_some
variable {w w' : Wo} {v : Va} {r : Option Nat}
theorem iE:(prog.info? 3).map (fun i=>(i.zero,i.size,i.bytes))=some (some (.int .i64 0),1,8):=by kernel_rfl
def IY {V:Type} (gf Bx:Nat) (f:Int→Option V) (P0:Wo→Prop):Prop:=
 ∀(n l n0:Nat) (J:List Int→Wo→Prop) (W:Wo),1≤n→n0≤W.heap.size→Bx<W.heap.size→
  (∀pre A C (r:Option Nat),J pre A→A.grownBy C r→(∀j o,r=some j→A.heap[j]? =some o→o.isCells=false∧W.heap.size≤j)→J pre C)→
  (∀pre x,OkK f pre x→∀W1,J pre W1→YieldAt Fence.wide (n - 1) prog l #[.int .i64 x] W1 fun e W' =>e= .returned (.bool true)∧J (pre++[x]) W'∧fo n0 Bx W1 W'∧KeepsOthers W1 W')→
  P0 W→J [] W→CallsIn Fence.wide n prog gf #[.func (.yield l) #[] #[],.pointer (some ⟨Bx,0,none⟩)] W fun e W' =>(∃v,e= .returned v)∧∃pre,sL f pre∧J pre W'
theorem Dr {b:Nat} {e:TypeId} {k:Nat} {xs:List Va} (h:w.ownsRow b e 1 v k xs) (hg:w.grownBy w' r) (hr:∀j o,r=some j→w.heap[j]? =some o→o.isCells=false):w'.ownsRow b e 1 v k xs:=by
 refine h.kept hg ?_;rcases h.2 with⟨rfl,_⟩|⟨g,cap,cur,rfl,_,hb,_⟩
 ·exact .inl rfl
 ·refine .inr fun e=> ?_
  have h1:=hr g _ e.symm hb;cases h1
theorem xo {B:Nat} {t:TypeId} (h:Boxed w B t v) (hg:w.grownBy w' r) (hr:∀j o,r=some j→w.heap[j]? =some o→o.isCells=false):Boxed w' B t v:=by
 refine(hg.block B h.lt fun e=> ?_).trans h;have h1:=hr B _ e.symm h;cases h1
theorem xq {n:Nat} {w0:Wo} (h:Below n w0 w) (hn:n≤w0.heap.size) (hg:w.grownBy w' r) (hr:∀j o,r=some j→w.heap[j]? =some o→n≤j):Below n w0 w' :=by
 refine h.grown hg (Qh hn h.size) fun k hk=> ?_
 by_cases aJ:k<w.heap.size
 ·exact hr k _ hk (Xu aJ)
 ·exact Qh (Qh hn h.size) (QC aJ)
theorem xt {V:Type} (w:Wo) (gf Bx:Nat) (f:Int→Option V) (P0:Wo→Prop) (hF:Fence.wide.fn gf) (eg:∀args w,(callFunc gf args).run prog w= .ok (.enter gf args) w) (hI:IY gf Bx f P0) (j8:Bx<w.heap.size) (hP:∀W,Below w.heap.size w W→P0 W) (hlen:∀pre x,OkK f pre x→pre.length≤5000):
  Calls prog 232 #[.slice none 0 0,.func (.func gf) #[] #[.pointer (some ⟨Bx,0,none⟩)]] w fun e w' =>∃v pre,e= .returned v∧sL f pre∧aB w' w.heap.size 3 .i64 v pre∧Below w.heap.size w w' :=by
 obtain⟨W0,aY⟩:=eX (w.alloc (.cells #[.slice none 0 0] 34));obtain⟨X,hX⟩:=eX w.heap.size;have K0:Af (Boxed W0 X 34 (.slice none 0 0)):=by show Boxed _ _ _ _;rw[aY,hX];exact Boxed.new w _ _
 have B0:Af (Below w.heap.size w W0):=by rw[aY];exact aF _ _
 have HX:=kH hX K0.o.lt j8 (Qn j8 B0.o.size);have HI:=aa hI;have HP:=aa hP;have HL:=aa hlen;have HE:=aa eg;have HF:=aa hF;have HW:=aa aY.symm;have Hx:=aa hX.symm;clear aY hX hI hP hlen j8 eg hF;refine(callsIn_wide (n:=3)).1 ?_;refine callsIn_of_wp_marks func232 rfl trivial ?_ rfl;simp only[ntmps232,QW,QF,Xq,Nat.reduceAdd,Nat.reduceSub,Xv,Xw,Xx,Xy,QZ,List.cons_append];refine wpIn_wide.2 ?_;go_upto_region 1 with fail
 rw[HW.o,Hx.o];go_wp2_with fail;refine(wpIn_wide (n:=3)).1 ?_;refine KN (P:=prog) rfl (by decide) (gf:=gf) (lb:= #[.pointer (some ⟨Bx,0,none⟩)]) rfl HF.o HE.o (fun y:Int=> #[.int .i64 y]) (fun _=>rfl)
  w.heap.size Bx B0.o.size HX.o.2.2.2 (OkK f) (sL f)
  (fun pre W=>(∃u,Boxed W X 34 u∧aB W w.heap.size 3 .i64 u pre)∧Below w.heap.size w W)
  ?h0 ?hIr ?hIk ?hit (fun y=>{tmps:= #[.slice none 0 0,.func (.func gf) #[] #[.pointer (some ⟨Bx,0,none⟩)],.pointer (some ⟨X,0,none⟩),undef,.slice none 0 0,.int .i64 y,.func (.func gf) #[] #[.pointer (some ⟨Bx,0,none⟩)],.int .i64 y,undef,undef,undef,undef,undef],defers:=[]}) ?assign ?body ?done
 case h0=>exact fun W hW=>⟨⟨_,(hW.block _ HX.o.2.1).trans K0.o,cQ _ _ _ _⟩,B0.o.trans (hW.mono B0.o.size)⟩
 case hIr=>
  rintro pre W l ob Y8 ⟨⟨u,h1,h2⟩,h3⟩ hl AS Ec;have hlX:X≠l:=by have:=HX.o;omega
  exact⟨⟨u,(World.putObj_heap_other hlX).trans h1,ownsRow_putObj h2 _ AS Ec⟩,h3.trans (fM W l Y8 (by have:=B0.o.size;omega))⟩
 case hIk=>rintro pre A C r ⟨⟨u,h1,h2⟩,h3⟩ hg hr;exact⟨⟨u,xo h1 hg (fun j o hj ho=>(hr j o hj ho).1),Dr h2 hg (fun j o hj ho=>(hr j o hj ho).1)⟩,xq h3 (Qg _) hg (fun j o hj ho=>Qh B0.o.size (hr j o hj ho).2)⟩
 case hit=>intro l J W hW hJ hY Iu;exact HI.o 2 l w.heap.size J W (by decide) (Qh B0.o.size hW.size) (Qn HX.o.2.2.2 hW.size) hJ hY (HP.o W (B0.o.trans (hW.mono B0.o.size))) Iu
 case assign=>
  intro l y W K hK
  gi_wp2
  exact hK
 case body=>
  rintro l pre y ec W ⟨⟨u,h1,h2⟩,h3⟩ cz;have H1:=aa h1;have H2:=aa h2;have H3:=aa h3;have uk:=aa cz;have za:=aa (HL.o pre y ec);obtain⟨Au,nu,cu,hu⟩:=aB.bu (show aB W w.heap.size 3 .i64 u pre from h2);clear h1 h2 h3 cz ec;obtain⟨i0,hi,oI,mM,xw⟩:=info_parts iE;have oN:=aa (fun (v' :Va) (w1:Wo) (a:w1.ownsRow w.heap.size 3 1 v' (pre.length+1) (pre.map (.int .i64)++[.int .i64 y])) (g:(W.alloc (.cells #[.int .i64 y] 3)).grownBy w1 u.ownBlock)=>Dd (Bx:=Bx) (by decide) H1.o H2.o a g (by have:=B0.o.size;have:=uk.o;omega) (by have:=HX.o;omega) (by have:=HX.o;omega) (by have:=HX.o;have:=uk.o;omega) (fun e=>by have h1:=(Xr H2.o Bx e).1;have:=HX.o;omega))
  have q9:=H1.o.cell;have qf:=H1.o.frozen;subst hu
  gi_wp2_with (gi_at_builtin;go_must(refine wpListIn_append_own _ rfl _ _ 34 rfl w.heap.size 3 i0 (.int .i64 0) 1 8 underlying34 hi oI mM xw rfl (by decide) _ _ _ rfl (aS H2.o (aF _ _)) ⟨W.heap.size,0,none⟩ 1 1 [.int .i64 y] rfl rfl (cell_one_new _ _ _) (by simp[Value.oneCell']) (by have:=za.o;unfold maxLen;omega) (by have:=za.o;omega) (by have:=B0.o.size;have:=uk.o;simp;omega) ?_);intro v' w1 ng BJ _;obtain⟨g',rr,rfl⟩:=ownsRow_succ ng;have F:=aa (oN.o _ _ ng BJ);have iI:=F.o.1.cell;have wB:=F.o.1.frozen;clear ng BJ)
  obtain⟨f1,f2,f3,f4,f5,f6⟩:=F.o;refine⟨f4,f5,⟨_,f2,?_⟩,H3.o.trans f6⟩;unfold aB;rw[Qo,QL];exact f3
 case done=>rintro D W pre hD kV ⟨⟨u,h1,h2⟩,h3⟩ hK;have q9:=h1.cell;have H1:=aa h1;have H2:=aa h2;have H3:=aa h3;have HD:=aa hD;have HK:=aa hK;have Hdn:=aa kV;obtain⟨Au,nu,cu,hu⟩:=H2.o.bu;subst hu;clear h1 h2 h3 hD hK kV;go_wp2_with fail;refine⟨by simp,.inl ⟨_,_,rfl,run_takeDeferred HK.o,?_⟩⟩;refine⟨_,results_tmp (t:=4) rfl _ _ _,.slice Au nu cu,pre,rfl,Hdn.o,ownsRow_putObj H2.o _ HK.o rfl,H3.o.trans (fM W D _ (by have:=B0.o.size;have:=HD.o;omega))⟩
end
end Go.Proofs.YthgdhacopamklaaGreat

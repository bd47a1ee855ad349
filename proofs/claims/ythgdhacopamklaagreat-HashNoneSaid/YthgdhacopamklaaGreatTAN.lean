/- What HashNone asks, part 14 of 41: parts of the walks and laws, each true as it stands. -/
import Derived.Test.YthgdhacopamklaaGreatTAM
set_option maxHeartbeats 16000000
set_option maxRecDepth 100000
set_option linter.unusedVariables false
set_option linter.unusedSimpArgs false
namespace Go.Proofs.YthgdhacopamklaaGreat
open Go.Proofs.Tryz
section
open Go.RowKit
variable {S : Nat → Prop} {fr : List (Option (List Int))} {k x : aN} {i slot : Nat} {br : Bool}
def Ud:MK Int (Option (Nat×Nat)) where
 mt:=37
 kt:=3
 vt:=87
 xz:=underlying37
 keyed:=Maps.int_keyed underlying3
 kv:= .int .i64
 kl:= .int .i64
 qY:=fun x=>(Lit.int .i64 x).wf=true
 ir:=fun x h=>Maps.keyOf_int_mk underlying3 h
 Bn:=fun x y h=>by simpa using h
 sB:=fun v l h=>by
  obtain⟨y,e1,e2,e3⟩:=Maps.keyOf_int_inv underlying3 h;exact⟨y,e3,e1⟩
 vv:=sw
 Ix:=nt
 R:=RS
 MZ:=ahP
 Bm:=acC
 zo:=acD
 zero:=none
 hz:=fun w=>by kernel_rfl
structure bF where
 b:Nat
 d:Nat
 pl:Nat
 tb:Nat
 cb:Nat
 mb:Nat
 pb:Nat
 fb:Nat
def BS (I:bF):Nat→Prop:=fun x=>x=I.b∨x=I.d∨x=I.pl∨x=I.tb∨x=I.cb∨x=I.mb∨x=I.pb∨x=I.fb
def ni (I:bF) (pv dv:Va) (x k:aN) (slot:Nat) (broken:Bool):List Va:=
 [.pointer (some ⟨I.d,0,none⟩),.pointer (some ⟨I.tb,0,none⟩),.pointer (some ⟨I.pb,0,none⟩),pv,dv,.map (some I.fb)]++aP x++aP k++[.int .i64 slot,.bool broken]
structure Yj (s:aX):Prop where
 bl:s.bl.length=s.t.len
 fr:s.fresh.length=s.t.len
 pg:(s.ag.length:Int)=aR s.t.len
 dg:(s.au.length:Int)=aR s.ag.length
 rg:∀x∈s.ag++s.au,0≤x∧x<s.t.len
 n2:2≤s.next
 nl:s.next≤s.t.len
 sup:bM s.eO
 kep:bM s.kept
 slot:s.slot≤1
 fd:∀data,some data∈s.fresh→data.length=128∧∀x∈data,aI x
def jf (l:List (Option (Nat×Nat))):List (Option (Option (Nat×Nat))):=l.map (·.map some)
def df (w:Wo) (I:bF) (ps:List (Option (Nat×Nat))) (fr:List (Option (List Int))):Prop:=
 ps.length=fr.length∧∀i,(ps.getD i none=none∧fr.getD i none=none)∨∃g c data,ps.getD i none=some (g,c)∧fr.getD i none=some data∧Bs w w.heap.size (sw (some (g,c))) data∧¬BS I g∧data.length=128
structure dB (w:Wo) (I:bF) (s:aX) (pv dv:Va) (ps:List (Option (Nat×Nat))):Prop where
 own:aq w I.b 43 (ni I pv dv s.eO s.kept s.slot s.broken)
 ag:Ns w w.heap.size .i64 pv s.ag
 ed:Ap (BS I) pv
 au:Ns w w.heap.size .i64 dv s.au
 fT:Ap (BS I) dv
 jg:MG Ud w I.fb (du (jf ps)) (nS (jf ps))
 kz:df w I ps s.fresh
structure cR (w:Wo) (I:bF) (s:aX):Prop where
 cells:∃pv dv ps,dB w I s pv dv ps
 dM:cF w I.d I.pl s.bl
 fh:bf w I.tb I.cb I.mb s.t
 pick:aq w I.pb 189 (iX I.tb 2 s.next)
 mf:I.mb≠I.fb
 ok:Yj s
section
variable {w w' : Wo} {I : bF} {s : aX}
theorem df.aL {ps:List (Option (Nat×Nat))} (h:df w I ps fr) (hc:aG S w w') (hS:∀x,S x→BS I x):df w' I ps fr:=
 ⟨h.1,fun i=>(h.2 i).imp id fun ⟨g,c,data,h1,h2,h3,h4,h5⟩=>⟨g,c,data,h1,h2,⟨(h3.1.aL hc (Qg _) (jD fun e=>h4 (hS _ e))).more hc.size,h3.2⟩,h4,h5⟩⟩
theorem dB.aL {pv dv:Va} {ps:List (Option (Nat×Nat))} (h:dB w I s pv dv ps) (hc:aG S w w') (hS:∀x,S x→BS I x) (h1:¬S I.b) (h2:¬S I.fb):dB w' I s pv dv ps:=
 ⟨h.own.aL hc h1,Sl.more (Sl.aL h.ag hc (Qg _) (h.ed.mono hS)) hc.size,h.ed,Sl.more (Sl.aL h.au hc (Qg _) (h.fT.mono hS)) hc.size,h.fT,h.jg.aL hc h2,h.kz.aL hc hS⟩
theorem cR.on (h:cR w I s) (hb:Below w.heap.size w w'):cR w' I s:=by
 obtain⟨pv,dv,ps,hc⟩:=h.cells;exact⟨⟨pv,dv,ps,hc.aL (S:=fun _=>False) (aG.aZ hb) (fun _ e=>e.elim) id id⟩,h.dM.on hb,h.fh.on hb,h.pick.on hb,h.mf,h.ok⟩
theorem cR.lt (h:cR w I s):∀x,BS I x→x<w.heap.size:=by
 obtain⟨pv,dv,ps,hc⟩:=h.cells;intro x hx;rcases hx with e|e|e|e|e|e|e|e<;>subst e
 ·exact hc.own.lt
 ·exact h.dM.own.lt
 ·exact h.dM.eP.lt
 ·exact h.fh.own.lt
 ·exact h.fh.counts.lt
 ·exact h.fh.kept.lt
 ·exact h.pick.lt
 ·exact hc.jg.lt
theorem cR.n0 (h:cR w I s):16≤s.t.len∧s.t.len≤4096:=by
 have h0:=h.dM.n0;have h1:=h.dM.n1;rw[h.ok.bl] at h0 h1;exact⟨h0,h1⟩
end
theorem Sn {I:bF} {pv dv:Va} (h:bM x) (hk:bM k):(ni I pv dv x k slot br)[43]? =some (.bool br):=by
 unfold ni;rw[QM (by simp[bK h,bK hk])];simp[bK h,bK hk]
theorem Mo {I:bF} {pv dv:Va} (h:bM x) {j:Nat} (hj:j<18):(ni I pv dv x k slot br)[6+j]? =(aP x)[j]? :=by
 unfold ni;rw[QN (by simp[bK h];omega),QN (by simp[bK h];omega),QM (by simp)];simp
section
variable {w : Wo} {I : bF} {s : aX} {pv dv : Va} {ps : List (Option (Nat × Nat))}
theorem dB.x0 (h:dB w I s pv dv ps):w.cell? ⟨I.b,0,none⟩=some (.pointer (some ⟨I.d,0,none⟩)):=h.own.cell rfl
theorem dB.x1 (h:dB w I s pv dv ps):w.cell? ⟨I.b,1,none⟩=some (.pointer (some ⟨I.tb,0,none⟩)):=h.own.cell rfl
theorem dB.x2 (h:dB w I s pv dv ps):w.cell? ⟨I.b,2,none⟩=some (.pointer (some ⟨I.pb,0,none⟩)):=h.own.cell rfl
theorem dB.x5 (h:dB w I s pv dv ps):w.cell? ⟨I.b,5,none⟩=some (.map (some I.fb)):=h.own.cell rfl
end
section
variable {w : Wo} {I : bF} {s : aX}
theorem cR.x0 (h:cR w I s):w.cell? ⟨I.b,0,none⟩=some (.pointer (some ⟨I.d,0,none⟩)):=by obtain⟨pv,dv,ps,hc⟩:=h.cells;exact hc.x0
theorem cR.x1 (h:cR w I s):w.cell? ⟨I.b,1,none⟩=some (.pointer (some ⟨I.tb,0,none⟩)):=by obtain⟨pv,dv,ps,hc⟩:=h.cells;exact hc.x1
theorem cR.x2 (h:cR w I s):w.cell? ⟨I.b,2,none⟩=some (.pointer (some ⟨I.pb,0,none⟩)):=by obtain⟨pv,dv,ps,hc⟩:=h.cells;exact hc.x2
theorem cR.x5 (h:cR w I s):w.cell? ⟨I.b,5,none⟩=some (.map (some I.fb)):=by obtain⟨pv,dv,ps,hc⟩:=h.cells;exact hc.x5
theorem cR.JB (h:cR w I s):w.cell? ⟨I.b,43,none⟩=some (.bool s.broken):=by obtain⟨pv,dv,ps,hc⟩:=h.cells;exact hc.own.cell (Sn h.ok.sup h.ok.kep)
theorem nC (h:bM x) (hi:i<8):(aP x)[2+i]? =some (.int .u32 (x.roots.getD i 0)):=by
 unfold aP;rw[show 2+i=i+1+1 by omega,List.getElem?_cons_succ,List.getElem?_cons_succ,QN (by rw[Qq,h.r8];exact hi),Qt,Qe,Qf (by rw[h.r8];exact hi)];rfl
theorem cR.root (h:cR w I s) (hi:i<8):w.cell? ⟨I.b,8+i,none⟩=some (.int .u32 (s.root i)):=by
 obtain⟨pv,dv,ps,hc⟩:=h.cells;refine hc.own.cell ?_;rw[show 8+i=6+(2+i) by omega,Mo h.ok.sup (by omega),nC h.ok.sup hi];rfl
end
def JQ (w:Wo) (v:Va):Prop:=v= .pointer none∨∃b,v= .pointer (some ⟨b,0,none⟩)∧w.cell? ⟨b,1,none⟩=some (.pointer none)
theorem JQ.on {w w' :Wo} {v:Va} (h:JQ w v) (hl:∀b,v= .pointer (some ⟨b,0,none⟩)→b<w.heap.size) (hb:Below w.heap.size w w'):JQ w' v:=h.imp id fun ⟨b,e,h1⟩=>⟨b,e,(hb.cell (p:=⟨b,1,none⟩) (hl b e)).trans h1⟩
theorem fK (w:Wo) (b t:Nat) (h:w.cell? ⟨b,1,none⟩=some (.pointer (some ⟨t,0,none⟩))):
  Calls prog 76 #[.pointer (some ⟨b,0,none⟩)] w fun e w' =>e= .returned (.bool false)∧w=w' :=by
 go_enter func76,ntmps76;go_wp2_with fail;go_ret;exact⟨rfl,rfl⟩
theorem Rp (w:Wo) (v:Va) (h:JQ w v):
  Calls prog 76 #[v] w fun e w' =>e= .returned (.bool true)∧w=w' :=by
 rcases h with rfl|⟨b,rfl,h⟩
 ·go_enter func76,ntmps76;go_wp2_with fail;go_ret;exact⟨rfl,rfl⟩
 ·go_enter func76,ntmps76;go_wp2_with fail;go_ret;exact⟨rfl,rfl⟩
theorem vW (w:Wo) (v:Va) (h:JQ w v):
  Calls prog 60 #[v] w fun e w' =>e= .returned (.int .i64 0)∧w=w' :=by
 have H:=aa (Rp w v h);have hv:∃a,v= .pointer a:=by rcases h with rfl|⟨b,rfl,-⟩<;>exact⟨_,rfl⟩
 obtain⟨a,rfl⟩:=hv;clear h;go_enter func60,ntmps60;go_wp2_with(go_at_call 76;go_must(refine H.o.mono ?_);rintro e W2 ⟨rfl,rfl⟩);go_ret;exact⟨rfl,rfl⟩
theorem dI (w:Wo) (I:bF) (s:aX) (h:cR w I s):
  Calls prog 60 #[.pointer (some ⟨I.b,0,none⟩)] w fun e w' =>e= .returned (.int .i64 s.t.len)∧w=w' :=by
 have x1:=h.x1;have H:=aa (fK w I.b I.tb x1);have H2:=aa (cn w I.tb s.t.len _ _ h.fh.x0);clear h;go_enter func60,ntmps60;go_wp2_with(first
  |(go_at_call 76;go_must(refine H.o.mono ?_);rintro e W2 ⟨rfl,rfl⟩)
  |(go_at_call 98;go_must(refine H2.o.mono ?_);rintro e W2 ⟨rfl,rfl⟩))
 go_ret;exact⟨rfl,rfl⟩
theorem nJ (w:Wo) (I:bF) (s:aX) (h:cR w I s):
  Calls prog 83 #[.pointer (some ⟨I.b,0,none⟩)] w fun e w' =>e= .returned (.int .i64 s.may)∧w=w' :=by
 have H:=aa (fK w I.b I.tb h.x1);have JB:=h.JB;unfold aX.may;cases hb:s.broken with
 |true=>
  rw[hb] at JB;rw[Xo rfl];clear h hb;go_enter func83,ntmps83;go_wp2_with(go_at_call 76;go_must(refine H.o.mono ?_);rintro e W2 ⟨rfl,rfl⟩);go_ret;exact⟨rfl,rfl⟩
 |false=>
  rw[hb] at JB;rw[Xd (by decide)];clear h hb;go_enter func83,ntmps83;go_wp2_with(go_at_call 76;go_must(refine H.o.mono ?_);rintro e W2 ⟨rfl,rfl⟩);go_ret;exact⟨rfl,rfl⟩
theorem DT (w:Wo) (I:bF) (s:aX) (h:cR w I s):
  Calls prog 127 #[.pointer (some ⟨I.b,0,none⟩)] w fun e w' =>e= .returned (.bool s.broken)∧w=w' :=by
 have H:=aa (fK w I.b I.tb h.x1);have JB:=h.JB;clear h;go_enter func127,ntmps127;go_wp2_with(go_at_call 76;go_must(refine H.o.mono ?_);rintro e W2 ⟨rfl,rfl⟩);go_ret;exact⟨rfl,rfl⟩
theorem aX.FL {s:aX} (h:bM s.eO) (i:Nat) (hi:i<8):0≤s.root i∧s.root i<4294967296:=by
 have:s.root i=s.eO.roots[i]'(by rw[h.r8];exact hi):=by unfold aX.root;rw[Qe,Qf (by rw[h.r8];exact hi)];rfl
 rw[this];exact h.r _ (QI _)
theorem ot (w:Wo) (I:bF) (s:aX) (h:cR w I s) (i:Nat) (hi:i<8):
  Calls prog 70 #[.pointer (some ⟨I.b,0,none⟩),.int .i64 i] w fun e w' =>e= .returned (.int .i64 (s.root i))∧w=w' :=by
 have H:=aa (fK w I.b I.tb h.x1);have xr:=h.root hi;have hr:=aX.FL h.ok.sup i hi;have h0:(0:Int)≤i:=by omega
 have h1:(i:Int)<8:=by omega
 have hw:IntKind.i64.wrap (s.root i)=s.root i:=by unfold IntKind.wrap;simp[IntKind.signed,IntKind.bits];omega
 generalize s.root i=r at*;clear h hr;go_enter func70,ntmps70;go_wp2_with(go_at_call 76;go_must(refine H.o.mono ?_);rintro e W2 ⟨rfl,rfl⟩);go_ret;exact⟨rfl,rfl⟩
theorem Ai (w:Wo) (I:bF) (s:aX) (h:cR w I s) (b:Int):
  Calls prog 34 #[.pointer (some ⟨I.b,0,none⟩),.int .i64 b] w fun e w' =>e= .returned (.int .i64 (if 0≤b then s.t.get b.toNat else 0))∧w=w' :=by
 have x1:=h.x1;have H:=aa (fK w I.b I.tb x1);have H2:=aa (qH w I.tb I.cb I.mb s.t h.fh b);generalize (if 0≤b then s.t.get b.toNat else 0)=r at*;clear h;go_enter func34,ntmps34;go_wp2_with(first
  |(go_at_call 76;go_must(refine H.o.mono ?_);rintro e W2 ⟨rfl,rfl⟩)
  |(go_at_call 95;go_must(refine H2.o.mono ?_);rintro e W2 ⟨rfl,rfl⟩))
 go_ret;exact⟨rfl,rfl⟩
theorem Cs (ps:List (Option (Nat×Nat))) (b:Nat):(jf ps).getD b none=(ps.getD b none).map some:=by
 unfold jf;rw[Qe,Qt,Qe];cases ps[b]? with
 |none=>rfl
 |some o=>rfl
theorem df.isS {w:Wo} {I:bF} {ps:List (Option (Nat×Nat))} (h:df w I ps fr) (b:Nat):(ps.getD b none).isSome=(fr.getD b none).isSome:=by
 rcases h.2 b with⟨h1,h2⟩|⟨g,c,data,h1,h2,-⟩<;>rw[h1,h2]<;>rfl
theorem vM (w:Wo) (I:bF) (s:aX) (h:cR w I s) (b:Nat) (hb:b<100000):
  Calls prog 67 #[.pointer (some ⟨I.b,0,none⟩),.int .i64 b] w fun e w' =>e= .returned (.bool (s.ik b))∧w=w' :=by
 have x5:=h.x5;have H:=aa (fK w I.b I.tb h.x1);obtain⟨pv,dv,ps,hc⟩:=h.cells;have hl:=hc.jg.look (x:=(b:Int)) (mo (by omega));rw[gN,Cs,Option.isSome_map,hc.kz.isS] at hl;unfold aX.ik;generalize (s.fresh.getD b none).isSome=r at*;generalize Ud.vv _=v at hl;clear h hc;go_enter func67,ntmps67;have rf:(Instr.lookup 37 (.map (some I.fb)) (.int .i64 b) true).run prog w= .ok (.tuple #[v,.bool r]) w:=hl;clear hl;go_wp2_with(go_at_call 76;go_must(refine H.o.mono ?_);rintro e W2 ⟨rfl,rfl⟩);go_ret;exact⟨rfl,rfl⟩
theorem cR.FP {w:Wo} {I:bF} {s:aX} (h:cR w I s): -5000≤s.t.room 2∧s.t.room 2≤4096:=by
 have h1:=h.fh.ok.frees_le;have h2:=mD (fun b=>s.t.free b) 2;unfold aE.room;omega
theorem Dx {n:Nat} (h0:16≤n) (h1:n≤4096):0≤kU n∧kU n≤100:=by
 unfold kU aR;split
 ·omega
 ·rw[Xd (by omega)];omega
theorem ou (w:Wo) (I:bF) (s:aX) (h:cR w I s):
  Calls prog 23 #[.pointer (some ⟨I.b,0,none⟩)] w fun e w' =>e= .returned (.int .i64 s.room)∧w=w' :=by
 have x2:=h.x2;have H:=aa (fK w I.b I.tb h.x1);have HB:=aa (dI w I s h);have hn:=h.n0;have HP:=aa (xY w I.pb I.tb I.cb I.mb 2 s.next s.t h.pick h.fh (by omega));have HN:=aa (Cy w s.t.len (by omega) hn.2);have e:s.room=max (s.t.room 2 - kU s.t.len) 0:=rfl;have r1:=h.FP;have r2:=Dx hn.1 hn.2;have hw:wrap64 (s.t.room 2 - kU s.t.len)=s.t.room 2 - kU s.t.len:=by unfold wrap64;omega
 rw[e];generalize s.t.room 2=r at*;generalize kU s.t.len=k at*;clear h hn e r1 r2;go_enter func23,ntmps23;go_wp2_with(first
  |(go_at_call 76;go_must(refine H.o.mono ?_);rintro e W2 ⟨rfl,rfl⟩)
  |(go_at_call 77;go_must(refine HP.o.mono ?_);rintro e W2 ⟨rfl,rfl⟩)
  |(go_at_call 60;go_must(refine HB.o.mono ?_);rintro e W2 ⟨rfl,rfl⟩)
  |(go_at_call 78;go_must(refine HN.o.mono ?_);rintro e W2 ⟨rfl,rfl⟩))
 go_ret;exact⟨rfl,rfl⟩
end
section
open Go.RowKit
variable {B base : Nat} {v vx : Va}
theorem VD:(prog.info? 5).map (fun i=>(i.zero,i.size,i.bytes))=some (some (.int .u8 0),1,1):=by kernel_rfl
theorem acb:(prog.info? 68).map (fun i=>(i.zero,i.size,i.bytes))=some (some (.agg #[.int .u64 0,.int .u32 0]),2,16):=by kernel_rfl
theorem yJ (es:List aD):∀u∈es.flatMap dC,u.oneCell' =true:=by
 intro u hu;obtain⟨e,-,he⟩:=QT.1 hu;exact qQ _ _ u he
section
variable {ops : Array Oper} {w : Wo} {Q : Exit → Act → Wo → Prop} {a : Act} {rest : List Oper} {dst : Option Tmp} {os ox : Operand} {ty : TypeId} {pos : String} {after : Array Edge}
theorem wl_append_y {xs:List Int} (bN:kR w base v xs) {ys:List Int} (hx:Bs w B vx ys)
  (hb:xs.length+ys.length≤1000000) (ey:base≤w.heap.size) (hs:a.eval os=v) (AM:a.eval ox=vx)
  (hK:∀v' w',kR w' base v' (xs++ys)→w.grownBy w' v.ownBlock→wpList prog ops Q rest (a.put dst v') w'):
  wpList prog ops Q (⟨dst,.call {callee:= .builtin .append,args:= #[os,ox],argTypes:= #[87,87]},ty,pos,after,none⟩::rest) a w:=
 wl_append base 87 5 _ 1 1 underlying87 VD rfl (by omega) v xs.length _ bN vx ys.length _ hx.1 (dW .u8 ys) (by unfold maxLen;omega) (by omega) ey hs AM
  (fun v' w' h1 h2=>hK v' w' (by unfold kR;rw[Qo,QL];exact h1) h2)
theorem wl_append_e {xs:List aD} (bN:cV w base v xs) {ys:List aD} (hx:Es w B vx ys)
  (hb:xs.length+ys.length≤1000000) (ey:base≤w.heap.size) (hs:a.eval os=v) (AM:a.eval ox=vx)
  (hK:∀v' w',cV w' base v' (xs++ys)→w.grownBy w' v.ownBlock→wpList prog ops Q rest (a.put dst v') w'):
  wpList prog ops Q (⟨dst,.call {callee:= .builtin .append,args:= #[os,ox],argTypes:= #[90,90]},ty,pos,after,none⟩::rest) a w:=
 wl_append base 90 68 _ 2 16 underlying90 acb rfl (by omega) v xs.length _ bN vx ys.length _ hx.1 (yJ ys) (by unfold maxLen;omega) (by omega) ey hs AM
  (fun v' w' h1 h2=>hK v' w' (by unfold cV;rw[Qo,QP];exact h1) h2)
end
theorem pQ (w:Wo) (B:Nat) (v:Va) (xs:List Int) (hv:Bs w B v xs) (hB:B≤w.heap.size) (hl:xs.length≤100000):
  Calls prog 89 #[v] w fun e w' =>∃v',e= .returned v'∧kR w' w.heap.size v' xs∧Below w.heap.size w w' :=by
 have q:=fun (w:Wo) (a:Option Addr) (n c:Nat)=>Lib.run_eql_slice_nil (P:=prog) w 87 5 a n c 0 0 underlying87
 obtain⟨⟨_,A,c,rfl,hc,hm,hz,lz⟩,bO⟩:=hv;have Hv:Af (Bs w B (.slice A xs.length c) xs):=⟨⟨by simp,A,c,rfl,hc,hm,hz,lz⟩,bO⟩;have Hl:=aa hl;clear hm hc hl lz bO;cases A with
 |none=>
  have:=hz rfl;subst this;have hx:xs=[]:=by
   obtain⟨⟨_,A,c,hv,hc,_⟩,_⟩:=Hv.o;cases hv
   exact Zf (by omega)
  subst hx;clear hz;go_enter func89,ntmps89;go_wp2;go_ret;exact⟨_,rfl,World.ownsRow_nil _ _ _ _,Xj _ _⟩
 |some ad=>
  clear hz;have zt:Af (kR (w.alloc (.cells #[] 5)) w.heap.size (.slice (some ⟨w.heap.size,0,none⟩) 0 0) []):=World.ownsRow_made w #[] 0 (Qg _) (Qp _) rfl;have uE:Af (Bs (w.alloc (.cells #[] 5)) B (.slice (some ad) xs.length c) xs):=⟨Hv.o.1.alloc hB _,Hv.o.2⟩;clear hB;go_enter func89,ntmps89;go_wp2_with((with_reducible refine wl_append_y (os:= .tmp 5) (ox:= .tmp 6) (base:=w.heap.size) (xs:=[]) zt.o uE.o ?_ ?_ ?_ ?_ ?_);go_must((·have:=Hl.o;simp;omega);(·simp);(·rfl);(·rfl);intro v3 w3 sD qa;have H3:=aa sD;have G3:=aa qa;clear sD qa));go_ret;refine⟨_,rfl,by have:=H3.o;simpa[kR] using this,?_⟩;exact((Xj _ _).alloc (Qg _) _).grown G3.o (by simp) (by intro k hk;cases hk;exact Qg _)
theorem vU (w:Wo) (B:Nat) (v:Va) (es:List aD) (hv:Es w B v es) (hB:B≤w.heap.size) (hl:es.length≤100000):
  Calls prog 137 #[v] w fun e w' =>∃v',e= .returned v'∧cV w' w.heap.size v' es∧Below w.heap.size w w' :=by
 have q:=fun (w:Wo) (a:Option Addr) (n c:Nat)=>Lib.run_eql_slice_nil (P:=prog) w 90 68 a n c 0 0 underlying90
 obtain⟨⟨hlen,A,c,rfl,hc,hm,hz,lz⟩,bO⟩:=hv;have Hv:Af (Es w B (.slice A es.length c) es):=⟨⟨hlen,A,c,rfl,hc,hm,hz,lz⟩,bO⟩;have Hl:=aa hl;clear hm hc hl lz bO hlen;cases A with
 |none=>
  have:=hz rfl;subst this;have hx:es=[]:=by
   obtain⟨⟨_,A,c,hv,hc,_⟩,_⟩:=Hv.o;cases hv
   exact Zf (by omega)
  subst hx;clear hz;go_enter func137,ntmps137;go_wp2;go_ret;exact⟨_,rfl,World.ownsRow_nil _ _ _ _,Xj _ _⟩
 |some ad=>
  clear hz;have zt:Af (cV (w.alloc (.cells #[] 68)) w.heap.size (.slice (some ⟨w.heap.size,0,none⟩) 0 0) []):=World.ownsRow_made w #[] 0 (Qg _) (Qp _) rfl;have uE:Af (Es (w.alloc (.cells #[] 68)) B (.slice (some ad) es.length c) es):=⟨Hv.o.1.alloc hB _,Hv.o.2⟩;clear hB;go_enter func137,ntmps137;go_wp2_with((with_reducible refine wl_append_e (os:= .tmp 5) (ox:= .tmp 6) (base:=w.heap.size) (xs:=[]) zt.o uE.o ?_ ?_ ?_ ?_ ?_);go_must((·have:=Hl.o;simp;omega);(·simp);(·rfl);(·rfl);intro v3 w3 sD qa;have H3:=aa sD;have G3:=aa qa;clear sD qa));go_ret;refine⟨_,rfl,by have:=H3.o;simpa[cV] using this,?_⟩;exact((Xj _ _).alloc (Qg _) _).grown G3.o (by simp) (by intro k hk;cases hk;exact Qg _)
end
section
open Go.RowKit
attribute [local go_sem] Oper.semAt_some
section
variable {w w' : Wo} {I : bF} {s : aX}
theorem cR.Fp (h:cR w I s) {S:Nat→Prop} (hS:∀x,S x→x=I.pb∨TS I.tb I.cb I.mb x) (hc:aG S w w'):
  (∃pv dv ps,dB w' I s pv dv ps)∧cF w' I.d I.pl s.bl:=by
 obtain⟨pv,dv,ps,c⟩:=h.cells;have n1:∀x e cs,aq w x e cs→e≠189→e≠187→e≠61→¬S x:=by
  intro x e cs hx h1 h2 h3 hs;rcases hS x hs with rfl|rfl|rfl|rfl
  ·exact hx.ne h.pick h1 rfl
  ·exact hx.ne h.fh.own h2 rfl
  ·exact hx.ne h.fh.counts h3 rfl
  ·exact hx.bS h.fh.kept rfl
 have n2:¬S I.fb:=by
  intro hs;rcases hS _ hs with e|e|e|e
  ·exact aq.bS h.pick c.jg e.symm
  ·exact aq.bS h.fh.own c.jg e.symm
  ·exact aq.bS h.fh.counts c.jg e.symm
  ·exact h.mf e.symm
 have nb:=n1 _ _ _ c.own (by decide) (by decide) (by decide);have nd:=n1 _ _ _ h.dM.own (by decide) (by decide) (by decide);have np:=n1 _ _ _ h.dM.eP (by decide) (by decide) (by decide);refine⟨⟨pv,dv,ps,c.aL hc (fun x hx=> ?_) nb n2⟩,⟨h.dM.own.aL hc nd,h.dM.eP.aL hc np,h.dM.ne,h.dM.size,h.dM.byte,h.dM.n0,h.dM.n1⟩⟩;unfold BS;rcases hS x hx with e|e|e|e<;>simp[e]
theorem OS:∀x,TS I.tb I.cb I.mb x→BS I x:=fun x hx=>by
 unfold BS;rcases hx with e|e|e<;>simp[e]
theorem IV:∀x,QS I.pb I.tb I.cb I.mb x→BS I x:=fun x hx=>by
 unfold BS;rcases hx with e|e|e|e<;>simp[e]
end
theorem df.get {w:Wo} {I:bF} {ps:List (Option (Nat×Nat))} {fr:List (Option (List Int))} (h:df w I ps fr) {b:Nat} {data:List Int} (hb:fr.getD b none=some data):∃g c,ps.getD b none=some (g,c)∧Bs w w.heap.size (sw (some (g,c))) data∧¬BS I g∧data.length=128:=by
 rcases h.2 b with⟨h1,h2⟩|⟨g,c,ar4,h1,h2,h3,h4,h5⟩
 ·rw[hb] at h2;cases h2
 ·rw[hb] at h2;cases h2;exact⟨g,c,h1,h3,h4,h5⟩
theorem KM (w:Wo) (I:bF) (s:aX) (h:cR w I s) (i:Nat) (hi:i<s.t.len):
  Calls prog 32 #[.pointer (some ⟨I.b,0,none⟩),.int .i64 i] w fun e w' =>∃v,e= .returned (.tuple #[v,.int .i64 0])∧Bs w' w'.heap.size v (s.read i)∧(∀b o n c,v= .slice (some ⟨b,o,none⟩) n c→w.heap.size≤b)∧Below w.heap.size w w' :=by
 have x0:=h.x0;have x5:=h.x5;have H:=aa (fK w I.b I.tb h.x1);have HB:=aa (dI w I s h);have hn:=h.n0;have HF:=aa (vM w I s h i (by omega));obtain⟨pv,dv,ps,hc⟩:=h.cells;have h0:(0:Int)≤i:=by omega
 have h1:(i:Int)<s.t.len:=by omega
 cases hf:s.fresh.getD i none with
 |some data=>
  obtain⟨g,c,hp,hb,-,oR⟩:=hc.kz.get hf;have hl:=hc.jg.at (x:=(i:Int)) (mo (by omega));rw[gN,Cs,hp] at hl;have rf:(Instr.lookup 37 (.map (some I.fb)) (.int .i64 i) false).run prog w= .ok (.slice (some ⟨g,0,none⟩) 128 c) w:=hl;have e1:s.ik i=true:=by unfold aX.ik;rw[hf];rfl
  have e2:s.read i=data:=by unfold aX.read;rw[hf];rfl
  rw[e1] at HF;have HC:=aa (pQ w w.heap.size _ data hb (Qg _) (by omega));have Hd:Af (data.length=128∧∀x∈data,aI x):=⟨oR,hb.2⟩;have Hs:Af (s.read i=data):=e2;generalize s.t.len=n at*;clear h hc hf hp hb hl e1 e2 hn oR hi;go_enter func32,ntmps32;go_wp2_with(first
   |(go_at_call 76;go_must(refine H.o.mono ?_);rintro e W2 ⟨rfl,rfl⟩)
   |(go_at_call 60;go_must(refine HB.o.mono ?_);rintro e W2 ⟨rfl,rfl⟩)
   |(go_at_call 67;go_must(refine HF.o.mono ?_);rintro e W2 ⟨rfl,rfl⟩)
   |(go_at_call 89;go_must(refine HC.o.mono ?_);rintro e W2 ⟨v,rfl,o2,b2⟩;have O2:=aa o2;have B2:=aa b2;clear o2 b2))
  go_ret2;refine⟨v,rfl,?_,?_,B2.o⟩
  ·rw[Hs.o];exact⟨Sl.bU O2.o,Hd.o.2⟩
  ·intro b o n c e;subst e;exact(Xr O2.o b rfl).1
 |none=>
  have e1:s.ik i=false:=by unfold aX.ik;rw[hf];rfl
  have ub:i<s.bl.length:=by rw[h.ok.bl];exact hi
  have e2:s.read i=s.bl[i]:=by unfold aX.read;rw[hf,Qe,Qf ub];rfl
  rw[e1] at HF;have HR:=aa (oA w I.d I.pl s.bl h.dM i ub);have Hd:Af (s.bl[i].length=128∧∀x∈s.bl[i],aI x):=⟨h.dM.size _ (QI _),h.dM.byte _ (QI _)⟩;have Hs:=aa e2;generalize s.bl[i]=data at*;generalize s.t.len=n at*;clear h hc hf e1 e2 hn hi ub;go_enter func32,ntmps32;go_wp2_with(first
   |(go_at_call 76;go_must(refine H.o.mono ?_);rintro e W2 ⟨rfl,rfl⟩)
   |(go_at_call 60;go_must(refine HB.o.mono ?_);rintro e W2 ⟨rfl,rfl⟩)
   |(go_at_call 67;go_must(refine HF.o.mono ?_);rintro e W2 ⟨rfl,rfl⟩)
   |(go_at_call 49;go_must(refine HR.o.mono ?_);rintro e W2 ⟨g,rfl,l2,o2,b2⟩;have O2:=aa o2;have B2:=aa b2;have L2:=aa l2;clear o2 b2 l2))
  go_ret2;refine⟨_,rfl,?_,?_,B2.o⟩
  ·rw[Hs.o];have:=O2.o.bs (o:=0) (n:=128) (c:=128) (by rw[Hd.o.1];exact Qg _) (Qg _) (by unfold maxLen;decide) Hd.o.2;rwa[Zl,Qj (by rw[Hd.o.1];exact Qg _)] at this
  ·intro b o n c e;cases e
   exact L2.o
end
section
open Go.RowKit
attribute [local go_sem] Oper.semAt_some
variable {i : Nat} {b : Int} {x : aN}
theorem Yj.roots {s:aX} (h:Yj s) (hb:bX b):Yj {s with eO:={s.eO with roots:=s.eO.roots.set i b}}:=
 ⟨h.bl,h.fr,h.pg,h.dg,h.rg,h.n2,h.nl,⟨by rw[Zy];exact h.sup.r8,h.sup.m8,h.sup.g,h.sup.b,fun x hx=>by
  rcases Zz hx with h1|rfl
  ·exact h.sup.r x h1
  ·exact hb,h.sup.m⟩,h.kep,h.slot,h.fd⟩
theorem xR (h:bM x) (i:Nat) (b:Int) (hi:i<8):(aP x).set (2+i) (.int .u32 b)=aP {x with roots:=x.roots.set i b}:=by
 unfold aP;rw[show 2+i=i+1+1 by omega,Qc,Qc,List.set_append_left _ _ (by rw[Qq,h.r8];exact hi)];simp only[List.map_set]
theorem vZ {I:bF} {pv dv:Va} {k:aN} {slot:Nat} {br:Bool} (h:bM x) (i:Nat) (b:Int) (hi:i<8):(ni I pv dv x k slot br).set (8+i) (.int .u32 b)=ni I pv dv {x with roots:=x.roots.set i b} k slot br:=by
 unfold ni;rw[List.set_append_left _ _ (by simp[bK h];omega),List.set_append_left _ _ (by simp[bK h];omega),ZB _ _ (by simp;omega)];rw[show 8+i - _=2+i by simp;omega,xR h i b hi]
section
variable {w : Wo} {I : bF} {s : aX}
theorem cR.uJ (h:cR w I s):I.b≠I.d∧I.b≠I.pl∧I.b≠I.tb∧I.b≠I.cb∧I.b≠I.mb∧I.b≠I.pb∧I.b≠I.fb:=by
 obtain⟨pv,dv,ps,c⟩:=h.cells;exact⟨c.own.ne h.dM.own (by decide),c.own.ne h.dM.eP (by decide),c.own.ne h.fh.own (by decide),c.own.ne h.fh.counts (by decide),c.own.bS h.fh.kept,c.own.ne h.pick (by decide),c.own.bS c.jg⟩
theorem cR.J5 (h:cR w I s):I.fb≠I.d∧I.fb≠I.pl∧I.fb≠I.tb∧I.fb≠I.cb∧I.fb≠I.mb∧I.fb≠I.pb∧I.fb≠I.b:=by
 obtain⟨pv,dv,ps,c⟩:=h.cells;exact⟨Xm (aq.bS h.dM.own c.jg),Xm (aq.bS h.dM.eP c.jg),Xm (aq.bS h.fh.own c.jg),Xm (aq.bS h.fh.counts c.jg),Xm h.mf,Xm (aq.bS h.pick c.jg),Xm (c.own.bS c.jg)⟩
end
theorem cR.cM {w:Wo} {I:bF} {s:aX} (h:cR w I s) (hi:i<8) (hb:bX b):
  cR (w.setCell ⟨I.b,8+i,none⟩ (.int .u32 b)) I {s with eO:={s.eO with roots:=s.eO.roots.set i b}}:=by
 obtain⟨n1,n2,n3,n4,n5,n6,n7⟩:=h.uJ;have hc:=kh w I.b (8+i) (.int .u32 b);obtain⟨pv,dv,ps,c⟩:=h.cells;have hS:∀x,x=I.b→BS I x:=fun x e=> .inl e
 refine⟨⟨pv,dv,ps,?_,Sl.more (Sl.aL c.ag hc (Qg _) (c.ed.mono hS)) hc.size,c.ed,Sl.more (Sl.aL c.au hc (Qg _) (c.fT.mono hS)) hc.size,c.fT,c.jg.aL hc (Xm n7),c.kz.aL hc hS⟩,
  ⟨h.dM.own.aL hc (Xm n1),h.dM.eP.aL hc (Xm n2),h.dM.ne,h.dM.size,h.dM.byte,h.dM.n0,h.dM.n1⟩,h.fh.aL hc (Xm n3) (Xm n4) (Xm n5),h.pick.aL hc (Xm n6),h.mf,h.ok.roots hb⟩
 have:=c.own.set (8+i) (.int .u32 b);rw[vZ h.ok.sup i b hi] at this;exact this
theorem zU (w:Wo) (I:bF) (s:aX) (h:cR w I s) (e8:s.broken=false) (i:Nat) (h2:2≤i) (hi:i<8) (b:Int) (hb:b=0∨2≤b∧b<s.t.len):
  Calls prog 74 #[.pointer (some ⟨I.b,0,none⟩),.int .i64 i,.int .i64 b] w fun e w' =>e= .returned (.int .i64 0)∧cR w' I (s.cM i b).2∧aG (BS I) w w' :=by
 have HM:=aa (nJ w I s h);have em:s.may=0:=by unfold aX.may;rw[e8];rfl
 rw[em] at HM;have HB:=aa (dI w I s h);have hn:=h.n0;have TK:bX b:=by unfold bX;omega
 have es:(s.cM i b).2={s with eO:={s.eO with roots:=s.eO.roots.set i b}}:=by unfold aX.cM;rw[e8,Xd (by decide),Xd (by have:s.len=s.t.len:=rfl;omega)]
 have HS:=aa (h.cM hi TK);have Hes:=aa es;have x:=h.root hi;obtain⟨pv,dv,ps,c⟩:=h.cells;have xf:=c.own.free (8+i);have hw:IntKind.u32.wrap b=b:=by unfold IntKind.wrap;simp[IntKind.signed,IntKind.bits];unfold bX at TK;omega
 have i0:¬(i:Int)<2:=by omega
 have i1:(i:Int)<8:=by omega
 have i2:(0:Int)≤i:=by omega
 generalize s.root i=r at*;generalize s.t.len=n at*;rcases hb with rfl|⟨yZ,sq⟩
 ·clear h c es em hn h2 hi TK hw;go_enter func74,ntmps74;go_wp2_with(first
   |(go_at_call 83;go_must(refine HM.o.mono ?_);rintro e W2 ⟨rfl,rfl⟩)
   |(go_at_call 60;go_must(refine HB.o.mono ?_);rintro e W2 ⟨rfl,rfl⟩))
  go_ret;refine⟨rfl,?_,kh _ _ _ _ |>.mono fun x _ e=> .inl e⟩;rw[Hes.o];exact HS.o
 ·have b0:(b==0)=false:=Xc (by omega);have b1:¬b<2:=by omega
  clear h c es em hn h2 hi TK;go_enter func74,ntmps74;go_wp2_with(first
   |(go_at_call 83;go_must(refine HM.o.mono ?_);rintro e W2 ⟨rfl,rfl⟩)
   |(go_at_call 60;go_must(refine HB.o.mono ?_);rintro e W2 ⟨rfl,rfl⟩))
  go_ret;refine⟨rfl,?_,kh _ _ _ _ |>.mono fun x _ e=> .inl e⟩;rw[Hes.o];exact HS.o
end
section
open Go.RowKit
attribute [local go_sem] Oper.semAt_some
variable {w : Wo} {I : bF} {ps : List (Option (Nat × Nat))} {fr : List (Option (List Int))} {b : Nat} {data : List Int}
theorem aE.zB (t:aE) (next:Nat) (h0:2≤t.len) (h1:2≤next):∃b:Nat,(t.take 2 next).1=b∧b<t.len:=by
 unfold aE.take;cases hf:t.find 2 next with
 |none=>exact⟨0,rfl,by omega⟩
 |some k=>
  obtain⟨k1,k2,-⟩:=aE.Jq h1 hf;exact⟨k,rfl,by omega⟩
theorem lh {α:Type} (l:List (Option α)) (b i:Nat) (y:Option α) (hb:b<l.length):(l.set b y).getD i none=if i=b then y else l.getD i none:=by
 rw[Qe,List.getElem?_set];by_cases h:i=b
 ·subst h;simp[hb]
 ·rw[Xd (fun e=>h e.symm),Xd h,Qe]
theorem df.put (h:df w I ps fr) (hb:b<fr.length) {g c:Nat} (hd:Bs w w.heap.size (sw (some (g,c))) data) (hg:¬BS I g) (hl:data.length=128):
  df w I (ps.set b (some (g,c))) (fr.set b (some data)):=by
 refine⟨by simp[h.1],fun i=> ?_⟩;rw[lh _ _ _ _ (by rw[h.1];exact hb),lh _ _ _ _ hb];split
 ·exact .inr ⟨g,c,data,rfl,rfl,hd,hg,hl⟩
 ·exact h.2 i
theorem df.cut (h:df w I ps fr) (hb:b<fr.length):
  df w I (ps.set b none) (fr.set b none):=by
 refine⟨by simp[h.1],fun i=> ?_⟩;rw[lh _ _ _ _ (by rw[h.1];exact hb),lh _ _ _ _ hb];split
 ·exact .inl ⟨rfl,rfl⟩
 ·exact h.2 i
theorem Cq (ps:List (Option (Nat×Nat))) (b:Nat) (y:Option (Nat×Nat)):jf (ps.set b y)=(jf ps).set b (y.map some):=by
 unfold jf;rw[List.map_set]
theorem Cr (ps:List (Option (Nat×Nat))):(jf ps).length=ps.length:=Qq _
theorem sS (h:MG Ud w I.fb (du (jf ps)) (nS (jf ps))) (hl:ps.length≤4096) (hb:b<ps.length) (g c:Nat):
  ∃w',(Instr.mapUpdate 37 (.map (some I.fb)) (.int .i64 b) (.slice (some ⟨g,0,none⟩) 128 c)).run prog w= .ok () w'∧MG Ud w' I.fb (du (jf (ps.set b (some (g,c))))) (nS (jf (ps.set b (some (g,c)))))∧w.grownBy w' (some I.fb):=by
 have hn:=Yq (jf ps);rw[Cr] at hn;obtain⟨w',h1,h2,h3⟩:=h.store (by omega) (x:=(b:Int)) (mo (by omega)) (some (g,c));refine⟨w',h1,?_,h3⟩;have sq:b<(jf ps).length:=by rw[Cr];exact hb
 rw[gN,yy _ _ sq,←zH _ _ _ sq] at h2;rw[Cq];exact h2
theorem Gu (h:MG Ud w I.fb (du (jf ps)) (nS (jf ps))) (b:Nat) (hb:b<100000) (ty:TypeId):
  ∃w',(Builtin.delete_ #[37,3] ty #[.map (some I.fb),.int .i64 b]).run prog w= .ok (.tuple #[]) w'∧MG Ud w' I.fb (du (jf (ps.set b none))) (nS (jf (ps.set b none)))∧w.grownBy w' (some I.fb):=by
 obtain⟨w',h1,h2,h3⟩:=h.drop (x:=(b:Int)) (mo (by omega)) ty;refine⟨w',h1,?_,h3⟩;rw[gN,yz,←zI] at h2;rw[Cq];exact h2
theorem cR.Pf {w1 w2:Wo} {s:aX} (h:cR w I s) {pv dv:Va} (c:dB w I s pv dv ps) {S:Nat→Prop} (hS:∀x,S x→x=I.pb∨TS I.tb I.cb I.mb x) (hc:aG S w w1) (hg:w1.grownBy w2 (some I.fb))
  {t:aE} {next:Nat} (ht:bf w1 I.tb I.cb I.mb t) (hp:aq w1 I.pb 189 (iX I.tb 2 next)) {DX :List (Option (Nat×Nat))}
  (hm:MG Ud w2 I.fb (du (jf DX)) (nS (jf DX))) (hf:df w2 I DX fr) (ec:Yj {s with t:=t,next:=next,fresh:=fr}):
  cR w2 I {s with t:=t,next:=next,fresh:=fr}:=by
 obtain⟨f1,f2,f3,f4,f5,f6,f7⟩:=h.J5;obtain⟨-,hd⟩:=h.Fp hS hc;have yZ:¬S I.b:=by
  intro hs;obtain⟨n1,n2,n3,n4,n5,n6,n7⟩:=h.uJ;rcases hS _ hs with e|e|e|e
  ·exact n6 e
  ·exact n3 e
  ·exact n4 e
  ·exact n5 e
 have hSB:∀x,S x→BS I x:=fun x hx=>IV x (hS x hx)
 have jY:=aG.dH hg (fun x _ e=>(Qr e).symm);have Bb:∀x,x=I.fb→BS I x:=fun x e=>by unfold BS;simp[e]
 have p1:=Sl.more (Sl.aL c.ag hc (Qg _) (c.ed.mono hSB)) hc.size;have d1:=Sl.more (Sl.aL c.au hc (Qg _) (c.fT.mono hSB)) hc.size;refine⟨⟨pv,dv,DX,(c.own.aL hc yZ).aL jY (Xm f7),Sl.more (Sl.aL p1 jY (Qg _) (c.ed.mono Bb)) jY.size,c.ed,Sl.more (Sl.aL d1 jY (Qg _) (c.fT.mono Bb)) jY.size,c.fT,hm,hf⟩,
  ⟨hd.own.aL jY (Xm f1),hd.eP.aL jY (Xm f2),hd.ne,hd.size,hd.byte,hd.n0,hd.n1⟩,ht.aL jY (Xm f3) (Xm f4) (Xm f5),hp.aL jY (Xm f6),h.mf,ec⟩
theorem Ph {v:Va} (h:kR w b v data) (hl:data.length=128):∃g c,v= .slice (some ⟨g,0,none⟩) 128 c∧b≤g∧g<w.heap.size:=by
 unfold kR at h;rw[hl] at h;obtain⟨g,c,rfl⟩:=ownsRow_succ h;have:=Xr h g rfl;exact⟨g,c,rfl,this.1,this.2⟩
theorem yf (w:Wo) (I:bF) (s:aX) (h:cR w I s) (v:Va) (data:List Int) (hd:Bs w w.heap.size v data) (ha:Ap (BS I) v):
  Calls prog 72 #[.pointer (some ⟨I.b,0,none⟩),v] w fun e w' =>e= .returned (.tuple #[.int .i64 (s.put data).1,.int .i64 (s.put data).2.1])∧cR w' I (s.put data).2.2∧aG (BS I) w w' :=by
 have HM:=aa (nJ w I s h);have HR:=aa (ou w I s h);obtain⟨A,c,rfl,-,-⟩:=hd.1.form;have hn:=h.n0;by_cases e8:s.broken=true
 ·have es:s.put data=(0,111,s):=by unfold aX.put;rw[Xo e8]
  have em:s.may=111:=by unfold aX.may;rw[Xo e8]
  rw[em] at HM;rw[es];have H:=aa h;clear h hd ha hn e8 em es;go_enter func72,ntmps72;go_wp2_with(go_at_call 83;go_must(refine HM.o.mono ?_);rintro e W2 ⟨rfl,rfl⟩);go_ret2;exact⟨rfl,H.o,aG.refl _ _⟩
 ·have em:s.may=0:=by unfold aX.may;rw[Xd e8]
  rw[em] at HM;by_cases hl:data.length=128
  ·by_cases hr:s.room=0
   ·have es:s.put data=(0,90,s):=by unfold aX.put;rw[Xd e8,Xd (by simp[hl]),Xo hr]
    rw[hr] at HR;rw[es,hl];have H:=aa h;clear h hd ha hn e8 em es hr hl;go_enter func72,ntmps72;go_wp2_with(first
     |(go_at_call 83;go_must(refine HM.o.mono ?_);rintro e W2 ⟨rfl,rfl⟩)
     |(go_at_call 23;go_must(refine HR.o.mono ?_);rintro e W2 ⟨rfl,rfl⟩))
    go_ret2;exact⟨rfl,H.o,aG.refl _ _⟩
   ·have es:s.put data=((s.t.take 2 s.next).1,(s.t.take 2 s.next).2.1,{s with t:=(s.t.take 2 s.next).2.2.1,next:=(s.t.take 2 s.next).2.2.2,fresh:=s.fresh.set (s.t.take 2 s.next).1.toNat (some data)}):=by unfold aX.put;rw[Xd e8,Xd (by simp[hl]),Xd hr]
    have ft:=Xc hr;have HT:=aa (qK w I.pb I.tb I.cb I.mb 2 s.next s.t h.pick h.fh h.ok.n2 h.ok.nl);obtain⟨b,hb,fg⟩:=s.t.zB s.next (by omega) h.ok.n2;obtain⟨k1,k2,k3,-,-⟩:=s.t.lM s.next h.ok.n2 h.ok.nl;have x2:=h.x2;obtain⟨pv,dv,ps,hc⟩:=h.cells;have Hc:=aa hc;have H:=aa h;have Hd:=aa (show Bs w w.heap.size (.slice A 128 c) data by rw[←hl];exact hd);have Ha:=aa (show Ap (BS I) (.slice A 128 c) by rw[←hl];exact ha);rw[es,hl];rw[hb] at HT⊢;have Hk:=Nv hl fg k1 k2 k3 hn.2;rw[Xt];generalize (s.t.take 2 s.next).2.1=er at*;generalize (s.t.take 2 s.next).2.2.1=t2 at*;generalize (s.t.take 2 s.next).2.2.2=n2 at*;generalize s.room=rm at*;have Hb:Af (b<4096):=by show b<4096;omega
    clear h hc hd ha hn e8 em es hr hl hb fg k1 k2 k3;go_enter func72,ntmps72;go_upto_region 9 with(first
     |(go_at_call 83;go_must(refine HM.o.mono ?_);rintro e W2 ⟨rfl,rfl⟩)
     |(go_at_call 23;go_must(refine HR.o.mono ?_);rintro e W2 ⟨rfl,rfl⟩)
     |(go_at_call 157;go_must(refine HT.o.mono ?_);rintro e W3 ⟨rfl,ht3,Wn,Nn⟩;have T3:=aa ht3;have P3:=aa Wn;have C3:=aa Nn;clear ht3 Wn Nn))
    have TL:∀x,(x=I.pb∨TS I.tb I.cb I.mb x)→BS I x:=fun x hx=>IV x hx
    have jW:¬(I.b=I.pb∨TS I.tb I.cb I.mb I.b):=by
     obtain⟨n1,n2,n3,n4,n5,n6,n7⟩:=H.o.uJ;rintro(e|e|e|e)
     ·exact n6 e
     ·exact n3 e
     ·exact n4 e
     ·exact n5 e
    have hf3:¬(I.fb=I.pb∨TS I.tb I.cb I.mb I.fb):=by
     obtain⟨n1,n2,n3,n4,n5,n6,n7⟩:=H.o.J5;rintro(e|e|e|e)
     ·exact n6 e
     ·exact n3 e
     ·exact n4 e
     ·exact n5 e
    have c3:=Hc.o.aL C3.o TL jW hf3;have C3b:=aa c3;have x5:=c3.x5;have xC:Bs W3.drew W3.drew.heap.size (.slice A 128 c) data:=⟨(Hd.o.1.aL C3.o (Qg _) (Ha.o.mono TL)).more C3.o.size,Hd.o.2⟩;have HC:=aa (pQ W3.drew W3.drew.heap.size _ data xC (Qg _) (by rw[Hk.o.1];decide));have cz:Af (∀x,BS I x→x<W3.heap.size):=fun x hx=>Qn (H.o.lt x hx) C3.o.size
    have HF:Af (∀W,Below W3.heap.size W3 W→∀g,W3.heap.size≤g→∀c',Bs W W.heap.size (sw (some (g,c'))) data→∃w',(Instr.mapUpdate 37 (.map (some I.fb)) (.int .i64 b) (.slice (some ⟨g,0,none⟩) 128 c')).run prog W= .ok () w'∧cR w' I {s with t:=t2,next:=n2,fresh:=s.fresh.set b (some data)}∧aG (BS I) w w'):=by
     intro W hW g hg c' iV;have rf:=C3b.o.kz.1;have eo:=H.o.ok.fr;have fg:b<s.fresh.length:=by rw[eo];exact Hk.o.2.1
     have MI:=C3b.o.aL (S:=fun _=>False) (aG.aZ hW) (fun _ e=>e.elim) id id;obtain⟨w',hr,hm,uc⟩:=sS MI.jg (by rw[rf,eo];exact Hk.o.2.2.2.2.2) (b:=b) (by rw[rf];exact fg) g c';have MH:=aG.dH uc (fun x _ e=>(Qr e).symm);have Bb:∀x,x=I.fb→BS I x:=fun x e=>by unfold BS;simp[e]
     have hgS:¬BS I g:=fun e=>XV.2 hg (cz.o g e)
     have tD :=df.put (MI.kz.aL MH Bb) fg (g:=g) (c:=c') (data:=data) ⟨(iV.1.aL MH (Qg _) (jD (fun e=>hgS (Bb _ e)))).more MH.size,iV.2⟩ hgS Hk.o.1;refine⟨w',hr,?_,?_⟩
     ·refine cR.Pf H.o Hc.o (S:=fun x=>x=I.pb∨TS I.tb I.cb I.mb x) (fun x hx=>hx) (C3.o.trans (aG.aZ hW)) uc (T3.o.on hW) (P3.o.on hW) hm tD ?_;have ok:=H.o.ok;refine⟨by rw[Hk.o.2.2.1];exact ok.bl,by rw[Zy,Hk.o.2.2.1];exact ok.fr,by rw[Hk.o.2.2.1];exact ok.pg,ok.dg,by rw[Hk.o.2.2.1];exact ok.rg,Hk.o.2.2.2.1,by rw[Hk.o.2.2.1];exact Hk.o.2.2.2.2.1,ok.sup,ok.kep,ok.slot,fun dt Nl=> ?_⟩;rcases Zz Nl with h1|h1
      ·exact ok.fd dt h1
      ·cases h1;exact⟨Hk.o.1,iV.2⟩
     ·exact((C3.o.mono fun x _ e=>TL x e).trans (aG.aZ hW)).trans (MH.mono fun x _ e=>Bb x e)
    clear c3 xC TL jW hf3;go_region_law (first
     |(go_simp;(go_at_call 89);(with_reducible refine HC.o.mono ?_);rintro e W4 ⟨v4,rfl,o4,b4⟩;obtain⟨g4,c4,rfl,og,anc⟩:=Ph o4 Hk.o.1;have B4:Af (Below W3.heap.size W3 W4):=⟨b4.os,b4.tape,b4.output,b4.size,b4.block⟩;have y5:W4.cell? ⟨I.b,5,none⟩=some (.map (some I.fb)):=(B4.o.cell (p:=⟨I.b,5,none⟩) (cz.o _ (.inl rfl))).trans x5;obtain⟨W5,iq,SV,hC5⟩:=HF.o W4 B4.o g4 og c4 ⟨by have:=Sl.bU o4;rw[Hk.o.1] at this;rw[Hk.o.1];exact this,Hd.o.2⟩;have R5:=aa SV;have K5:=aa hC5;clear SV hC5 o4 b4))
    all_goals
     go_wp2_with fail;go_ret2;exact⟨rfl,R5.o,K5.o⟩
  ·have es:s.put data=(0,2,s):=by unfold aX.put;rw[Xd e8,Xo hl]
   rw[es];have H:=aa h;have rf:=Xc (by omega);clear h hd ha hn e8 em es hl;go_enter func72,ntmps72;go_wp2_with(go_at_call 83;go_must(refine HM.o.mono ?_);rintro e W2 ⟨rfl,rfl⟩);go_ret2;exact⟨rfl,H.o,aG.refl _ _⟩
end
section
open Go.RowKit
attribute [local go_sem] Oper.semAt_some
variable {I : bF} {s : aX}
section
variable {ops : Array Oper} {w w' : Wo} {Q : Exit → Act → Wo → Prop} {a : Act} {rest : List Oper} {dst : Option Tmp} {om ok : Operand} {ty mt kt : TypeId} {pos : String} {after : Array Edge} {m k : Va}
theorem wl_del (iq:(Builtin.delete_ #[mt,kt] ty #[m,k]).run prog w= .ok (.tuple #[]) w') (hm:a.eval om=m) (hk:a.eval ok=k) (hK:wpList prog ops Q rest (a.put dst (.tuple #[])) w'):
  wpList prog ops Q (⟨dst,.call {callee:= .builtin .delete,args:= #[om,ok],argTypes:= #[mt,kt]},ty,pos,after,none⟩::rest) a w:=by
 refine wpList_plain rfl fun K' hK' => ?_
 unfold Oper.wp;simp[execOp,resolve,invoke,builtin,hm,hk,iq,Result.andThen];exact hK' _ _ hK
end
theorem cR.abP {w:Wo} (h:cR w I s):∃pv dv,w.cell? ⟨I.b,3,none⟩=some pv∧w.cell? ⟨I.b,4,none⟩=some dv∧Ns w w.heap.size .i64 pv s.ag∧Ns w w.heap.size .i64 dv s.au∧s.ag.length≤100∧s.au.length≤100:=by
 obtain⟨pv,dv,ps,c⟩:=h.cells;have h1:=h.ok.pg;have h2:=h.ok.dg;have hn:=h.n0;unfold aR at h1 h2;rw[Xd (by omega)] at h1 h2;exact⟨pv,dv,c.own.cell rfl,c.own.cell rfl,c.ag,c.au,by omega,by omega⟩
theorem cR.Oz {w w1:Wo} (h:cR w I s) (hc:aG (TS I.tb I.cb I.mb) w w1) {t:aE} (ht:bf w1 I.tb I.cb I.mb t) (hl:t.len=s.t.len):cR w1 I {s with t:=t}:=by
 obtain⟨hb,hd⟩:=h.Fp (S:=TS I.tb I.cb I.mb) (fun x hx=> .inr hx) hc;have ok:=h.ok;obtain⟨pv,dv,ps,c⟩:=hb;refine⟨⟨pv,dv,ps,c.own,c.ag,c.ed,c.au,c.fT,c.jg,c.kz⟩,hd,ht,h.pick.aL hc ?_,h.mf,⟨by rw[hl];exact ok.bl,by rw[hl];exact ok.fr,by rw[hl];exact ok.pg,ok.dg,by rw[hl];exact ok.rg,ok.n2,by rw[hl];exact ok.nl,ok.sup,ok.kep,ok.slot,ok.fd⟩⟩;rintro(e|e|e)
 ·exact Xm (aq.ne h.fh.own h.pick (by decide)) e
 ·exact Xm (aq.ne h.fh.counts h.pick (by decide)) e
 ·exact aq.bS h.pick h.fh.kept e
end
section
variable {j : Nat} {s : Nat × Int}
def expand (ae:List (Nat×Int)):List Int:=ae.flatMap fun s=>List.replicate s.1 s.2
def aC (ae:List (Nat×Int)) (j:Nat):Nat:=((ae.take j).map Prod.fst).sum
theorem jS (ae:List (Nat×Int)):(expand ae).length=(ae.map Prod.fst).sum:=by
 induction ae with
 |nil=>rfl
 |cons s r ih=>unfold expand at ih⊢;rw[QH,Qo,ih,QK,Zs,List.sum_cons]
theorem qS (ae:List (Nat×Int)):aC ae 0=0:=rfl
theorem bH (ae:List (Nat×Int)) (j:Nat) (s:Nat×Int) (h:ae[j]? =some s):aC ae (j+1)=aC ae j+s.1:=by
 unfold aC;obtain⟨hj,rfl⟩:=Ql.1 h;rw[XJ hj,QL,List.sum_append];simp
theorem nM (ae:List (Nat×Int)) (j:Nat) (h:ae.length≤j):aC ae j=(expand ae).length:=by
 unfold aC;rw[Qj h,jS]
theorem fH (ae:List (Nat×Int)) (j:Nat):aC ae j≤(expand ae).length:=by
 rw[jS];unfold aC
 conv=>rhs;rw[←XW j ae,QL,List.sum_append]
 omega
theorem zY (ae:List (Nat×Int)) (j:Nat) (s:Nat×Int) (h:ae[j]? =some s):expand ae=expand (ae.take j)++(List.replicate s.1 s.2++expand (ae.drop (j+1))):=by
 obtain⟨hj,rfl⟩:=Ql.1 h
 conv=>lhs;rw[←XW j ae,Zd hj]
 unfold expand;rw[QP,QH]
theorem mA (ae:List (Nat×Int)) (j:Nat):(expand (ae.take j)).length=aC ae j:=jS _
theorem eh (ae:List (Nat×Int)) (j:Nat) (s:Nat×Int) (h:ae[j]? =some s) (i:Nat) (hi:i<s.1):(expand ae)[aC ae j+i]? =some s.2:=by
 rw[zY ae j s h,QM (by rw[mA];omega),mA,QN (by rw[QK];omega)];rw[show aC ae j+i - aC ae j=i by omega];simp[hi]
theorem lo (ae:List (Nat×Int)) (k:Nat) (hk:k<(expand ae).length):∃j s i,ae[j]? =some s∧i<s.1∧k=aC ae j+i:=by
 induction ae generalizing k with
 |nil=>simp[expand] at hk
 |cons s r ih=>
  by_cases h:k<s.1
  ·exact⟨0,s,k,rfl,h,by simp[aC]⟩
  ·have si:k - s.1<(expand r).length:=by rw[jS] at hk⊢;rw[Zs,List.sum_cons] at hk;omega
   obtain⟨j,s',i,h1,h2,h3⟩:=ih (k - s.1) si;refine⟨j+1,s',i,by simpa using h1,h2,?_⟩;have:aC (s::r) (j+1)=s.1+aC r j:=by simp[aC]
   omega
structure eQ (dep:Nat) (ae:List (Nat×Int)):Prop where
 d8:dep≤8
 sum:(expand ae).length=2^dep
 nd:(ae.map Prod.snd).Nodup
 Ej:∀s∈ae,0<s.2∧s.2<4096
 two:∀(j:Nat) (s:Nat×Int),ae[j]? =some s→∃e,e≤dep∧s.1=2^e∧aC ae j%s.1=0
section
variable {dep : Nat} {ae : List (Nat × Int)}
theorem eQ.pos (h:eQ dep ae) (hs:ae[j]? =some s):0<s.1:=by
 obtain⟨e,-,h1,-⟩:=h.two j s hs;rw[h1];exact Nat.two_pow_pos e
theorem eQ.len (h:eQ dep ae):(expand ae).length≤256:=by
 rw[h.sum];exact Qh (Nat.pow_le_pow_right (by decide) h.d8) (by decide)
theorem eQ.many (h:eQ dep ae):ae.length≤256:=by
 have key:∀l:List (Nat×Int),(∀s∈l,0<s.1)→l.length≤(l.map Prod.fst).sum:=by
  intro l;induction l with
  |nil=>intro _;simp
  |cons a r ih=>
   intro ha;have h1:=ih fun s hs=>ha s (by simp[hs])
   have h2:=ha a (by simp);rw[QF,Zs,List.sum_cons];omega
 have:=key ae fun s hs=>by obtain⟨j,hj⟩:=List.getElem?_of_mem hs;exact h.pos hj
 rw[←jS] at this;exact Qh this h.len
theorem eQ.next (h:eQ dep ae) (hs:ae[j]? =some s):aC ae j+s.1=(expand ae).length∨∃y,(expand ae)[aC ae j+s.1]? =some y∧y≠s.2:=by
 rcases Nat.lt_or_ge (j+1) ae.length with h1|h1
 ·refine .inr ⟨ae[j+1].2,?_,fun e=> ?_⟩
  ·have Ey:=Qf h1;have:=eh ae (j+1) _ Ey 0 (h.pos Ey);rw[bH ae j s hs,XC] at this;exact this
  ·obtain⟨hj,he⟩:=Ql.1 hs;have:=(List.pairwise_iff_getElem.1 h.nd) j (j+1) (by simpa using hj) (by simpa using h1) (XL j);rw[List.getElem_map,List.getElem_map,he] at this;exact this e.symm
 ·exact .inl (by rw[←bH ae j s hs,nM ae (j+1) h1])
theorem eQ.ahead (h:eQ dep ae) (hs:ae[j]? =some s):aC ae j=0∨∃y,(expand ae)[aC ae j - 1]? =some y∧y≠s.2:=by
 cases j with
 |zero=>exact .inl rfl
 |succ j=>
  obtain⟨hj,he⟩:=Ql.1 hs;have Ey:ae[j]? =some ae[j]:=Qf (by omega);refine .inr ⟨ae[j].2,?_,fun e=> ?_⟩
  ·have hp:=h.pos Ey;have:=eh ae j _ Ey (ae[j].1 - 1) (by omega);rw[bH ae j _ Ey];rwa[show aC ae j+ae[j].1 - 1=aC ae j+(ae[j].1 - 1) by omega]
  ·have:=(List.pairwise_iff_getElem.1 h.nd) j (j+1) (by simp;omega) (by simpa using hj) (XL j);rw[List.getElem_map,List.getElem_map,he] at this;exact this e
end
end
end Go.Proofs.YthgdhacopamklaaGreat

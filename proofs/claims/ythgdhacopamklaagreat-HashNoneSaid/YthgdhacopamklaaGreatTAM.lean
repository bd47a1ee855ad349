/- What HashNone asks, part 13 of 41: parts of the walks and laws, each true as it stands. -/
import Derived.Test.YthgdhacopamklaaGreatTAL
set_option maxHeartbeats 16000000
set_option maxRecDepth 100000
set_option linter.unusedVariables false
set_option linter.unusedSimpArgs false
namespace Go.Proofs.YthgdhacopamklaaGreat
open Go.Proofs.Tryz
section
open Go.RowKit
attribute [local go_sem] Oper.semAt_some
variable {b c0 c1 cb f g0 g1 h0 h1 i mb nb nd np pb tb xb : Nat} {k : Bool} {W W3 W5 w wr : Wo} {u v vd vp x0 x1 : Va} {T e : TypeId} {au ag xs ys : List Int} {cs : List Va}
def Bl (x:fk):Nat:=x.pp.countP (fun b=> !b)+x.pd.countP (fun b=> !b)
theorem qX (l:List Bool) (i:Nat) (h:l[i]? =some false):(l.set i true).countP (fun b=> !b)+1=l.countP (fun b=> !b):=by
 induction l generalizing i with
 |nil=>simp at h
 |cons b r ih=>
  cases i with
  |zero=>
   simp at h;subst h;simp
  |succ i=>
   simp at h;have:=ih i h;rw[Qc,List.countP_cons,List.countP_cons];omega
theorem Ko {x:fk} (h:x.fU i=true) (hi:i<x.pp.length):x.pp[i]? =some false:=by
 unfold fk.fU at h;have hg:=bE x.pp i false hi;rw[Qf hi,←hg];cases hb:x.pp.getD i false with
 |false=>rfl
 |true=>rw[hb] at h;simp at h
theorem Kn {x:fk} (h:x.gH i=true) (hi:i<x.pd.length):x.pd[i]? =some false:=by
 unfold fk.gH at h;have hg:=bE x.pd i false hi;rw[Qf hi,←hg];cases hb:x.pd.getD i false with
 |false=>rfl
 |true=>rw[hb] at h;simp at h
theorem CM {x:fk} (h:x.fst=some (k,i)):(k=false∧i<x.ag.length∧x.fU i=true)∨(k=true∧i<x.au.length∧x.gH i=true):=by
 unfold fk.fst at h;cases h0:(List.range x.ag.length).find? x.fU with
 |some j=>
  rw[h0] at h;cases h
  exact .inl ⟨rfl,Zm.1 (List.mem_of_find?_eq_some h0),List.find?_some h0⟩
 |none=>
  rw[h0] at h;cases h1:(List.range x.au.length).find? x.gH with
  |some j=>
   rw[h1] at h;cases h
   exact .inr ⟨rfl,Zm.1 (List.mem_of_find?_eq_some h1),List.find?_some h1⟩
  |none=>rw[h1] at h;cases h
theorem vq {x:fk} (h:x.fst=some (k,i)) (lp:x.pp.length=x.ag.length) (ld:x.pd.length=x.au.length):Bl (x.place k i).2+1=Bl x:=by
 rcases CM h with⟨rfl,hi,hw⟩|⟨rfl,hi,hw⟩
 ·have h1:=qX x.pp i (Ko hw (by omega));unfold Bl fk.place;simp only[Xn,if_false];omega
 ·have h1:=qX x.pd i (Kn hw (by omega));unfold Bl fk.place;simp only[if_true];omega
theorem PT {x:fk} (f:Nat) (h:x.fst=none):x.run f=(0,x):=by
 cases f with
 |zero=>rfl
 |succ f=>unfold fk.run;rw[h]
theorem Ci {x:fk} (f:Nat) (h:x.fst=some (k,i)):x.run (f+1)=if(x.place k i).1=0 then(x.place k i).2.run f else x.place k i:=by
 rw[fk.run.eq_2,h]
def US (w:Wo) (b:Nat) (v:Va) (xs:List Int):Prop:=Ns w w.heap.size .i64 v xs∧∀g,v.ownBlock=some g→b≤g
def PlR (w w' :Wo) (r:Int×fk) (v:Va):Prop:=
 (r.1≠0∧v= .tuple #[.agg #[.slice none 0 0,.slice none 0 0],.slice none 0 0,.slice none 0 0,.int .i64 r.1])∨
 (r.1=0∧∃sp sd wp wd,v= .tuple #[.agg #[sp,sd],wp,wd,.int .i64 0]∧US w' w.heap.size sp r.2.ag∧US w' w.heap.size sd r.2.au∧aB w' w.heap.size 3 .i64 wp (eT r.2.pp)∧aB w' w.heap.size 3 .i64 wd (eT r.2.pd))
def QS (pb tb cb mb:Nat):Nat→Prop:=fun k=>k=pb∨TS tb cb mb k
theorem lS (h:aq w b 36 [x0,x1]):(loadVar 36 ⟨b,0,none⟩).run prog w= .ok (.agg #[x0,x1]) w:=by
 have hl:=run_loadCells_list (P:=prog) w ⟨b,0,none⟩ [x0,x1] (fun j v hj=>by rw[dP,QR];exact h.cell hj);simp only[QF,Xq,QR,Nat.reduceAdd] at hl;have h2:(isAgg 36).run prog w= .ok true w:=by kernel_rfl
 have h3:(sizeOf 36).run prog w= .ok 2 w:=by kernel_rfl
 simp[loadVar,hl,h2,h3,Result.andThen]
theorem aq.NV {g:Nat} (h:aq w g e [x0,x1]) (y0 y1:Va):aq ((w.setCell ⟨g,0,none⟩ y0).setCell ⟨g,1,none⟩ y1) g e [y0,y1]:=(h.set 0 y0).set 1 y1
theorem oy {P:Program} {fn:Func} {t:TypeId} {p u1 u2 u3:Tmp} {a:Addr} {tmps:Array Va} {x:Va} (h:fn.results= #[.cell p t,.tmp u1,.tmp u2,.tmp u3]) (hp:tmps.getD p undef= .pointer (some a)) (hl:(loadVar t a).run P w= .ok x w):
  (results fn tmps).run P w= .ok (.tuple #[x,tmps.getD u1 undef,tmps.getD u2 undef,tmps.getD u3 undef]) w:=by
 simp only[results,h];simp only[Array.getD_eq_getD_getElem?] at hp;simp[hp,hl,asAddr]
theorem aB.aT {base:Nat} {k:IntKind} (h:aB w base e k v xs) (hb:aq w nb T cs) (JG:T≠e) (j:Nat) (u:Va):aB (w.setCell ⟨nb,j,none⟩ u) base e k v xs:=
 World.ownsRow.kept h (row:=some nb) ⟨rfl,rfl,rfl,by simp,fun i _ bT=>Xl _ _ _ _ (fun e=>bT (by rw[e]))⟩ (.inr (aq.not_row hb JG h))
def NF (w:Wo) (b:Nat) (v u:Va) (xs ys:List Int):Prop:=aB w b 3 .i64 v xs∧aB w b 3 .i64 u ys∧∀g,v.ownBlock=some g→u.ownBlock≠some g
theorem ack {W4:Wo} (h:aB W4 b 3 .i64 v xs) (k:aB W5 W4.heap.size 3 .i64 u ys) (hb:Below W4.heap.size W4 W5) (hs:b≤W4.heap.size):NF W5 b v u xs ys:=
 ⟨h.on hb,k.low hs,fun g h1 h2=>by
  have l1:=(Xr h g h1).2;have l2:=(Xr k g h2).1;omega⟩
theorem NF.on {w' :Wo} (h:NF w b v u xs ys) (hb:Below w.heap.size w w'):NF w' b v u xs ys:=⟨h.1.on hb,h.2.1.on hb,h.2.2⟩
theorem NF.aT (h:NF w b v u xs ys) (hb:aq w nb T cs) (JG:T≠3) (j:Nat) (x:Va):NF (w.setCell ⟨nb,j,none⟩ x) b v u xs ys:=⟨h.1.aT hb JG j x,h.2.1.aT hb JG j x,h.2.2⟩
def IX (W3 wx:Wo) (tb pb nb:Nat) (ag au:List Int):Prop:=
 ∃xb vp vd,aq wx nb 190 [.pointer (some ⟨xb,0,none⟩)]∧aq wx xb 196 [.pointer (some ⟨tb,0,none⟩),.pointer (some ⟨pb,0,none⟩),vp,vd,.slice none 0 0,.slice none 0 0]∧NF wx W3.heap.size vp vd ag au∧W3.heap.size≤nb∧W3.heap.size≤xb∧Below W3.heap.size W3 wx
theorem Vv (h:NF W5 W3.heap.size vp vd ag au) (hb:Below W3.heap.size W3 W5):
  IX W3 ((W5.alloc (.cells #[.pointer (some ⟨tb,0,none⟩),.pointer (some ⟨pb,0,none⟩),vp,vd,.slice none 0 0,.slice none 0 0] 196)).alloc (.cells #[.pointer (some ⟨W5.heap.size,0,none⟩)] 190)) tb pb (W5.heap.size+1) ag au:=by
 refine⟨W5.heap.size,vp,vd,cL W5 _ _,dx W5 _ _,h.on ((aF _ _).alloc (by simp) _),XK hb.size,hb.size,(hb.alloc hb.size _).alloc (Qh hb.size (by simp)) _⟩
theorem Vu (h:NF W5 W3.heap.size vp vd ag au) (hb:Below W3.heap.size W3 W5):
  IX W3 ((W5.alloc (.cells #[.pointer (some ⟨W5.heap.size+1,0,none⟩)] 190)).alloc (.cells #[.pointer (some ⟨tb,0,none⟩),.pointer (some ⟨pb,0,none⟩),vp,vd,.slice none 0 0,.slice none 0 0] 196)) tb pb W5.heap.size ag au:=
 ⟨W5.heap.size+1,vp,vd,dx W5 _ _,cL W5 _ _,h.on ((aF _ _).alloc (by simp) _),hb.size,XK hb.size,(hb.alloc hb.size _).alloc (Qh hb.size (by simp)) _⟩
theorem Ji {z:Va} (h:NF W5 W3.heap.size vp vd ag au) (hb:Below W3.heap.size W3 W5) (k:aq W5 nb 190 [z]) (hn:W3.heap.size≤nb):
  IX W3 ((W5.alloc (.cells #[.pointer (some ⟨tb,0,none⟩),.pointer (some ⟨pb,0,none⟩),vp,vd,.slice none 0 0,.slice none 0 0] 196)).setCell ⟨nb,0,none⟩ (.pointer (some ⟨W5.heap.size,0,none⟩))) tb pb nb ag au:=by
 have k1:=k.alloc (.cells #[.pointer (some ⟨tb,0,none⟩),.pointer (some ⟨pb,0,none⟩),vp,vd,.slice none 0 0,.slice none 0 0] 196);have k2:aq (W5.alloc (.cells #[.pointer (some ⟨tb,0,none⟩),.pointer (some ⟨pb,0,none⟩),vp,vd,.slice none 0 0,.slice none 0 0] 196)) W5.heap.size 196 [.pointer (some ⟨tb,0,none⟩),.pointer (some ⟨pb,0,none⟩),vp,vd,.slice none 0 0,.slice none 0 0]:=ar W5 [_,_,_,_,_,_] _;exact⟨W5.heap.size,vp,vd,k1.set 0 _,k2.az (fun e=>by have:=k.lt;have e2:W5.heap.size=nb:=e;omega) _,(h.on (aF _ _)).aT k1 (by decide) _ _,hn,hb.size,(hb.alloc hb.size _).setCell (p:=⟨nb,0,none⟩) hn _⟩
theorem ace:(prog.info? 4).map (fun i=>(i.zero,i.size,i.bytes))=some (some (.bool false),1,1):=by kernel_rfl
theorem vI (n:Nat) (hn:n≤100000) (w:Wo):(Instr.makeSlice 193 (.int .i64 n) (.int .i64 n)).run prog w= .ok (.slice (some ⟨w.heap.size,0,none⟩) n n) (w.alloc (.cells (List.replicate n (.bool false)).toArray 4)):=
 eV underlying193 ace (Ia false) (by decide) n hn w
def NX (t:aE) (next:Nat) (ag au:List Int):fk:=⟨t,next,ag,au,ag.map fun _=>false,au.map fun _=>false⟩
theorem yh {X:Wo} {next:Nat} {t:aE} (ht:bf X tb cb mb t) (hp:aq X pb 189 (iX tb 2 next))
  (hm:aq X xb 196 [.pointer (some ⟨tb,0,none⟩),.pointer (some ⟨pb,0,none⟩),.slice (some ⟨g0,0,none⟩) np c0,.slice (some ⟨g1,0,none⟩) nd c1,.slice none 0 0,.slice none 0 0])
  (r0:Rw X g0 3 (ag.map (.int .i64))) (r1:Rw X g1 3 (au.map (.int .i64))) (b0:aq X h0 4 (List.replicate np (.bool false))) (b1:aq X h1 4 (List.replicate nd (.bool false)))
  (SX:g0≠g1) (SW:h0≠h1) (ei:np=ag.length) (im:nd=au.length) (pV:np≤c0∧c0≤maxLen) (jb:nd≤c1∧c1≤maxLen) (n0:np≤1700) (n1:nd≤1700) (yW:2≤next) (oc:next≤t.len) (hr:∀x∈ag++au,0≤x∧x≤65535):
  fA ((X.setCell ⟨xb,4,none⟩ (.slice (some ⟨h0,0,none⟩) np np)).setCell ⟨xb,5,none⟩ (.slice (some ⟨h1,0,none⟩) nd nd)).drew xb tb pb g0 g1 h0 h1 c0 c1 cb mb (NX t next ag au):=by
 subst ei im;have q:aG (fun k=>k=xb) X ((X.setCell ⟨xb,4,none⟩ (.slice (some ⟨h0,0,none⟩) ag.length ag.length)).setCell ⟨xb,5,none⟩ (.slice (some ⟨h1,0,none⟩) au.length au.length)).drew:=
  aG.drew (aG.setCell (S:=fun k=>k=xb) (aG.setCell (S:=fun k=>k=xb) (aG.refl _ X) (fun _=>rfl) _) (fun _=>rfl) _)
 refine⟨⟨?_,r0.aL q (r0.ne hm (by decide)),r1.aL q (r1.ne hm (by decide)),?_,?_,SX,SW,?_,?_,pV,jb,Qh n0 (by decide),Qh n1 (by decide)⟩,
  ht.aL q (Xm (hm.ne ht.own (by decide))) (Xm (hm.ne ht.counts (by decide))) (Xm (hm.bS ht.kept)),hp.aL q (hp.ne hm (by decide)),yW,oc,fun y hy=>(hr y hy).1⟩
 ·exact(hm.set 4 _).set 5 _
 ·have h:=(b0.aL q (b0.ne hm (by decide))).rw
  show Rw _ _ _ ((ag.map fun _=>false).map .bool);rw[List.map_map,show(Value.bool∘fun _:Int=>false)=fun _=>Value.bool false from rfl,List.map_const'];exact h
 ·have h:=(b1.aL q (b1.ne hm (by decide))).rw
  show Rw _ _ _ ((au.map fun _=>false).map .bool);rw[List.map_map,show(Value.bool∘fun _:Int=>false)=fun _=>Value.bool false from rfl,List.map_const'];exact h
 ·exact Qq _
 ·exact Qq _
structure ny (w wr:Wo) (nb xb tb pb g0 g1 h0 h1 c0 c1 cb mb:Nat) (np nd:Nat) (r:Int×fk) (x:fk) (f:Nat):Prop where
 DY:fA wr xb tb pb g0 g1 h0 h1 c0 c1 cb mb x
 box:aq wr nb 190 [.pointer (some ⟨xb,0,none⟩)]
 res:aq wr (w.heap.size+1) 36 [.slice none 0 0,.slice none 0 0]
 aL:aG (QS pb tb cb mb) w wr
 run:r=x.run f
 unp:Bl x≤f
 np:x.ag.length=np
 nd:x.au.length=nd
theorem fk.oB (x:fk) (k:Bool) (i:Nat):(x.place k i).2.ag.length=x.ag.length∧(x.place k i).2.au.length=x.au.length:=by
 unfold fk.place;cases k<;>simp
theorem ny.step {r:Int×fk} {x:fk} (h:ny w wr nb xb tb pb g0 g1 h0 h1 c0 c1 cb mb np nd r x f) (hx:x.fst=some (k,i)) (he:(x.place k i).1=0)
  (hp:fA W xb tb pb g0 g1 h0 h1 c0 c1 cb mb (x.place k i).2) (hc:aG (PS pb tb cb mb g0 g1 h0 h1) wr W) (pj:w.heap.size≤g0∧w.heap.size≤g1∧w.heap.size≤h0∧w.heap.size≤h1) (gZ:¬PS pb tb cb mb g0 g1 h0 h1 nb) (oL:¬PS pb tb cb mb g0 g1 h0 h1 (w.heap.size+1)):
  ∃f',ny w W nb xb tb pb g0 g1 h0 h1 c0 c1 cb mb np nd r (x.place k i).2 f'∧f' <f:=by
 have hu:=vq hx h.DY.gm.lp h.DY.gm.ld;have hun:=h.unp;obtain⟨f',rfl⟩:∃f',f=f' +1:=⟨f - 1,by omega⟩;refine⟨f',⟨hp,h.box.aL hc gZ,h.res.aL hc oL,?_,?_,by omega,?_,?_⟩,XL _⟩
 ·refine h.aL.iR hc (fun _ _ h=>h) (fun y hy hs=> ?_)
  rcases hs with hs|hs|hs|hs|hs
  ·exact hs
  ·omega
  ·omega
  ·omega
  ·omega
 ·rw[h.run,Ci f' hx,Xo he]
 ·rw[(fk.oB x k i).1];exact h.np
 ·rw[(fk.oB x k i).2];exact h.nd
theorem ny.on {r:Int×fk} {x:fk} (h:ny w wr nb xb tb pb g0 g1 h0 h1 c0 c1 cb mb np nd r x f) (hb:Below wr.heap.size wr W):ny w W nb xb tb pb g0 g1 h0 h1 c0 c1 cb mb np nd r x f:=
 ⟨h.DY.on hb,h.box.on hb,h.res.on hb,h.aL.trans (aG.aZ hb),h.run,h.unp,h.np,h.nd⟩
def kI (k:Bool):Int:=if k then 1 else 0
theorem Gf {x:fk} (h:x.fst=some (k,i)):kc x=[.int .i64 (kI k),.int .i64 i]:=by
 unfold kc;rw[h];cases k<;>rfl
theorem Gg {x:fk} (h:x.fst=none):kc x=[.int .i64 (-1),.int .i64 (-1)]:=by
 unfold kc;rw[h]
theorem FY (w:Wo) (xb tb pb g0 g1 h0 h1 c0 c1 cb mb:Nat) (x:fk) (h:fA w xb tb pb g0 g1 h0 h1 c0 c1 cb mb x) (hx:x.fst=some (k,i)):
  Calls prog 102 #[.pointer (some ⟨xb,0,none⟩),.int .i64 (kI k),.int .i64 i] w fun e w' =>e= .returned (.int .i64 (x.place k i).1)∧fA w' xb tb pb g0 g1 h0 h1 c0 c1 cb mb (x.place k i).2∧aG (PS pb tb cb mb g0 g1 h0 h1) w w' :=by
 rcases CM hx with⟨rfl,hi,-⟩|⟨rfl,hi,-⟩
 ·exact F4 w xb tb pb g0 g1 h0 h1 c0 c1 cb mb x h i hi
 ·exact F2 w xb tb pb g0 g1 h0 h1 c0 c1 cb mb x h i hi
theorem FX (w:Wo) (tb cb mb pb next:Nat) (t:aE) (ht:bf w tb cb mb t) (hp:aq w pb 189 (iX tb 2 next)) (yW:2≤next) (oc:next≤t.len) (pv dv:Va) (ag au:List Int) (pY:Ns w w.heap.size .i64 pv ag) (ue:Ns w w.heap.size .i64 dv au)
  (dh:(ag.length:Int)=aR t.len) (oR:(au.length:Int)=aR ag.length) (hr:∀x∈ag++au,0≤x∧x≤65535):
  Calls prog 42 #[.pointer (some ⟨tb,0,none⟩),.pointer (some ⟨pb,0,none⟩),.agg #[pv,dv]] w fun e w' =>(∃v,e= .returned v∧PlR w w' (fm t next ag au) v)∧bf w' tb cb mb (fm t next ag au).2.t∧aq w' pb 189 (iX tb 2 (fm t next ag au).2.next)∧aG (QS pb tb cb mb) w w' :=by
 obtain⟨Ap,cp,rfl,hp1,Tx⟩:=pY.form;obtain⟨Ad,cd,rfl,JO,TH⟩:=ue.form;obtain⟨np,ei⟩:=eX ag.length;obtain⟨nd,im⟩:=eX au.length;obtain⟨n,hn⟩:=eX t.len;have ec:=ht.ok;obtain⟨W2,cE⟩:=eX ((w.alloc (.cells #[.slice Ap ag.length cp,.slice Ad au.length cd] 36)).alloc (.cells #[.slice none 0 0,.slice none 0 0] 36));have X2:Af (aq W2 w.heap.size 36 [.slice Ap np cp,.slice Ad nd cd]):=by show _=_;rw[cE,ei,im];exact dx w _ _
 have R2:Af (aq W2 (w.heap.size+1) 36 [.slice none 0 0,.slice none 0 0]):=by show _=_;rw[cE];exact cL w _ _
 have B2:Af (Below w.heap.size w W2):=by rw[cE];exact(aF _ _).alloc (by simp) _
 have Ey:W2.heap.size=w.heap.size+2:=by rw[cE];simp
 have T2:=aa (ht.on B2.o);have P2:=aa (hp.on B2.o);have Hpv:=aa (show Ns W2 w.heap.size .i64 (.slice Ap np cp) ag by rw[ei];exact Ns.below pY B2.o)
 have Hdv:=aa (show Ns W2 w.heap.size .i64 (.slice Ad nd cd) au by rw[im];exact Ns.below ue B2.o)
 have px:=aa (cn W2 tb n _ _ (by rw[hn];exact T2.o.x0))
 have mn:=aa (vC W2 tb cb mb t T2.o (.slice Ap np cp) (.slice Ad nd cd) ag au (Hpv.o.more B2.o.size) (Hdv.o.more B2.o.size) dh oR hr);have jU:((n:Int)==0)=false:=Xc (by have:=ec.n0;omega)
 have HNd:=aa (fun W=>Cy W n (by have:=ec.n0;omega) (by have:=ec.n1;omega))
 have gY:=ff n (by omega) (by have:=ec.n1;omega)
 have Hn:=Ba hn ei im (by rw[←hn] at dh;omega:np≤1700) (by have:=ff np (by omega) (by rw[←hn] at dh;omega);rw[ei] at this;omega:nd≤1700)
 have NI:=dK yW oc;have anN:=aa oR;have HnP:Af (1≤np∧1≤nd):=by
  have h0:=ec.n0;have q1:1≤ag.length:=by unfold aR at dh;split at dh<;>omega
  have q2:1≤au.length:=by unfold aR at oR;split at oR<;>omega
  exact⟨by omega,by omega⟩
 have Hr:=aa hr;have HE:Af (∀W,Below w.heap.size w W→bf W tb cb mb t∧aq W pb 189 (iX tb 2 next)):=fun W hW=>⟨ht.on hW,hp.on hW⟩
 rw[←ei,←im] at cE⊢;have Tb:=aa cE.symm;have EH:=aa Ey;clear cE Ey ht hp yW oc pY ue dh oR hr hp1 Tx JO TH ei im hn ec gY;go_enter func42,ntmps42;go_upto_region 1 with fail
 rw[Tb.o];obtain⟨x0,x1⟩:=gh X2.o;by_cases SC:¬ke t ag au=true
 ·have aaU:ke t ag au=false:=by simpa using SC
  have e1:fm t next ag au=(100,⟨t,next,ag,au,ag.map fun _=>false,au.map fun _=>false⟩):=by
   unfold fm;rw[Xd (by have:=T2.o.ok.n0;omega),Xo aaU]
  have E1:=aa e1;rw[aaU] at mn;clear SC aaU e1;go_upto_region 4 with(first
   |(go_at_call 98;(with_reducible refine px.o.mono ?_);rintro e W9 ⟨rfl,rfl⟩)
   |(go_at_call 54;go_must(refine mn.o.mono ?_);rintro e W3 ⟨rfl,b3⟩;have B3:=aa b3;clear b3))
  have R3:=aa (R2.o.on B3.o);obtain⟨y0,y1⟩:=gh R3.o;obtain⟨f0,f1⟩:=fR2 R3.o;clear x0 x1 mn;go_wp2_with fail;refine bodyPost_ret (oy rfl rfl (lS (R3.o.NV _ _))) rfl ?_;rw[E1.o];have Z3:=((B2.o.trans (B3.o.mono B2.o.size)).setCell (p:=⟨w.heap.size+1,0,none⟩) (Q0 _) (.slice none 0 0)).setCell (p:=⟨w.heap.size+1,1,none⟩) (Q0 _) (.slice none 0 0);exact⟨⟨_,rfl,.inl ⟨(by show(100:Int)≠0;decide),rfl⟩⟩,(HE.o _ Z3).1,(HE.o _ Z3).2,aG.aZ Z3⟩
 ·have SC:=Decidable.not_not.1 SC
  rw[SC] at mn;have Hso:=aa SC;clear SC;go_upto_region 5 with(first
   |(go_at_call 98;(with_reducible refine px.o.mono ?_);rintro e W9 ⟨rfl,rfl⟩)
   |(go_at_call 54;go_must(refine mn.o.mono ?_);rintro e W3 ⟨rfl,b3⟩;have B3:=aa b3;clear b3))
  have R3:=aa (R2.o.on B3.o);have X3:=aa (X2.o.on B3.o);have py:=aa (B2.o.trans (B3.o.mono B2.o.size));have pw:=aa (cn W3 tb n _ _ (by rw[Hn.o.1];exact(HE.o W3 py.o).1.x0))
  have IC:=aa (xY W3 pb tb cb mb 2 next t (HE.o W3 py.o).2 (HE.o W3 py.o).1 (Qh NI.o.1 NI.o.2));have ag9:=aa (Ns.below Hpv.o (B3.o.mono B2.o.size));have aha:=aa (Ns.below Hdv.o (B3.o.mono B2.o.size));have NG:Af (w.heap.size+2≤W3.heap.size):=by show _≤_;rw[←EH.o];exact B3.o.size
  clear x0 x1 mn px Hpv Hdv T2 P2 X2 R2 Tb EH B2 B3;by_cases BH:t.room 2<kU n
  ·have e1:fm t next ag au=(90,⟨t,next,ag,au,ag.map fun _=>false,au.map fun _=>false⟩):=by
    unfold fm;rw[Xd (by have:=(HE.o W3 py.o).1.ok.n0;omega),Xd (by rw[Hso.o];simp),Xo (by rw[←Hn.o.1];exact BH)]
   have E1:=aa e1;obtain⟨y0,y1⟩:=gh R3.o;obtain⟨f0,f1⟩:=fR2 R3.o;clear e1;go_wp2_with(first
    |(go_at_call 98;(with_reducible refine pw.o.mono ?_);rintro e W9 ⟨rfl,rfl⟩)
    |(go_at_call 77;(with_reducible refine IC.o.mono ?_);rintro e W9 ⟨rfl,rfl⟩)
    |(go_at_call 78;(with_reducible refine(HNd.o _).mono ?_);rintro e W9 ⟨rfl,rfl⟩))
   refine bodyPost_ret (oy rfl rfl (lS (R3.o.NV _ _))) rfl ?_;rw[E1.o];have Z3:=((py.o).setCell (p:=⟨w.heap.size+1,0,none⟩) (Q0 _) (.slice none 0 0)).setCell (p:=⟨w.heap.size+1,1,none⟩) (Q0 _) (.slice none 0 0);exact⟨⟨_,rfl,.inl ⟨(by show(90:Int)≠0;decide),rfl⟩⟩,(HE.o _ Z3).1,(HE.o _ Z3).2,aG.aZ Z3⟩
  ·have e1:fm t next ag au=fk.run (ag.length+au.length) ⟨t,next,ag,au,ag.map fun _=>false,au.map fun _=>false⟩:=by
    unfold fm;rw[Xd (by have:=(HE.o W3 py.o).1.ok.n0;omega),Xd (by rw[Hso.o];simp),Xd (by rw[←Hn.o.1];exact BH)]
   have E1:=aa e1;clear e1;go_upto_region 7 with(first
    |(go_at_call 98;(with_reducible refine pw.o.mono ?_);rintro e W9 ⟨rfl,rfl⟩)
    |(go_at_call 77;(with_reducible refine IC.o.mono ?_);rintro e W9 ⟨rfl,rfl⟩)
    |(go_at_call 78;(with_reducible refine(HNd.o _).mono ?_);rintro e W9 ⟨rfl,rfl⟩))
   clear pw IC HNd BH;have dZ:Af (∀W,Below W3.heap.size W3 W→W.cell? ⟨w.heap.size,0,none⟩=some (.slice Ap np cp)∧W.cell? ⟨w.heap.size,1,none⟩=some (.slice Ad nd cd)):=fun W hW=>⟨(X3.o.on hW).cell (j:=0) rfl,(X3.o.on hW).cell (j:=1) rfl⟩
   have NR:Af (∀W,Below W3.heap.size W3 W→Calls prog 99 #[.slice Ap np cp] W fun e w' =>∃v',e= .returned v'∧aB w' W.heap.size 3 .i64 v' ag∧Below W.heap.size W w'):=fun W hW=>Fl W _ ag _ (Ns.below ag9.o (hW.mono (Qh (XM _ _) NG.o))) (by have:=Hn.o;omega)
   have Tg:Af (∀W,Below W3.heap.size W3 W→Calls prog 99 #[.slice Ad nd cd] W fun e w' =>∃v',e= .returned v'∧aB w' W.heap.size 3 .i64 v' au∧Below W.heap.size W w'):=fun W hW=>Fl W _ au _ (Ns.below aha.o (hW.mono (Qh (XM _ _) NG.o))) (by have:=Hn.o;omega)
   have Bi:Af (∀W o,Below W3.heap.size W3 W→Below W3.heap.size W3 (W.alloc o)):=fun W o h=>h.alloc h.size o
   have HSs:Af (∀W b j u,Below W3.heap.size W3 W→W3.heap.size≤b→Below W3.heap.size W3 (W.setCell ⟨b,j,none⟩ u)):=fun W b j u h hb=>h.setCell (p:=⟨b,j,none⟩) hb u
   go_cut [10] from 34 to 44 (fun v wx=>∃nb,v= .pointer (some ⟨nb,0,none⟩)∧Af (IX W3 wx tb pb nb ag au))
   case first=>
    have lz:=dZ.o W3.drew (Xj _ _).drew;go_region_held3 (fun W=>W.cell? ⟨w.heap.size,0,none⟩=some (.slice Ap np cp)∧W.cell? ⟨w.heap.size,1,none⟩=some (.slice Ad nd cd)) (first|with_reducible exact lz|with_reducible exact dZ.o _ (Bi.o _ _ (Xj _ _)).drew|with_reducible exact dZ.o _ B4.o|with_reducible exact dZ.o _ B5.o|with_reducible exact dZ.o _ (Bi.o _ _ B4.o)|with_reducible exact dZ.o _ (Bi.o _ _ B5.o)|with_reducible exact dZ.o _ (Bi.o _ _ (Bi.o _ _ B5.o))|with_reducible exact dZ.o _ (HSs.o _ _ _ _ (Bi.o _ _ B5.o) (Qg _))|with_reducible exact dZ.o _ (HSs.o _ _ _ _ (Bi.o _ _ B5.o) B4.o.size)|with_reducible exact dZ.o _ (HSs.o _ _ _ _ (Bi.o _ _ B5.o) B5.o.size)|with_reducible exact dZ.o _ (HSs.o _ _ _ _ (Bi.o _ _ (Bi.o _ _ B5.o)) B5.o.size)|go_keep)
     (first
      |((go_at_call 99);(with_reducible refine(NR.o _ ?_).mono ?_);(·first|exact(Xj _ _).drew|exact(Bi.o _ _ (Xj _ _)).drew);rintro e W4 ⟨v4,rfl,o4,b4⟩;obtain⟨A4,n4,c4,hv4⟩:=o4.bu;subst hv4;have O4:=aa o4;have Q4:=aa b4;have B4:Af (Below W3.heap.size W3 W4):=(by first|exact(Xj _ _).drew.trans b4|exact(Bi.o W3 _ (Xj _ _)).drew.trans (b4.mono (Bi.o W3 _ (Xj _ _)).size));(try have K4:=aa (aq.on (w:=(W3.alloc (.cells #[.pointer none] 190)).drew) (ar W3 [.pointer none] 190) b4));(try have z4:=K4.o.cell (j:=0) rfl);(try have f4:=K4.o.free 0);clear o4 b4)
      |((go_at_call 99);(with_reducible refine(Tg.o _ ?_).mono ?_);(·first|exact B4.o|exact B4.o.alloc B4.o.size _);rintro e W5 ⟨v5,rfl,o5,b5⟩;obtain⟨A5,n5,c5,hv5⟩:=o5.bu;subst hv5;have O5:=aa o5;have Q5:=aa b5;have B5:Af (Below W3.heap.size W3 W5):=(by first|exact B4.o.trans (b5.mono B4.o.size)|exact(B4.o.alloc B4.o.size _).trans (b5.mono (Qh B4.o.size (by simp))));(try have K5:=aa (K4.o.on b5));(try have K5:=aa ((ar W4 [.pointer none] 190).on b5));(try have z5:=K5.o.cell (j:=0) rfl);(try have f5:=K5.o.free 0);(try have z6:=fun o=>(K5.o.alloc o).cell (j:=0) rfl);(try have f6:=fun o=>(K5.o.alloc o).free 0);(try clear z4 f4);have E4:Below W4.heap.size W4 W5:=(by first|exact b5|exact(aF W4 _).trans (b5.mono (by simp)));have HV:=aa (ack (aB.low O4.o (by first|exact Qg _|exact(Bi.o W3 _ (Xj _ _)).size)) (aB.low o5 (by first|exact Qg _|(simp;done))) E4 B4.o.size);clear o5 b5 E4))
    ·go_wp2_with fail
     go_meet
     case rel=>exact⟨_,rfl,Vv HV.o B5.o⟩
    ·go_wp2_with fail
     go_meet
     case rel=>exact⟨_,rfl,Vu HV.o B5.o⟩
    ·go_wp2_with fail
     go_meet
     case rel=>exact⟨_,rfl,Ji HV.o B5.o K5.o B4.o.size⟩
    ·go_wp2_with fail
     go_meet
     case rel=>exact⟨_,rfl,Ji HV.o B5.o K5.o (Qg _)⟩
   case rest=>
    obtain⟨nb,rfl,HC⟩:=hcut;obtain⟨xb,vp,vd,m1,m2,m3,m4,m5,m6⟩:=HC.o;obtain⟨g0,c0,Tu,AV,pV,agQ,rg0⟩:=rK m3.1 (by have:=Hn.o;have:=HnP.o;omega)
    obtain⟨g1,c1,hvd,SN,jb,agP,rg1⟩:=rK m3.2.1 (by have:=Hn.o;have:=HnP.o;omega)
    have agJ:g0≠g1:=fun e=>m3.2.2 g0 (by rw[Tu];rfl) (by rw[hvd,e];rfl)
    rw[Tu,hvd,←Hn.o.2.1,←Hn.o.2.2.1] at m2;have HM:=anl m1 m2 rg0 rg1 agJ m6 m4 m5 AV SN;have S0:=kH (by have:=Hn.o;omega:np≤c0) agQ (by have:=Hn.o;omega:nd≤c1) agP
    clear HC m1 m2 m3 m4 m5 m6 Tu hvd AV SN pV jb agQ agP rg0 rg1 agJ;have n0:=HM.o.1.cell (j:=0) rfl;obtain⟨-,-,-,-,z2,z3⟩:=cL6 HM.o.2.1;obtain⟨-,-,-,-,f2,f3⟩:=fR6 HM.o.2.1;have NL:Af (∀W,Below wc.heap.size wc W→(W.cell? ⟨w.heap.size,0,none⟩=some (.slice Ap np cp)∧W.cell? ⟨w.heap.size,1,none⟩=some (.slice Ad nd cd))∧W.cell? ⟨nb,0,none⟩=some (.pointer (some ⟨xb,0,none⟩))):=fun W hW=>⟨dZ.o W (HM.o.2.2.2.2.2.1.trans (hW.mono HM.o.2.2.2.2.2.1.size)),(HM.o.1.on hW).cell (j:=0) rfl⟩
    have hs4:=NL.o wc.drew (Xj _ _).drew;have ana:=vI np (by have:=Hn.o;omega)
    have am9:=vI nd (by have:=Hn.o;omega)
    have z4:=fun o o' =>((HM.o.2.1.alloc o).alloc o').cell (j:=4) rfl
    have z5:=fun o o' =>((HM.o.2.1.alloc o).alloc o').cell (j:=5) rfl
    have f4:=fun o o' =>((HM.o.2.1.alloc o).alloc o').free 4
    have f5:=fun o o' =>((HM.o.2.1.alloc o).alloc o').free 5
    clear z2 z3 f2 f3;have fu:=HM.o.1.ne HM.o.2.1 (by decide);have JF:w.heap.size≠xb:=by have:=HM.o.2.2.2.2.2.2.2.1;have:=NG.o;omega
    have Kg:Af (∀W o,Below wc.heap.size wc W→Below wc.heap.size wc (W.alloc o)):=fun W o h=>h.alloc h.size o
    have HSx:Af (∀W i j u u',Below wc.heap.size wc W→((((W.setCell ⟨xb,i,none⟩ u).setCell ⟨xb,j,none⟩ u').drew.cell? ⟨w.heap.size,0,none⟩=some (.slice Ap np cp)∧((W.setCell ⟨xb,i,none⟩ u).setCell ⟨xb,j,none⟩ u').drew.cell? ⟨w.heap.size,1,none⟩=some (.slice Ad nd cd))∧((W.setCell ⟨xb,i,none⟩ u).setCell ⟨xb,j,none⟩ u').drew.cell? ⟨nb,0,none⟩=some (.pointer (some ⟨xb,0,none⟩)))):=fun W i j u u' h=>by
     have h1:=NL.o W h;refine⟨⟨?_,?_⟩,?_⟩<;>refine Eq.trans (b:=((W.setCell ⟨xb,i,none⟩ u).setCell ⟨xb,j,none⟩ u').cell? _) rfl ?_<;>rw[World.cell?_setCell_other _ _ _ _ (fun e=>by first|exact JF (XF Addr.block e).symm|exact JF (XF Addr.block e)|exact fu (XF Addr.block e)|exact fu (XF Addr.block e).symm),World.cell?_setCell_other _ _ _ _ (fun e=>by first|exact JF (XF Addr.block e).symm|exact JF (XF Addr.block e)|exact fu (XF Addr.block e)|exact fu (XF Addr.block e).symm)]
     ·exact h1.1.1
     ·exact h1.1.2
     ·exact h1.2
    go_upto_region 8 with fail
    go_cut [10] from 45 to 56 (fun v wx=>v= .pointer (some ⟨nb,0,none⟩)∧Af (∃h0 h1,fA wx xb tb pb g0 g1 h0 h1 c0 c1 cb mb (NX t next ag au)∧aq wx nb 190 [.pointer (some ⟨xb,0,none⟩)]∧W3.heap.size≤h0∧W3.heap.size≤h1∧Below W3.heap.size W3 wx))
    case first=>
     go_region_held3 (fun W=>(W.cell? ⟨w.heap.size,0,none⟩=some (.slice Ap np cp)∧W.cell? ⟨w.heap.size,1,none⟩=some (.slice Ad nd cd))∧W.cell? ⟨nb,0,none⟩=some (.pointer (some ⟨xb,0,none⟩))) (first|with_reducible exact hs4|with_reducible exact NL.o _ ((Kg.o _ _ (Xj _ _)).drew)|with_reducible exact NL.o _ ((Kg.o _ _ (Kg.o _ _ (Xj _ _))).drew)|with_reducible exact HSx.o _ _ _ _ _ (Kg.o _ _ (Kg.o _ _ (Xj _ _)))|go_keep) (fail)
     ·have hX:Below wc.heap.size wc ((wc.alloc (.cells (List.replicate np (Value.bool false)).toArray 4)).alloc (.cells (List.replicate nd (Value.bool false)).toArray 4)):=(aF _ _).alloc (by simp) _
      have WE:=HM.o.2.2.2.2.2.1.trans (hX.mono HM.o.2.2.2.2.2.1.size);have Z7:=py.o.trans (WE.mono py.o.size);have b0:aq ((wc.alloc (.cells (List.replicate np (Value.bool false)).toArray 4)).alloc (.cells (List.replicate nd (Value.bool false)).toArray 4)) wc.heap.size 4 (List.replicate np (Value.bool false)):=dx wc _ _;have b1:aq ((wc.alloc (.cells (List.replicate np (Value.bool false)).toArray 4)).alloc (.cells (List.replicate nd (Value.bool false)).toArray 4)) (wc.heap.size+1) 4 (List.replicate nd (Value.bool false)):=cL wc _ _;have hP:=aa (yh (HE.o _ Z7).1 (HE.o _ Z7).2 (HM.o.2.1.on hX) (HM.o.2.2.1.on hX) (HM.o.2.2.2.1.on hX) b0 b1 HM.o.2.2.2.2.1 (by omega) Hn.o.2.1 Hn.o.2.2.1 ⟨S0.o.1,S0.o.2.1⟩ S0.o.2.2 Hn.o.2.2.2.1 Hn.o.2.2.2.2 NI.o.1 NI.o.2 Hr.o);have hN:=aa ((((HM.o.1.on hX).az (p:=⟨xb,4,none⟩) fu (.slice (some ⟨wc.heap.size,0,none⟩) np np)).az (p:=⟨xb,5,none⟩) fu (.slice (some ⟨wc.heap.size+1,0,none⟩) nd nd)));have hB:=aa (((WE.setCell (p:=⟨xb,4,none⟩) HM.o.2.2.2.2.2.2.2.1 (.slice (some ⟨wc.heap.size,0,none⟩) np np)).setCell (p:=⟨xb,5,none⟩) HM.o.2.2.2.2.2.2.2.1 (.slice (some ⟨wc.heap.size+1,0,none⟩) nd nd)).drew);clear hX WE Z7 b0 b1;simp only[Zg] at hP hN hB;go_wp2_with fail;go_meet
      case rel=>exact⟨rfl,_,_,hP.o,hN.o,HM.o.2.2.2.2.2.1.size,XK HM.o.2.2.2.2.2.1.size,hB.o⟩
     ·have hX:Below wc.heap.size wc ((wc.alloc (.cells (List.replicate nd (Value.bool false)).toArray 4)).alloc (.cells (List.replicate np (Value.bool false)).toArray 4)):=(aF _ _).alloc (by simp) _
      have WE:=HM.o.2.2.2.2.2.1.trans (hX.mono HM.o.2.2.2.2.2.1.size);have Z7:=py.o.trans (WE.mono py.o.size);have b1:aq ((wc.alloc (.cells (List.replicate nd (Value.bool false)).toArray 4)).alloc (.cells (List.replicate np (Value.bool false)).toArray 4)) wc.heap.size 4 (List.replicate nd (Value.bool false)):=dx wc _ _;have b0:aq ((wc.alloc (.cells (List.replicate nd (Value.bool false)).toArray 4)).alloc (.cells (List.replicate np (Value.bool false)).toArray 4)) (wc.heap.size+1) 4 (List.replicate np (Value.bool false)):=cL wc _ _;have hP:=aa (yh (HE.o _ Z7).1 (HE.o _ Z7).2 (HM.o.2.1.on hX) (HM.o.2.2.1.on hX) (HM.o.2.2.2.1.on hX) b0 b1 HM.o.2.2.2.2.1 (by omega) Hn.o.2.1 Hn.o.2.2.1 ⟨S0.o.1,S0.o.2.1⟩ S0.o.2.2 Hn.o.2.2.2.1 Hn.o.2.2.2.2 NI.o.1 NI.o.2 Hr.o);have hN:=aa ((((HM.o.1.on hX).az (p:=⟨xb,4,none⟩) fu (.slice (some ⟨wc.heap.size+1,0,none⟩) np np)).az (p:=⟨xb,5,none⟩) fu (.slice (some ⟨wc.heap.size,0,none⟩) nd nd)));have hB:=aa (((WE.setCell (p:=⟨xb,4,none⟩) HM.o.2.2.2.2.2.2.2.1 (.slice (some ⟨wc.heap.size+1,0,none⟩) np np)).setCell (p:=⟨xb,5,none⟩) HM.o.2.2.2.2.2.2.2.1 (.slice (some ⟨wc.heap.size,0,none⟩) nd nd)).drew);clear hX WE Z7 b0 b1;simp only[Zg] at hP hN hB;go_wp2_with fail;go_meet
      case rel=>exact⟨rfl,_,_,hP.o,hN.o,XK HM.o.2.2.2.2.2.1.size,HM.o.2.2.2.2.2.1.size,hB.o⟩
    case rest=>
     obtain⟨rfl,HC⟩:=hcut;obtain⟨h0,h1,k1,k2,k3,k4,k5⟩:=HC.o;have EK:=aa k1;have EL:=aa k2;have Hge:=Nv HM.o.2.2.2.2.2.2.1 HM.o.2.2.2.2.2.2.2.1 HM.o.2.2.2.2.2.2.2.2.1 HM.o.2.2.2.2.2.2.2.2.2 k3 k4;have mU:=aa (py.o.trans (k5.mono py.o.size));have HR5:=aa (R3.o.on k5);have HX5:=aa (X3.o.on k5);have Ol:=aa NG.o;clear HC k1 k2 k3 k4 k5 HM n0 z4 z5 f4 f5 hs4 NL HSx Kg ana am9 fu JF NR Tg Bi HSs dZ ag9 aha R3 X3 jU;have pj:Af (w.heap.size≤g0∧w.heap.size≤g1∧w.heap.size≤h0∧w.heap.size≤h1):=by
      have:=Hge.o;have:=Ol.o;refine⟨?_,?_,?_,?_⟩<;>omega
     have aJ:=HE.o w (Xj _ _);have gZ:Af (¬PS pb tb cb mb g0 g1 h0 h1 nb):=by
      have a1:=EL.o.ne EK.o.pick (by decide);have a2:=EL.o.ne EK.o.fh.own (by decide);have a3:=EL.o.ne EK.o.fh.counts (by decide);have a4:=EL.o.bS EK.o.fh.kept;have b1:=EK.o.gm.r0.ne EL.o (by decide);have b2:=EK.o.gm.r1.ne EL.o (by decide);have b3:=EK.o.gm.p0.ne EL.o (by decide);have b4:=EK.o.gm.p1.ne EL.o (by decide);rintro((e|e|e|e)|e|e|e|e)
      ·exact a1 e
      ·exact a2 e
      ·exact a3 e
      ·exact a4 e
      ·exact b1 e.symm
      ·exact b2 e.symm
      ·exact b3 e.symm
      ·exact b4 e.symm
     have oL:Af (¬PS pb tb cb mb g0 g1 h0 h1 (w.heap.size+1)):=by
      have l1:=aJ.2.lt;have l2:=aJ.1.own.lt;have l3:=aJ.1.counts.lt;have l4:=aJ.1.kept.lt;have:=Hge.o;have:=Ol.o;rintro((e|e|e|e)|e|e|e|e)<;>omega
     have hu0:Bl (NX t next ag au)=ag.length+au.length:=by
      have e:∀l:List Int,(l.map fun _=>false).countP (fun b=> !b)=l.length:=fun l=>by induction l<;>simp_all
      show(ag.map fun _=>false).countP (fun b=> !b)+(au.map fun _=>false).countP (fun b=> !b)=_;rw[e,e]
     have HL0:Af (ny w wc nb xb tb pb g0 g1 h0 h1 c0 c1 cb mb np nd (fm t next ag au) (NX t next ag au) (np+nd)):=
      ⟨EK.o,EL.o,HR5.o,aG.aZ mU.o,by rw[E1.o,Hn.o.2.1,Hn.o.2.2.1];rfl,by rw[hu0,Hn.o.2.1,Hn.o.2.2.1];exact Qg _,Hn.o.2.1.symm,Hn.o.2.2.1.symm⟩
     have HNx:Af (∀(W:Wo) (x:fk),fA W xb tb pb g0 g1 h0 h1 c0 c1 cb mb x→aq W nb 190 [.pointer (some ⟨xb,0,none⟩)]→x.ag.length=np→x.au.length=nd→Calls prog 100 #[.pointer (some ⟨nb,0,none⟩)] W fun e w' =>e= .returned (.tuple (kc x).toArray)∧Below W.heap.size W w'):=fun W x a b c d=>by
      refine Rq W nb xb tb pb g0 g1 h0 h1 c0 c1 cb mb x a b (fun i hi=> ?_);rw[d] at hi;rw[c];have h1:=anN.o;rw[←Hn.o.2.1,←Hn.o.2.2.1] at h1;unfold aR at h1;split at h1<;>omega
     have hN0:=aa (HNx.o wc _ EK.o EL.o Hn.o.2.1.symm Hn.o.2.2.1.symm);obtain⟨k0,i0,AA⟩:∃k i,kc (NX t next ag au)=[k,i]:=by
      unfold kc;split<;>exact⟨_,_,rfl⟩
     rw[AA] at hN0;have Hki:=aa AA;clear aJ hu0 EK EL HR5 mU HX5 E1 AA;go_wp2_with(go_at_call 100;go_must(refine hN0.o.mono ?_);rintro e W6 ⟨rfl,b6⟩;have B6:=aa b6;clear b6)
     go_loopg [12,13] (np+nd) (fun g kk ii wr=>∃x,kc x=[kk,ii]∧Af (ny w wr nb xb tb pb g0 g1 h0 h1 c0 c1 cb mb np nd (fm t next ag au) x g))
     case atStart=>exact⟨_,Hki.o,HL0.o.on B6.o⟩
     case round=>
      obtain⟨x,Tz,HR⟩:=hrel
      cases hx:x.fst with
      |none=>
       rw[Gg hx] at Tz
       cases Tz
       have Hx:=aa hx;clear hx hN0 HL0 B6 Hki;go_upto_region 16 with fail
       have hT0:Ts wr wr.heap.size (.slice (some ⟨h0,0,none⟩) np np) x.pp:=by
        unfold Ts;rw[HR.o.DY.gm.lp,HR.o.np];exact HR.o.DY.gm.p0.sl (n:=np) (sz:=1) (by rw[Qq,HR.o.DY.gm.lp,HR.o.np,Nat.mul_one]) (Qg _) (by have:=Hn.o;unfold maxLen;omega)
       have rh:Ts wr wr.heap.size (.slice (some ⟨h1,0,none⟩) nd nd) x.pd:=by
        unfold Ts;rw[HR.o.DY.gm.ld,HR.o.nd];exact HR.o.DY.gm.p1.sl (n:=nd) (sz:=1) (by rw[Qq,HR.o.DY.gm.ld,HR.o.nd,Nat.mul_one]) (Qg _) (by have:=Hn.o;unfold maxLen;omega)
       have fD:Af (∀W,Below wr.heap.size wr W→Calls prog 103 #[.slice (some ⟨h0,0,none⟩) np np] W fun e w' =>∃v',e= .returned v'∧aB w' W.heap.size 3 .i64 v' (eT x.pp)∧Below W.heap.size W w'):=fun W hW=>xL W _ x.pp (Sl.more (Sl.below hT0 hW) hW.size) (by rw[HR.o.DY.gm.lp,HR.o.np];have:=Hn.o;omega)
       have gB:Af (∀W,Below wr.heap.size wr W→Calls prog 103 #[.slice (some ⟨h1,0,none⟩) nd nd] W fun e w' =>∃v',e= .returned v'∧aB w' W.heap.size 3 .i64 v' (eT x.pd)∧Below W.heap.size W w'):=fun W hW=>xL W _ x.pd (Sl.more (Sl.below rh hW) hW.size) (by rw[HR.o.DY.gm.ld,HR.o.nd];have:=Hn.o;omega)
       have bN:=HR.o.DY.gm.own;rw[HR.o.np,HR.o.nd] at bN;have HS:Af (∀W,Below wr.heap.size wr W→W.cell? ⟨nb,0,none⟩=some (.pointer (some ⟨xb,0,none⟩))∧W.cell? ⟨xb,2,none⟩=some (.slice (some ⟨g0,0,none⟩) np c0)∧W.cell? ⟨xb,3,none⟩=some (.slice (some ⟨g1,0,none⟩) nd c1)∧W.cell? ⟨xb,4,none⟩=some (.slice (some ⟨h0,0,none⟩) np np)∧W.cell? ⟨xb,5,none⟩=some (.slice (some ⟨h1,0,none⟩) nd nd)):=fun W hW=>⟨(HR.o.box.on hW).cell (j:=0) rfl,(bN.on hW).cell (j:=2) rfl,(bN.on hW).cell (j:=3) rfl,(bN.on hW).cell (j:=4) rfl,(bN.on hW).cell (j:=5) rfl⟩
       have hs:=HS.o wr.drew (Xj _ _).drew;have wU:¬nb=w.heap.size+1:=by have:=Hge.o;have:=Ol.o;omega
       have agl:¬xb=w.heap.size+1:=by have:=Hge.o;have:=Ol.o;omega
       have HSr:Af (∀W u u',Below wr.heap.size wr W→((W.setCell ⟨w.heap.size+1,0,none⟩ u).setCell ⟨w.heap.size+1,1,none⟩ u').cell? ⟨nb,0,none⟩=some (.pointer (some ⟨xb,0,none⟩))∧((W.setCell ⟨w.heap.size+1,0,none⟩ u).setCell ⟨w.heap.size+1,1,none⟩ u').cell? ⟨xb,2,none⟩=some (.slice (some ⟨g0,0,none⟩) np c0)∧((W.setCell ⟨w.heap.size+1,0,none⟩ u).setCell ⟨w.heap.size+1,1,none⟩ u').cell? ⟨xb,3,none⟩=some (.slice (some ⟨g1,0,none⟩) nd c1)∧((W.setCell ⟨w.heap.size+1,0,none⟩ u).setCell ⟨w.heap.size+1,1,none⟩ u').cell? ⟨xb,4,none⟩=some (.slice (some ⟨h0,0,none⟩) np np)∧((W.setCell ⟨w.heap.size+1,0,none⟩ u).setCell ⟨w.heap.size+1,1,none⟩ u').cell? ⟨xb,5,none⟩=some (.slice (some ⟨h1,0,none⟩) nd nd)):=fun W u u' hW=>by
        have q:aG (fun y=>y=w.heap.size+1) W ((W.setCell ⟨w.heap.size+1,0,none⟩ u).setCell ⟨w.heap.size+1,1,none⟩ u'):=aG.setCell (S:=fun y=>y=w.heap.size+1) (aG.setCell (S:=fun y=>y=w.heap.size+1) (aG.refl _ W) (fun _=>rfl) _) (fun _=>rfl) _;have b1:=(HR.o.box.on hW).aL q wU;have b2:=(bN.on hW).aL q agl;exact⟨b1.cell (j:=0) rfl,b2.cell (j:=2) rfl,b2.cell (j:=3) rfl,b2.cell (j:=4) rfl,b2.cell (j:=5) rfl⟩
       clear hT0 rh bN wU agl;go_region_held3 (fun W=>W.cell? ⟨nb,0,none⟩=some (.pointer (some ⟨xb,0,none⟩))∧W.cell? ⟨xb,2,none⟩=some (.slice (some ⟨g0,0,none⟩) np c0)∧W.cell? ⟨xb,3,none⟩=some (.slice (some ⟨g1,0,none⟩) nd c1)∧W.cell? ⟨xb,4,none⟩=some (.slice (some ⟨h0,0,none⟩) np np)∧W.cell? ⟨xb,5,none⟩=some (.slice (some ⟨h1,0,none⟩) nd nd)) (first|with_reducible exact hs|with_reducible exact HS.o _ B7.o|with_reducible exact HS.o _ B8.o|with_reducible exact HSr.o _ _ _ B8.o|go_keep)
        (first
         |((go_at_call 103);(with_reducible refine(fD.o _ ?_).mono ?_);(·first|exact(Xj _ _).drew);rintro e W7 ⟨v7,rfl,o7,b7⟩;obtain⟨A7,n7,c7,hv7⟩:=o7.bu;subst hv7;have O7:=aa o7;have Q7:=aa b7;have B7:Af (Below wr.heap.size wr W7):=(by first|exact(Xj _ _).drew.trans b7);clear o7 b7)
         |((go_at_call 103);(with_reducible refine(gB.o _ ?_).mono ?_);(·first|exact B7.o);rintro e W8 ⟨v8,rfl,o8,b8⟩;obtain⟨A8,n8,c8,hv8⟩:=o8.bu;subst hv8;have O8:=aa o8;have Q8:=aa b8;have B8:Af (Below wr.heap.size wr W8):=(by first|exact B7.o.trans (b8.mono B7.o.size));have R8:=aa (HR.o.res.on B8.o);have y0:=R8.o.cell (j:=0) rfl;have y1:=R8.o.cell (j:=1) rfl;have f0:=R8.o.free 0;have f1:=R8.o.free 1;clear o8 b8))
       go_wp2_with fail;refine bodyPost_ret (oy rfl rfl (lS (R8.o.NV _ _))) rfl ?_;have iq:fm t next ag au=(0,x):=by rw[HR.o.run,PT _ Hx.o]
       have aJ:=HE.o w (Xj _ _);have l1:=aJ.2.lt;have l2:=aJ.1.own.lt;have l3:=aJ.1.counts.lt;have l4:=aJ.1.kept.lt;have q8:aG (fun y=>y=w.heap.size+1) W8 ((W8.setCell ⟨w.heap.size+1,0,none⟩ (.slice (some ⟨g0,0,none⟩) np c0)).setCell ⟨w.heap.size+1,1,none⟩ (.slice (some ⟨g1,0,none⟩) nd c1)):=aG.setCell (S:=fun y=>y=w.heap.size+1) (aG.setCell (S:=fun y=>y=w.heap.size+1) (aG.refl _ W8) (fun _=>rfl) _) (fun _=>rfl) _;rw[iq];have hb8:=Q8.o;have agH:=pj.o;have hGe:=Hge.o;have WE:=Ol.o;have p8:=(HR.o.DY.on B8.o);have o7:=(((aB.on O7.o Q8.o).aT R8.o (by decide) 0 (.slice (some ⟨g0,0,none⟩) np c0)).aT (R8.o.set 0 _) (by decide) 1 (.slice (some ⟨g1,0,none⟩) nd c1));have o8:=((O8.o.aT R8.o (by decide) 0 (.slice (some ⟨g0,0,none⟩) np c0)).aT (R8.o.set 0 _) (by decide) 1 (.slice (some ⟨g1,0,none⟩) nd c1));have lw:=HR.o.aL.size;have l8:=B7.o.size;have s0:=p8.gm.r0.aL q8 (by omega);have s1:=p8.gm.r1.aL q8 (by omega);refine⟨⟨_,rfl,.inr ⟨rfl,_,_,_,_,rfl,⟨?_,fun g hg=> ?_⟩,⟨?_,fun g hg=> ?_⟩,o7.low lw,o8.low (Qh lw l8)⟩⟩,p8.fh.aL q8 (by omega) (by omega) (by omega),p8.pick.aL q8 (by omega),?_⟩
       ·unfold Ns
        rw[HR.o.np];exact s0.sl (n:=np) (sz:=1) (by rw[Qq,HR.o.np,Nat.mul_one]) S0.o.1 S0.o.2.1
       ·cases hg;exact agH.1
       ·unfold Ns
        rw[HR.o.nd];exact s1.sl (n:=nd) (sz:=1) (by rw[Qq,HR.o.nd,Nat.mul_one]) S0.o.2.2.1 S0.o.2.2.2
       ·cases hg;exact agH.2.1
       ·exact(HR.o.aL.trans (aG.aZ B8.o)).iR q8 (fun _ _ h=>h) (fun y hy hs=>by omega)
      |some ki=>
       obtain⟨k,i⟩:=ki;rw[Gf hx] at Tz
       cases Tz
       have Hx:=aa hx;have hP:=FY wr xb tb pb g0 g1 h0 h1 c0 c1 cb mb x HR.o.DY hx;obtain⟨e,he⟩:=eX ((x.place k i).1);rw[←he] at hP;have HP:=aa hP;have He:=aa he;have n0:=HR.o.box.cell (j:=0) rfl;have ml:=Xh i;obtain⟨kk,hkk⟩:=eX (kI k);rw[←hkk] at HP⊢;clear hx hP he hN0 HL0 B6 Hki hkk;by_cases he0:e=0
       ·subst he0
        go_upto_region 12 with(go_at_call 102;go_must(refine HP.o.mono ?_);rintro e W7 ⟨rfl,p7,c7⟩;have P7:=aa p7;have C7:=aa c7;clear p7 c7)
        have cO:=HR.o.step Hx.o He.o.symm P7.o C7.o pj.o gZ.o oL.o;have hN:=HNx.o W7 _ P7.o (HR.o.box.aL C7.o gZ.o) (by rw[(fk.oB x k i).1];exact HR.o.np) (by rw[(fk.oB x k i).2];exact HR.o.nd)
        obtain⟨k2,i2,aa3⟩:∃k' i',kc (x.place k i).2=[k',i']:=by
         unfold kc;split<;>exact⟨_,_,rfl⟩
        rw[aa3] at hN;have HN:=aa hN;have anR:=aa aa3;have Hst:=aa cO;clear cO hN aa3 n0 ml;go_wp2_with(go_at_call 100;go_must(refine HN.o.mono ?_);rintro e W8 ⟨rfl,b8⟩;have B8:=aa b8;clear b8)
        obtain⟨f',hL,hf⟩:=Hst.o;have HL:=aa hL;have Hf:=aa hf;clear hL hf;go_roundg f'
        case measure=>exact Hf.o
        case rel=>exact⟨_,anR.o,HL.o.on B8.o⟩
       ·have he1:(e !=0)=true:=by simp[he0]
        have He0:=aa he0;clear he0;go_wp2_with(go_at_call 102;go_must(refine HP.o.mono ?_);rintro e W7 ⟨rfl,p7,c7⟩;have P7:=aa p7;have C7:=aa c7;have R7:=aa (HR.o.res.aL c7 oL.o);have y0:=R7.o.cell (j:=0) rfl;have y1:=R7.o.cell (j:=1) rfl;have f0:=R7.o.free 0;have f1:=R7.o.free 1;clear p7 c7)
        refine bodyPost_ret (oy rfl rfl (lS (R7.o.NV _ _))) rfl ?_;have iq:fm t next ag au=x.place k i:=by
         have hun:=vq Hx.o HR.o.DY.gm.lp HR.o.DY.gm.ld;have hu2:=HR.o.unp;obtain⟨f',hf⟩:∃f',gk=f' +1:=⟨gk - 1,by omega⟩;rw[HR.o.run,hf,Ci f' Hx.o,Xd (by rw[←He.o];exact He0.o)]
        have q7:aG (fun y=>y=w.heap.size+1) W7 ((W7.setCell ⟨w.heap.size+1,0,none⟩ (.slice none 0 0)).setCell ⟨w.heap.size+1,1,none⟩ (.slice none 0 0)):=aG.setCell (S:=fun y=>y=w.heap.size+1) (aG.setCell (S:=fun y=>y=w.heap.size+1) (aG.refl _ W7) (fun _=>rfl) _) (fun _=>rfl) _;have aJ:=HE.o w (Xj _ _);have l1:=aJ.2.lt;have l2:=aJ.1.own.lt;have l3:=aJ.1.counts.lt;have l4:=aJ.1.kept.lt;rw[iq];refine⟨⟨_,rfl,.inl ⟨by rw[←He.o];exact He0.o,by rw[←He.o];rfl⟩⟩,P7.o.fh.aL q7 (by omega) (by omega) (by omega),P7.o.pick.aL q7 (by omega),?_⟩
        refine(HR.o.aL.iR C7.o (fun _ _ h=>h) (fun y hy hs=> ?_)).iR q7 (fun _ _ h=>h) (fun y hy hs=>by omega);have:=pj.o;rcases hs with hs|hs|hs|hs|hs
        ·exact hs
        ·omega
        ·omega
        ·omega
        ·omega
end
end Go.Proofs.YthgdhacopamklaaGreat

/- What HashNone asks, part 6 of 41: parts of the walks and laws, each true as it stands. -/
import Derived.Test.YthgdhacopamklaaGreatTAE
set_option maxHeartbeats 16000000
set_option maxRecDepth 100000
set_option linter.unusedVariables false
set_option linter.unusedSimpArgs false
namespace Go.Proofs.YthgdhacopamklaaGreat
open Go.Proofs.Tryz
section
open Go.RowKit Go.Shelf Go.Sort
attribute [local go_sem] Oper.semAt_some
variable {V : Type}
def Et (l:List Int):List Int:=l.mergeSort fun x y=>decide (x≤y)
theorem zD (l:List Int):(Et l).length=l.length:=List.length_mergeSort l
theorem Kz (w:Wo) (base:Nat) (v:Va) (zs:List Int) (h:aB w base 3 .i64 v zs) (hl:zs.length≤100000):
  Calls prog 168 #[v] w fun e w' =>(∃u,e= .returned u)∧aB w' base 3 .i64 v (Et zs)∧w.grownBy w' v.ownBlock:=by
 rcases h.2 with⟨rfl,h0⟩|⟨g,cap,cur,rfl,hb,hh,hn,hm,hs,ht⟩
 ·have:zs=[]:=Zf (by simpa using h0);subst this;refine(Tryz.slices_Sort_int_none none 0 w).mono ?_;rintro e w' ⟨rfl,rfl⟩;refine⟨⟨_,rfl⟩,?_,rfl,rfl,rfl,Qg _,fun _ _ _=>rfl⟩;have e:Et []=[]:=by simp[Et]
  rw[e];exact cQ _ _ _ _
 ·rw[Nat.mul_one] at ht;refine(Tryz.slices_Sort_int g 0 cap zs w (holds_of_blockI hh ht) (Qy.1 hh).1 (by omega)).mono ?_;rintro e w' ⟨rfl,n,os,rfl⟩;have h1:=ownsRow_sortedI (n:=n) (os:=os) (ss:=zs) (ts:=Et zs) (zD zs) hb hh hn hm (by simpa using hs);refine⟨⟨_,rfl⟩,?_,grownBy_sortedI _⟩;unfold aB;rw[zD];exact h1
theorem DQ (w:Wo) (gf Bx:Nat) (f:Int→Option V) (P0:Wo→Prop) (hF:Fence.wide.fn gf) (eg:∀args w,(callFunc gf args).run prog w= .ok (.enter gf args) w) (hI:IY gf Bx f P0) (j8:Bx<w.heap.size) (hP:∀W,Below w.heap.size w W→P0 W) (hlen:∀pre x,OkK f pre x→pre.length≤5000):
  Calls prog 167 #[.func (.func gf) #[] #[.pointer (some ⟨Bx,0,none⟩)]] w fun e w' =>∃v pre,e= .returned v∧sL f pre∧aB w' w.heap.size 3 .i64 v pre∧Below w.heap.size w w' :=by
 have HA:=aa (xt w gf Bx f P0 hF eg hI j8 hP hlen);clear hF eg hI j8 hP hlen;go_enter func167,ntmps167;go_wp2_with(go_at_call 232;go_must(refine HA.o.mono ?_);rintro e W1 ⟨v,pre,rfl,hd,ho,hb⟩;have D1:=aa hd;have O1:=aa ho;have B1:=aa hb;clear hd ho hb);go_ret;exact⟨v,pre,rfl,D1.o,O1.o,B1.o⟩
theorem FC (w:Wo) (gf Bx:Nat) (f:Int→Option V) (P0:Wo→Prop) (hF:Fence.wide.fn gf) (eg:∀args w,(callFunc gf args).run prog w= .ok (.enter gf args) w) (hI:IY gf Bx f P0) (j8:Bx<w.heap.size) (hP:∀W,Below w.heap.size w W→P0 W) (hlen:∀pre x,OkK f pre x→pre.length≤5000) (kV:∀pre,sL f pre→pre.length≤5000):
  Calls prog 85 #[.func (.func gf) #[] #[.pointer (some ⟨Bx,0,none⟩)]] w fun e w' =>∃v pre,e= .returned v∧sL f pre∧aB w' w.heap.size 3 .i64 v (Et pre)∧Below w.heap.size w w' :=by
 have HC:=aa (DQ w gf Bx f P0 hF eg hI j8 hP hlen);have HL:=aa kV;clear hF eg hI j8 hP hlen kV;go_enter func85,ntmps85;go_wp2_with(first
  |(go_at_call 167;go_must(refine HC.o.mono ?_);rintro e W1 ⟨v,pre,rfl,hd,ho,hb⟩;have D1:=aa hd;have O1:=aa ho;have B1:=aa hb;clear hd ho hb)
  |(go_at_call 168;go_must(refine(Kz W1 w.heap.size v pre O1.o (Qh (HL.o pre D1.o) (by decide))).mono ?_);rintro e W2 ⟨⟨u,rfl⟩,ho,hg⟩;have O2:=aa ho;have G2:=aa hg;clear ho hg))
 go_ret;refine⟨v,pre,rfl,D1.o,O2.o,B1.o.grown G2.o B1.o.size ?_⟩;intro k hk;exact(Xr O1.o k hk).1
theorem PI (l:List Int):(Et l).Pairwise (·≤·):=by
 have h:=List.pairwise_mergeSort (le:=fun x y:Int=>decide (x≤y)) (fun a b c h1 h2=>by simp at*;omega) (fun a b=>by simp;omega) l;exact h.imp fun h=>by simpa using h
theorem I7 (l:List Int) (x:Int):x∈Et l↔x∈l:=List.mem_mergeSort
theorem oZ:∀(l m:List Int),l.Pairwise (·<·)→m.Pairwise (·<·)→(∀x,x∈l↔x∈m)→l=m
 |[],[],_,_,_=>rfl
 |[],b::m,_,_,h=>absurd ((h b).2 (Qm ..)) (by simp)
 |a::l,[],_,_,h=>absurd ((h a).1 (Qm ..)) (by simp)
 |a::l,b::m,hl,hm,h=>by
  obtain⟨h1,h2⟩:=List.pairwise_cons.1 hl;obtain⟨k1,k2⟩:=List.pairwise_cons.1 hm;have SQ:a=b:=by
   rcases QA.1 ((h a).1 (Qm ..)) with e|e
   ·exact e
   ·rcases QA.1 ((h b).2 (Qm ..)) with e' |e'
    ·exact e'.symm
    ·have:=h1 b e';have:=k1 a e;omega
  subst SQ
  congr 1
  refine oZ l m h2 k2 fun x=>⟨fun hx=> ?_,fun hx=> ?_⟩
  ·rcases QA.1 ((h x).1 (Qs _ hx)) with e|e
   ·subst e;have:=h1 x hx;omega
   ·exact e
  ·rcases QA.1 ((h x).2 (Qs _ hx)) with e|e
   ·subst e;have:=k1 x hx;omega
   ·exact e
def gJ {V:Type} (l:List (Option V)):List Int:=((List.range l.length).filter fun b=>(l.getD b none).isSome).map fun b:Nat=>(b:Int)
theorem vJ (l:List (Option V)) (x:Int):x∈gJ l↔(du l x).isSome=true:=by
 unfold gJ du;rw[QU];constructor
 ·rintro⟨b,hb,rfl⟩;obtain⟨h1,h2⟩:=List.mem_filter.1 hb;rw[Xo (by omega),Xt];exact h2
 ·intro h;split at h
  ·rename_i h0
   refine⟨x.toNat,List.mem_filter.2 ⟨Zm.2 ?_,h⟩,by omega⟩;rcases Nat.lt_or_ge x.toNat l.length with h1|h1
   ·exact h1
   ·rw[Qe,QQ h1] at h;simp at h
  ·simp at h
theorem sP (l:List (Option V)):(gJ l).Pairwise (·<·):=by
 unfold gJ;rw[List.pairwise_map];refine(List.pairwise_lt_range (n:=l.length)).filter _ |>.imp ?_;intro a b h;omega
theorem Ky (l:List Int) (h:l.Nodup):(Et l).Pairwise (·<·):=by
 have h1:=PI l;have h2:(Et l).Nodup:=(List.mergeSort_perm l _).nodup_iff.2 h;have h3:=h1.and h2;exact h3.imp fun ⟨a,b⟩=>by omega
theorem PJ (l:List (Option V)) (pre:List Int) (h:sL (du l) pre):Et pre=gJ l:=
 oZ _ _ (Ky _ h.1) (sP l) fun x=>by rw[I7,h.2,vJ]
theorem RE (l:List (Option V)) (pre:List Int) (hn:pre.Nodup) (h:∀x∈pre,(du l x).isSome=true):pre.length≤l.length:=by
 have h1:(Et pre).length≤(gJ l).length:=List.Nodup.length_le_of_subset ((List.mergeSort_perm pre _).nodup_iff.2 hn) fun x hx=>(vJ l x).2 (h x ((I7 pre x).1 hx))
 rw[zD] at h1;refine Qh h1 ?_;unfold gJ;rw[Qq];exact Qh (List.length_filter_le _ _) (by simp)
theorem Gl (m s Bx:Nat) (f:Int→Option Int):IY 231 Bx f (fun W=>MG uj W m f s∧W.cell? ⟨Bx,0,none⟩=some (.map (some m))):=
 fun n l n0 J W hn jU j8 hJ hY hP h0=>RF n hn l n0 Bx m s f J W jU j8 hJ hY hP.2 hP.1 h0
theorem DR (w:Wo) (tb cb mb:Nat) (t:aE) (h:bf w tb cb mb t):
  Calls prog 84 #[.pointer (some ⟨tb,0,none⟩)] w fun e w' =>∃v,e= .returned v∧aB w' w.heap.size 3 .i64 v (gJ t.kept)∧Below w.heap.size w w' :=by
 have x1:=h.x1;have HK:=aa (Lu w mb);obtain⟨W1,aW⟩:=eX (w.alloc (.cells #[.map (some mb)] 185));obtain⟨Bx,j8⟩:=eX w.heap.size;rw[←aW,←j8] at HK;have B1:Af (Below w.heap.size w W1):=by rw[aW];exact aF _ _
 have K1:Boxed W1 Bx 185 (.map (some mb)):=by rw[aW,j8];exact Boxed.new w _ _
 have T1:=h.on B1.o;have hl:t.kept.length≤4096:=by rw[h.ok.J0];exact h.ok.n1
 have hlen:∀pre:List Int,pre.Nodup→(∀x∈pre,(du t.kept x).isSome=true)→pre.length≤5000:=fun pre h1 h2=>Qh (RE _ _ h1 h2) (by omega)
 have HS:=aa (FC W1 231 Bx (du t.kept) _ trivial (enters_of func231 (by kernel_rfl) rfl) (Gl mb (nS t.kept) Bx (du t.kept)) K1.lt
  (fun W hW=>⟨T1.kept.on hW,(hW.cell (p:=⟨Bx,0,none⟩) K1.lt).trans K1.cell⟩) (fun pre x hx=>hlen pre hx.2.1 hx.2.2) (fun pre hd=>hlen pre hd.1 (fun x hx=>(hd.2 x).1 hx)))
 clear hlen hl T1 K1 aW j8 h;go_enter func84,ntmps84;go_wp2_with(first
  |(go_at_call 166;go_must(refine HK.o.mono ?_);rintro e W2 ⟨rfl,rfl⟩)
  |(go_at_call 85;go_must(refine HS.o.mono ?_);rintro e W3 ⟨v,pre,rfl,hd,ho,hb⟩;have D3:=aa hd;have O3:=aa ho;have B3:=aa hb;clear hd ho hb))
 go_ret;refine⟨v,rfl,?_,B1.o.trans (B3.o.mono B1.o.size)⟩;have h1:=O3.o;rw[PJ _ _ D3.o] at h1;exact⟨h1.1,h1.2.imp id (fun ⟨g,cap,cur,a,b,c⟩=>⟨g,cap,cur,a,Qh B1.o.size b,c⟩)⟩
end
section
open Go.RowKit
variable {b base n sz : Nat} {v : Va} {xs : List Int}
def Rw (w:Wo) (g:Nat) (e:TypeId) (cs:List Va):Prop:=∃cur:Array Va,w.heap[g]? =some (.cells cur e (0,0))∧cur.toList.take cs.length=cs
section
variable {w w' : Wo} {g : Nat} {e : TypeId} {cs : List Va}
theorem Rw.lt (h:Rw w g e cs):g<w.heap.size:=by obtain⟨cur,h0,_⟩:=h;exact(Qy.1 h0).1
theorem Rw.aQ (h:Rw w g e cs) (hb:w'.heap[g]? =w.heap[g]?):Rw w' g e cs:=by obtain⟨cur,h0,h1⟩:=h;exact⟨cur,hb.trans h0,h1⟩
theorem Rw.on (h:Rw w g e cs) (hb:Below w.heap.size w w'):Rw w' g e cs:=h.aQ (hb.block g h.lt)
theorem Rw.aL {S:Nat→Prop} (h:Rw w g e cs) (hc:aG S w w') (hS:¬S g):Rw w' g e cs:=h.aQ (hc.block g h.lt hS)
theorem Rw.az (h:Rw w g e cs) {p:Addr} (hp:g≠p.block) (u:Va):Rw (w.setCell p u) g e cs:=h.aQ (Xl _ _ _ _ hp)
theorem aq.rw (h:aq w g e cs):Rw w g e cs:=⟨_,h,by simp⟩
theorem Rw.cell (h:Rw w g e cs) {j:Nat} {u:Va} (hj:cs[j]? =some u):w.cell? ⟨g,j,none⟩=some u:=by
 obtain⟨cur,h0,h1⟩:=h;rw[cell_of_row w g j cur _ _ h0];rw[←h1,Ze] at hj;split at hj
 ·simpa using hj
 ·cases hj
theorem Rw.free (h:Rw w g e cs) (j:Nat):w.frozen? ⟨g,j,none⟩=false:=by
 obtain⟨cur,h0,_⟩:=h;simp[World.frozen?,h0]
theorem Rw.set (h:Rw w g e cs) (j:Nat) (u:Va):Rw (w.setCell ⟨g,j,none⟩ u) g e (cs.set j u):=by
 obtain⟨cur,h0,h1⟩:=h;have aJ:=(Qy.1 h0).1;have h' :w.heap[g]= .cells cur e (0,0):=by simpa[Xu aJ] using h0
 refine⟨cur.setIfInBounds j u,?_,?_⟩
 ·show(w.heap.modify g _)[g]? =_;rw[Xu (by simpa using aJ),Array.getElem_modify_self,h'];simp
 ·rw[Array.toList_setIfInBounds,Zy,List.take_set,h1]
theorem Rw.row (h:Rw w g e cs):Row w w.heap.size g 0 cs:=⟨h.lt,fun j u hu=>by rw[QR];exact h.cell hu⟩
theorem Rw.sl (h:Rw w g e cs) {c:Nat} (hl:cs.length=n*sz) (hc:n≤c) (hm:c≤maxLen):Sl w w.heap.size sz (.slice (some ⟨g,0,none⟩) n c) n cs:=kT hl hc hm h.row
theorem rK (h:w.ownsRow base e sz v n cs) (hn:0<n):∃g c,v= .slice (some ⟨g,0,none⟩) n c∧base≤g∧n≤c∧c≤maxLen∧Rw w g e cs:=by
 obtain⟨hl,⟨rfl,rfl⟩|⟨g,cap,cur,rfl,hb,hh,hn,hm,hs,ht⟩⟩:=h
 ·omega
 ·exact⟨g,cap,rfl,hb,hn,hm,cur,hh,by rw[hl];exact ht⟩
end
theorem Rw.ne {w:Wo} {a:Nat} {e e' :TypeId} {cs ks :List Va} (h:Rw w a e cs) (k:aq w b e' ks) (he:e≠e'):a≠b:=by
 rintro rfl;obtain⟨cur,h0,_⟩:=h;have h1:=Eq.trans (Eq.symm h0) k;injection h1 with h2
 injection h2 with h3 h4
 exact he h4
structure NK (k:IntKind) where
 st:TypeId
 et:TypeId
 bytes:Nat
 ht:prog.underlying st=some (.slice et)
 hi:(prog.info? et).map (fun i=>(i.zero,i.size,i.bytes))=some (some (.int k 0),1,bytes)
 hb:bytes≤8
@[reducible] def NKi:NK .i64:=⟨34,3,8,underlying34,iE,by decide⟩
@[reducible] def NKw:NK .u16:=⟨84,61,2,underlying84,CI,by decide⟩
section
variable {k : IntKind} (K : NK k) {P : Program} {ops : Array Oper} {w : Wo} {Q : Exit → Act → Wo → Prop} {a : Act} {rest : List Oper} {dst : Option Tmp} {os ox : Operand} {ty : TypeId} {pos : String} {after : Array Edge}
theorem wl_appNs (base:Nat) (v:Va) (xs:List Int) (bN:aB w base K.et k v xs) {B:Nat} (vx:Va) (ys:List Int) (hx:Ns w B k vx ys) (hl:xs.length+ys.length≤1000000) (ey:base≤w.heap.size) (hs:a.eval os=v) (AM:a.eval ox=vx)
  (hK:∀v' w',aB w' base K.et k v' (xs++ys)→w.grownBy w' v.ownBlock→wpList prog ops Q rest (a.put dst v') w'):
  wpList prog ops Q (⟨dst,.call {callee:= .builtin .append,args:= #[os,ox],argTypes:= #[K.st,K.st]},ty,pos,after,none⟩::rest) a w:=by
 refine wl_append base K.st K.et (.int k 0) 1 K.bytes K.ht K.hi rfl (by decide) v xs.length _ bN vx ys.length _ hx (dW k ys) (by unfold maxLen;omega) ?_ ey hs AM ?_
 ·have:=K.hb
  exact Qh (Nat.mul_le_mul hl this) (by decide)
 ·intro v' w' h1 h2
  refine hK v' w' ?_ h2;unfold aB;rw[Qo,QL];exact h1
theorem wl_app1 (base:Nat) (v:Va) (xs:List Int) (bN:aB w base K.et k v xs) (g:Nat) (x:Int) (hx:aq w g K.et [.int k x]) (hl:xs.length≤100000) (ey:base≤w.heap.size) (hs:a.eval os=v) (AM:a.eval ox= .slice (some ⟨g,0,none⟩) 1 1)
  (hK:∀v' w',aB w' base K.et k v' (xs++[x])→w.grownBy w' v.ownBlock→wpList prog ops Q rest (a.put dst v') w'):
  wpList prog ops Q (⟨dst,.call {callee:= .builtin .append,args:= #[os,ox],argTypes:= #[K.st,K.st]},ty,pos,after,none⟩::rest) a w:=by
 refine wl_appNs (K:=K) base v xs bN (B:=w.heap.size) _ [x] ?_ (by simp;omega) ey hs AM hK
 exact hx.rw.sl (n:=1) (sz:=1) rfl (Qg _) (by decide)
end
theorem aB.ns {w:Wo} {e:TypeId} {k:IntKind} (h:aB w base e k v xs):Ns w w.heap.size k v xs:=h.sl
theorem aB.low {w:Wo} {b' :Nat} {e:TypeId} {k:IntKind} (h:aB w b e k v xs) (hb:b'≤b):aB w b' e k v xs:=fB h hb
theorem Below.app {w0 w w' :Wo} {e:TypeId} {k:IntKind} (h:Below n w0 w) (ho:aB w base e k v xs) (hb:n≤base) (hs:n≤w.heap.size) (hg:w.grownBy w' v.ownBlock):Below n w0 w' :=
 h.grown hg hs fun j hj=>Qh hb (Xr ho j hj).1
end
section
open Go.RowKit Go.Shelf
attribute [local go_sem] Oper.semAt_some
variable {k pb : Nat} {W : Wo}
def fy (k:Nat):IntKind:=if k=0 then .u64 else if k<10 then .u32 else .u64
def kK (k:Nat):Int:=if k=0 then 0 else if k=1 then 8 else if k<10 then 4+4*k else 8*k - 36
def ia (k:Nat):Int:=if k=0 then 8 else if k<10 then 4 else 8
theorem vg (k:Nat):kK (k+1)=kK k+ia k:=by
 unfold kK ia;split<;>split<;>(try split)<;>(try split)<;>omega
theorem ln (k:Nat) (h:k≤18):0≤kK k∧kK k≤108:=by
 unfold kK;split<;>(try split)<;>(try split)<;>omega
theorem gP (k:Nat):ia k=4∨ia k=8:=by
 unfold ia;split<;>(try split)<;>simp
def kX (k:Nat) (n:Int):Prop:=0≤n∧n<256^(ia k).toNat
theorem yD {n:Int} (h:kX k n):IntKind.u64.wrap n=n:=by
 unfold kX at h;have hz:(256:Int)^(ia k).toNat≤18446744073709551616:=by rcases(by unfold ia;split<;>(try split)<;>simp:ia k=4∨ia k=8) with e|e<;>rw[e]<;>decide
 unfold IntKind.wrap;simp[IntKind.signed,IntKind.bits];omega
structure uq where
 k:Nat
 get:Int
 f:Nat
 bx:Array Va
def uq.set (e:uq):Va:= .func (.func e.f) #[] e.bx
def E6 (e:uq):Array Va:= #[.int .i64 (kK e.k),.agg #[.int .i64 (ia e.k),.int .u64 e.get,.func (.func e.f) #[] e.bx]]
def sJ (W:Wo) (pb k:Nat) (v:Va):Prop:=
 (k=0∧v= .func (.func 187) #[] #[.pointer (some ⟨pb,0,none⟩)])∨
 (k=1∧v= .func (.func 188) #[] #[.pointer (some ⟨pb,0,none⟩)])∨
 (∃i ib,i<8∧k=i+2∧v= .func (.func 189) #[] #[.pointer (some ⟨pb,0,none⟩),.pointer (some ⟨ib,0,none⟩)]∧aq W ib 3 [.int .i64 i])∨
 (∃i ib,i<8∧k=i+10∧v= .func (.func 190) #[] #[.pointer (some ⟨pb,0,none⟩),.pointer (some ⟨ib,0,none⟩)]∧aq W ib 3 [.int .i64 i])
def Yg (xb pb:Nat) (pre:List uq) (e:uq) (W:Wo):Prop:=
 e.k=pre.length∧e.k<18∧sJ W pb e.k e.set∧kX e.k e.get∧W.cell? ⟨xb,e.k,none⟩=some (.int (fy e.k) e.get)
theorem nL (w:Wo) (b j:Nat) (u:Va):aG (fun x=>x=b) w (w.setCell ⟨b,j,none⟩ u):=aG.setCell (S:=fun x=>x=b) (aG.refl _ w) (fun _=>rfl) u
theorem sJ.aL {W' :Wo} {v:Va} (h:sJ W pb k v) (hc:∀b cs,aq W b 3 cs→aq W' b 3 cs):sJ W' pb k v:=by
 rcases h with h|h|⟨i,ib,h1,h2,h3,h4⟩|⟨i,ib,h1,h2,h3,h4⟩
 ·exact .inl h
 ·exact .inr (.inl h)
 ·exact .inr (.inr (.inl ⟨i,ib,h1,h2,h3,hc _ _ h4⟩))
 ·exact .inr (.inr (.inr ⟨i,ib,h1,h2,h3,hc _ _ h4⟩))
theorem LL (W0:Wo) (l yb ab xb pb:Nat) (S:Nat→Prop) (J:List uq→Wo→Prop) (hJ:∀pre A C,J pre A→aG (fun k=>W0.heap.size≤k) A C→J pre C)
  (hY:∀pre x W1,Yg xb pb pre x W1→J pre W1→YieldAt Fence.wide 1 prog l (E6 x) W1 fun e W' =>e= .returned (.bool true)∧J (pre++[x]) W'∧aG S W1 W')
  (W:Wo) (hy:aq W yb 282 [.func (.yield l) #[] #[]]) (k:Nat) (hk:k<18) (ha:aq W ab 3 [.int .i64 (kK k)]) (SQ:W0.heap.size≤ab) (Io:yb≠ab) (hxa:xb≠ab)
  (pre:List uq) (Iu:J pre W) (dh:k=pre.length) (get:Int) (f:Nat) (bx:Array Va) (Bp:∀W',aG (fun j=>j=ab) W W'→sJ W' pb k (.func (.func f) #[] bx)) (iO:kX k get) (aH:W.cell? ⟨xb,k,none⟩=some (.int (fy k) get)) (hx:xb<W.heap.size) (hSa:¬S ab):
  Calls prog 186 #[.int .i64 (ia k),.int .u64 get,.func (.func f) #[] bx,.pointer (some ⟨ab,0,none⟩),.pointer (some ⟨yb,0,none⟩)] W fun e W' =>e= .returned (.bool true)∧aq W' ab 3 [.int .i64 (kK (k+1))]∧J (pre++[⟨k,get,f,bx⟩]) W'∧aG (fun j=>S j∨j=ab) W W' :=by
 have hr:=ln k (by omega);have hz:=gP k;have hs:=vg k;obtain⟨W1,aW⟩:=eX (W.setCell ⟨ab,0,none⟩ (.int .i64 (kK (k+1))));have q1:aG (fun j=>j=ab) W W1:=by rw[aW];exact nL _ _ _ _
 have A1:aq W1 ab 3 [.int .i64 (kK (k+1))]:=by rw[aW];exact ha.set 0 _
 have Y1:=hy.aL q1 Io;have ec:Yg xb pb pre ⟨k,get,f,bx⟩ W1:=⟨dh,hk,Bp W1 q1,iO,(q1.cell (p:=⟨xb,k,none⟩) hx hxa).trans aH⟩;have hJ1:=hJ _ _ _ Iu (q1.mono fun j _ e=>by omega);have HY:=aa (hY pre _ W1 ec hJ1);have a0:=ha.cell (j:=0) rfl;have f0:=ha.free 0;have y0:=Y1.cell (j:=0) rfl;have a1:=A1.cell (j:=0) rfl;have HA1:=aa A1;have Q1:=aa q1;have Bi:=aa hSa;have w1:wrap64 (kK k+ia k)=kK (k+1):=by unfold wrap64;omega
 have w2:wrap64 (kK (k+1) - ia k)=kK k:=by unfold wrap64;omega
 have gB:=aa aW.symm;unfold E6 at HY;dsimp only at HY;generalize kK k=p at*;generalize kK (k+1)=p' at*;generalize ia k=z at*;clear hr hz hs ha hy hk SQ Io hxa Iu dh Bp iO aH hx hSa ec hJ1 Y1 A1 q1 aW hJ hY;refine(callsIn_wide (n:=2)).1 ?_;refine callsIn_of_wp func186 rfl trivial ?_ rfl;simp only[ntmps186,QW,QF,Xq,Nat.reduceAdd,Nat.reduceSub,Xv,Xw,Xx,Xy,QZ,List.cons_append]
 gi_upto_region 2 with fail
 rw[gB.o];obtain⟨fn,tmps,assign,bd,hy,Nr⟩:=HY.o
 gi_wp2
 refine Nr.mono ?_;rintro e W3 ⟨rfl,Nu,Nn⟩;have HJ3:=aa Nu;have HC3:=aa Nn;clear hy Nr Nu Nn
 gi_wp2
 refine bodyPost_ret (results_tmp (t:=8) rfl _ _ _) rfl ?_;exact⟨rfl,HA1.o.aL HC3.o Bi.o,HJ3.o,Q1.o.iR HC3.o (fun x _ h=> .inr h) (fun x _ h=> .inl h)⟩
def MW (l yb ab:Nat) (J:List uq→Wo→Prop) (pre:List uq) (W:Wo):Prop:=
 J pre W∧aq W yb 282 [.func (.yield l) #[] #[]]∧aq W ab 3 [.int .i64 (kK pre.length)]
structure ahr (W0:Wo) (l xb pb:Nat) (S:Nat→Prop) (J:List uq→Wo→Prop):Prop where
 st:∀pre A C,J pre A→aG (fun k=>W0.heap.size≤k) A C→J pre C
 yi:∀pre x W1,Yg xb pb pre x W1→J pre W1→YieldAt Fence.wide 1 prog l (E6 x) W1 fun e W' =>e= .returned (.bool true)∧J (pre++[x]) W'∧aG S W1 W'
 box:∀pre A,J pre A→aq A pb 205 [.pointer (some ⟨xb,0,none⟩)]
 cell:∀pre A,J pre A→∀k,k<18→∃n,kX k n∧A.cell? ⟨xb,k,none⟩=some (.int (fy k) n)
 lt:xb<W0.heap.size
 slt:∀x,S x→x<W0.heap.size
theorem qP {W0:Wo} {l yb ab xb:Nat} {S:Nat→Prop} {J:List uq→Wo→Prop} (h:ahr W0 l xb pb S J) (SQ:W0.heap.size≤ab) (Io:W0.heap.size≤yb) (hya:yb≠ab) {pre:List uq} (hs:MW l yb ab J pre W) (k:Nat) (hk:k<18) (dh:k=pre.length)
  (get:Int) (f:Nat) (bx:Array Va) (Bp:∀W',aG (fun j=>j=ab) W W'→sJ W' pb k (.func (.func f) #[] bx)) (iO:kX k get) (aH:W.cell? ⟨xb,k,none⟩=some (.int (fy k) get)):
  Calls prog 186 #[.int .i64 (ia k),.int .u64 get,.func (.func f) #[] bx,.pointer (some ⟨ab,0,none⟩),.pointer (some ⟨yb,0,none⟩)] W fun e W' =>e= .returned (.bool true)∧(∃x,MW l yb ab J (pre++[x]) W')∧aG (fun j=>S j∨j=ab) W W' :=by
 have hxl:=h.lt;refine(LL W0 l yb ab xb pb S J h.st h.yi W hs.2.1 k hk (by rw[dh];exact hs.2.2) SQ hya (by omega) pre hs.1 dh get f bx Bp iO aH (World.block_lt_of_cell? W ⟨xb,k,none⟩ aH) (fun e=>by have:=h.slt _ e;omega)).mono ?_
 rintro e W' ⟨rfl,a,j,c⟩;refine⟨rfl,⟨_,j,hs.2.1.aL c ?_,?_⟩,c⟩
 ·rintro(e|e)
  ·have:=h.slt _ e;omega
  ·exact hya e
 ·rw[Qo,ZA,←dh]
  exact a
theorem yI (W:Wo) (l xb pb:Nat) (S:Nat→Prop) (J:List uq→Wo→Prop) (h:ahr W l xb pb S J) (h0:J [] W):
  Calls prog 185 #[.func (.yield l) #[] #[],.pointer (some ⟨pb,0,none⟩)] W fun e W' =>(∃v,e= .returned v)∧∃pre,pre.length=18∧J pre W' :=by
 have H:=aa h;obtain⟨W2,cE⟩:∃y,y=(W.alloc (.cells #[.func (.yield l) #[] #[]] 282)).alloc (.cells #[.int .i64 0] 3):=⟨_,rfl⟩;have c2:Below W.heap.size W W2:=by rw[cE];exact(aF _ _).alloc (by simp) _
 have S2:Af (MW l W.heap.size (W.heap.size+1) J [] W2):=by
  refine⟨h.st _ _ _ h0 (aG.aZ c2),?_,?_⟩
  ·rw[cE];exact dx W _ _
  ·rw[cE];exact cL W _ _
 have Tb:=aa cE.symm;clear cE c2 h0 h;go_enter func185,ntmps185;go_upto_region 3 with fail
 rw[Tb.o];obtain⟨n0,hf0,q0⟩:=H.o.cell _ _ S2.o.1 0 (by decide);have p0:=(H.o.box _ _ S2.o.1).cell (j:=0) rfl;have q0' :W2.cell? ⟨xb,0,none⟩=some (.int .u64 n0):=q0;have Te:Af (Calls prog 186 #[.int .i64 8,.int .u64 n0,.func (.func 187) #[] #[.pointer (some ⟨pb,0,none⟩)],.pointer (some ⟨W.heap.size+1,0,none⟩),.pointer (some ⟨W.heap.size,0,none⟩)] W2 fun e W' =>e= .returned (.bool true)∧(∃x,MW l W.heap.size (W.heap.size+1) J ([]++[x]) W')∧aG (fun j=>S j∨j=W.heap.size+1) W2 W'):=
  qP H.o (Q0 _) (Qg _) (by omega) S2.o 0 (by decide) rfl n0 _ _ (fun W' _=> .inl ⟨rfl,rfl⟩) hf0 q0
 clear q0 hf0;go_upto_region 4 with(first
  |(go_at_call 186;(with_reducible refine Te.o.mono ?_);rintro e W3 ⟨rfl,⟨x0,s3⟩,-⟩;have S3:=aa s3;obtain⟨n1,Nk,q1⟩:=H.o.cell _ _ s3.1 1 (by decide);have p1:=(H.o.box _ _ s3.1).cell (j:=0) rfl;have q1' :W3.cell? ⟨xb,1,none⟩=some (.int .u32 n1):=q1;have nZ:IntKind.u64.wrap n1=n1:=yD Nk;
    have HN2:Af (Calls prog 186 #[.int .i64 4,.int .u64 n1,.func (.func 188) #[] #[.pointer (some ⟨pb,0,none⟩)],.pointer (some ⟨W.heap.size+1,0,none⟩),.pointer (some ⟨W.heap.size,0,none⟩)] W3 fun e W' =>e= .returned (.bool true)∧(∃x,MW l W.heap.size (W.heap.size+1) J (([]++[x0])++[x]) W')∧aG (fun j=>S j∨j=W.heap.size+1) W3 W'):=(qP H.o (Q0 _) (Qg _) (by omega) S3.o 1 (by decide) rfl n1 _ _ (fun W' _=> .inr (.inl ⟨rfl,rfl⟩)) Nk q1);clear s3 q1 Nk)
  |(go_at_call 186;(with_reducible refine HN2.o.mono ?_);rintro e W4 ⟨rfl,⟨x1,s4⟩,-⟩;have S4:=aa s4;clear s4))
 have HS0:Af (∃pre:List uq,pre.length=2∧MW l W.heap.size (W.heap.size+1) J pre W4):=⟨_,rfl,S4.o⟩;clear p0 q0' Te p1 q1' nZ HN2 S3 S4 S2;go_wp2_with fail;go_loopw [27] (fun i wr=>∃k:Nat,i= .int .i64 k∧Af (k≤8∧∃pre:List uq,pre.length=2+k∧MW l W.heap.size (W.heap.size+1) J pre wr)) (fun i _=>8 - (intOf i).toNat)
 case atStart=>exact⟨0,rfl,by decide,HS0.o⟩
 case round=>
  obtain⟨k,rfl,HR⟩:=hrel;by_cases aJ:k<8
  ·obtain⟨-,pre,dh,cO⟩:=HR.o;have hi:(k:Int)<8:=by omega
   have ml:(0:Int)≤k:=by omega
   have Ng:=aJ;have fp:wrap64 ((k:Int)+1)=(k:Int)+1:=by unfold wrap64;omega
   obtain⟨W5,j6,Sy,qd⟩:=nW wr [.int .i64 k] 3;have AP:MW l W.heap.size (W.heap.size+1) J pre W5:=⟨H.o.st _ _ _ cO.1 (aG.aZ qd),cO.2.1.on qd,cO.2.2.on qd⟩;have NZ:MW l W.heap.size (W.heap.size+1) J pre W5.drew:=⟨H.o.st _ _ _ AP.1 (aG.refl _ W5).drew,AP.2.1,AP.2.2⟩;obtain⟨n,hf,q⟩:=H.o.cell _ _ AP.1 (2+k) (by omega);have p5:=(H.o.box _ _ AP.1).cell (j:=0) rfl;have i5:=Sy.cell (j:=0) rfl;have Ee:fy (2+k)= .u32:=by unfold fy;rw[Xd (by omega),Xo (by omega)]
   have cz:ia (2+k)=4:=by unfold ia;rw[Xd (by omega),Xo (by omega)]
   have Tt:=yD hf;have bT:wr.heap.size≠W.heap.size+1:=by have:=cO.2.2.lt;omega
   have hN:=qP H.o (Q0 _) (Qg _) (by omega) (W:=W5.drew) NZ (2+k) (by omega) (by omega) n 189 #[.pointer (some ⟨pb,0,none⟩),.pointer (some ⟨wr.heap.size,0,none⟩)] (fun W' hc=> .inr (.inr (.inl ⟨k,_,Ng,Nat.add_comm _ _,rfl,(show aq W5.drew _ _ _ from Sy).aL hc bT⟩))) hf q;rw[cz] at hN;rw[Ee] at q;have HN:=aa hN;have zb:=aa j6.symm;have bj:=aa aJ;have eu:=aa fp;have za:=aa dh;clear hN Ee cz hf AP NZ cO qd Sy j6 aJ dh bT HR;go_upto_region 7 with fail
   rw[zb.o];refine wp_region_still_tail 9 (by kernel_rfl) (by kernel_rfl) ?_;simp only[Zw,Zq,Zk,Zl];change wpStill _ _ (World.drew W5) (fun a' =>wpList _ _ _ _ a' (World.drew W5)) _ _
   repeat still_step
   refine wpStill_nil ?_;go_wp2_with(go_at_call 186;go_must(refine HN.o.mono ?_);rintro e W6 ⟨rfl,⟨x,s6⟩,-⟩;have S6:=aa s6;clear s6);go_roundw
   case rel=>exact⟨k+1,by first|rfl|(rw[eu.o];rfl),bj.o,_,by rw[Qo,za.o];rfl,S6.o⟩
   case measure=>first|exact al bj.o|(rw[eu.o];exact al bj.o)
  ·have hi:¬(k:Int)<8:=by omega
   have hk:k=8:=by have:=HR.o.1;omega
   subst hk;have HS1:=aa HR.o.2;clear HR aJ HS0;go_wp2_with fail;go_loopw [42] (fun i wr=>∃k:Nat,i= .int .i64 k∧Af (k≤8∧∃pre:List uq,pre.length=10+k∧MW l W.heap.size (W.heap.size+1) J pre wr)) (fun i _=>8 - (intOf i).toNat)
   case atStart=>exact⟨0,rfl,by decide,HS1.o⟩
   case round=>
    obtain⟨k,rfl,HR⟩:=hrel;by_cases aJ:k<8
    ·obtain⟨-,pre,dh,cO⟩:=HR.o;have hi:(k:Int)<8:=by omega
     have ml:(0:Int)≤k:=by omega
     have Ng:=aJ;have fp:wrap64 ((k:Int)+1)=(k:Int)+1:=by unfold wrap64;omega
     obtain⟨W5,j6,Sy,qd⟩:=nW wr [.int .i64 k] 3;have AP:MW l W.heap.size (W.heap.size+1) J pre W5:=⟨H.o.st _ _ _ cO.1 (aG.aZ qd),cO.2.1.on qd,cO.2.2.on qd⟩;have NZ:MW l W.heap.size (W.heap.size+1) J pre W5.drew:=⟨H.o.st _ _ _ AP.1 (aG.refl _ W5).drew,AP.2.1,AP.2.2⟩;obtain⟨n,hf,q⟩:=H.o.cell _ _ AP.1 (10+k) (by omega);have p5:=(H.o.box _ _ AP.1).cell (j:=0) rfl;have i5:=Sy.cell (j:=0) rfl;have Ee:fy (10+k)= .u64:=by unfold fy;rw[Xd (by omega),Xd (by omega)]
     have cz:ia (10+k)=8:=by unfold ia;rw[Xd (by omega),Xd (by omega)]
     have bT:wr.heap.size≠W.heap.size+1:=by have:=cO.2.2.lt;omega
     have hN:=qP H.o (Q0 _) (Qg _) (by omega) (W:=W5.drew) NZ (10+k) (by omega) (by omega) n 190 #[.pointer (some ⟨pb,0,none⟩),.pointer (some ⟨wr.heap.size,0,none⟩)] (fun W' hc=> .inr (.inr (.inr ⟨k,_,Ng,Nat.add_comm _ _,rfl,(show aq W5.drew _ _ _ from Sy).aL hc bT⟩))) hf q;rw[cz] at hN;rw[Ee] at q;have HN:=aa hN;have zb:=aa j6.symm;have bj:=aa aJ;have eu:=aa fp;have za:=aa dh;clear hN Ee cz hf AP NZ cO qd Sy j6 aJ dh bT HR;go_upto_region 12 with fail
     rw[zb.o];refine wp_region_still_tail 8 (by kernel_rfl) (by kernel_rfl) ?_;simp only[Zw,Zq,Zk,Zl];change wpStill _ _ (World.drew W5) (fun a' =>wpList _ _ _ _ a' (World.drew W5)) _ _
     repeat still_step
     refine wpStill_nil ?_;go_wp2_with(go_at_call 186;go_must(refine HN.o.mono ?_);rintro e W6 ⟨rfl,⟨x,s6⟩,-⟩;have S6:=aa s6;clear s6);go_roundw
     case rel=>exact⟨k+1,by first|rfl|(rw[eu.o];rfl),bj.o,_,by rw[Qo,za.o];rfl,S6.o⟩
     case measure=>first|exact al bj.o|(rw[eu.o];exact al bj.o)
    ·have hi:¬(k:Int)<8:=by omega
     have hk:k=8:=by have:=HR.o.1;omega
     subst hk;have j2:=aa HR.o.2;clear HR aJ HS1;go_wp2_with fail;go_end0;obtain⟨pre,h1,h2⟩:=j2.o;exact⟨⟨_,rfl⟩,pre,h1,h2.1⟩
end
section
open Go.RowKit
variable {a b : Int}
theorem OD (w:Wo) (x:Int):Calls prog 210 #[.int .u64 x] w fun e w' =>e= .returned (.bool false)∧w=w' :=by
 go_enter func210,ntmps210;go_wp2_with fail;go_ret;exact⟨rfl,rfl⟩
theorem OE (w:Wo) (x:Int):Calls prog 211 #[.int .u32 x] w fun e w' =>e= .returned (.bool false)∧w=w' :=by
 go_enter func211,ntmps211;go_wp2_with fail;go_ret;exact⟨rfl,rfl⟩
theorem Ju (h:a<b):mK a b= -1:=by unfold mK;rw[Xo h]
theorem Jv (h:b<a):mK a b=1:=by unfold mK;rw[Xd (by omega),Xo h]
theorem Jw (a:Int):mK a a=0:=by unfold mK;rw[Xd (by omega),Xd (by omega)]
theorem yN (w:Wo) (a b:Int):Calls prog 133 #[.int .u64 a,.int .u64 b] w fun e w' =>e= .returned (.int .i64 (mK a b))∧w=w' :=by
 rcases Int.lt_trichotomy a b with h|h|h
 ·rw[Ju h];go_enter func133,ntmps133;go_wp2_with(go_at_call 210;go_must(refine(OD _ _).mono ?_);rintro e w' ⟨rfl,rfl⟩);go_ret;exact⟨rfl,rfl⟩
 ·subst h;rw[Jw];go_enter func133,ntmps133;go_wp2_with(go_at_call 210;go_must(refine(OD _ _).mono ?_);rintro e w' ⟨rfl,rfl⟩);go_ret;exact⟨rfl,rfl⟩
 ·have h2:¬a<b:=by omega
  rw[Jv h];go_enter func133,ntmps133;go_wp2_with(go_at_call 210;go_must(refine(OD _ _).mono ?_);rintro e w' ⟨rfl,rfl⟩);go_ret;exact⟨rfl,rfl⟩
theorem yO (w:Wo) (a b:Int):Calls prog 134 #[.int .u32 a,.int .u32 b] w fun e w' =>e= .returned (.int .i64 (mK a b))∧w=w' :=by
 rcases Int.lt_trichotomy a b with h|h|h
 ·rw[Ju h];go_enter func134,ntmps134;go_wp2_with(go_at_call 211;go_must(refine(OE _ _).mono ?_);rintro e w' ⟨rfl,rfl⟩);go_ret;exact⟨rfl,rfl⟩
 ·subst h;rw[Jw];go_enter func134,ntmps134;go_wp2_with(go_at_call 211;go_must(refine(OE _ _).mono ?_);rintro e w' ⟨rfl,rfl⟩);go_ret;exact⟨rfl,rfl⟩
 ·have h2:¬a<b:=by omega
  rw[Jv h];go_enter func134,ntmps134;go_wp2_with(go_at_call 211;go_must(refine(OE _ _).mono ?_);rintro e w' ⟨rfl,rfl⟩);go_ret;exact⟨rfl,rfl⟩
def Sx (x y:Int):Int:=if x≠0 then x else y
theorem zw (w:Wo) (g:Nat) (x y:Int) (h0:w.cell? ⟨g,0,none⟩=some (.int .i64 x)) (h1:w.cell? ⟨g,1,none⟩=some (.int .i64 y)):
  Calls prog 132 #[.slice (some ⟨g,0,none⟩) 2 2] w fun e w' =>e= .returned (.int .i64 (Sx x y))∧w=w' :=by
 go_enter func132,ntmps132;go_wp2_with fail;go_loopw [8] (fun i wr=>∃k:Nat,k≤2∧i= .int .i64 k∧wr=w∧(1≤k→x=0)∧(2≤k→y=0)) (fun i _=>2 - (intOf i).toNat)
 case atStart=>exact⟨0,by decide,rfl,rfl,fun h=>by omega,fun h=>by omega⟩
 case round=>
  obtain⟨k,hk,rfl,rfl,hx,hy⟩:=hrel;rcases(show k=0∨k=1∨k=2 by omega) with rfl|rfl|rfl
  ·clear hx hy hk;by_cases hx:x=0
   ·subst hx;go_wp2_with fail;go_roundw
    case rel=>exact⟨1,by decide,by rfl,by simp,fun _=>by simp,fun h=>by omega⟩
    case measure=>simp[intOf]
   ·have hb:(x !=0)=true:=by rw[bne,Xc hx];rfl
    have ho:Af (Sx x y=x):=by show _=_;unfold Sx;rw[Xo hx]
    go_wp2_with fail;go_ret;exact⟨by rw[ho.o];rfl,rfl⟩
  ·have gd:=hx (by decide);clear hx hy hk;subst gd;have ho:Af (Sx 0 y=y):=by show _=_;unfold Sx;rw[Xd (by decide)]
   by_cases hy:y=0
   ·subst hy;go_wp2_with fail;go_roundw
    case rel=>exact⟨2,by decide,by rfl,by simp,fun _=>by simp,fun _=>by simp⟩
    case measure=>simp[intOf]
   ·have hb:(y !=0)=true:=by rw[bne,Xc hy];rfl
    go_wp2_with fail;go_ret;exact⟨by rw[ho.o];rfl,rfl⟩
  ·have gd:=hx (by decide);have hy0:=hy (by decide);subst gd;subst hy0;clear hx hy hk;go_wp2_with fail;go_ret;exact⟨rfl,rfl⟩
theorem Jf (a b:aD):fO a b=Sx (mK a.print b.print) (mK a.block b.block):=rfl
theorem Lc (w:Wo) (a b:aD):
  Calls prog 175 #[.agg #[.int .u64 a.print,.int .u32 a.block],.agg #[.int .u64 b.print,.int .u32 b.block]] w fun e w' =>e= .returned (.int .i64 (fO a b))∧Below w.heap.size w w' :=by
 obtain⟨p,u⟩:=a;obtain⟨q,v⟩:=b;simp only;obtain⟨W1,aW⟩:=eX ((w.alloc (.cells #[.int .u64 p,.int .u32 u] 68)).alloc (.cells #[.int .u64 q,.int .u32 v] 68));have R1:Af (aq W1 w.heap.size 68 [.int .u64 p,.int .u32 u]):=by show _=_;rw[aW];exact dx w _ _
 have R2:Af (aq W1 (w.heap.size+1) 68 [.int .u64 q,.int .u32 v]):=by show _=_;rw[aW];exact cL w _ _
 have B1:Af (Below w.heap.size w W1):=by rw[aW];exact(aF _ _).alloc (by simp) _
 have SR:=aW.symm;obtain⟨x0,x1⟩:=gh R1.o;obtain⟨y0,y1⟩:=gh R2.o;have C1:=aa (fun W=>yN W p q);have C2:=aa (fun W=>yO W u v);have ho:=aa (Jf ⟨p,u⟩ ⟨q,v⟩);simp only at ho;generalize mK p q=c1 at*;generalize mK u v=c2 at*;have HOr:Af (∀W:Wo,Calls prog 132 #[.slice (some ⟨W.heap.size,0,none⟩) 2 2] (W.alloc (.cells #[.int .i64 c1,.int .i64 c2] 3)) fun e w' =>e= .returned (.int .i64 (Sx c1 c2))∧W.alloc (.cells #[.int .i64 c1,.int .i64 c2] 3)=w'):=fun W=>by have hb:=ar W [.int .i64 c1,.int .i64 c2] 3;exact zw _ _ c1 c2 (hb.cell (j:=0) rfl) (hb.cell (j:=1) rfl)
 have HOd:Af (∀W:Wo,Calls prog 132 #[.slice (some ⟨W.heap.size,0,none⟩) 2 2] (W.alloc (.cells #[.int .i64 c1,.int .i64 c2] 3)).drew fun e w' =>e= .returned (.int .i64 (Sx c1 c2))∧(W.alloc (.cells #[.int .i64 c1,.int .i64 c2] 3)).drew=w'):=fun W=>by have hb:=ar W [.int .i64 c1,.int .i64 c2] 3;exact zw _ _ c1 c2 (hb.cell (j:=0) rfl) (hb.cell (j:=1) rfl)
 clear aW;go_enter func175,ntmps175;go_upto_region 1 with fail
 go_region_held3 (fun W=>W.cell? ⟨w.heap.size,0,none⟩=some (.int .u64 p)∧W.cell? ⟨w.heap.size,1,none⟩=some (.int .u32 u)∧W.cell? ⟨w.heap.size+1,0,none⟩=some (.int .u64 q)∧W.cell? ⟨w.heap.size+1,1,none⟩=some (.int .u32 v)) (first|with_reducible exact⟨x0,x1,y0,y1⟩|go_keep)
  (first
   |((go_at_call 133);(with_reducible refine(C1.o _).mono ?_);rintro e W3 ⟨rfl,rfl⟩)
   |((go_at_call 134);(with_reducible refine(C2.o _).mono ?_);rintro e W3 ⟨rfl,rfl⟩)
   |((go_at_call 132);(with_reducible refine(HOr.o _).mono ?_);rintro e W3 ⟨rfl,rfl⟩)
   |((go_at_call 132);(with_reducible refine(HOd.o _).mono ?_);rintro e W3 ⟨rfl,rfl⟩))
 all_goals
  go_wp2_with fail;go_ret;exact⟨by rw[ho.o];rfl,B1.o.trans (((aF W1 _).mono B1.o.size).drew)⟩
end
section
open Go.RowKit
variable {w : Wo} {B : Nat} {v : Va} {es : List aD}
def bX (x:Int):Prop:=0≤x∧x<4294967296
def dC (e:aD):List Va:=[.int .u64 e.print,.int .u32 e.block]
def eR (e:aD):Prop:=bI e.print∧bX e.block
def Es (w:Wo) (B:Nat) (v:Va) (es:List aD):Prop:=Sl w B 2 v es.length (es.flatMap dC)∧∀e∈es,eR e
theorem RU (es:List aD):(es.flatMap dC).length=es.length*2:=by
 induction es with
 |nil=>rfl
 |cons p r ih=>rw[QH,Qo,ih,QF];simp[dC];omega
theorem jQ:∀(es:List aD) (k:Nat) (hk:k<es.length) (j:Nat),j<2→(es.flatMap dC)[k*2+j]? =(dC es[k])[j]?
 |[],_,hk,_,_=>by simp at hk
 |p::r,0,_,j,hj=>by
  rw[QH,Xz,QR,QN (by simpa[dC] using hj)];rfl
 |p::r,k+1,hk,j,hj=>by
  rw[QH,QM (by simp[dC];omega)]
  have e:(k+1)*2+j - (dC p).length=k*2+j:=by simp[dC];omega
  rw[e,jQ r k (by simpa using hk) j hj];rfl
theorem Es.cells (h:Es w B v es) (h0:0<es.length):
  ∃b o c,v= .slice (some ⟨b,o,none⟩) es.length c∧es.length≤c∧c≤maxLen∧b<B∧∀k (hk:k<es.length),w.cell? ⟨b,o+k*2,none⟩=some (.int .u64 es[k].print)∧w.cell? ⟨b,o+k*2+1,none⟩=some (.int .u32 es[k].block):=by
 obtain⟨b,o,c,hv,hc,hm,hr⟩:=h.1.row h0;refine⟨b,o,c,hv,hc,hm,hr.1,fun k hk=>⟨?_,?_⟩⟩
 ·have:=hr.2 (k*2+0) _ ((jQ es k hk 0 (by decide)).trans rfl);simpa using this
 ·have:=hr.2 (k*2+1) _ ((jQ es k hk 1 (by decide)).trans rfl);rw[←XB] at this;exact this
theorem Es.below {w' :Wo} (h:Es w B v es) (hb:Below B w w'):Es w' B v es:=⟨h.1.below hb,h.2⟩
theorem Es.more {B' :Nat} (h:Es w B v es) (hB:B≤B'):Es w B' v es:=⟨h.1.more hB,h.2⟩
theorem U1 (p q:Int) (n:Nat) (hp:bI p) (hq:bI q):bits .xor .u64 p q/2^n=(((p.toNat ^^^ q.toNat)/2^n:Nat):Int):=by
 obtain⟨a,rfl⟩:∃a:Nat,p=a:=⟨p.toNat,by have:=hp.1;omega⟩;obtain⟨b,rfl⟩:∃b:Nat,q=b:=⟨q.toNat,by have:=hq.1;omega⟩;rw[bits_xor_u64_nat a b (by have:=hp.2;omega) (by have:=hq.2;omega)];simp
theorem Mv (w:Wo) (B:Nat) (v:Va) (es:List aD) (d:Int) (h:Es w B v es) (hd:0≤d∧d≤64):
  Calls prog 176 #[v,.int .u8 d] w fun e w' =>e= .returned (.bool (kC es d))∧Below w.heap.size w w' :=by
 obtain⟨A,c,rfl,-,SF⟩:=h.1.form;cases es with
 |nil=>
  clear SF h;go_enter func176,ntmps176;go_wp2_with fail;go_ret;exact⟨rfl,Xj _ _⟩
 |cons a r=>
  obtain⟨L,hL⟩:=eX ((a::r).length);have hL1:1≤L:=by rw[hL];simp
  have hLn:¬(L:Int)=0:=by omega
  have hLb:=Xc hLn;by_cases TI:d=0
  ·subst TI;have e:Af (kC (a::r) 0=true):=rfl;rw[←hL];clear SF h hL;go_enter func176,ntmps176;go_wp2_with fail;go_ret;exact⟨by rw[e.o];rfl,Xj _ _⟩
  ·have iU:=Xc TI;obtain⟨b,o,c',hv,jb,pk,hb,iH⟩:=h.cells (by simp);injection hv with e1 e2 e3
   subst e1;subst e3;clear e2;have h0:=(iH 0 (by simp)).1;have h1:=(iH (L - 1) (by omega)).1;rw[Xz,XC] at h0;obtain⟨z,hz⟩:∃z:aD,z=(a::r)[L - 1]'(by omega):=⟨_,rfl⟩;have JC:(a::r).getLastD a=z:=by rw[hz,List.getLastD_eq_getLast?,List.getLast?_eq_getElem?,Qf (by rw[←hL];omega)];simp[hL]
   rw[←hz] at h1;have hoa:eR a:=h.2 a (by simp);have hoz:eR z:=h.2 z (by rw[hz];exact QI _);have hE:Af (kC (a::r) d=(bits .xor .u64 a.print z.print/2^(64 - d).toNat==0)):=by show _=_;rw[U1 _ _ _ hoa.1 hoz.1];unfold kC;simp only;rw[JC,iU,Bool.false_or,XD,beq_iff_eq,beq_iff_eq];omega
   have h0' :w.cell? ⟨b,o,none⟩=some (.int .u64 a.print):=h0;generalize a.print=p at*;generalize z.print=q at*;have nZ:wrap64 ((L:Int) - 1)=((L - 1:Nat):Int):=by unfold maxLen at SF;unfold wrap64;omega
   have hl0:((L - 1:Nat):Int)<L:=by omega
   have avM:(0:Int)<L:=by omega
   have fp:IntKind.u8.wrap (64 - d)=64 - d:=by simp[IntKind.wrap,IntKind.signed,IntKind.bits];omega
   have avP:0≤64 - d:=by omega
   obtain⟨M,hM⟩:∃M,M=L - 1:=⟨_,rfl⟩;rw[←hM] at h1 nZ hl0;rw[←hL];clear iH h hL SF hoa hoz JC hz h0 hb hM jb pk;go_enter func176,ntmps176;go_wp2_with fail;go_quiet (fail);go_wp2_with fail;go_ret;exact⟨by rw[hE.o];rfl,below_drewN (Xj _ _) _⟩
def uy (v:Va) (at_:Int):List Va:=[v,.int .i64 at_]
theorem Vl (w:Wo) (P g L c at_ s:Nat) (bs:List Int) (n:Int) (hp:aq w P 180 (uy (.slice (some ⟨g,0,none⟩) L c) at_)) (h:dn w g bs) (bT:P≠g) (hL:L≤bs.length) (hs:1≤s∧s≤8) (kJ:at_+s≤L) (hl:bs.length≤100000) (hn:0≤n∧n<256^s):
  Calls prog 156 #[.pointer (some ⟨P,0,none⟩),.int .i64 s,.int .u64 n] w fun e w' =>(∃v,e= .returned v)∧aq w' P 180 (uy (.slice (some ⟨g,0,none⟩) L c) (at_+s:Nat))∧dn w' g (lB bs at_ s n)∧aG (fun x=>x=P∨x=g) w w'∧w'.heap.size=w.heap.size:=by
 have HP:=aa (jM w g 0 L c at_ s bs n h (by omega) hs kJ hl hn);have HPd:=aa (jM w.drew g 0 L c at_ s bs n (show dn w.drew g bs from h) (by omega) hs kJ hl hn);have Hp:=aa hp;have O:=aa h;obtain⟨x0,x1⟩:=gh hp;have fq:=aa bT;have nZ:wrap64 ((at_:Int)+s)=(at_:Int)+s:=by unfold wrap64;omega
 clear hp h bT hL hs kJ hl hn;go_enter func156,ntmps156;go_wp2_with fail;go_region_held3 (fun W=>W.cell? ⟨P,0,none⟩=some (.slice (some ⟨g,0,none⟩) L c)∧W.cell? ⟨P,1,none⟩=some (.int .i64 at_)) (first|with_reducible exact⟨x0,x1⟩|with_reducible exact q2|go_keep)
  (first
   |((go_at_call 106);(with_reducible refine HP.o.mono ?_);rintro e W2 ⟨rfl,o2,g2,s2⟩;have K2:=aa (aq.grown (w:=w) Hp.o ⟨g2.os,g2.tape,g2.output,g2.size,g2.block⟩ (by intro e;exact fq.o (Qr e)));have q2:W2.cell? ⟨P,0,none⟩=some (.slice (some ⟨g,0,none⟩) L c)∧W2.cell? ⟨P,1,none⟩=some (.int .i64 at_):=⟨K2.o.cell (j:=0) rfl,K2.o.cell (j:=1) rfl⟩;have O2:=aa o2;have G2:Af (w.grownBy W2 (some g)):=⟨g2.os,g2.tape,g2.output,g2.size,g2.block⟩;have S2:Af (W2.heap.size=w.heap.size):=s2;clear o2 g2 s2)
   |((go_at_call 106);(with_reducible refine HPd.o.mono ?_);rintro e W2 ⟨rfl,o2,g2,s2⟩;have K2:=aa (aq.grown (w:=w) Hp.o ⟨g2.os,g2.tape,g2.output,g2.size,g2.block⟩ (by intro e;exact fq.o (Qr e)));have q2:W2.cell? ⟨P,0,none⟩=some (.slice (some ⟨g,0,none⟩) L c)∧W2.cell? ⟨P,1,none⟩=some (.int .i64 at_):=⟨K2.o.cell (j:=0) rfl,K2.o.cell (j:=1) rfl⟩;have O2:=aa o2;have G2:Af (w.grownBy W2 (some g)):=⟨g2.os,g2.tape,g2.output,g2.size,g2.block⟩;have S2:Af (W2.heap.size=w.heap.size):=s2;clear o2 g2 s2))
 all_goals
  clear HP HPd x0 x1;obtain⟨x0,x1⟩:=gh K2.o;have xf:=K2.o.free 1;have K3:=aa (K2.o.set 1 (.int .i64 ((at_:Int)+s)));go_wp2_with fail;go_end0;refine⟨⟨_,rfl⟩,?_,?_,?_,?_⟩
  ·rw[show((at_+s:Nat):Int)=(at_:Int)+s by omega];exact K3.o
  ·have h1:=O2.o.aQ (w' :=W2.setCell ⟨P,1,none⟩ (.int .i64 ((at_:Int)+s))) (Xl _ _ _ _ (Xm fq.o));rw[QR] at h1;exact h1
  ·exact(aG.dH G2.o (fun x _ e=> .inr (Qr e).symm)).setCell (fun _=> .inl rfl) _
  ·simpa using S2.o
theorem Vm (w:Wo) (P B:Nat) (A:Option Addr) (L c at_ s:Nat) (body:List Int) (hp:aq w P 180 (uy (.slice A L c) at_)) (hb:Bs w B (.slice A L c) body) (hs:1≤s∧s≤8) (kJ:at_+s≤body.length) (hl:body.length≤100000):
  Calls prog 91 #[.pointer (some ⟨P,0,none⟩),.int .i64 s] w fun e w' =>e= .returned (.int .u64 (cK body at_ s))∧aq w' P 180 (uy (.slice A L c) (at_+s:Nat))∧aG (fun x=>x=P) w w'∧w'.heap.size=w.heap.size:=by
 have HP:=aa (lf w B _ body hb at_ s hs kJ hl);have HPd:=aa (lf w.drew B _ body ⟨hb.1.drew,hb.2⟩ at_ s hs kJ hl);have Hp:=aa hp;have Hpd:=aa hp;obtain⟨x0,x1⟩:=gh hp;have nZ:wrap64 ((at_:Int)+s)=(at_:Int)+s:=by unfold wrap64;omega
 generalize cK body at_ s=z at*;clear hp hb hs kJ hl;go_enter func91,ntmps91;go_wp2_with fail;go_region_held3 (fun W=>W.cell? ⟨P,0,none⟩=some (.slice A L c)∧W.cell? ⟨P,1,none⟩=some (.int .i64 at_)) (first|with_reducible exact⟨x0,x1⟩|go_keep)
  (first
   |((go_at_call 172);(with_reducible refine HP.o.mono ?_);rintro e W2 ⟨rfl,rfl⟩)
   |((go_at_call 172);(with_reducible refine HPd.o.mono ?_);rintro e W2 ⟨rfl,rfl⟩))
 all_goals
  clear HP HPd x0 x1;obtain⟨x0,x1⟩:=gh Hpd.o;have xf:=Hpd.o.free 1;have K3:=aa (Hpd.o.set 1 (.int .i64 ((at_:Int)+s)));go_wp2_with fail;go_ret;refine⟨rfl,?_,?_,?_⟩
  ·rw[show((at_+s:Nat):Int)=(at_:Int)+s by omega];exact K3.o
  ·exact((aG.refl (fun x=>x=P) w).setCell (p:=⟨P,1,none⟩) (fun _=>rfl) _).drew
  ·simp
end
end Go.Proofs.YthgdhacopamklaaGreat

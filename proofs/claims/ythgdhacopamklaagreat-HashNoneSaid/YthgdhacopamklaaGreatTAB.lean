/- What HashNone asks, part 2 of 41: parts of the walks and laws, each true as it stands. -/
import Derived.Ground.Names2Prog
import Derived.Ground.SlbCloneProg
import Derived.Ground.SlgnProg
import Derived.Shelf.Abstract
import Derived.Shelf.Bytes.SlClone
import Derived.Shelf.Slices.Clone
import Derived.Shelf.Slices.Empties
import Derived.Shelf.Slices.Empties2
import Derived.Shelf.Slices.Equal
import Derived.Shelf.Slices.In.SortNone
import Derived.Shelf.Slices.SearchI
import Derived.Shelf.Slices.Turned
import Derived.Shelf.SlicesE.Clone
import Derived.Shelf.Small.Bits
import Derived.Shelf.Small.Wraps
import Derived.Shelf.Sort.Plain
import Derived.Shelf.Strconv.Itoa0
import Derived.Test.YthgdhacopamklaaGreatTAA
set_option maxHeartbeats 16000000
set_option maxRecDepth 100000
set_option linter.unusedVariables false
set_option linter.unusedSimpArgs false
namespace Go.Proofs.YthgdhacopamklaaGreat
open Go.Proofs.Tryz
section
open Go.RowKit
variable {cs : List Va}
theorem nW (w:Wo) (xs:List Va) (T:TypeId):∃W,W=w.alloc (.cells xs.toArray T)∧aq W w.heap.size T xs∧Below w.heap.size w W:=⟨_,rfl,ar w xs T,aF _ _⟩
theorem nV (w:Wo) (xs:List Va) (T:TypeId):∃W,W=w.alloc (.cells xs.toArray T)∧Af (aq W w.heap.size T xs)∧Af (Below w.heap.size w W):=nW w xs T
variable {w : Wo} {z : Nat} {T : TypeId} {a b c d e f g h : Va} {r : List Va}
theorem gh (H:aq w z T (a::b::r)):w.cell? ⟨z,0,none⟩=some a∧w.cell? ⟨z,1,none⟩=some b:=⟨H.cell rfl,H.cell rfl⟩
theorem ra (H:aq w z T (a::b::c::r)):w.cell? ⟨z,0,none⟩=some a∧w.cell? ⟨z,1,none⟩=some b∧w.cell? ⟨z,2,none⟩=some c:=⟨H.cell rfl,H.cell rfl,H.cell rfl⟩
theorem mm (H:aq w z T (a::b::c::d::r)):w.cell? ⟨z,0,none⟩=some a∧w.cell? ⟨z,1,none⟩=some b∧w.cell? ⟨z,2,none⟩=some c∧w.cell? ⟨z,3,none⟩=some d:=⟨H.cell rfl,H.cell rfl,H.cell rfl,H.cell rfl⟩
theorem cL5 (H:aq w z T (a::b::c::d::e::r)):w.cell? ⟨z,0,none⟩=some a∧w.cell? ⟨z,1,none⟩=some b∧w.cell? ⟨z,2,none⟩=some c∧w.cell? ⟨z,3,none⟩=some d∧w.cell? ⟨z,4,none⟩=some e:=⟨H.cell rfl,H.cell rfl,H.cell rfl,H.cell rfl,H.cell rfl⟩
theorem cL6 (H:aq w z T (a::b::c::d::e::f::r)):w.cell? ⟨z,0,none⟩=some a∧w.cell? ⟨z,1,none⟩=some b∧w.cell? ⟨z,2,none⟩=some c∧w.cell? ⟨z,3,none⟩=some d∧w.cell? ⟨z,4,none⟩=some e∧w.cell? ⟨z,5,none⟩=some f:=⟨H.cell rfl,H.cell rfl,H.cell rfl,H.cell rfl,H.cell rfl,H.cell rfl⟩
theorem cL7 (H:aq w z T (a::b::c::d::e::f::g::r)):w.cell? ⟨z,0,none⟩=some a∧w.cell? ⟨z,1,none⟩=some b∧w.cell? ⟨z,2,none⟩=some c∧w.cell? ⟨z,3,none⟩=some d∧w.cell? ⟨z,4,none⟩=some e∧w.cell? ⟨z,5,none⟩=some f∧w.cell? ⟨z,6,none⟩=some g:=⟨H.cell rfl,H.cell rfl,H.cell rfl,H.cell rfl,H.cell rfl,H.cell rfl,H.cell rfl⟩
theorem cL8 (H:aq w z T (a::b::c::d::e::f::g::h::r)):w.cell? ⟨z,0,none⟩=some a∧w.cell? ⟨z,1,none⟩=some b∧w.cell? ⟨z,2,none⟩=some c∧w.cell? ⟨z,3,none⟩=some d∧w.cell? ⟨z,4,none⟩=some e∧w.cell? ⟨z,5,none⟩=some f∧w.cell? ⟨z,6,none⟩=some g∧w.cell? ⟨z,7,none⟩=some h:=⟨H.cell rfl,H.cell rfl,H.cell rfl,H.cell rfl,H.cell rfl,H.cell rfl,H.cell rfl,H.cell rfl⟩
theorem fR2 (H:aq w z T cs):w.frozen? ⟨z,0,none⟩=false∧w.frozen? ⟨z,1,none⟩=false:=⟨H.free 0,H.free 1⟩
theorem fR3 (H:aq w z T cs):w.frozen? ⟨z,0,none⟩=false∧w.frozen? ⟨z,1,none⟩=false∧w.frozen? ⟨z,2,none⟩=false:=⟨H.free 0,H.free 1,H.free 2⟩
theorem WI (H:aq w z T cs):w.frozen? ⟨z,0,none⟩=false∧w.frozen? ⟨z,1,none⟩=false∧w.frozen? ⟨z,2,none⟩=false∧w.frozen? ⟨z,3,none⟩=false:=⟨H.free 0,H.free 1,H.free 2,H.free 3⟩
theorem fR5 (H:aq w z T cs):w.frozen? ⟨z,0,none⟩=false∧w.frozen? ⟨z,1,none⟩=false∧w.frozen? ⟨z,2,none⟩=false∧w.frozen? ⟨z,3,none⟩=false∧w.frozen? ⟨z,4,none⟩=false:=⟨H.free 0,H.free 1,H.free 2,H.free 3,H.free 4⟩
theorem fR6 (H:aq w z T cs):w.frozen? ⟨z,0,none⟩=false∧w.frozen? ⟨z,1,none⟩=false∧w.frozen? ⟨z,2,none⟩=false∧w.frozen? ⟨z,3,none⟩=false∧w.frozen? ⟨z,4,none⟩=false∧w.frozen? ⟨z,5,none⟩=false:=⟨H.free 0,H.free 1,H.free 2,H.free 3,H.free 4,H.free 5⟩
theorem fR7 (H:aq w z T cs):w.frozen? ⟨z,0,none⟩=false∧w.frozen? ⟨z,1,none⟩=false∧w.frozen? ⟨z,2,none⟩=false∧w.frozen? ⟨z,3,none⟩=false∧w.frozen? ⟨z,4,none⟩=false∧w.frozen? ⟨z,5,none⟩=false∧w.frozen? ⟨z,6,none⟩=false:=⟨H.free 0,H.free 1,H.free 2,H.free 3,H.free 4,H.free 5,H.free 6⟩
theorem fR8 (H:aq w z T cs):w.frozen? ⟨z,0,none⟩=false∧w.frozen? ⟨z,1,none⟩=false∧w.frozen? ⟨z,2,none⟩=false∧w.frozen? ⟨z,3,none⟩=false∧w.frozen? ⟨z,4,none⟩=false∧w.frozen? ⟨z,5,none⟩=false∧w.frozen? ⟨z,6,none⟩=false∧w.frozen? ⟨z,7,none⟩=false:=⟨H.free 0,H.free 1,H.free 2,H.free 3,H.free 4,H.free 5,H.free 6,H.free 7⟩
end
section
open Go.RowKit
variable {x : Nat} {a b : Wo}
structure fo (n x:Nat) (w w' :Wo):Prop where
 size:w.heap.size≤w'.heap.size
 block:∀k,k<n∨k=x→w'.heap[k]? =w.heap[k]?
theorem fo.trans {n:Nat} {c:Wo} (h:fo n x a b) (k:fo n x b c):fo n x a c:=⟨Qh h.size k.size,fun i hi=>(k.block i hi).trans (h.block i hi)⟩
theorem tY {n m:Nat} (h:Below m a b) (hn:n≤m) (hx:x<m):fo n x a b:=⟨h.size,fun i hi=>h.block i (by omega)⟩
theorem fo.cell {n:Nat} (h:fo n x a b) {p:Addr} (hp:p.block<n∨p.block=x):b.cell? p=a.cell? p:=World.cell?_of_block (w:=a) (h.block p.block hp)
section
variable {F : Fence} {n : Nat} {P : Program}
theorem sO {α:Type} {g:Operand} {ps:Array Tmp} {assign body:Code} {Q:Exit→Act→Wo→Prop} {a:Act} {w:Wo} (ZI:F.round=none) (h1:1≤n) {gf:Nat} {lb:Array Va}
  (hg:a.eval g= .func (.func gf) #[] lb) (hFg:F.fn gf) (eg:∀args w,(callFunc gf args).run P w= .ok (.enter gf args) w) (lC:α→Array Va) (fc:∀x,(lC x).size=ps.size)
  (n0 Bx:Nat) (jU:n0≤w.heap.size) (j8:Bx<w.heap.size) (xs:List α) (I:List α→Wo→Prop) (h0:∀W,Below w.heap.size w W→I [] W)
  (hIr:∀pre A l o o',I pre A→w.heap.size≤l→A.heap[l]? =some o→o.isCells=false→I pre (A.putObj l o'))
  (hit:∀(l:Nat) (J:List α→Wo→Prop) (W:Wo),Below w.heap.size w W→
   (∀k (hk:k<xs.length) W1,J (xs.take k) W1→YieldAt F (n - 1 - 1) P l (lC xs[k]) W1 fun e W' =>e= .returned (.bool true)∧J (xs.take (k+1)) W'∧fo n0 Bx W1 W')→J [] W→
   CallsIn F (n - 1) P gf (#[.func (.yield l) #[] #[]]++lb) W fun e W' =>(∃v,e= .returned v)∧J xs W')
  (a₁:α→Act)
  (lJ:∀(l:Nat) (x:α) (W:Wo) (K:Act→Wo→Prop),K (a₁ x) W→
   assign.wpIn (F.inRound l) (n - 1 - 1) P (Exit.then K (fun _ _ _=>False)) {tmps:=(ps.zip (lC x)).foldl (fun t (p,v)=>t.setIfInBounds p v) a.tmps,defers:=[]} W)
  (uM:∀(l k:Nat) (hk:k<xs.length) (W:Wo),I (xs.take k) W→w.heap.size≤W.heap.size→
   body.wpIn (F.inRound l) (n - 1 - 1) P (fun e _ W' =>e= .normal∧KeepsOthers W W'∧fo n0 Bx W W'∧I (xs.take (k+1)) W') (a₁ xs[k]) W)
  (kV:∀(D:Nat) (W:Wo),w.heap.size≤D→I xs W→W.heap[D]? =some (.deferred (some []))→Q .normal {a with defers:={target:= .collected D,args:= #[]}::a.defers} W):
  (Code.rangeFunc g ps assign body).wpIn F n P Q a w:=by
 refine wpIn_rangeFunc fun fn Nj=> ?_
 rw[ZI];obtain⟨R,hR⟩:∃R:LoopState→Loop,R=fun st=>{state:=st,pending:=none,fn,tmps:=a.tmps,params:=ps,assign,body,defers:=w.heap.size}:=⟨_,rfl⟩
 obtain⟨W1,aW⟩:=eX ((w.alloc (.deferred (some []))).alloc (.loop (R .ready)));have e1:W1.heap[w.heap.size+1]? =some (.loop (R .ready)):=by rw[aW];exact cL w _ _
 have e0:W1.heap[w.heap.size]? =some (.deferred (some [])):=by rw[aW];exact dx w _ _
 have b1:Below w.heap.size w W1:=by rw[aW];exact(aF _ _).alloc (by simp) _
 refine⟨w.heap.size+1,[{target:= .collected w.heap.size,args:= #[]}],W1,{target:= .fn (.func gf) lb,args:= #[.func (.yield (w.heap.size+1)) #[] #[]]},W1,gf,#[.func (.yield (w.heap.size+1)) #[] #[]]++lb,W1,?_,?_,?_,?_,fun _=>h1,?_⟩
 ·rw[aW,hR];exact run_enterLoop_outer _ _ _ _ _
 ·simp only[resolve,hg]
  simp[go_sem]
 ·intro f' tD
  simp[Target.leads] at tD;subst tD;exact hFg
 ·simp[invoke,go_sem,eg]
 refine(hit (w.heap.size+1) (fun pre W=>I pre W∧W.heap[w.heap.size+1]? =some (.loop (R .ready))∧W.heap[w.heap.size]? =some (.deferred (some []))) W1 b1 ?_ ⟨h0 W1 b1,e1,e0⟩).mono ?_
 ·rintro k hk W ⟨i,l,d⟩
  have aJ:=(Qy.1 l).1;have hy:=run_yield (P:=P) (args:=lC xs[k]) l (by rw[hR];exact fc _)
  rw[hR] at hy;refine⟨fn,_,assign,body,hy,roundIn_of_wpIn Nj (lJ _ xs[k] W _ ⟨_,run_beginRound l (by rw[hR]),?_⟩)⟩;have l2:(W.putObj (w.heap.size+1) (.loop {R .ready with state:= .busy})).heap[w.heap.size+1]? =some (.loop {R .ready with state:= .busy}):=World.putObj_heap_same aJ;have d2:(W.putObj (w.heap.size+1) (.loop {R .ready with state:= .busy})).heap[w.heap.size]? =some (.deferred (some [])):=(World.putObj_heap_other (by omega)).trans d;have b2:Below w.heap.size W (W.putObj (w.heap.size+1) (.loop {R .ready with state:= .busy})):=belowK_b (w:=w) (Qg _) W _ _ _ (Q0 _) l rfl rfl;refine wpIn_mono (uM _ k hk _ (hIr _ _ _ _ _ i (Q0 _) l rfl) (by rw[World.putObj_size];omega)) ?_
  rintro e a3 W3 ⟨rfl,SI,mG,ZU⟩;have l3:=SI.same _ _ l2 rfl;have d3:=SI.same _ _ d2 rfl;refine⟨_,_,run_endRound none l3,rfl,⟨hIr _ _ _ _ _ ZU (Q0 _) l3 rfl,?_,(World.putObj_heap_other (by omega)).trans d3⟩,((tY b2 jU j8).trans mG).trans (tY (belowK_b (w:=w) (Qg _) W3 _ _ _ (Q0 _) l3 rfl rfl) jU j8)⟩;rw[World.putObj_heap_same (Qy.1 l3).1,hR];rfl
 ·rintro e W2 ⟨⟨v,rfl⟩,i,l,d⟩
  have he:=run_endLoop (P:=P) l (by rw[hR];simp)
  have hp:(R .ready).pending=none:=by rw[hR]
  rw[hp] at he;exact⟨none,_,he,kV _ _ (Qg _) (hIr _ _ _ _ _ i (Q0 _) l rfl) ((World.putObj_heap_other (by omega)).trans d)⟩
end
end
section
open Go.RowKit
section
variable {F : Fence} {n : Nat} {P : Program}
theorem KN {α:Type} {g:Operand} {ps:Array Tmp} {assign body:Code} {Q:Exit→Act→Wo→Prop} {a:Act} {w:Wo} (ZI:F.round=none) (h1:1≤n) {gf:Nat} {lb:Array Va}
  (hg:a.eval g= .func (.func gf) #[] lb) (hFg:F.fn gf) (eg:∀args w,(callFunc gf args).run P w= .ok (.enter gf args) w) (lC:α→Array Va) (fc:∀x,(lC x).size=ps.size)
  (n0 Bx:Nat) (jU:n0≤w.heap.size) (j8:Bx<w.heap.size) (Ok:List α→α→Prop) (BA:List α→Prop) (I:List α→Wo→Prop) (h0:∀W,Below w.heap.size w W→I [] W)
  (hIr:∀pre A l o o',I pre A→w.heap.size≤l→A.heap[l]? =some o→o.isCells=false→I pre (A.putObj l o'))
  (hIk:∀pre A C (r:Option Nat),I pre A→A.grownBy C r→(∀j o,r=some j→A.heap[j]? =some o→o.isCells=false∧w.heap.size≤j)→I pre C)
  (hit:∀(l:Nat) (J:List α→Wo→Prop) (W:Wo),Below w.heap.size w W→
   (∀pre A C (r:Option Nat),J pre A→A.grownBy C r→(∀j o,r=some j→A.heap[j]? =some o→o.isCells=false∧W.heap.size≤j)→J pre C)→
   (∀pre x,Ok pre x→∀W1,J pre W1→YieldAt F (n - 1 - 1) P l (lC x) W1 fun e W' =>e= .returned (.bool true)∧J (pre++[x]) W'∧fo n0 Bx W1 W'∧KeepsOthers W1 W')→J [] W→
   CallsIn F (n - 1) P gf (#[.func (.yield l) #[] #[]]++lb) W fun e W' =>(∃v,e= .returned v)∧∃pre,BA pre∧J pre W')
  (a₁:α→Act)
  (lJ:∀(l:Nat) (x:α) (W:Wo) (K:Act→Wo→Prop),K (a₁ x) W→
   assign.wpIn (F.inRound l) (n - 1 - 1) P (Exit.then K (fun _ _ _=>False)) {tmps:=(ps.zip (lC x)).foldl (fun t (p,v)=>t.setIfInBounds p v) a.tmps,defers:=[]} W)
  (uM:∀(l:Nat) (pre:List α) (x:α),Ok pre x→∀(W:Wo),I pre W→w.heap.size≤W.heap.size→
   body.wpIn (F.inRound l) (n - 1 - 1) P (fun e _ W' =>e= .normal∧KeepsOthers W W'∧fo n0 Bx W W'∧I (pre++[x]) W') (a₁ x) W)
  (kV:∀(D:Nat) (W:Wo) (pre:List α),w.heap.size≤D→BA pre→I pre W→W.heap[D]? =some (.deferred (some []))→Q .normal {a with defers:={target:= .collected D,args:= #[]}::a.defers} W):
  (Code.rangeFunc g ps assign body).wpIn F n P Q a w:=by
 refine wpIn_rangeFunc fun fn Nj=> ?_
 rw[ZI];obtain⟨R,hR⟩:∃R:LoopState→Loop,R=fun st=>{state:=st,pending:=none,fn,tmps:=a.tmps,params:=ps,assign,body,defers:=w.heap.size}:=⟨_,rfl⟩
 obtain⟨W1,aW⟩:=eX ((w.alloc (.deferred (some []))).alloc (.loop (R .ready)));have e1:W1.heap[w.heap.size+1]? =some (.loop (R .ready)):=by rw[aW];exact cL w _ _
 have e0:W1.heap[w.heap.size]? =some (.deferred (some [])):=by rw[aW];exact dx w _ _
 have b1:Below w.heap.size w W1:=by rw[aW];exact(aF _ _).alloc (by simp) _
 have s1:W1.heap.size=w.heap.size+2:=by rw[aW];simp
 refine⟨w.heap.size+1,[{target:= .collected w.heap.size,args:= #[]}],W1,{target:= .fn (.func gf) lb,args:= #[.func (.yield (w.heap.size+1)) #[] #[]]},W1,gf,#[.func (.yield (w.heap.size+1)) #[] #[]]++lb,W1,?_,?_,?_,?_,fun _=>h1,?_⟩
 ·rw[aW,hR];exact run_enterLoop_outer _ _ _ _ _
 ·simp only[resolve,hg]
  simp[go_sem]
 ·intro f' tD
  simp[Target.leads] at tD;subst tD;exact hFg
 ·simp[invoke,go_sem,eg]
 refine(hit (w.heap.size+1) (fun pre W=>I pre W∧W.heap[w.heap.size+1]? =some (.loop (R .ready))∧W.heap[w.heap.size]? =some (.deferred (some []))) W1 b1 ?_ ?_ ⟨h0 W1 b1,e1,e0⟩).mono ?_
 ·rintro pre A C r ⟨i,l,d⟩ uc ZH
  have aJ:=(Qy.1 l).1;have bT:∀k,k<W1.heap.size→k<A.heap.size→some k≠r:=fun k hk hkA e=>by
   obtain⟨o,ho⟩:∃o,A.heap[k]? =some o:=⟨_,Xu hkA⟩;have:=(ZH k o e.symm ho).2;omega
  exact⟨hIk _ _ _ r i uc (fun j o hj ho=>⟨(ZH j o hj ho).1,by have:=(ZH j o hj ho).2;omega⟩),(uc.block _ aJ (bT _ (by omega) aJ)).trans l,(uc.block _ (by omega) (bT _ (by omega) (by omega))).trans d⟩
 ·rintro pre x ec W ⟨i,l,d⟩
  have aJ:=(Qy.1 l).1;have hy:=run_yield (P:=P) (args:=lC x) l (by rw[hR];exact fc _)
  rw[hR] at hy;refine⟨fn,_,assign,body,hy,roundIn_of_wpIn Nj (lJ _ x W _ ⟨_,run_beginRound l (by rw[hR]),?_⟩)⟩;have l2:(W.putObj (w.heap.size+1) (.loop {R .ready with state:= .busy})).heap[w.heap.size+1]? =some (.loop {R .ready with state:= .busy}):=World.putObj_heap_same aJ;have d2:(W.putObj (w.heap.size+1) (.loop {R .ready with state:= .busy})).heap[w.heap.size]? =some (.deferred (some [])):=(World.putObj_heap_other (by omega)).trans d;have b2:Below w.heap.size W (W.putObj (w.heap.size+1) (.loop {R .ready with state:= .busy})):=belowK_b (w:=w) (Qg _) W _ _ _ (Q0 _) l rfl rfl;refine wpIn_mono (uM _ pre x ec _ (hIr _ _ _ _ _ i (Q0 _) l rfl) (by rw[World.putObj_size];omega)) ?_
  rintro e a3 W3 ⟨rfl,SI,mG,ZU⟩;have l3:=SI.same _ _ l2 rfl;have d3:=SI.same _ _ d2 rfl;refine⟨_,_,run_endRound none l3,rfl,⟨hIr _ _ _ _ _ ZU (Q0 _) l3 rfl,?_,(World.putObj_heap_other (by omega)).trans d3⟩,((tY b2 jU j8).trans mG).trans (tY (belowK_b (w:=w) (Qg _) W3 _ _ _ (Q0 _) l3 rfl rfl) jU j8),?_⟩
  ·rw[World.putObj_heap_same (Qy.1 l3).1,hR]
   rfl
  ·refine⟨?_,fun k o hk ho=> ?_⟩
   ·have:=SI.size
    rw[World.putObj_size] at this⊢;exact this
   ·by_cases bQ:k=w.heap.size+1
    ·subst bQ
     rw[l] at hk
     cases hk
     rw[World.putObj_heap_same (Qy.1 l3).1,hR];rfl
    ·exact(World.putObj_heap_other bQ).trans (SI.same _ _ ((World.putObj_heap_other bQ).trans hk) ho)
 ·rintro e W2 ⟨⟨v,rfl⟩,pre,hd,i,l,d⟩
  have he:=run_endLoop (P:=P) l (by rw[hR];simp)
  have hp:(R .ready).pending=none:=by rw[hR]
  rw[hp] at he;exact⟨none,_,he,kV _ _ _ (Qg _) hd (hIr _ _ _ _ _ i (Q0 _) l rfl) ((World.putObj_heap_other (by omega)).trans d)⟩
end
end
section
open Go.RowKit
theorem fY (S:Nat→Prop) (W:Wo) (l:Nat) (o:Obj) (hS:S l):aG S W (W.putObj l o):=
 ⟨rfl,rfl,rfl,by rw[World.putObj_size];exact Qg _,fun k _ hn=>World.putObj_heap_other (fun e=>hn (by first|exact e▸hS|exact e.symm▸hS))⟩
section
variable {F : Fence} {n : Nat} {P : Program}
theorem xZ {α:Type} {g:Operand} {ps:Array Tmp} {assign body:Code} {Q:Exit→Act→Wo→Prop} {a:Act} {w:Wo} (ZI:F.round=none) (h1:1≤n) {gf:Nat} {lb:Array Va}
  (hg:a.eval g= .func (.func gf) #[] lb) (hFg:F.fn gf) (eg:∀args w,(callFunc gf args).run P w= .ok (.enter gf args) w) (lC:α→Array Va) (fc:∀x,(lC x).size=ps.size)
  (S:Nat→Prop) (Ok:List α→α→Wo→Prop) (BA:List α→Prop) (I:List α→Wo→Prop) (h0:∀W,Below w.heap.size w W→I [] W)
  (hIc:∀pre A C,I pre A→aG (fun k=>w.heap.size≤k) A C→I pre C)
  (hit:∀(l:Nat) (J:List α→Wo→Prop) (W:Wo),Below w.heap.size w W→(∀pre A,J pre A→I pre A)→(∀pre A C,J pre A→aG (fun k=>W.heap.size≤k) A C→J pre C)→
   (∀pre x W1,Ok pre x W1→J pre W1→YieldAt F (n - 1 - 1) P l (lC x) W1 fun e W' =>e= .returned (.bool true)∧J (pre++[x]) W'∧aG S W1 W')→J [] W→
   CallsIn F (n - 1) P gf (#[.func (.yield l) #[] #[]]++lb) W fun e W' =>(∃v,e= .returned v)∧∃pre,BA pre∧J pre W')
  (hOb:∀pre x A C,Ok pre x A→Below A.heap.size A C→Ok pre x C)
  (a₁:α→Wo→Act) (W₁:α→Wo→Wo) (hW₁:∀x W,Below W.heap.size W (W₁ x W))
  (lJ:∀(l:Nat) (x:α) (W:Wo) (K:Act→Wo→Prop),K (a₁ x W) (W₁ x W)→
   assign.wpIn (F.inRound l) (n - 1 - 1) P (Exit.then K (fun _ _ _=>False)) {tmps:=(ps.zip (lC x)).foldl (fun t (p,v)=>t.setIfInBounds p v) a.tmps,defers:=[]} W)
  (uM:∀(l:Nat) (pre:List α) (x:α) (W0:Wo) (o o' :Obj),Ok pre x (W₁ x W0)→I pre (W₁ x W0)→w.heap.size≤l→W0.heap[l]? =some o→o.isCells=false→w.heap.size≤W0.heap.size→
   body.wpIn (F.inRound l) (n - 1 - 1) P (fun e _ W' =>e= .normal∧KeepsOthers ((W₁ x W0).putObj l o') W'∧aG S ((W₁ x W0).putObj l o') W'∧I (pre++[x]) W') (a₁ x W0) ((W₁ x W0).putObj l o'))
  (kV:∀(D:Nat) (W:Wo) (pre:List α),w.heap.size≤D→BA pre→I pre W→W.heap[D]? =some (.deferred (some []))→Q .normal {a with defers:={target:= .collected D,args:= #[]}::a.defers} W):
  (Code.rangeFunc g ps assign body).wpIn F n P Q a w:=by
 refine wpIn_rangeFunc fun fn Nj=> ?_
 rw[ZI];obtain⟨R,hR⟩:∃R:LoopState→Loop,R=fun st=>{state:=st,pending:=none,fn,tmps:=a.tmps,params:=ps,assign,body,defers:=w.heap.size}:=⟨_,rfl⟩
 obtain⟨W1,aW⟩:=eX ((w.alloc (.deferred (some []))).alloc (.loop (R .ready)));have e1:W1.heap[w.heap.size+1]? =some (.loop (R .ready)):=by rw[aW];exact cL w _ _
 have e0:W1.heap[w.heap.size]? =some (.deferred (some [])):=by rw[aW];exact dx w _ _
 have b1:Below w.heap.size w W1:=by rw[aW];exact(aF _ _).alloc (by simp) _
 have s1:W1.heap.size=w.heap.size+2:=by rw[aW];simp
 refine⟨w.heap.size+1,[{target:= .collected w.heap.size,args:= #[]}],W1,{target:= .fn (.func gf) lb,args:= #[.func (.yield (w.heap.size+1)) #[] #[]]},W1,gf,#[.func (.yield (w.heap.size+1)) #[] #[]]++lb,W1,?_,?_,?_,?_,fun _=>h1,?_⟩
 ·rw[aW,hR];exact run_enterLoop_outer _ _ _ _ _
 ·simp only[resolve,hg]
  simp[go_sem]
 ·intro f' tD
  simp[Target.leads] at tD;subst tD;exact hFg
 ·simp[invoke,go_sem,eg]
 refine(hit (w.heap.size+1) (fun pre W=>I pre W∧W.heap[w.heap.size+1]? =some (.loop (R .ready))∧W.heap[w.heap.size]? =some (.deferred (some []))) W1 b1 (fun _ _ h=>h.1) ?_ ?_ ⟨h0 W1 b1,e1,e0⟩).mono ?_
 ·rintro pre A C ⟨i,l,d⟩ hc
  have hl:=(Qy.1 l).1;have hd:=(Qy.1 d).1;exact⟨hIc _ _ _ i (hc.mono fun k _ hk=>by omega),(hc.block _ hl (by omega)).trans l,(hc.block _ hd (by omega)).trans d⟩
 ·rintro pre x W0 aaZ ⟨i0,l0,d0⟩
  have EW:=(Qy.1 l0).1;have aa9:=(Qy.1 d0).1;have hy:=run_yield (P:=P) (args:=lC x) l0 (by rw[hR];exact fc _)
  rw[hR] at hy;have Is:=hW₁ x W0;have MI:aG S W0 (W₁ x W0):=aG.aZ Is;have ec:=hOb _ _ _ _ aaZ Is;have i:=hIc _ _ _ i0 (aG.aZ Is);have l:=(Is.block _ EW).trans l0;have d:=(Is.block _ aa9).trans d0;have aJ:=(Qy.1 l).1;refine⟨fn,_,assign,body,hy,roundIn_of_wpIn Nj (lJ _ x W0 _ ⟨_,run_beginRound l (by rw[hR]),?_⟩)⟩;have l2:((W₁ x W0).putObj (w.heap.size+1) (.loop {R .ready with state:= .busy})).heap[w.heap.size+1]? =some (.loop {R .ready with state:= .busy}):=World.putObj_heap_same aJ;have d2:((W₁ x W0).putObj (w.heap.size+1) (.loop {R .ready with state:= .busy})).heap[w.heap.size]? =some (.deferred (some [])):=(World.putObj_heap_other (by omega)).trans d;refine wpIn_mono (uM _ pre x W0 _ _ ec i (Q0 _) l0 rfl (by omega)) ?_;rintro e a3 W3 ⟨rfl,SI,mG,ZU⟩;have l3:=SI.same _ _ l2 rfl;have d3:=SI.same _ _ d2 rfl;refine⟨_,_,run_endRound none l3,rfl,⟨hIc _ _ _ ZU (fY _ W3 _ _ (Q0 _)),?_,(World.putObj_heap_other (by omega)).trans d3⟩,?_⟩
  ·rw[World.putObj_heap_same (Qy.1 l3).1,hR]
   rfl
  ·refine⟨mG.os.trans MI.os,mG.tape.trans MI.tape,mG.output.trans MI.output,by rw[World.putObj_size];have h5:=mG.size;rw[World.putObj_size] at h5;exact Qh MI.size h5,fun k hk hn=> ?_⟩
   by_cases bQ:k=w.heap.size+1
   ·subst bQ
    rw[l0,World.putObj_heap_same (Qy.1 l3).1,hR];rfl
   ·rw[World.putObj_heap_other bQ,mG.block k (by rw[World.putObj_size];exact Qn hk MI.size) hn,World.putObj_heap_other bQ,MI.block k hk hn]
 ·rintro e W2 ⟨⟨v,rfl⟩,pre,hd,i,l,d⟩
  have he:=run_endLoop (P:=P) l (by rw[hR];simp)
  have hp:(R .ready).pending=none:=by rw[hR]
  rw[hp] at he;exact⟨none,_,he,kV _ _ _ (Qg _) hd (hIc _ _ _ i (fY _ W2 _ _ (Q0 _))) ((World.putObj_heap_other (by omega)).trans d)⟩
end
end
section
open Go.RowKit
variable {bs : List Int} {p s : Nat} {n : Int}
def oK (bs:List Int) (p s:Nat) (n:Int) (k:Nat):List Int:=(List.range bs.length).map fun j=>if p+s≤j+k∧j<p+s then n/256^(p+s - 1 - j)%256 else bs.getD j 0
theorem Ra (bs:List Int) (p s:Nat) (n:Int) (k:Nat):(oK bs p s n k).length=bs.length:=by simp[oK]
theorem KR (bs:List Int) (p s:Nat) (n:Int):oK bs p s n 0=bs:=by
 refine List.ext_getElem (by simp[oK]) fun j h1 h2=> ?_
 simp only[oK,List.getElem_map,List.getElem_range];rw[Xd (by omega)];simp[h2]
theorem KS {k:Nat} (hk:k<s):(oK bs p s n k).set (p+s - 1 - k) (n/256^k%256)=oK bs p s n (k+1):=by
 refine List.ext_getElem (by simp[oK]) fun j h1 h2=> ?_
 rw[List.getElem_set];simp only[oK,List.getElem_map,List.getElem_range];by_cases e:p+s - 1 - k=j
 ·rw[Xo e,Xo (by omega)];have:p+s - 1 - j=k:=by omega
  rw[this]
 ·rw[Xd e];by_cases h3:p+s≤j+k∧j<p+s
  ·rw[Xo h3,Xo (by omega)]
  ·rw[Xd h3,Xd (by omega)]
theorem Rb (h:p+s≤bs.length):oK bs p s n s=lB bs p s n:=by
 refine List.ext_getElem? fun j=> ?_
 by_cases hj:j<bs.length
 ·rw[show(oK bs p s n s)[j]? =some (if p+s≤j+s∧j<p+s then n/256^(p+s - 1 - j)%256 else bs.getD j 0) by simp[oK,hj]];unfold lB;by_cases h1:j<p
  ·rw[QN (by simp[de];omega),QN (by simp;omega),Xd (by omega)];simp[h1,hj]
  ·by_cases h2:j<p+s
   ·rw[QN (by simp[de];omega),QM (by simp;omega),Xo (by omega)];rw[Qu,Zh (by omega),VP s n (j - p) (by omega)];rw[show p+s - 1 - j=s - 1 - (j - p) by omega]
   ·rw[QM (by simp[de];omega),Xd (by omega)];rw[Qo,Qu,de,Zh (by omega),Zb];rw[show p+s+(j - (p+s))=j by omega];simp[hj]
 ·rw[QQ (by simp[oK];omega),QQ (by rw[u7 h];omega)]
theorem sh0 (n:Int) (s:Nat) (h0:0≤n) (h1:n<256^s):n/2^(8*s)=0:=by
 have e:(2:Int)^(8*s)=256^s:=by rw[Int.pow_mul];rfl
 rw[e];exact Int.ediv_eq_zero_of_lt h0 h1
theorem I4 (w:Wo) (n at_ s:Nat) (hs:1≤s∧s≤8) (hn:n≤100000) (ha:at_≤100000):
  Calls prog 191 #[.int .i64 n,.int .i64 at_,.int .i64 s] w fun e w' =>e= .returned (.bool (decide (at_+s≤n)))∧w=w' :=by
 have h2:IntKind.i64.wrap ((n:Int) - s)=(n:Int) - s:=by rw[XN];omega
 have h3:wrap64 ((n:Int) - s)=(n:Int) - s:=by unfold wrap64;omega
 have Ip:(1:Int)≤s:=by omega
 have hs8:(s:Int)≤8:=by omega
 have It:(0:Int)≤at_:=by omega
 by_cases h:at_+s≤n
 ·have h1:(at_:Int)≤(n:Int) - s:=by omega
  rw[Xa h];clear h hs hn ha;go_enter func191,ntmps191;go_wp2_with fail;go_ret;exact⟨rfl,rfl⟩
 ·have h1:¬(at_:Int)≤(n:Int) - s:=by omega
  rw[Xe h];clear h hs hn ha;go_enter func191,ntmps191;go_wp2_with fail;go_ret;exact⟨rfl,rfl⟩
theorem jM (w:Wo) (g o L c at_ s:Nat) (bs:List Int) (n:Int) (h:dn w g bs) (hL:o+L≤bs.length) (hs:1≤s∧s≤8) (kJ:at_+s≤L) (hl:bs.length≤100000) (hn:0≤n∧n<256^s):
  Calls prog 106 #[.slice (some ⟨g,o,none⟩) L c,.int .i64 at_,.int .i64 s,.int .u64 n] w fun e w' =>e= .returned (.bool true)∧dn w' g (lB bs (o+at_) s n)∧w.grownBy w' (some g)∧w'.heap.size=w.heap.size:=by
 have ta:=sh0 n s hn.1 hn.2;have H:=aa h;have HL:=iJ hL kJ hl;have Hs:=aa hs;have HW:=aa (I4 w L at_ s hs (by omega) (by omega));have ph:=Xa kJ;rw[ph] at HW;have Ip:(1:Int)≤s:=by omega
 have hs8:(s:Int)≤8:=by omega
 clear h hL kJ hl hn hs ph;go_enter func106,ntmps106;by_cases hs9:(s:Int)<8
 all_goals
  go_upto_region 3 with(go_at_call 191;go_must(refine HW.o.mono ?_);rintro e w' ⟨rfl,rfl⟩)
  clear hs9 ta HW;go_wp2_with fail;go_loopw [28] (fun i wr=>∃k:Nat,k≤s∧i= .int .i64 k∧Af (dn wr g (oK bs (o+at_) s n k)∧w.grownBy wr (some g)∧wr.heap.size=w.heap.size)) (fun i _=>s - (intOf i).toNat)
  case atStart=>exact⟨0,by omega,rfl,by rw[KR];exact H.o,⟨rfl,rfl,rfl,Qg _,fun _ _ _=>rfl⟩,rfl⟩
  case round=>
   obtain⟨k,hk,rfl,hK⟩:=hrel;have K:=aa hK.o;clear hK;by_cases aJ:k<s
   ·have SK:(0:Int)≤(k:Int):=by omega
    have hks:(k:Int)<s:=by omega
    have Ng:(k:Int)<8:=by omega
    obtain⟨p,hp⟩:=eX (at_+s - 1 - k);have hpL:p<L:=by have:=HL.o;omega
    have Iq:(p:Int)<L:=by omega
    have tA:(0:Int)≤(p:Int):=by omega
    have nZ:wrap64 ((at_:Int)+s)=(at_:Int)+s:=by have:=HL.o;unfold wrap64;omega
    have fp:wrap64 ((at_:Int)+s - 1)=(at_:Int)+s - 1:=by have:=HL.o;unfold wrap64;omega
    have hw4:wrap64 ((at_:Int)+s - 1 - k)=(p:Int):=by have:=HL.o;unfold wrap64;omega
    obtain⟨hc,hf⟩:=K.o.1.cell (i:=o+p) (by rw[Ra];have:=HL.o;omega);have bj:=aa aJ;have HK1:Af (dn (wr.setCell ⟨g,o+p,none⟩ (.int .u8 (n/2^(8*k)%256))) g (oK bs (o+at_) s n (k+1))):=by
     have h1:=K.o.1.set (o+at_+s - 1 - k) (n/256^k%256);rw[KS aJ,show o+at_+s - 1 - k=o+p by have:=HL.o;omega] at h1;have e:(2:Int)^(8*k)=256^k:=by rw[Int.pow_mul];rfl
     rw[e];exact h1
    have HK2:Af (w.grownBy (wr.setCell ⟨g,o+p,none⟩ (.int .u8 (n/2^(8*k)%256))) (some g)):=
     ⟨K.o.2.1.os,K.o.2.1.tape,K.o.2.1.output,by simpa using K.o.2.1.size,fun j hj bT=>by rw[Xl _ _ _ _ (fun e=>bT (by rw[e]))];exact K.o.2.1.block j hj bT⟩
    generalize (oK bs (o+at_) s n k)[o+p]'_=u at hc;clear hp aJ hk;go_wp2_with fail;go_roundw
    case rel=>exact⟨k+1,bj.o,by go_num,HK1.o,HK2.o,by simpa using K.o.2.2⟩
    case measure=>have:=bj.o;simp[intOf];omega
   ·obtain rfl:k=s:=by omega
    clear aJ hk;go_wp2_with fail;go_ret;have h1:=K.o.1;rw[Rb (by have:=HL.o;omega)] at h1;exact⟨rfl,h1,K.o.2⟩
theorem Vq (n x:Int) (h0:0≤n) (h1:n*256+255<18446744073709551616) (x0:0≤x) (x1:x<256):bits .or .u64 (n*256) x=n*256+x:=by
 obtain⟨a,rfl⟩:∃a:Nat,n=a:=⟨n.toNat,by omega⟩;obtain⟨b,rfl⟩:∃b:Nat,x=b:=⟨x.toNat,by omega⟩;have h:=u64_or_nat (a*256) b (by omega) (by omega);have e:a*256|||b=a*256+b:=by have:=Nat.shiftLeft_add_eq_or_of_lt (i:=8) (b:=b) (by omega) a;rw[Nat.shiftLeft_eq] at this;exact this.symm
 rw[e] at h;have e2:((a*256:Nat):Int)=(a:Int)*256:=Int.natCast_mul _ _;rw[e2] at h;rw[h,Int.natCast_add,e2]
theorem Vk:∀j:Nat,j<8→(256:Int)^(min j 8)*256≤18446744073709551616:=by decide
theorem Li (l:List Int) (x:Int):j4 (l++[x])=j4 l*256+x:=by simp[j4]
theorem lf (w:Wo) (B:Nat) (v:Va) (bs:List Int) (hb:Bs w B v bs) (at_ s:Nat) (hs:1≤s∧s≤8) (h8:at_+s≤bs.length) (hl:bs.length≤100000):
  Calls prog 172 #[v,.int .i64 at_,.int .i64 s] w fun e w' =>e= .returned (.tuple #[.int .u64 (cK bs at_ s),.bool true])∧w=w' :=by
 obtain⟨b,o,c,rfl,hc,hm,hr⟩:=hb.1.row (by omega);obtain⟨L,hL⟩:=eX bs.length;rw[←hL] at hc⊢;have aH:∀j,j<s→w.cell? ⟨b,o+at_+j,none⟩=some (.int .u8 (bs.getD (at_+j) 0)):=fun j hj=>by rw[XB];refine hr.2 (at_+j) _ ?_;rw[Qt,Qf (by omega),Qe,Qf (by omega)];rfl
 have YI:∀j,j<s→aI (bs.getD (at_+j) 0):=fun j hj=>by rw[Qe,Qf (by omega)];exact hb.2 _ (QI _)
 obtain⟨ds,TG⟩:=eX ((bs.drop at_).take s);have oR:ds.length=s:=by rw[TG,Qu,Zt];omega
 have hdg:∀j (h:j<ds.length),ds[j]=bs.getD (at_+j) 0:=fun j h=>by rw[Qe,Qf (by omega)];simp[TG]
 have HY:=aa (I4 w L at_ s hs (by omega) (by omega));have ph:decide (at_+s≤L)=true:=Xa (by omega);rw[ph] at HY;have Hc:=aa aH;have Hby:=aa YI;have Hdl:=aa oR;have Hdg:=aa hdg;have Hds:Af (∀k,∀x∈ds.take k,aI x):=fun k x hx=>hb.2 x (Q6 (Za (TG▸Za hx)))
 have h8L:at_+s≤L:=by omega
 have nZ:wrap64 ((at_:Int)+s)=(at_:Int)+s:=by unfold wrap64;omega
 have hsI:(at_:Int)+s≤L:=by omega
 have hs8:=hs.2;have hac:at_<c:=by omega
 have hlL:L≤100000:=by omega
 unfold maxLen at hm;unfold cK;rw[←TG];clear aH YI TG oR hdg hb hr hL h8 hl ph hs;go_enter func172,ntmps172;go_wp2_with(go_at_call 191;refine HY.o.mono ?_;rintro e w' ⟨rfl,rfl⟩);go_loopw [8,24] (fun v i wr=>∃j:Nat,j≤s∧v= .int .u64 (j4 (ds.take j))∧i= .int .i64 j∧wr=w) (fun _ i _=>s - (intOf i).toNat)
 case atStart=>exact⟨0,Qp _,rfl,rfl,rfl⟩
 case round=>
  obtain⟨j,hj,rfl,rfl,rfl⟩:=hrel;by_cases aJ:j<s
  ·have hj8:j<8:=by omega
   have e1:j4 (ds.take (j+1))=j4 (ds.take j)*256+bs.getD (at_+j) 0:=by rw[List.take_add_one,Qf (by rw[Hdl.o];exact aJ),←Hdg.o j (by rw[Hdl.o];exact aJ)];exact Li _ _
   have hr:=lR (ds.take j) (Hds.o j);have hp:(256:Int)^(ds.take j).length*256≤18446744073709551616:=by rw[Qu,Hdl.o,Zh (by omega)];have:=Vk j hj8;rwa[Zh (by omega)] at this
   have h0:=hr.1;have h1:j4 (ds.take j)*256+255<18446744073709551616:=by omega
   have hb:=Hby.o j aJ;have hc:=Hc.o j aJ;have E1:=aa e1;have gd:=hb.1;have xx:=hb.2;have hjs:(j:Int)<s:=by omega
   clear hr hp e1 hb nZ hsI;generalize bs.getD (at_+j) 0=x at*;obtain⟨n,hn⟩:=eX (j4 (ds.take j));rw[←hn] at h0 h1 E1⊢;clear hn;have ho:=Vq n x h0 h1 gd xx;go_wp2_with fail;go_roundw
   case rel=>exact⟨j+1,aJ,by rw[E1.o],by go_num,trivial⟩
   case measure=>simp[intOf];omega
  ·have hj8:j=s:=by omega
   subst hj8;clear aJ hj;have ht:=Qj (by rw[Hdl.o];exact Qg _);rw[ht];clear ht;go_wp2_with fail;go_ret2;exact⟨rfl,rfl⟩
theorem Ku (l:List Int) (x:Int):j3 (l++[x])=(31*j3 l+x+7)%4294967291:=by simp[j3]
theorem I6 (w:Wo) (B:Nat) (v:Va) (bs:List Int) (hb:Bs w B v bs) (h0:0<bs.length) (hl:bs.length≤100000):
  Calls prog 173 #[v] w fun e w' =>e= .returned (.int .u32 (j3 bs))∧w=w' :=by
 obtain⟨b,o,c,rfl,hc,hm,hr⟩:=hb.1.row h0;obtain⟨L,hL⟩:=eX bs.length;rw[←hL] at hc⊢;have Hc:Af (∀j,(h:j<L)→w.cell? ⟨b,o+j,none⟩=some (.int .u8 (bs.getD j 0))∧aI (bs.getD j 0)∧j3 (bs.take (j+1))=(31*j3 (bs.take j)+bs.getD j 0+7)%4294967291):=fun j hj=>by
  have Eg :j<bs.length:=by omega
  refine⟨?_,?_,?_⟩
  ·refine hr.2 j _ ?_;rw[Qt,Qf Eg,Qe,Qf Eg];rfl
  ·rw[Qe,Qf Eg];exact hb.2 _ (QI _)
  ·rw[List.take_add_one,Qf Eg,Qe,Qf Eg];exact Ku _ _
 have hlL:L≤100000:=by omega
 have HL:=aa hL;unfold maxLen at hm;clear hb hr hL h0 hl;go_enter func173,ntmps173;go_wp2_with fail;go_loop [3,8] (fun v i=>∃j:Nat,j≤L∧v= .int .u64 (j3 (bs.take j))∧i= .int .i64 j) (fun _ i=>L - (intOf i).toNat)
 case atStart=>exact⟨0,Qp _,rfl,rfl⟩
 case round=>
  obtain⟨j,hj,rfl,rfl⟩:=hrel;by_cases aJ:j<L
  ·obtain⟨hc,⟨gd,xx⟩,e1⟩:=Hc.o j aJ;obtain⟨h0,h1⟩:=lN (bs.take j);have E1:=aa e1;have hjs:(j:Int)<L:=by omega
   clear e1;generalize bs.getD j 0=x at*;obtain⟨n,hn⟩:=eX (j3 (bs.take j));rw[←hn] at h0 h1 E1⊢;clear hn;go_wp2;exact⟨⟨j+1,aJ,by rw[E1.o],by go_num⟩,by simp[intOf];omega⟩
  ·have hj8:j=L:=by omega
   subst hj8;clear aJ hj;have ht:bs.take j=bs:=Qj (by rw[HL.o];exact Qg _);obtain⟨h0,h1⟩:=lN bs;have hw:IntKind.u32.wrap (j3 bs)=j3 bs:=by simp[IntKind.wrap,IntKind.signed,IntKind.bits];omega
   rw[ht];clear ht;go_wp2;go_ret;exact⟨rfl,rfl⟩
end
section
open Go.Shelf
def Tryz.DB:Go.Shelf.Ren:=⟨fun |125=>121|128=>195|129=>196|n=>n,fun |46=>160|3=>3|51=>23|53=>22|4=>4|5=>5|9=>9|n=>n,fun |n=>n⟩
theorem Tryz.Vy:Go.Proofs.Lays.n125 prog Tryz.DB:={
 mixed:=by kernel_rfl
 f125:=func121.trans (XF some (by kernel_rfl))
 f128:=func195.trans (XF some (by kernel_rfl))
 f129:=func196.trans (XF some (by kernel_rfl))
 t3:=underlying3
 a3:=Tryz.isAgg3
 z3:=Tryz.sizeOf3
 v3:=Tryz.zeroValue3
 t4:=underlying4
 a4:=Tryz.isAgg4
 z4:=Tryz.sizeOf4
 v4:=Tryz.zeroValue4
 t5:=underlying5
 a5:=Tryz.isAgg5
 z5:=Tryz.sizeOf5
 v5:=Tryz.zeroValue5
 t9:=underlying9
 a9:=Tryz.isAgg9
 z9:=Tryz.sizeOf9
 v9:=Tryz.zeroValue9
 t46:=underlying160
 a46:=Tryz.isAgg160
 z46:=Tryz.sizeOf160
 v46:=Tryz.zeroValue160
 t51:=underlying23
 a51:=Tryz.isAgg23
 z51:=Tryz.sizeOf23
 v51:=Tryz.zeroValue23
 t53:=underlying22
 a53:=Tryz.isAgg22
 z53:=Tryz.sizeOf22
 v53:=Tryz.zeroValue22}
theorem Tryz.bits_Len (x:Int) (w:Wo) (h0:0≤x) (h1:x≤18446744073709551615):
  Calls prog 121 #[.int .u64 x] w fun e w' =>e= .returned (.int .i64 (Lib.bitLen x.toNat))∧w' =w:=Any.bits_Len Tryz.Vy x w h0 h1
def Tryz.DA:Go.Shelf.Ren:=⟨fun |189=>168|125=>121|257=>233|128=>195|129=>196|294=>251|295=>252|296=>253|297=>254|298=>255|299=>256|216=>237|300=>257|301=>258|328=>262|329=>242|330=>243|331=>263|332=>264|215=>259|343=>265|n=>n,fun |28=>34|3=>3|46=>160|0=>0|51=>23|53=>22|4=>4|183=>301|182=>300|131=>233|5=>5|9=>9|218=>333|222=>337|228=>349|229=>199|n=>n,fun |n=>n⟩
theorem Tryz.Jl:Go.Proofs.Lays.n189 prog Tryz.DA:={
 mixed:=by kernel_rfl
 f125:=func121.trans (XF some (by kernel_rfl))
 f128:=func195.trans (XF some (by kernel_rfl))
 f129:=func196.trans (XF some (by kernel_rfl))
 f189:=func168.trans (XF some (by kernel_rfl))
 f215:=func259.trans (XF some (by kernel_rfl))
 f216:=func237.trans (XF some (by kernel_rfl))
 f257:=func233.trans (XF some (by kernel_rfl))
 f294:=func251.trans (XF some (by kernel_rfl))
 f295:=func252.trans (XF some (by kernel_rfl))
 f296:=func253.trans (XF some (by kernel_rfl))
 f297:=func254.trans (XF some (by kernel_rfl))
 f298:=func255.trans (XF some (by kernel_rfl))
 f299:=func256.trans (XF some (by kernel_rfl))
 f300:=func257.trans (XF some (by kernel_rfl))
 f301:=func258.trans (XF some (by kernel_rfl))
 f328:=func262.trans (XF some (by kernel_rfl))
 f329:=func242.trans (XF some (by kernel_rfl))
 f330:=func243.trans (XF some (by kernel_rfl))
 f331:=func263.trans (XF some (by kernel_rfl))
 f332:=func264.trans (XF some (by kernel_rfl))
 f343:=func265.trans (XF some (by kernel_rfl))
 t0:=underlying0
 a0:=Tryz.isAgg0
 z0:=Tryz.sizeOf0
 v0:=Tryz.zeroValue0
 t3:=underlying3
 a3:=Tryz.isAgg3
 z3:=Tryz.sizeOf3
 v3:=Tryz.zeroValue3
 t4:=underlying4
 a4:=Tryz.isAgg4
 z4:=Tryz.sizeOf4
 v4:=Tryz.zeroValue4
 t5:=underlying5
 a5:=Tryz.isAgg5
 z5:=Tryz.sizeOf5
 v5:=Tryz.zeroValue5
 t9:=underlying9
 a9:=Tryz.isAgg9
 z9:=Tryz.sizeOf9
 v9:=Tryz.zeroValue9
 t28:=underlying34
 a28:=Tryz.isAgg34
 z28:=Tryz.sizeOf34
 v28:=Tryz.zeroValue34
 t46:=underlying160
 a46:=Tryz.isAgg160
 z46:=Tryz.sizeOf160
 v46:=Tryz.zeroValue160
 t51:=underlying23
 a51:=Tryz.isAgg23
 z51:=Tryz.sizeOf23
 v51:=Tryz.zeroValue23
 t53:=underlying22
 a53:=Tryz.isAgg22
 z53:=Tryz.sizeOf22
 v53:=Tryz.zeroValue22
 t131:=underlying233
 a131:=Tryz.isAgg233
 z131:=Tryz.sizeOf233
 v131:=Tryz.zeroValue233
 t182:=underlying300
 a182:=Tryz.isAgg300
 z182:=Tryz.sizeOf300
 v182:=Tryz.zeroValue300
 t183:=underlying301
 a183:=Tryz.isAgg301
 z183:=Tryz.sizeOf301
 v183:=Tryz.zeroValue301
 t218:=underlying333
 a218:=Tryz.isAgg333
 z218:=Tryz.sizeOf333
 v218:=Tryz.zeroValue333
 t222:=underlying337
 a222:=Tryz.isAgg337
 z222:=Tryz.sizeOf337
 v222:=Tryz.zeroValue337
 t228:=underlying349
 a228:=Tryz.isAgg349
 z228:=Tryz.sizeOf349
 v228:=Tryz.zeroValue349
 t229:=underlying199
 a229:=Tryz.isAgg199
 z229:=Tryz.sizeOf199
 v229:=Tryz.zeroValue199}
open Go.Sort Go.RowKit in
theorem Tryz.slices_Sort_int (Ej off cap:Nat) (zs:List Int) (w:Wo) (hH:Holds (Value.int .i64) w Ej off zs.toArray) (uA:Ej<w.heap.size) (cz:zs.length<4611686018427387904):
  Calls prog 168 #[.slice (some ⟨Ej,off,none⟩) zs.length cap] w fun e w' =>
   e= .returned (.tuple #[])∧∃n os,w' =grow (putRow (Value.int .i64) (Sort.ahead w n) Ej off (zs.mergeSort fun x y=>decide (x≤y)).toArray) os:=Any.slices_Sort_int Tryz.Jl Ej off cap zs w hH uA cz
def Tryz.DE:Go.Shelf.Ren:=⟨fun |107=>124|108=>200|n=>n,fun |28=>34|3=>3|4=>4|0=>0|n=>n,fun |n=>n⟩
theorem Tryz.Jm:Go.Proofs.Lays.n107 prog Tryz.DE:={
 mixed:=by kernel_rfl
 f107:=func124.trans (XF some (by kernel_rfl))
 f108:=func200.trans (XF some (by kernel_rfl))
 t0:=underlying0
 a0:=Tryz.isAgg0
 z0:=Tryz.sizeOf0
 v0:=Tryz.zeroValue0
 t3:=underlying3
 a3:=Tryz.isAgg3
 z3:=Tryz.sizeOf3
 v3:=Tryz.zeroValue3
 t4:=underlying4
 a4:=Tryz.isAgg4
 z4:=Tryz.sizeOf4
 v4:=Tryz.zeroValue4
 t28:=underlying34
 a28:=Tryz.isAgg34
 z28:=Tryz.sizeOf34
 v28:=Tryz.zeroValue34}
open Go.Lib in
theorem Tryz.slices_Contains_int (b off n c:Nat) (zs:List Int) (x:Int) (w:Wo) (hz:n≤zs.length) (uB:n≤9223372036854775807) (hc:∀j,j<zs.length→w.cell? ⟨b,off+j,none⟩=some (.int .i64 (zs.getD j 0))):
  Calls prog 124 #[.slice (some ⟨b,off,none⟩) n c,.int .i64 x] w fun e w' =>e= .returned (.bool ((zs.take n).contains x))∧w' =w:=Any.slices_Contains_int Tryz.Jm b off n c zs x w hz uB hc
open Go.Lib in
theorem Tryz.slices_Contains_int_empty (a:Option Addr) (c:Nat) (x:Int) (w:Wo):
  Calls prog 124 #[.slice a 0 c,.int .i64 x] w fun e w' =>e= .returned (.bool false)∧w' =w:=Any.slices_Contains_int_empty Tryz.Jm a c x w
def Tryz.DC:Go.Shelf.Ren:=⟨fun |113=>144|n=>n,fun |28=>34|3=>3|4=>4|9=>9|20=>20|0=>0|n=>n,fun |n=>n⟩
theorem Tryz.Vz:Go.Proofs.Lays.n113 prog Tryz.DC:={
 mixed:=by kernel_rfl
 f113:=func144.trans (XF some (by kernel_rfl))
 t0:=underlying0
 a0:=Tryz.isAgg0
 z0:=Tryz.sizeOf0
 v0:=Tryz.zeroValue0
 t3:=underlying3
 a3:=Tryz.isAgg3
 z3:=Tryz.sizeOf3
 v3:=Tryz.zeroValue3
 t4:=underlying4
 a4:=Tryz.isAgg4
 z4:=Tryz.sizeOf4
 v4:=Tryz.zeroValue4
 t9:=underlying9
 a9:=Tryz.isAgg9
 z9:=Tryz.sizeOf9
 v9:=Tryz.zeroValue9
 t20:=underlying20
 a20:=Tryz.isAgg20
 z20:=Tryz.sizeOf20
 v20:=Tryz.zeroValue20
 t28:=underlying34
 a28:=Tryz.isAgg34
 z28:=Tryz.sizeOf34
 v28:=Tryz.zeroValue34}
open Go.Lib in
theorem Tryz.slices_Max_int (b off n c:Nat) (zs:List Int) (w:Wo) (hn:0<n) (hz:n≤zs.length) (uB:n≤9223372036854775807) (hc:∀j,j<zs.length→w.cell? ⟨b,off+j,none⟩=some (.int .i64 (zs.getD j 0))):
  Calls prog 144 #[.slice (some ⟨b,off,none⟩) n c] w fun e w' =>e= .returned (.int .i64 (Lib.maxOf (zs.take n)))∧w' =w:=Any.slices_Max_int Tryz.Vz b off n c zs w hn hz uB hc
def Tryz.DD:Go.Shelf.Ren:=⟨fun |111=>221|n=>n,fun |28=>34|3=>3|4=>4|0=>0|n=>n,fun |n=>n⟩
theorem Tryz.zO:Go.Proofs.Lays.n111 prog Tryz.DD:={
 mixed:=by kernel_rfl
 f111:=func221.trans (XF some (by kernel_rfl))
 t0:=underlying0
 a0:=Tryz.isAgg0
 z0:=Tryz.sizeOf0
 v0:=Tryz.zeroValue0
 t3:=underlying3
 a3:=Tryz.isAgg3
 z3:=Tryz.sizeOf3
 v3:=Tryz.zeroValue3
 t4:=underlying4
 a4:=Tryz.isAgg4
 z4:=Tryz.sizeOf4
 v4:=Tryz.zeroValue4
 t28:=underlying34
 a28:=Tryz.isAgg34
 z28:=Tryz.sizeOf34
 v28:=Tryz.zeroValue34}
open Go.RowKit Go.Lib in
theorem Tryz.slices_Equal_int (b1 o1 n c b2 o2 m d:Nat) (xs ys:List Int) (w:Wo) (hx:n≤xs.length) (hy:m≤ys.length) (uB:n≤9223372036854775807) (OR:m≤9223372036854775807) (jb:∀j,j<xs.length→w.cell? ⟨b1,o1+j,none⟩=some (.int .i64 (xs.getD j 0))) (pk:∀j,j<ys.length→w.cell? ⟨b2,o2+j,none⟩=some (.int .i64 (ys.getD j 0))):
  Calls prog 221 #[.slice (some ⟨b1,o1,none⟩) n c,.slice (some ⟨b2,o2,none⟩) m d] w fun e w' =>e= .returned (.bool (xs.take n==ys.take m))∧∃q,w' =w.drewN q:=Any.slices_Equal_int Tryz.zO b1 o1 n c b2 o2 m d xs ys w hx hy uB OR jb pk
open Go.RowKit Go.Lib in
theorem Tryz.slices_Equal_int_empty (a1 a2:Option Addr) (c m d:Nat) (w:Wo) (OR:m≤9223372036854775807):
  Calls prog 221 #[.slice a1 0 c,.slice a2 m d] w fun e w' =>e= .returned (.bool (decide (m=0)))∧w' =w:=Any.slices_Equal_int_empty Tryz.zO a1 a2 c m d w OR
def Tryz.xe:Go.Shelf.Ren:=⟨fun |15=>99|n=>n,fun |22=>34|3=>3|4=>4|n=>n,fun |n=>n⟩
theorem Tryz.rU:Go.Proofs.Lays2.n15 prog Tryz.xe:={
 mixed:=by kernel_rfl
 f15:=func99.trans (XF some (by kernel_rfl))
 t3:=underlying3
 a3:=Tryz.isAgg3
 z3:=Tryz.sizeOf3
 v3:=Tryz.zeroValue3
 t4:=underlying4
 a4:=Tryz.isAgg4
 z4:=Tryz.sizeOf4
 v4:=Tryz.zeroValue4
 t22:=underlying34
 a22:=Tryz.isAgg34
 z22:=Tryz.sizeOf34
 v22:=Tryz.zeroValue34
 i3:=by kernel_rfl}
open Go.RowKit Go.Lib in
theorem Tryz.slices_Clone_int (b off n c:Nat) (zs:List Int) (w:Wo) (hz:n≤zs.length) (uB:n*8≤140737488355328) (hc:∀j,j<zs.length→w.cell? ⟨b,off+j,none⟩=some (.int .i64 (zs.getD j 0))):
  Calls prog 99 #[.slice (some ⟨b,off,none⟩) n c] w fun e w' =>∃v',e= .returned v'∧w'.ownsRow w.heap.size 3 1 v' n ((zs.take n).map (Value.int .i64))∧v'≠ .slice none 0 0∧Below w.heap.size w w' :=Any.slices_Clone_int Tryz.rU b off n c zs w hz uB hc
open Go.RowKit Go.Lib in
theorem Tryz.slices_Clone_int_nil (n c:Nat) (w:Wo):
  Calls prog 99 #[.slice none n c] w fun e w' =>e= .returned (.slice none 0 0)∧w' =w:=Any.slices_Clone_int_nil Tryz.rU n c w
open Go.RowKit Go.Lib in
theorem Tryz.slices_Clone_int_zero (a:Addr) (c:Nat) (w:Wo):
  Calls prog 99 #[.slice (some a) 0 c] w fun e w' =>∃v',e= .returned v'∧w'.ownsRow w.heap.size 3 1 v' 0 []∧v'≠ .slice none 0 0∧Below w.heap.size w w' :=Any.slices_Clone_int_zero Tryz.rU a c w
def Tryz.xd:Go.Shelf.Ren:=⟨fun |25=>181|31=>237|32=>238|37=>259|n=>n,fun |22=>34|3=>3|4=>4|40=>160|0=>0|n=>n,fun |n=>n⟩
theorem Tryz.yw:Go.Proofs.Lays2.n25 prog Tryz.xd:={
 mixed:=by kernel_rfl
 f25:=func181.trans (XF some (by kernel_rfl))
 f31:=func237.trans (XF some (by kernel_rfl))
 f32:=func238.trans (XF some (by kernel_rfl))
 f37:=func259.trans (XF some (by kernel_rfl))
 t0:=underlying0
 a0:=Tryz.isAgg0
 z0:=Tryz.sizeOf0
 v0:=Tryz.zeroValue0
 t3:=underlying3
 a3:=Tryz.isAgg3
 z3:=Tryz.sizeOf3
 v3:=Tryz.zeroValue3
 t4:=underlying4
 a4:=Tryz.isAgg4
 z4:=Tryz.sizeOf4
 v4:=Tryz.zeroValue4
 t22:=underlying34
 a22:=Tryz.isAgg34
 z22:=Tryz.sizeOf34
 v22:=Tryz.zeroValue34
 t40:=underlying160
 a40:=Tryz.isAgg160
 z40:=Tryz.sizeOf160
 v40:=Tryz.zeroValue160}
open Go.RowKit Go.Lib in
theorem Tryz.slices_BinarySearch_int (b off n c:Nat) (zs:List Int) (x:Int) (w:Wo) (hz:n≤zs.length) (uB:n<4611686018427387904) (hc:∀j,j<zs.length→w.cell? ⟨b,off+j,none⟩=some (.int .i64 (zs.getD j 0))) (hs:(zs.take n).Pairwise (·≤·)):
  Calls prog 181 #[.slice (some ⟨b,off,none⟩) n c,.int .i64 x] w fun e w' =>e= .returned (.tuple #[.int .i64 ((zs.take n).countP (·<x):Nat),.bool ((zs.take n).contains x)])∧∃q,w' =w.drewN q:=Any.slices_BinarySearch_int Tryz.yw b off n c zs x w hz uB hc hs
open Go.RowKit Go.Sort in
theorem Tryz.slices_Sort_int_none (p:Option Addr) (cap:Nat) (w:Wo):
  Calls prog 168 #[.slice p 0 cap] w fun e w' =>e= .returned (.tuple #[])∧w' =w:=Any.slices_Sort_int_none Tryz.Jl p cap w
open Go.RowKit Go.Lib in
theorem Tryz.slices_BinarySearch_int_empty (a:Option Addr) (c:Nat) (x:Int) (w:Wo):
  Calls prog 181 #[.slice a 0 c,.int .i64 x] w fun e w' =>e= .returned (.tuple #[.int .i64 0,.bool false])∧w' =w:=Any.slices_BinarySearch_int_empty Tryz.yw a c x w
open Go.RowKit Go.Lib in
theorem Tryz.slices_Equal_int_lens (a1 a2:Option Addr) (n c m d:Nat) (w:Wo) (hnm:n≠m):
  Calls prog 221 #[.slice a1 n c,.slice a2 m d] w fun e w' =>e= .returned (.bool false)∧w' =w:=Any.slices_Equal_int_lens Tryz.zO a1 a2 n c m d w hnm
def Tryz.zW:Go.Shelf.Ren:=⟨fun |4=>174|n=>n,fun |22=>87|4=>4|5=>5|n=>n,fun |n=>n⟩
theorem Tryz.RB:Go.Proofs.SlLaysK.n4 prog Tryz.zW:={
 mixed:=by kernel_rfl
 f4:=func174.trans (XF some (by kernel_rfl))
 t4:=underlying4
 a4:=Tryz.isAgg4
 z4:=Tryz.sizeOf4
 v4:=Tryz.zeroValue4
 t22:=underlying87
 a22:=Tryz.isAgg87
 z22:=Tryz.sizeOf87
 v22:=Tryz.zeroValue87
 t5:=underlying5
 i5:=by kernel_rfl}
open Go.RowKit Go.Lib in
theorem Tryz.bytes_Clone_at (a:Addr) (n c:Nat) (xs:List Int) (w:Wo) (hx:xs.length=n) (uB:n≤140737488355328) (hc:∀i,i<n→w.cell? (a.add i)=some (.int .u8 (xs.getD i 0))):
  Calls prog 174 #[.slice (some a) n c] w fun e w' =>∃v',e= .returned v'∧w'.ownsRow w.heap.size 5 1 v' n (xs.map (Value.int .u8))∧v'≠ .slice none 0 0∧Below w.heap.size w w' :=Any.bytes_Clone_at Tryz.RB a n c xs w hx uB hc
end
end Go.Proofs.YthgdhacopamklaaGreat

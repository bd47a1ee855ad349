/- What HashNone asks, part 1 of 41: parts of the walks and laws, each true as it stands. -/
import Derived.BigQuiet
import Derived.Deep.Cut
import Derived.Deep.CutBlock
import Derived.Deep.CutRange
import Derived.Deep.Draws
import Derived.Deep.LoopGhost
import Derived.Deep.QuietTactic
import Derived.Deep.RegionHeld
import Derived.Deep.RegionHeld3
import Derived.Deep.WholeRow
import Derived.DeepKeys4
import Derived.Laws.AppendOwnNone
import Derived.Laws.Bits64
import Derived.Laws.CopyOwn
import Derived.Laws.IdiomRangeMap
import Derived.Laws.MakeOwn
import Derived.Laws.OwnMore
import Derived.Lib.AppendZerosOnto
import Derived.Lib.ConvBytes
import Derived.Lib.Hide
import Derived.Lib.OthersKept
import Derived.Lib.Overlaps
import Derived.Lib.QuietBelow
import Derived.LoopIn
import Derived.LoopNIn
import Derived.Maps.AppendAt
import Derived.Maps.Ext
import Derived.Maps.Own
import Derived.Maps.OwnSet
import Derived.Maps.RangeWalk
import Derived.OwnWalkIn
import Derived.RangeFuncBound
import Derived.RangeFuncBox
import Derived.RangeFuncCalls
import Derived.RangeFuncLeaves
import Derived.RangeFuncNested
import Derived.Sort.BigQuietIn
import Derived.Sort.CutIn
import Derived.StillTail
import Derived.StillTailTactics
import Derived.Test.YthgdhacopamklaaGreatProg
import Derived.WalkKit
import Derived.WalkLawsBesides
import Derived.WalkSpells
import Derived.Test.YthgdhacopamklaaGreatAls
set_option maxHeartbeats 16000000
set_option maxRecDepth 100000
set_option linter.unusedVariables false
set_option linter.unusedSimpArgs false
namespace Go.Proofs.YthgdhacopamklaaGreat
open Go.Proofs.Tryz
section
open Go.RowKit
open Go.Maps (Keyed)
theorem dP (b o j:Nat):(Addr.mk b o none).add j=⟨b,o+j,none⟩:=by
 unfold Addr.add;split<;>simp_all
def Row (w:Wo) (B b o:Nat) (xs:List Va):Prop:=
 b<B∧∀j u,xs[j]? =some u→w.cell? ⟨b,o+j,none⟩=some u
def Sl (w:Wo) (B size:Nat) (v:Va) (n:Nat) (xs:List Va):Prop:=
 xs.length=n*size∧∃A c,v= .slice A n c∧n≤c∧c≤maxLen∧(A=none→c=0)∧(0<n→∃b o,A=some ⟨b,o,none⟩∧Row w B b o xs)
theorem Jc (w:Wo) (xs:List Va) (t:TypeId):Row (w.alloc (.cells xs.toArray t)) (w.heap.size+1) w.heap.size 0 xs:=
 ⟨XL _,fun j u hu=>by rw[QR,World.cell?_alloc_new];simpa using hu⟩
section
variable {w w' : Wo} {B B' size n b o : Nat} {v : Va} {xs : List Va}
theorem Row.keep (h:Row w B b o xs) (hk:∀p:Addr,p.block<B→w'.cell? p=w.cell? p):Row w' B b o xs:=
 ⟨h.1,fun j u hu=>(hk _ h.1).trans (h.2 j u hu)⟩
theorem Sl.keep (h:Sl w B size v n xs) (hk:∀p:Addr,p.block<B→w'.cell? p=w.cell? p):Sl w' B size v n xs:=by
 obtain⟨hl,A,c,hv,hc,hm,hz,hr⟩:=h;refine⟨hl,A,c,hv,hc,hm,hz,fun hn=> ?_⟩;obtain⟨b,o,hA,hr⟩:=hr hn;exact⟨b,o,hA,hr.keep hk⟩
theorem Sl.more (h:Sl w B size v n xs) (hB:B≤B'):Sl w B' size v n xs:=by
 obtain⟨hl,A,c,hv,hc,hm,hz,hr⟩:=h;refine⟨hl,A,c,hv,hc,hm,hz,fun hn=> ?_⟩;obtain⟨b,o,hA,hr⟩:=hr hn;exact⟨b,o,hA,Qn hr.1 hB,hr.2⟩
theorem O0 (w:Wo) (B size:Nat):Sl w B size (.slice none 0 0) 0 []:=⟨by simp,none,0,rfl,Qg _,Qp _,fun _=>rfl,fun h=>absurd h (by omega)⟩
theorem kT (hl:xs.length=n*size) {c:Nat} (hc:n≤c) (hm:c≤maxLen) (hr:Row w B b o xs):Sl w B size (.slice (some ⟨b,o,none⟩) n c) n xs:=
 ⟨hl,_,c,rfl,hc,hm,(fun h=>by cases h),fun _=>⟨b,o,rfl,hr⟩⟩
theorem Sl.below (h:Sl w B size v n xs) (hb:Below B w w'):Sl w' B size v n xs:=h.keep fun _ hp=>hb.cell hp
theorem Sl.acu (h:Sl w B size v n xs) (hb:Below B' w w') (hB:B≤B'):Sl w' B size v n xs:=h.keep fun _ hp=>hb.cell (by omega)
theorem Sl.drew (h:Sl w B size v n xs):Sl w.drew B size v n xs:=h
theorem Sl.alloc (h:Sl w B size v n xs) (hB:B≤w.heap.size) (x:Obj):Sl (w.alloc x) B size v n xs:=h.keep fun p hp=>World.cell?_alloc_lt w x p (by omega)
theorem Sl.setCell (h:Sl w B size v n xs) {p:Addr} (hB:B≤p.block) (u:Va):Sl (w.setCell p u) B size v n xs:=
 h.keep fun q hq=>World.cell?_setCell_other w p q u (fun e=>by subst e;omega)
theorem Sl.form (h:Sl w B size v n xs):∃A c,v= .slice A n c∧n≤c∧c≤maxLen:=by
 obtain⟨_,A,c,hv,hc,hm,_⟩:=h;exact⟨A,c,hv,hc,hm⟩
theorem Sl.row (h:Sl w B size v n xs) (hn:0<n):∃b o c,v= .slice (some ⟨b,o,none⟩) n c∧n≤c∧c≤maxLen∧Row w B b o xs:=by
 obtain⟨_,A,c,hv,hc,hm,_,hr⟩:=h;obtain⟨b,o,rfl,ZL⟩:=hr hn;exact⟨b,o,c,hv,hc,hm,ZL⟩
end
theorem xp {B:Nat} {w w' :Wo} (h:Below B w.drew w'):Below B w w' :=⟨h.os,h.tape,h.output,h.size,h.block⟩
theorem ga {w w' :Wo} (h:Below w.heap.size w w') (row:Option Nat):w.grownBy w' row:=⟨h.os,h.tape,h.output,h.size,fun k hk _=>h.block k hk⟩
theorem aS {w w' :Wo} {base:Nat} {e:TypeId} {size:Nat} {v:Va} {n:Nat} {xs:List Va} (h:w.ownsRow base e size v n xs) (hb:Below w.heap.size w w'):w'.ownsRow base e size v n xs:=
 h.kept (ga hb none) (by cases v.ownBlock<;>simp)
theorem below_drewN {B:Nat} {w w' :Wo} (h:Below B w w') (n:Nat):Below B w (w'.drewN n):=⟨h.os,h.tape,h.output,h.size,h.block⟩
theorem jK {a b:Bool} (h:a=b):Ending.returned (.bool a)=Ending.returned (.bool b):=by rw[h]
section
variable {P : Program} {ops : Array Oper} {C : Wo → Prop} {Q : Act → Prop} {a : Act} {rest : List Oper} {dst : Option Tmp} {x : Operand} {t ty : TypeId} {pos : String} {after : Array Edge}
end
section
variable {P : Program} {ops : Array Oper} {w : Wo} {Q : Act → Prop} {a : Act} {rest : List Oper} {dst : Option Tmp} {x : Operand} {t ty : TypeId} {pos : String} {after : Array Edge}
theorem st_load (p v:Va) (hx:a.eval x=p) (h:(Instr.loadAt t p).run P w= .ok v w) (hk:wpStill P ops w Q rest (a.put dst v)):
  wpStill P ops w Q (⟨dst,.load t x,ty,pos,after,none⟩::rest) a:=
 wpStill_step fun K hK=>by
  simp only[Region.wanted,if_true];unfold Oper.still;rw[←hx] at h;simp[execOp,h,Result.andThen,Oper.stillUpon];exact hK _ hk
end
section
variable {P : Program} {ops : Array Oper} {w : Wo} {Q : Exit → Act → Wo → Prop} {a : Act} {rest : List Oper} {dst : Option Tmp} {x : Operand} {t ty : TypeId} {pos : String} {after : Array Edge}
theorem wl_load (p v:Va) (hx:a.eval x=p) (h:(Instr.loadAt t p).run P w= .ok v w) (hk:wpList P ops Q rest (a.put dst v) w):
  wpList P ops Q (⟨dst,.load t x,ty,pos,after,none⟩::rest) a w:=
 wpList_plain rfl fun K hK=>by
  unfold Oper.wp;rw[←hx] at h;simp[execOp,h,Result.andThen];exact hK _ _ hk
theorem wl_new_arr {d:Tmp} {ty2:TypeId} {amQ:String} {acz:Array Edge} {z:Array Va} (cs:Array Va) (hi:(P.info? t).map (fun i=>(i.zero,i.size))=some (some (.agg z),cs.size)) (hz:z.size=cs.size)
  (h1:cs.all (·.oneCell')=true) (hx:((a.put (some d) (.pointer (some ⟨w.heap.size,0,none⟩))).eval x)= .agg cs) (hd:((a.put (some d) (.pointer (some ⟨w.heap.size,0,none⟩))).eval (.tmp d))= .pointer (some ⟨w.heap.size,0,none⟩))
  (hk:wpList P ops Q rest ((a.put (some d) (.pointer (some ⟨w.heap.size,0,none⟩))).put none undef) (w.alloc (.cells cs t))):
  wpList P ops Q (⟨some d,.alloc t,ty,pos,after,none⟩::⟨none,.store t (.tmp d) x,ty2,amQ,acz,none⟩::rest) a w:=by
 have cz:(P.info? t).map (·.size)=some cs.size:=by
  cases hq:P.info? t with
  |none=>simp[hq] at hi
  |some i=>simp[hq] at hi;simp[hi.2]
 refine wpList_plain rfl fun K hK=> ?_
 have ha:(Instr.alloc t true (.tuple #[])).run P w= .ok (.pointer (some ⟨w.heap.size,0,none⟩)) (w.alloc (.cells z t)):=by
  have oI:=(zero_of_info hi).1;simp[Instr.alloc,oI,newVar,newRow,Result.andThen,Value.cells]
 unfold Oper.wp;simp[execOp,ha,Result.andThen];refine hK _ _ ?_;refine wpList_plain rfl fun K2 hK2=> ?_
 have hs:=run_storeAt_new (P:=P) w t z cs cz hz h1;unfold Oper.wp;simp only[execOp];rw[hd,hx];simp[hs,Result.andThen];exact hK2 _ _ hk
end
section
variable {α β : Type} [DecidableEq α]
end
section
variable {α β : Type} [DecidableEq α]
end
section
variable {α β : Type} {w w' : Wo} {P : Program} {k t e : TypeId} {m : Nat} {ek : α → Va} {ev : β → Va} {kv : List (α × β)}
variable [DecidableEq α]
end
section
variable {α β : Type} [DecidableEq α] {w : Wo} {P : Program} {k t e : TypeId} {m : Nat} {ek : α → Va} {ev : β → Va} {kv : List (α × β)}
variable {ops : Array Oper} {Q : Exit → Act → Wo → Prop} {a : Act} {rest : List Oper} {dst : Option Tmp} {om ok ov : Operand} {ty : TypeId} {pos : String} {after : Array Edge}
end
def aI (x:Int):Prop:=0≤x∧x<256
def bI (x:Int):Prop:=0≤x∧x<18446744073709551616
def Bs (w:Wo) (B:Nat) (v:Va) (bs:List Int):Prop:=Sl w B 1 v bs.length (bs.map (.int .u8))∧∀x∈bs,aI x
end
section
variable {aO : Array Bool} {f i : Nat} {o oi : Oper} {v : Va} {a : Act} {w : Wo} {rs : List Nat}
section
variable {P : Program} {ops : Array Oper} {Q : Exit → Act → Wo → Prop} {md : Region.Mode} {S : Wo → Prop} {T : Nat → Bool}
def eF (P:Program) (md:Region.Mode) (ops:Array Oper) (Q:Exit→Act→Wo→Prop) (S:Wo→Prop) (T:Nat→Bool):Nat→Array Bool→Act→Wo→Prop
 |0,aO,a,w=>Region.ready md ops aO=[]∧Q .normal a w
 |f+1,aO,a,w=>(Region.ready md ops aO=[]→Q .normal a w)∧∀i∈Region.ready md ops aO,wpOp P ops Q i (fun a' w' =>(T i=false→S w')∧eF P md ops Q S T f (aO.setIfInBounds i true) a' w') a w
theorem vo:∀(f:Nat) (aO:Array Bool) (a:Act) (w:Wo),eF P md ops Q S T f aO a w→wpAny P md ops Q f aO a w
 |0,_,_,_,h=>h
 |f+1,_,_,_,h=>⟨h.1,fun i hi=>wpOp_mono (fun a' w' h' =>vo f _ a' w' h'.2) (h.2 i hi)⟩
def Clo (md:Region.Mode) (ops:Array Oper) (aO:Array Bool):Prop:=∀j oj,ops[j]? =some oj→aO.getD j false=true→∀e∈oj.after,Region.binds md e=true→aO.getD e.on false=true
def abk (md:Region.Mode) (ops:Array Oper) (aO:Array Bool):Bool:=
 (List.range ops.size).all fun j=> !(aO.getD j false)||match ops[j]? with
  |some oj=>oj.after.all fun e=> !(Region.binds md e)||aO.getD e.on false
  |none=>true
theorem acn (h:abk md ops aO=true):Clo md ops aO:=by
 intro j oj hj hl e he hb;have h1:=XT.1 h j (Zm.2 (Qy.1 hj).1);simp only[hl,hj,Bool.not_true,Bool.false_or] at h1;have h2:=Array.all_eq_true_iff_forall_mem.1 h1 e he;simpa[hb] using h2
theorem Clo.set (h:Clo md ops aO) (hi:i∈Region.ready md ops aO):Clo md ops (aO.setIfInBounds i true):=by
 obtain⟨-,oi,hoi,bm⟩:=mem_ready.1 hi;intro j oj hj hl e he hb;by_cases wJ:i=j
 ·subst wJ;rw[hoi] at hj;cases hj
  exact getD_set_true (bm e he hb)
 ·rw[getD_set_ne false wJ] at hl;exact getD_set_true (h j oj hj hl e he hb)
def BD (md:Region.Mode) (ops:Array Oper):Nat→Nat→Nat→Bool
 |0,_,_=>false
 |f+1,j,i=>(List.range ops.size).any fun k=>Region.waitsFor md ops j k&&(k==i||BD md ops f k i)
theorem Vn (hc:Clo md ops aO) (hi:aO.getD i false=false):∀(f j:Nat),BD md ops f j i=true→aO.getD j false=false∧j∉Region.ready md ops aO:=by
 intro f;induction f with
 |zero=>intro j h;cases h
 |succ f ih=>
  intro j h;obtain⟨k,-,h2⟩:=Xb.1 h;simp only[XR,Bool.or_eq_true,beq_iff_eq] at h2;have hk:aO.getD k false=false:=by
   rcases h2.2 with rfl|h3
   ·exact hi
   ·exact(ih k h3).1
  obtain⟨oj,hoj,e,he,hb,hon⟩:=Region.waitsFor_spec h2.1;constructor
  ·cases hl:aO.getD j false with
   |false=>rfl
   |true=>
    have:=hc j oj hoj hl e he hb;rw[hon,hk] at this;cases this
  ·intro hr;obtain⟨-,o',ho',bm⟩:=mem_ready.1 hr;rw[hoj] at ho';cases ho'
   have:=bm e he hb;rw[hon,hk] at this;cases this
theorem zT {m:Nat} (hi:ops[i]? =some oi) (agd:∀(j:Nat) (o:Oper) cs b,ops[j]? =some o→o.op≠ .select cs b)
  (hQ:∀c a w,Q (.panic c) (a.put oi.dst v) w→Q (.panic c) a w) (hT:∀j,T j=true→BD md ops m j i=true):
  ∀(f:Nat) (aO:Array Bool) (a:Act) (w:Wo),Clo md ops aO→
   (∀j oj,ops[j]? =some oj→j≠i→aO.getD j true=false→(∀e∈oj.after,Region.binds md e=true→e.on≠i)→oi.apart ops oj=true)→
   i∈Region.ready md ops aO→YieldsIf P ops S oi v a→S w→
   eF P md ops Q S T f (aO.setIfInBounds i true) (a.put oi.dst v) w→eF P md ops Q S T (f+1) aO a w:=by
 intro f
 induction f with
 |zero=>
  intro aO a w _ _ hr hy hS H;refine⟨fun h=>(by rw[h] at hr;cases hr),fun j hj=> ?_⟩
  by_cases TB:j=i
  ·subst TB;exact hy.wpOp hi hS ⟨fun _=>hS,H⟩
  ·have:=ready_mono hj TB
   rw[H.1] at this
   cases this
 |succ f ih=>
  intro aO a w agN BK hr hy hS H;refine⟨fun h=>(by rw[h] at hr;cases hr),fun j hj=> ?_⟩
  by_cases TB:j=i
  ·subst TB;exact hy.wpOp hi hS ⟨fun _=>hS,H⟩
  ·have hun:=(mem_ready.1 hr).1
   have hTj:T j=false:=by
    cases h:T j with
    |false=>rfl
    |true=>exact absurd hj (Vn agN (getD_both hun) m j (hT j h)).2
   have h1:=H.2 j (ready_mono hj TB);obtain⟨agA,oj,hoj,bm⟩:=mem_ready.1 hj;have N3:∀e∈oj.after,Region.binds md e=true→e.on≠i:=fun e he hb heq=>by
    have h3:=bm e he hb;rw[heq,getD_both hun] at h3
    cases h3
   have h2:=wpOp_putIf hoj (BK j oj hoj TB agA N3) (fun cs b=>agd i oi cs b hi) (fun cs b=>agd j oj cs b hoj) hQ hy h1;refine wpOp_mono (fun a' w' h3=> ?_) h2;have hSw:=h3.2.1 hTj;refine⟨fun _=>hSw,ih (aO.setIfInBounds j true) a' w' (agN.set hj) (fun k ok hk AA agw JJ=> ?_) (ready_mono hr (Xm TB)) h3.1 hSw ?_⟩
   ·refine BK k ok hk AA ?_ JJ
    by_cases hjk:j=k
    ·subst hjk;exact agA
    ·rw[getD_set_ne true hjk] at agw;exact agw
   ·rw[Array.setIfInBounds_comm _ _ TB]
    exact h3.2.2
theorem aK (dst:Option Tmp) (hi:ops[i]? =some oi) (hd:oi.dst=dst)
  (hB:(Region.noSelect ops&&Region.free md ops aO i&&(Region.ready md ops aO).contains i&&abk md ops aO)=true)
  (hT:∀j,T j=true→BD md ops ops.size j i=true)
  (hQ:∀c a w,Q (.panic c) (a.put dst v) w→Q (.panic c) a w) (hy:YieldsIf P ops S oi v a) (hS:S w)
  (h:eF P md ops Q S T f (aO.setIfInBounds i true) (a.put dst v) w):eF P md ops Q S T (f+1) aO a w:=by
 subst hd;simp only[XR] at hB;obtain⟨⟨⟨b1,b2⟩,b3⟩,b4⟩:=hB;exact zT hi (Region.noSelect_spec b1) hQ hT f aO a w (acn b4) (Region.free_spec hi b2) (by simpa using b3) hy hS h
def cT (P:Program) (md:Region.Mode) (ops:Array Oper) (Q:Exit→Act→Wo→Prop) (S:Wo→Prop) (T:Nat→Bool) (f:Nat) (aO:Array Bool) (a:Act) (w:Wo) (rs:List Nat):Prop:=
 ∀i∈rs,wpOp P ops Q i (fun a' w' =>(T i=false→S w')∧eF P md ops Q S T f (aO.setIfInBounds i true) a' w') a w
theorem cT.nil:cT P md ops Q S T f aO a w []:=fun _ h=>by cases h
theorem cT.cons (ho:ops[i]? =some o)
  (h:∀K' :Act→Wo→Prop,Shut (∀a w,(T i=false→S w)→eF P md ops Q S T f (aO.setIfInBounds i true) a w→K' a w)→if Region.wanted o (yielded ops a.tmps)=true then Oper.wp P o a w K' Q else K' (a.put o.dst undef) w)
  (hs:cT P md ops Q S T f aO a w rs):cT P md ops Q S T f aO a w (i::rs):=fun j hj=>by
 rcases QA.1 hj with rfl|hj
 ·exact wpOp_step ho (fun K' hK=>h K' (fun a w hS hW=>hK a w ⟨hS,hW⟩))
 ·exact hs j hj
theorem ma (hr:Region.ready md ops aO=rs) (bT:rs≠[])
  (h:cT P md ops Q S T f aO a w rs):eF P md ops Q S T (f+1) aO a w:=⟨fun h0=>absurd (hr▸h0) bT,hr▸h⟩
theorem bD (hr:Region.ready md ops aO=[]) (h:Q .normal a w):∀f,eF P md ops Q S T f aO a w
 |0=>⟨hr,h⟩
 |_+1=>⟨fun _=>h,by rw[hr];simp⟩
theorem gM {w' :Wo} {E:Prop} {K:Act→Wo→Prop} (dst:Option Tmp) (hd:o.dst=dst) (hw:Region.wanted o (yielded ops a.tmps)=true) (h:(execOp a.eval o).run P w= .ok (.value v) w') (hk:K (a.put dst v) w'):
  if Region.wanted o (yielded ops a.tmps)=true then Oper.wp P o a w K Q else E:=by
 subst hd;rw[Xo hw];unfold Oper.wp;rw[h];exact hk
theorem fP {Ts:List Nat} {p:Nat→Bool} (h:Ts.all p=true):∀j,Ts.contains j=true→p j=true:=fun j hj=>XT.1 h j (by simpa using hj)
theorem bL {id:Nat} (T:Nat→Bool) (S:Wo→Prop) (hm:P.follows .mixedOrders=true)
  (h:eF P .any ops Q S T ops.size (Array.replicate ops.size false) a w.drew):(Code.region id ops true).wp P Q a w:=
 wp_region_any hm (vo _ _ _ _ h)
end
end
section
open Go.RowKit
variable {B : Nat}
theorem Sl.bU {w:Wo} {base:Nat} {e:TypeId} {size:Nat} {v:Va} {n:Nat} {xs:List Va} (h:w.ownsRow base e size v n xs):Sl w w.heap.size size v n xs:=by
 obtain⟨hl,⟨rfl,rfl⟩|⟨g,cap,cur,rfl,hb,hh,hn,hm,hs,ht⟩⟩:=h
 ·have:xs=[]:=Zf (by simpa using hl);subst this;exact O0 _ _ _
 ·refine kT hl hn hm ⟨?_,fun j u hu=> ?_⟩
  ·rcases Nat.lt_or_ge g w.heap.size with h1|h1
   ·exact h1
   ·simp[Array.getElem?_eq_none h1] at hh
  ·rw[QR,cell_of_row w g j cur _ _ hh];rw[←ht] at hu;rw[Ze] at hu;split at hu
   ·simpa using hu
   ·cases hu
theorem pc {P:Program} (w:Wo) (base:Nat) (t ty e:TypeId) (z:Va) (size bytes:Nat) (ht:P.underlying t=some (.slice e)) (hi:(P.info? e).map (fun i=>(i.zero,i.size,i.bytes))=some (some z,size,bytes))
  (Tq:z.cells.size=size) (cz:0<size) (v:Va) (n:Nat) (xs:List Va) (bN:w.ownsRow base e size v n xs) (vx:Va) (m:Nat) (news:List Va) (hx:Sl w B size vx m news)
  (h1:∀u∈news,u.oneCell' =true) (TP:n+m≤maxLen) (lF:(n+m)*bytes≤140737488355328) (ey:base≤w.heap.size):
  ∃v' w',(Builtin.append_ #[t,t] ty #[v,vx]).run P w= .ok v' w'∧w'.ownsRow base e size v' (n+m) (xs++news)∧w.grownBy w' v.ownBlock:=by
 cases hq:P.info? e with
 |none=>simp[hq] at hi
 |some i=>
  simp[hq] at hi;obtain⟨hz,BF,hby⟩:=hi;obtain⟨hl,A,c,rfl,hc,hm,N4,hr⟩:=hx
  cases A with
  |none=>
   have xB:m=0:=by
    rcases XG m with h|h
    ·exact h
    ·obtain⟨b,o,h,_⟩:=hr h
     cases h
   have pV:=N4 rfl;subst xB;subst pV;have uL:=Zf (by simpa using hl);subst uL;have:=run_append_owned_none (P:=P) (w:=w) base t ty e i size ht hq v n xs bN;exact⟨v,w,this,by simpa using bN,⟨rfl,rfl,rfl,Qg _,fun _ _ _=>rfl⟩⟩
  |some ad=>
   obtain⟨v',w',h2,h3,h4,_⟩:=run_append_own (P:=P) w base t ty e i z size bytes ht hq hz BF hby Tq cz v n xs bN ad m c news hl (fun j u hu=>by
    have xB:0<m:=by
     rcases XG m with h|h
     ·subst h
      have uL:=Zf (by simpa using hl);subst uL;simp at hu
     ·exact h
    obtain⟨b,o,h,dL⟩:=hr xB
    cases h
    rw[dP];exact dL.2 j u hu) h1 TP lF ey
   exact⟨v',w',h2,h3,h4⟩
section
variable {P : Program} {ops : Array Oper} {w : Wo} {Q : Exit → Act → Wo → Prop} {a : Act} {rest : List Oper} {dst : Option Tmp} {os ox : Operand} {ty : TypeId} {pos : String} {after : Array Edge}
theorem wl_append (base:Nat) (t e:TypeId) (z:Va) (size bytes:Nat) (ht:P.underlying t=some (.slice e)) (hi:(P.info? e).map (fun i=>(i.zero,i.size,i.bytes))=some (some z,size,bytes))
  (Tq:z.cells.size=size) (cz:0<size) (v:Va) (n:Nat) (xs:List Va) (bN:w.ownsRow base e size v n xs) (vx:Va) (m:Nat) (news:List Va) (hx:Sl w B size vx m news)
  (h1:∀u∈news,u.oneCell' =true) (TP:n+m≤maxLen) (lF:(n+m)*bytes≤140737488355328) (ey:base≤w.heap.size) (hs:a.eval os=v) (AM:a.eval ox=vx)
  (hK:∀v' w',w'.ownsRow base e size v' (n+m) (xs++news)→w.grownBy w' v.ownBlock→wpList P ops Q rest (a.put dst v') w'):
  wpList P ops Q (⟨dst,.call {callee:= .builtin .append,args:= #[os,ox],argTypes:= #[t,t]},ty,pos,after,none⟩::rest) a w:=by
 refine wpList_plain rfl fun K hKK=> ?_
 obtain⟨v',w',hr,h2,h3⟩:=pc (P:=P) w base t ty e z size bytes ht hi Tq cz v n xs bN vx m news hx h1 TP lF ey;unfold Oper.wp execOp;simp only[resolve,invoke,builtin,Sem.run_bind,Sem.run_pure,XH,List.map_toArray,Zs,List.map_nil,hs,AM,hr];exact hKK _ _ (hK v' w' h2 h3)
theorem nX {E:Prop} {K:Act→Wo→Prop} (base:Nat) (t e:TypeId) (z:Va) (size bytes:Nat) (ht:P.underlying t=some (.slice e)) (hi:(P.info? e).map (fun i=>(i.zero,i.size,i.bytes))=some (some z,size,bytes))
  (Tq:z.cells.size=size) (cz:0<size) (v:Va) (n:Nat) (xs:List Va) (bN:w.ownsRow base e size v n xs) (vx:Va) (m:Nat) (news:List Va) (hx:Sl w B size vx m news)
  (h1:∀u∈news,u.oneCell' =true) (TP:n+m≤maxLen) (lF:(n+m)*bytes≤140737488355328) (ey:base≤w.heap.size) (hs:a.eval os=v) (AM:a.eval ox=vx)
  (hK:∀v' w',w'.ownsRow base e size v' (n+m) (xs++news)→w.grownBy w' v.ownBlock→K (a.put dst v') w'):
  if Region.wanted ⟨dst,.call {callee:= .builtin .append,args:= #[os,ox],argTypes:= #[t,t]},ty,pos,after,none⟩ (yielded ops a.tmps)=true then
   Oper.wp P ⟨dst,.call {callee:= .builtin .append,args:= #[os,ox],argTypes:= #[t,t]},ty,pos,after,none⟩ a w K Q else E:=by
 simp only[Region.wanted,if_true];obtain⟨v',w',hr,h2,h3⟩:=pc (P:=P) w base t ty e z size bytes ht hi Tq cz v n xs bN vx m news hx h1 TP lF ey;unfold Oper.wp execOp;simp only[resolve,invoke,builtin,Sem.run_bind,Sem.run_pure,XH,List.map_toArray,Zs,List.map_nil,hs,AM,hr];exact hK v' w' h2 h3
end
end
section
open Go.RowKit
variable {w w' : Wo} {g : Nat} {bs : List Int}
def dn (w:Wo) (g:Nat) (bs:List Int):Prop:=
 ∃cs:Array Va,w.heap[g]? =some (.cells cs 5 (0,0))∧bs.length≤cs.size∧∀(i:Nat) (u:Va),(bs.map (Value.int .u8))[i]? =some u→cs[i]? =some u
theorem dn.lt (h:dn w g bs):g<w.heap.size:=by
 obtain⟨cs,h,_⟩:=h;exact(Qy.1 h).1
theorem dn.aQ (h:dn w g bs) (hb:w'.heap[g]? =w.heap[g]?):dn w' g bs:=by
 obtain⟨cs,h0,h1⟩:=h;exact⟨cs,by rw[hb,h0],h1⟩
theorem dn.on (h:dn w g bs) (hb:Below w.heap.size w w'):dn w' g bs:=h.aQ (hb.block g h.lt)
theorem dn.cell (h:dn w g bs) {i:Nat} (hi:i<bs.length):w.cell? ⟨g,i,none⟩=some (.int .u8 bs[i])∧w.frozen? ⟨g,i,none⟩=false:=by
 obtain⟨cs,h0,h1,h2⟩:=h;refine⟨?_,by simp[World.frozen?,h0]⟩;rw[cell_of_row w g i _ _ _ h0];exact h2 i _ (by simp[hi])
theorem dn.set (h:dn w g bs) (i:Nat) (x:Int):dn (w.setCell ⟨g,i,none⟩ (.int .u8 x)) g (bs.set i x):=by
 obtain⟨cs,h0,h1,h2⟩:=h;have aJ:=(Qy.1 h0).1;have h' :w.heap[g]= .cells cs 5 (0,0):=by simpa[Xu aJ] using h0
 refine⟨cs.setIfInBounds i (.int .u8 x),?_,by simpa using h1,fun j u hu=> ?_⟩
 ·show(w.heap.modify g _)[g]? =_;rw[Xu (by simpa using aJ),Array.getElem_modify_self,h'];rfl
 ·rw[Array.getElem?_setIfInBounds];rw[List.map_set,List.getElem?_set] at hu;by_cases e:i=j
  ·subst e;rw[Xo rfl] at hu⊢;split at hu
   ·rename_i hl
    rw[Xo (by simp at hl;omega)];exact hu
   ·cases hu
  ·rw[Xd e] at hu⊢;exact h2 j u hu
end
section
open Go.RowKit
variable {base : Nat} {xs : List Int}
def kR (w:Wo) (base:Nat) (v:Va) (xs:List Int):Prop:=w.ownsRow base 5 1 v xs.length (xs.map (.int .u8))
theorem kR.bu {w:Wo} {v:Va} (h:kR w base v xs):∃A n c,v= .slice A n c:=by
 rcases h.2 with⟨rfl,_⟩|⟨g,cap,cur,rfl,_⟩<;>exact⟨_,_,_,rfl⟩
theorem kR.len {w:Wo} {n c:Nat} {A:Option Addr} (h:kR w base (.slice A n c) xs):n=xs.length:=by
 rcases h.2 with⟨e,h0⟩|⟨g,cap,cur,e,_⟩
 ·cases e;exact h0.symm
 ·cases e;rfl
theorem rD:(prog.info? 5).map (fun i=>(i.zero,i.size,i.bytes))=some (some (.int .u8 0),1,1):=by kernel_rfl
section
variable {ops : Array Oper} {w : Wo} {Q : Exit → Act → Wo → Prop} {a : Act} {dst : Option Tmp} {os ox : Operand} {ty : TypeId} {pos : String} {after : Array Edge}
end
theorem aF (w:Wo) (o:Obj):Below w.heap.size w (w.alloc o):=(Xj _ _).alloc (Qg _) o
end
section
open Go.RowKit
variable {p : Addr} {b n o sz : Nat} {v : Va} {xs : List Va}
structure aG (S:Nat→Prop) (w w' :Wo):Prop where
 os:w'.os=w.os
 tape:w'.tape=w.tape
 output:w'.output=w.output
 size:w.heap.size≤w'.heap.size
 block:∀k,k<w.heap.size→¬S k→w'.heap[k]? =w.heap[k]?
section
variable {S T U : Nat → Prop} {w w' DW : Wo} {B : Nat}
theorem aG.refl (S:Nat→Prop) (w:Wo):aG S w w:=⟨rfl,rfl,rfl,Qg _,fun _ _ _=>rfl⟩
theorem aG.iR (h:aG S w w') (k:aG T w' DW) (hS:∀x,x<w.heap.size→S x→U x) (hT:∀x,x<w.heap.size→T x→U x):aG U w DW :=
 ⟨k.os.trans h.os,k.tape.trans h.tape,k.output.trans h.output,Qh h.size k.size,fun x hx hn=>(k.block x (Qn hx h.size) (fun e=>hn (hT x hx e))).trans (h.block x hx (fun e=>hn (hS x hx e)))⟩
theorem aG.trans (h:aG S w w') (k:aG S w' DW):aG S w DW :=h.iR k (fun _ _ h=>h) (fun _ _ h=>h)
theorem aG.mono (h:aG S w w') (hS:∀x,x<w.heap.size→S x→T x):aG T w w' :=⟨h.os,h.tape,h.output,h.size,fun x hx hn=>h.block x hx (fun e=>hn (hS x hx e))⟩
theorem aG.Rn (h:Below B w w') (hS:∀x,x<w.heap.size→B≤x→S x):aG S w w' :=⟨h.os,h.tape,h.output,h.size,fun x hx hn=>h.block x (Nat.lt_of_not_le fun e=>hn (hS x hx e))⟩
theorem aG.aZ (h:Below w.heap.size w w'):aG S w w' :=aG.Rn h fun _ hx e=>absurd hx (XV.2 e)
theorem aG.below (h:aG S w w') (hB:B≤w.heap.size) (hS:∀x,x<B→¬S x):Below B w w' :=⟨h.os,h.tape,h.output,h.size,fun x hx=>h.block x (Qn hx hB) (hS x hx)⟩
theorem aG.dH {row:Option Nat} (h:w.grownBy w' row) (hS:∀x,x<w.heap.size→row=some x→S x):aG S w w' :=⟨h.os,h.tape,h.output,h.size,fun x hx hn=>h.block x hx (fun e=>hn (hS x hx e.symm))⟩
theorem aG.setCell (h:aG S w w') (hp:p.block<w.heap.size→S p.block) (u:Va):aG S w (w'.setCell p u):=
 ⟨h.os,h.tape,h.output,Qh h.size (Xg (by simp)),fun x hx hn=>by
  rw[Xl _ _ _ _ (by rintro rfl;exact hn (hp hx))]
  exact h.block x hx hn⟩
theorem aG.drew (h:aG S w w'):aG S w w'.drew:=⟨h.os,h.tape,h.output,h.size,h.block⟩
theorem aG.cell (h:aG S w w') (hp:p.block<w.heap.size) (hS:¬S p.block):w'.cell? p=w.cell? p:=World.cell?_of_block (h.block _ hp hS)
def Ap (S:Nat→Prop) (v:Va):Prop:=∀b o n c,0<n→v= .slice (some ⟨b,o,none⟩) n c→¬S b
theorem Py (S:Nat→Prop):Ap S (.slice none 0 0):=fun b o n c _ h=>by cases h
theorem jD {c:Nat} (h:¬S b):Ap S (.slice (some ⟨b,o,none⟩) n c):=fun b' o' n' c' _ e=>by cases e;exact h
theorem Ap.mono (h:Ap S v) (hS:∀x,T x→S x):Ap T v:=fun b o n c hn e hT=>h b o n c hn e (hS b hT)
theorem Row.aL (h:Row w B b o xs) (hc:aG S w w') (hB:B≤w.heap.size) (hS:¬S b):Row w' B b o xs:=
 ⟨h.1,fun j u hu=>(hc.cell (Qn h.1 hB) hS).trans (h.2 j u hu)⟩
theorem Sl.aL (h:Sl w B sz v n xs) (hc:aG S w w') (hB:B≤w.heap.size) (ha:Ap S v):Sl w' B sz v n xs:=by
 obtain⟨hl,A,c,hv,AB,hm,hz,hr⟩:=h;refine⟨hl,A,c,hv,AB,hm,hz,fun hn=> ?_⟩;obtain⟨b,o,hA,hr⟩:=hr hn;exact⟨b,o,hA,hr.aL hc hB (ha b o n c hn (by rw[hv,hA]))⟩
theorem Sl.ap (h:Sl w B sz v n xs) (hS:∀x,x<B→¬S x):Ap S v:=fun b o n' c' hn e=>by
 obtain⟨A,c,hv,-,-⟩:=h.form;rw[hv] at e
 cases e
 obtain⟨b',o',c'',mQ,-,-,hr⟩:=h.row hn;rw[hv] at mQ
 cases mQ
 exact hS _ hr.1
theorem Sl.apart (h:Sl w B sz v n xs) (ha:Ap S v) (hS:∀x,T x→S x∨B≤x):Ap T v:=fun b o n' c' hn e hT=>by
 have h1:=ha b o n' c' hn e;obtain⟨A,c,hv,-,-⟩:=h.form;rw[hv] at e
 cases e
 obtain⟨b',o',c'',mQ,-,-,hr⟩:=h.row hn;rw[hv] at mQ
 cases mQ
 rcases hS _ hT with hs|hs
 ·exact h1 hs
 ·exact absurd hr.1 (XV.2 hs)
end
end
def mH:Nat→Int→List Int
 |0,_=>[]
 |s+1,n=>(n/256^s%256)::mH s n
def j4 (bs:List Int):Int:=bs.foldl (fun n x=>n*256+x) 0
theorem de (s:Nat) (n:Int):(mH s n).length=s:=by
 induction s with
 |zero=>rfl
 |succ s ih=>simp[mH,ih]
theorem eW (s:Nat) (n:Int):∀x∈mH s n,aI x:=by
 induction s with
 |zero=>intro x hx;cases hx
 |succ s ih=>
  intro x hx;rcases QA.1 hx with rfl|h
  ·exact⟨Int.emod_nonneg _ (by decide),Int.emod_lt_of_pos _ (by decide)⟩
  ·exact ih x h
theorem VP (s:Nat) (n:Int) (i:Nat) (h:i<s):(mH s n)[i]? =some (n/256^(s - 1 - i)%256):=by
 induction s generalizing i with
 |zero=>omega
 |succ s ih=>
  cases i with
  |zero=>simp[mH]
  |succ i=>
   rw[mH,List.getElem?_cons_succ,ih i (by omega)];rw[show s - 1 - i=s+1 - 1 - (i+1) by omega]
theorem Ge (bs:List Int) (a:Int):bs.foldl (fun n x=>n*256+x) a=a*256^bs.length+j4 bs:=by
 induction bs generalizing a with
 |nil=>simp[j4]
 |cons x r ih=>
  rw[List.foldl_cons,ih,show j4 (x::r)=List.foldl (fun n x=>n*256+x) (0*256+x) r from rfl,ih (0*256+x),QF,Int.pow_succ];simp only[Int.zero_mul,Int.zero_add,Int.add_mul];ac_rfl
theorem Lj (x:Int) (r:List Int):j4 (x::r)=x*256^r.length+j4 r:=by
 show List.foldl _ _ _=_;rw[List.foldl_cons,Ge];simp
theorem lR (bs:List Int) (h:∀x∈bs,aI x):0≤j4 bs∧j4 bs<256^bs.length:=by
 induction bs with
 |nil=>simp[j4]
 |cons x r ih=>
  obtain⟨h0,h1⟩:=ih fun y hy=>h y (Qs _ hy)
  obtain⟨x0,x1⟩:=h x (Qm ..);rw[Lj,QF,Int.pow_succ];have hp:(0:Int)<256^r.length:=Int.pow_pos (by decide);have e1:0≤x*256^r.length:=Int.mul_nonneg x0 (Int.le_of_lt hp);have e2:x*256^r.length≤255*256^r.length:=Int.mul_le_mul_of_nonneg_right (by omega) (Int.le_of_lt hp);constructor
  ·omega
  ·rw[Int.mul_comm _ 256];omega
def lB (bs:List Int) (at_ s:Nat) (n:Int):List Int:=bs.take at_++mH s n++bs.drop (at_+s)
theorem u7 {bs:List Int} {at_ s:Nat} {n:Int} (h:at_+s≤bs.length):(lB bs at_ s n).length=bs.length:=by
 simp[lB,de];omega
def cK (bs:List Int) (at_ s:Nat):Int:=j4 ((bs.drop at_).take s)
def j3 (bs:List Int):Int:=bs.foldl (fun s x=>(31*s+x+7)%4294967291) 1
theorem lN (bs:List Int):0≤j3 bs∧j3 bs<4294967291:=by
 have key:∀(bs:List Int) (a:Int),0≤a∧a<4294967291→0≤bs.foldl (fun s x=>(31*s+x+7)%4294967291) a∧bs.foldl (fun s x=>(31*s+x+7)%4294967291) a<4294967291:=by
  intro bs;induction bs with
  |nil=>exact fun a h=>h
  |cons x r ih=>exact fun a _=>ih _ ⟨Int.emod_nonneg _ (by decide),Int.emod_lt_of_pos _ (by decide)⟩
 exact key bs 1 (by decide)
def nf (k:Int) (body:List Int):List Int:=k::(body++List.replicate (123 - body.length) 0)
theorem rJ (k:Int) (body:List Int) (h:body.length≤123):(nf k body).length=124:=by simp[nf];omega
def oX (k:Int) (body:List Int):List Int:=nf k body++mH 4 (j3 (nf k body))
theorem oq (k:Int) (body:List Int) (h:body.length≤123):(oX k body).length=128:=by simp[oX,rJ k body h,de]
def dy (p:List Int):Option (Int×List Int):=if p.length=128∧j4 (p.drop 124)=j3 (p.take 124) then some (p.headD 0,(p.take 124).drop 1) else none
def qy (l:List Int):List Int:=(l.length:Int)::l.flatMap (mH 2)
def encI (k:Int) (l:List Int):List Int:=oX k (qy l)
theorem yR (l:List Int):(qy l).length=1+2*l.length:=by
 unfold qy;rw[QF,List.length_flatMap];have:(l.map fun a=>(mH 2 a).length)=l.map fun _=>2:=Zj fun x _=>de 2 x
 rw[this];simp[List.map_const'];omega
def mq (body:List Int):List Int:=(List.range 61).map fun i=>cK body (1+2*i) 2
def pB (k:Int) (p:List Int):Option (List Int):=
 match dy p with
 |none=>none
 |some (k',body)=>if k' =k∧(k=4∨k=5)∧body.headD 0≤61∧((mq body).drop (body.headD 0).toNat).all (·==0)=true then some ((mq body).take (body.headD 0).toNat) else none
def aR (n:Int):Int:=if n<1 then 0 else(n - 1)/61+1
structure aD where
 print:Int
 block:Int
deriving DecidableEq
structure ay where
 depth:Int
 next:Int
 es:List aD
deriving DecidableEq
def mK (a b:Int):Int:=if a<b then -1 else if b<a then 1 else 0
def fO (a b:aD):Int:=if mK a.print b.print≠0 then mK a.print b.print else mK a.block b.block
def dV:List aD→Bool
 |[]=>true
 |[_]=>true
 |a::b::r=>decide (fO a b<0)&&dV (b::r)
def kC (l:List aD) (d:Int):Bool:=
 match l with
 |[]=>true
 |a::r=>d==0||(a.print.toNat ^^^ ((a::r).getLastD a).print.toNat)/2^(64 - d).toNat==0
def bC (s:ay):Bool:=
 decide (s.depth≤64)&&decide (s.next<4096)&&decide (s.es.length≤9)&&s.es.all (fun e=>decide (e.block≠0)&&decide (e.block<4096))&&dV s.es&&kC s.es s.depth
def rq (e:aD):List Int:=mH 8 e.print++mH 4 e.block
def mw (s:ay):List Int:=[s.depth,(s.es.length:Int)]++mH 4 s.next++s.es.flatMap rq
def encS (s:ay):List Int:=oX 3 (mw s)
def xI (body:List Int) (i:Nat):aD:=⟨cK body (6+12*i) 8,cK body (6+12*i+8) 4⟩
def mJ (p:List Int):Option ay:=
 match dy p with
 |none=>none
 |some (k,body)=>
  if k=3∧body.getD 1 0≤9 then
   let many:=(body.getD 1 0).toNat
   let s:ay:=⟨body.getD 0 0,cK body 2 4,(List.range many).map (xI body)⟩
   if bC s=true∧(body.drop (6+12*many)).all (·==0)=true then some s else none
  else none
structure aN where
 gen:Int
 blocks:Int
 roots:List Int
 marks:List Int
deriving DecidableEq
def nm (s:aN):Bool:=decide (0<s.gen)&&decide (16≤s.blocks)&&decide (s.blocks≤4096)&&s.roots.all fun r=>decide (r<s.blocks)
def qx (s:aN):List Int:=mH 8 s.gen++mH 4 s.blocks++s.roots.flatMap (mH 4)++s.marks.flatMap (mH 8)++List.replicate 7 0++mH 8 s.gen
def J7 (s:aN):List Int:=oX 6 (qx s)
def gI (body:List Int):aN:=⟨cK body 0 8,cK body 8 4,(List.range 8).map fun i=>cK body (12+4*i) 4,(List.range 8).map fun i=>cK body (44+8*i) 8⟩
def kA (p:List Int):Option aN:=
 match dy p with
 |none=>none
 |some (k,body)=>
  if k=6∧((body.drop 108).take 7).all (·≤0)=true∧cK body 115 8=cK body 0 8∧nm (gI body)=true then some (gI body) else none
def nh (slot:Nat) (p:List Int) (gC:aN):aN:=
 match kA p with
 |none=>gC
 |some s=>if s.gen%2=slot∧gC.gen<s.gen then s else gC
def qu (p0 p1:List Int):Option aN:=
 let b:=nh 1 p1 (nh 0 p0 ⟨0,0,List.replicate 8 0,List.replicate 8 0⟩)
 if b.gen=0 then none else some b
section
open Go.RowKit
variable {S : Nat → Prop} {c n o : Nat}
def aq (w:Wo) (g:Nat) (e:TypeId) (cs:List Va):Prop:=w.heap[g]? =some (.cells cs.toArray e (0,0))
section
variable {w w' : Wo} {g : Nat} {e : TypeId} {cs : List Va}
theorem aq.lt (h:aq w g e cs):g<w.heap.size:=(Qy.1 h).1
theorem aq.aQ (h:aq w g e cs) (hb:w'.heap[g]? =w.heap[g]?):aq w' g e cs:=hb.trans h
theorem aq.on (h:aq w g e cs) (hb:Below w.heap.size w w'):aq w' g e cs:=h.aQ (hb.block g h.lt)
theorem aq.aL (h:aq w g e cs) (hc:aG S w w') (hS:¬S g):aq w' g e cs:=h.aQ (hc.block g h.lt hS)
theorem aq.grown {row:Option Nat} (h:aq w g e cs) (hg:w.grownBy w' row) (bT:some g≠row):aq w' g e cs:=h.aQ (hg.block g h.lt bT)
theorem aq.cell (h:aq w g e cs) {j:Nat} {u:Va} (hj:cs[j]? =some u):w.cell? ⟨g,j,none⟩=some u:=by
 rw[cell_of_row w g j _ _ _ h];simpa using hj
theorem aq.free (h:aq w g e cs) (j:Nat):w.frozen? ⟨g,j,none⟩=false:=by
 have h0:w.heap[g]? =some (.cells cs.toArray e (0,0)):=h;simp[World.frozen?,h0]
theorem aq.set (h:aq w g e cs) (j:Nat) (u:Va):aq (w.setCell ⟨g,j,none⟩ u) g e (cs.set j u):=by
 have h0:w.heap[g]? =some (.cells cs.toArray e (0,0)):=h;have aJ:=h.lt;have h' :w.heap[g]= .cells cs.toArray e (0,0):=by simpa[Xu aJ] using h0
 show(w.heap.modify g _)[g]? =_;rw[Xu (by simpa using aJ),Array.getElem_modify_self,h'];simp
theorem aq.az (h:aq w g e cs) {p:Addr} (hp:g≠p.block) (u:Va):aq (w.setCell p u) g e cs:=h.aQ (Xl _ _ _ _ hp)
theorem aq.alloc (h:aq w g e cs) (o:Obj):aq (w.alloc o) g e cs:=h.aQ (Below.heap_alloc _ _ _ h.lt)
theorem ar (w:Wo) (cs:List Va) (e:TypeId):aq (w.alloc (.cells cs.toArray e)) w.heap.size e cs:=heap_alloc_new _ _
theorem aq.row (h:aq w g e cs) (o n:Nat):Row w w.heap.size g o ((cs.drop o).take n):=
 ⟨h.lt,fun j u hu=>h.cell (by
  rw[Ze] at hu;split at hu
  ·rwa[Zb] at hu
  ·cases hu)⟩
theorem aq.sl (h:aq w g e cs) {sz:Nat} (ho:o+n*sz≤cs.length) (hc:n≤c) (hm:c≤maxLen):Sl w w.heap.size sz (.slice (some ⟨g,o,none⟩) n c) n ((cs.drop o).take (n*sz)):=
 kT (by simp;omega) hc hm (h.row o _)
end
theorem aq.JZ {w:Wo} {g:Nat} {bs:List Int} (h:aq w g 5 (bs.map (.int .u8))):dn w g bs:=⟨_,h,by simp,fun i u hu=>by simpa using hu⟩
theorem dn.bs {w:Wo} {g:Nat} {bs:List Int} (h:dn w g bs) (ho:o+n≤bs.length) (hc:n≤c) (hm:c≤maxLen) (hb:∀x∈bs,aI x):Bs w w.heap.size (.slice (some ⟨g,o,none⟩) n c) ((bs.drop o).take n):=by
 obtain⟨cs,h0,h1,h2⟩:=h;have hl:((bs.drop o).take n).length=n:=by simp;omega
 refine⟨?_,fun x hx=>hb x (Q6 (Za hx))⟩;rw[hl];refine kT (by simp;omega) hc hm ⟨(Qy.1 h0).1,fun j u hu=> ?_⟩;rw[cell_of_row w g _ _ _ _ h0];refine h2 _ u ?_;rw[Qt,Ze] at hu;split at hu
 ·rw[Qt];rwa[Zb] at hu
 ·cases hu
theorem dn.aL {w w' :Wo} {g:Nat} {bs:List Int} (h:dn w g bs) (hc:aG S w w') (hS:¬S g):dn w' g bs:=h.aQ (hc.block g h.lt hS)
theorem ahJ (u:Va) (h:u.cells= #[u]) (n:Nat):madeCells u.cells (n*1)=(List.replicate n u).toArray:=by
 apply Array.ext';apply List.ext_getElem
 ·simp[madeCells]
 ·intro i h1 h2;simp[madeCells,h,Nat.mod_one]
theorem eV {P:Program} {t e:TypeId} {z:Va} {bytes:Nat} (ht:P.underlying t=some (.slice e)) (hi:(P.info? e).map (fun i=>(i.zero,i.size,i.bytes))=some (some z,1,bytes)) (hz:z.cells= #[z]) (hb:bytes≤8)
  (n:Nat) (hn:n≤100000) (w:Wo):(Instr.makeSlice t (.int .i64 n) (.int .i64 n)).run P w= .ok (.slice (some ⟨w.heap.size,0,none⟩) n n) (w.alloc (.cells (List.replicate n z).toArray e)):=by
 obtain⟨i0,hi,oI,mM,xw⟩:=info_parts hi;have h:=run_makeSlice (P:=P) w t e i0 z ht hi oI .i64 .i64 n n (by omega) (Int.le_refl _) (by rw[mM,Xt];omega) (by rw[xw];have:(bytes:Int)*n≤8*100000:=Int.mul_le_mul (by omega) (by omega) (by omega) (by omega);omega) (by omega);rw[mM,Xt,ahJ z hz] at h;exact h
theorem eC (k:IntKind) (x:Int):(Value.int k x).cells= #[.int k x]:=rfl
theorem Ia (x:Bool):(Value.bool x).cells= #[.bool x]:=rfl
def aB (w:Wo) (base:Nat) (e:TypeId) (k:IntKind) (v:Va) (xs:List Int):Prop:=w.ownsRow base e 1 v xs.length (xs.map (.int k))
section
variable {w w' : Wo} {base : Nat} {e : TypeId} {k : IntKind} {v : Va} {xs : List Int}
theorem aB.on (h:aB w base e k v xs) (hb:Below w.heap.size w w'):aB w' base e k v xs:=aS h hb
theorem cQ (w:Wo) (base:Nat) (e:TypeId) (k:IntKind):aB w base e k (.slice none 0 0) []:=World.ownsRow_nil _ _ _ _
theorem aB.kept {row:Option Nat} (h:aB w base e k v xs) (hg:w.grownBy w' row) (bT:v.ownBlock=none∨v.ownBlock≠row):aB w' base e k v xs:=World.ownsRow.kept h hg bT
theorem aB.bu (h:aB w base e k v xs):∃A n c,v= .slice A n c:=by
 rcases h.2 with⟨rfl,_⟩|⟨g,cap,cur,rfl,_⟩<;>exact⟨_,_,_,rfl⟩
theorem aB.sl (h:aB w base e k v xs):Sl w w.heap.size 1 v xs.length (xs.map (.int k)):=Sl.bU h
theorem dW (k:IntKind) (xs:List Int):∀u∈xs.map (Value.int k),u.oneCell' =true:=by
 intro u hu;obtain⟨x,_,rfl⟩:=QU.1 hu;rfl
end
def Ns (w:Wo) (B:Nat) (k:IntKind) (v:Va) (xs:List Int):Prop:=Sl w B 1 v xs.length (xs.map (.int k))
section
variable {w w' : Wo} {B : Nat} {k : IntKind} {v : Va} {xs : List Int}
theorem Ns.below (h:Ns w B k v xs) (hb:Below B w w'):Ns w' B k v xs:=Sl.below h hb
theorem Ns.more {B' :Nat} (h:Ns w B k v xs) (hB:B≤B'):Ns w B' k v xs:=Sl.more h hB
theorem Ns.form (h:Ns w B k v xs):∃A c,v= .slice A xs.length c∧xs.length≤c∧c≤maxLen:=Sl.form h
theorem Ns.cells (h:Ns w B k v xs) (h0:0<xs.length):∃b o c,v= .slice (some ⟨b,o,none⟩) xs.length c∧xs.length≤c∧c≤maxLen∧b<B∧∀j,j<xs.length→w.cell? ⟨b,o+j,none⟩=some (.int k (xs.getD j 0)):=by
 obtain⟨b,o,c,hv,hc,hm,hr⟩:=Sl.row h h0;refine⟨b,o,c,hv,hc,hm,hr.1,fun j hj=>hr.2 j _ ?_⟩;rw[Qt,Qf hj,Qe,Qf hj];rfl
end
theorem Bs.ns {w:Wo} {B:Nat} {v:Va} {bs:List Int} (h:Bs w B v bs):Ns w B .u8 v bs:=h.1
theorem dx (w:Wo) (o o2:Obj):((w.alloc o).alloc o2).heap[w.heap.size]? =some o:=by
 rw[Below.heap_alloc _ _ _ (by simp)];exact heap_alloc_new w o
theorem cL (w:Wo) (o o2:Obj):((w.alloc o).alloc o2).heap[w.heap.size+1]? =some o2:=by
 have:=heap_alloc_new (w.alloc o) o2;rwa[World.size_alloc] at this
end
section
variable {o : Oper} {a : Act} {w : Wo} {f k1 k2 k3 k4 k5 : Nat} {aO : Array Bool}
section
variable {P : Program} {ops : Array Oper} {Q : Exit → Act → Wo → Prop} {md : Region.Mode} {S : Wo → Prop} {T : Nat → Bool}
theorem bJ {i:Nat} {K:Act→Wo→Prop} (ho:ops[i]? =some o) (h:∀K' :Act→Wo→Prop,Shut (∀a w,K a w→K' a w)→if Region.wanted o (yielded ops a.tmps)=true then Oper.wp P o a w K' Q else K' (a.put o.dst undef) w):wpOp P ops Q i K a w:=wpOp_step ho h
theorem tK (i:Nat) (d:Tmp) (v:Va) {oi:Oper} {Ts:List Nat} (hi:ops[i]? =some oi) (hd:oi.dst=some d) (hw:Region.wanted oi (yielded ops a.tmps)=true)
  (hB:((Region.noSelect ops&&Region.free md ops aO i&&(Region.ready md ops aO).contains i&&abk md ops aO)&&Ts.all fun j=>BD md ops ops.size j i)=true)
  (hQ:∀c a w,Q (.panic c) (a.put (some d) v) w→Q (.panic c) a w) (hy:∀W,S W→(execOp a.eval oi).run P W= .ok (.value v) W) (hS:S w)
  (h:eF P md ops Q S (fun j=>Ts.contains j) f (aO.setIfInBounds i true) (a.put (some d) v) w):eF P md ops Q S (fun j=>Ts.contains j) (f+1) aO a w:=
 aK (some d) hi hd (Bool.and_eq_true_iff.1 hB).1 (fP (Bool.and_eq_true_iff.1 hB).2) hQ (Or.inl ⟨hw,hy⟩) hS h
theorem ju (i:Nat) (ho:ops[i]? =some o) (hr:Region.ready md ops aO=[i])
  (h:∀K' :Act→Wo→Prop,Shut (∀a w,(T i=false→S w)→eF P md ops Q S T f (aO.setIfInBounds i true) a w→K' a w)→if Region.wanted o (yielded ops a.tmps)=true then Oper.wp P o a w K' Q else K' (a.put o.dst undef) w):eF P md ops Q S T (f+1) aO a w:=
 ma hr (by simp) (cT.cons ho h cT.nil)
theorem dG {k:Nat} (h:k<a.tmps.size):a.put (some k) (a.tmps.getD k undef)=a:=by
 obtain⟨t,d⟩:=a;show(⟨t.setIfInBounds k (t.getD k undef),d⟩:Act)=⟨t,d⟩;congr 1
 refine Array.ext_getElem? fun i=> ?_
 rw[Array.getElem?_setIfInBounds];split
 ·rename_i e
  subst e;have h:k<t.size:=h;rw[Xu h];rfl
 ·rfl
theorem Ux (h:[k1,k2].all (fun k=>decide (k<a.tmps.size))=true):a=(a.put (some k1) (a.tmps.getD k1 undef)).put (some k2) (a.tmps.getD k2 undef):=by
 simp only[List.all_cons,List.all_nil,Bool.and_true,XR,decide_eq_true_eq] at h;rw[dG h.1,dG h.2]
theorem amO (h:[k1,k2,k3,k4,k5].all (fun k=>decide (k<a.tmps.size))=true):a=((((a.put (some k1) (a.tmps.getD k1 undef)).put (some k2) (a.tmps.getD k2 undef)).put (some k3) (a.tmps.getD k3 undef)).put (some k4) (a.tmps.getD k4 undef)).put (some k5) (a.tmps.getD k5 undef):=by
 simp only[List.all_cons,List.all_nil,Bool.and_true,XR,decide_eq_true_eq] at h;rw[dG h.1,dG h.2.1,dG h.2.2.1,dG h.2.2.2.1,dG h.2.2.2.2]
theorem avG {k6 k7:Nat} (h:[k1,k2,k3,k4,k5,k6,k7].all (fun k=>decide (k<a.tmps.size))=true):a=((((((a.put (some k1) (a.tmps.getD k1 undef)).put (some k2) (a.tmps.getD k2 undef)).put (some k3) (a.tmps.getD k3 undef)).put (some k4) (a.tmps.getD k4 undef)).put (some k5) (a.tmps.getD k5 undef)).put (some k6) (a.tmps.getD k6 undef)).put (some k7) (a.tmps.getD k7 undef):=by
 simp only[List.all_cons,List.all_nil,Bool.and_true,XR,decide_eq_true_eq] at h;rw[dG h.1,dG h.2.1,dG h.2.2.1,dG h.2.2.2.1,dG h.2.2.2.2.1,dG h.2.2.2.2.2.1,dG h.2.2.2.2.2.2]
def Er (L:Array Bool) (xs ys:List Nat) (i j:Nat):Array Bool:=(xs.take i++ys.take j).foldl (fun l k=>l.setIfInBounds k true) L
def anz (md:Region.Mode) (ops:Array Oper) (L:Array Bool) (xs ys:List Nat):Bool:=
 (List.range (xs.length+1)).all fun i=>(List.range (ys.length+1)).all fun j=>(i==xs.length&&j==ys.length)||
  (!(Region.ready md ops (Er L xs ys i j)).isEmpty&&(Region.ready md ops (Er L xs ys i j)).all fun k=>
   (decide (i<xs.length)&&xs[i]? ==some k&&(Er L xs ys i j).setIfInBounds k true==Er L xs ys (i+1) j)||(decide (j<ys.length)&&ys[j]? ==some k&&(Er L xs ys i j).setIfInBounds k true==Er L xs ys i (j+1)))
def Br (F:Nat→Nat→Prop):Nat→List Nat→Prop
 |_,[]=>True
 |i,k::r=>F i k∧Br F (i+1) r
theorem Br.get {F:Nat→Nat→Prop}:∀{l:List Nat} {i j k:Nat},Br F i l→l[j]? =some k→F (i+j) k
 |[],_,_,_,_,h=>by simp at h
 |x::r,i,0,k,h,e=>by
  obtain rfl:x=k:=by simpa using e
  exact h.1
 |x::r,i,j+1,k,h,e=>by
  have h1:=Br.get (j:=j) h.2 (by simpa using e);rwa[XB,Nat.add_comm 1 j] at h1
theorem gR {L:Array Bool} {a0:Act} {w0:Wo} {F:Nat} (xs ys:List Nat) (I:Act→Nat→Nat→Act→Wo→Prop) (f0:Nat) (hF:F=f0+(xs.length+ys.length)) (hc:anz md ops L xs ys=true) (h0:I a0 0 0 a0 w0)
  (hA:Br (fun i k=>∀j a w,I a0 i j a w→wpOp P ops Q k (fun a' w' =>(T k=false→S w')∧I a0 (i+1) j a' w') a w) 0 xs)
  (hB:Br (fun j k=>∀i a w,I a0 i j a w→wpOp P ops Q k (fun a' w' =>(T k=false→S w')∧I a0 i (j+1) a' w') a w) 0 ys)
  (hE:∀a w,I a0 xs.length ys.length a w→eF P md ops Q S T f0 (Er L xs ys xs.length ys.length) a w):eF P md ops Q S T F L a0 w0:=by
 subst hF;have key:∀n i j,i≤xs.length→j≤ys.length→n+(i+j)=xs.length+ys.length→∀a w,I a0 i j a w→eF P md ops Q S T (f0+n) (Er L xs ys i j) a w:=by
  intro n
  induction n with
  |zero=>
   intro i j hi hj hn a w h;obtain rfl:i=xs.length:=by omega
   obtain rfl:j=ys.length:=by omega
   exact hE a w h
  |succ n ih=>
   intro i j hi hj hn a w h;have h1:=XT.1 (XT.1 hc i (Zm.2 (Nat.lt_succ_of_le hi))) j (Zm.2 (Nat.lt_succ_of_le hj));simp only[Bool.or_eq_true,XR,beq_iff_eq,Bool.not_eq_true',List.isEmpty_eq_false_iff,XT,XS] at h1;rcases h1 with⟨e1,e2⟩|⟨bT,h1⟩
   ·omega
   refine⟨fun h0=>absurd h0 bT,fun k hk=> ?_⟩;rcases h1 k hk with⟨⟨hl,e1⟩,e2⟩|⟨⟨hl,e1⟩,e2⟩
   ·have h2:=Br.get hA e1
    rw[QR] at h2;refine wpOp_mono (fun a' w' h3=>⟨h3.1,?_⟩) (h2 j a w h);rw[e2];exact ih (i+1) j hl hj (by omega) a' w' h3.2
   ·have h2:=Br.get hB e1
    rw[QR] at h2;refine wpOp_mono (fun a' w' h3=>⟨h3.1,?_⟩) (h2 i a w h);rw[e2];exact ih i (j+1) hi hl (by omega) a' w' h3.2
 have h1:=key (xs.length+ys.length) 0 0 (Qp _) (Qp _) (by omega) a0 w0 h0;exact h1
end
def Ap1 (T:TypeId) (c1:List Va) (W:Wo) (x y v v0:Va) (f0 f1:Prop):Nat→Prop
 |0=>v=v0∧f0
 |1=>v=v0∧f0∧∃g,x= .slice (some ⟨g,0,none⟩) 1 1∧aq W g T c1
 |_=>v=y∧f1∧∃A n c,y= .slice A n c
theorem Ap1.mp {T:TypeId} {c1:List Va} {W W' :Wo} {x y v v0:Va} {f0 f1:Prop}:∀{i:Nat},Ap1 T c1 W x y v v0 f0 f1 i→(∀g,aq W g T c1→aq W' g T c1)→Ap1 T c1 W' x y v v0 f0 f1 i
 |0,h,_=>h
 |1,⟨e,h,g,h1,h2⟩,hb=>⟨e,h,g,h1,hb g h2⟩
 |_+2,h,_=>h
end
section
open Go.RowKit
theorem eX {α:Sort _} (a:α):∃y,y=a:=⟨a,rfl⟩
variable {a b c d e f g h i j k l : Prop}
theorem dK (x1:a) (x2:b):Af (a∧b):=⟨x1,x2⟩
theorem iJ (x1:a) (x2:b) (x3:c):Af (a∧b∧c):=⟨x1,x2,x3⟩
theorem kH (x1:a) (x2:b) (x3:c) (x4:d):Af (a∧b∧c∧d):=⟨x1,x2,x3,x4⟩
theorem Ba (x1:a) (x2:b) (x3:c) (x4:d) (x5:e):Af (a∧b∧c∧d∧e):=⟨x1,x2,x3,x4,x5⟩
theorem Nv (x1:a) (x2:b) (x3:c) (x4:d) (x5:e) (x6:f):Af (a∧b∧c∧d∧e∧f):=⟨x1,x2,x3,x4,x5,x6⟩
theorem hI7 (x1:a) (x2:b) (x3:c) (x4:d) (x5:e) (x6:f) (x7:g):Af (a∧b∧c∧d∧e∧f∧g):=⟨x1,x2,x3,x4,x5,x6,x7⟩
theorem hI8 (x1:a) (x2:b) (x3:c) (x4:d) (x5:e) (x6:f) (x7:g) (x8:h):Af (a∧b∧c∧d∧e∧f∧g∧h):=⟨x1,x2,x3,x4,x5,x6,x7,x8⟩
theorem hI9 (x1:a) (x2:b) (x3:c) (x4:d) (x5:e) (x6:f) (x7:g) (x8:h) (x9:i):Af (a∧b∧c∧d∧e∧f∧g∧h∧i):=⟨x1,x2,x3,x4,x5,x6,x7,x8,x9⟩
theorem anl (x1:a) (x2:b) (x3:c) (x4:d) (x5:e) (x6:f) (x7:g) (x8:h) (x9:i) (x10:j):Af (a∧b∧c∧d∧e∧f∧g∧h∧i∧j):=⟨x1,x2,x3,x4,x5,x6,x7,x8,x9,x10⟩
theorem ank (x1:a) (x2:b) (x3:c) (x4:d) (x5:e) (x6:f) (x7:g) (x8:h) (x9:i) (x10:j) (x11:k):Af (a∧b∧c∧d∧e∧f∧g∧h∧i∧j∧k):=⟨x1,x2,x3,x4,x5,x6,x7,x8,x9,x10,x11⟩
theorem anj (x1:a) (x2:b) (x3:c) (x4:d) (x5:e) (x6:f) (x7:g) (x8:h) (x9:i) (x10:j) (x11:k) (x12:l):Af (a∧b∧c∧d∧e∧f∧g∧h∧i∧j∧k∧l):=⟨x1,x2,x3,x4,x5,x6,x7,x8,x9,x10,x11,x12⟩
end
end Go.Proofs.YthgdhacopamklaaGreat
